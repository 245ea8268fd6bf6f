import Derived.ChangeKeysEq
import Derived.Laws.BitsAllLaws
import Derived.Laws.StructEq
import Derived.Test.YtdcofoaihmongaaGreatS1
open Bool renaming and_eq_true→awa,eq_iff_iff→awv
open Go renaming wpList_nil→awi,wp_seq_k→awq,wp_cond_split→awr,cell_later→awu
open Go.Lib renaming hid→awt
open Go.RowKit renaming Below→awh
open List renaming getElem?_eq_some_iff→awb,all_eq_true→awc,mem_append→awd,mem_cons→awf,mem_of_getElem?→awg,getElem?_map→awl,mem_cons_of_mem→awm,mem_cons_self→awn,length_take→awo,getElem?_eq_getElem→awp
open Nat renaming eq_of_beq_eq_true→awj,zero_le→aws
open Option.some renaming inj→awe
open Prod.mk renaming inj→awk
set_option maxRecDepth 100000
set_option maxHeartbeats 8000000
namespace Go.Proofs.YtdcofoaihmongaaGreat
open Go Go.RowKit
structure Lb (X:List Nat) (a a':Act):Prop where
 fr:∀ {N:Nat},Fr a N→Fr a' N
 old:∀ {j:Nat} {u:Value},X.contains j=false→At a j u→At a' j u
theorem Lb.refl(X:List Nat)(a:Act):Lb X a a:=⟨fun h=>h,fun _ h=>h⟩
theorem Lb.put{X:List Nat}{a a' a2:Act}{s:Nat}{v:Value}(h:Lb X a a')(p:Put a' s v a2)(hs:X.contains s=true):Lb X a a2:=
 ⟨fun hf=>p.fr (h.fr hf),fun {j u} hj hu=>p.old (by
  cases e:j == s with
  | false=>rfl
  | true=>
   have e':j=s:=by simpa using e
   rw[e',hs] at hj;cases hj) (h.old hj hu)⟩
theorem Fs.agr{X:List Nat}{a a':Act}{N:Nat}{l:Slots}(F:Fs a N l)(h:Lb X a a'){l':Slots}(hl:l'.all (fun p=>!X.contains p.1)=true)(hs:Sub l l'):Fs a' N l':=by
 have F':=F.sub hs;refine⟨h.fr F'.fr,fun q v hq=>?_⟩;refine h.old ?_ (F'.at_ q v hq);clear F F' hs
 induction l' with
 | nil=>cases hq
 | cons p r ih=>
  obtain⟨s,u⟩:=p;simp only[List.all_cons,awa] at hl;rw[bG] at hq
  cases e:q == s with
  | true=>
   have e':q=s:=by simpa using e
   rw[e'];simpa using hl.1
  | false=>
   rw[e] at hq;exact ih hl.2 hq
abbrev Kn:=Nat×Nat×Value
def Bd(o:Oper)(k:Nat):Prop:=∃ gr,(⟨k,gr⟩:Edge)∈o.after.toList∧Region.binds .any ⟨k,gr⟩=true
inductive Tr where
 | done
 | step (j:Nat) (t:Tr)
 | last (j:Nat)
 | alt (x y:Tr)
def heads:Tr→List Nat
 | .done=>[]
 | .step j _=>[j]
 | .last j=>[j]
 | .alt x y=>heads x++heads y
inductive Moved (K:List Kn) (j:Nat) (o:Oper) (a a':Act):Prop
 | none:o.dst=none→a'=a→Moved K j o a a'
 | some (d:Nat) (v:Value):o.dst=some d→Put a d v a'→(∀ (n:Nat) (k:Kn),K[n]?=some k→k.1=j→k.2.2=v)→Moved K j o a a'
section
variable (P:Program) (ops:Array Oper) (l:List Oper) (K:List Kn) (X:List Nat) (J:World→Prop) (Q:Act→World→Prop)
def Ql:Tr→Act→World→Prop
 | .done,a,w=>∀ a',Lb X a a'→(∀ (n:Nat) (k:Kn),K[n]?=some k→At a' k.2.1 k.2.2)→Q a' w
 | .step j t,a,w=>∀ o,l[j]?=some o→∀ a',Lb X a a'→(∀ (n:Nat) (k:Kn),K[n]?=some k→Bd o k.1→At a' k.2.1 k.2.2)→∀ Q':Exit→Act→World→Prop,(∀ a1 w1,J w1→Moved K j o a' a1→Ql t a1 w1→Q' .normal a1 w1)→wpList P ops Q' [o] a' w
 | .last j,a,w=>∀ o,l[j]?=some o→∀ a',Lb X a a'→(∀ (n:Nat) (k:Kn),K[n]?=some k→Bd o k.1→At a' k.2.1 k.2.2)→∀ Q':Exit→Act→World→Prop,(∀ a1 w1,Moved K j o a' a1→(∀ a2,Lb X a1 a2→(∀ (n:Nat) (k:Kn),K[n]?=some k→At a2 k.2.1 k.2.2)→Q a2 w1)→Q' .normal a1 w1)→wpList P ops Q' [o] a' w
 | .alt x y,a,w=>Ql x a w∧Ql y a w
end
def cand(l:List Oper)(F E:List Nat):List Nat:=(List.range l.length).filter fun j=>!F.contains j&&!E.contains j&&(match l[j]? with|some o=>o.after.toList.all fun e=>!Region.binds .any e||F.contains e.on||E.contains e.on|none=>false)
def oI(l:List Oper)(F:List Nat):Tr→List Nat→Bool
 | .done,E=>(List.range l.length).all fun j=>F.contains j||E.contains j
 | .step j t,E=>!E.contains j&&!F.contains j&&decide (j<l.length)&&((cand l F (j::E)).all fun i=>(heads t).contains i)&&oI l F t (j::E)
 | .last j,E=>!E.contains j&&!F.contains j&&decide (j<l.length)&&((cand l F (j::E)).all fun i=>(heads .done).contains i)&&((List.range l.length).all fun i=>F.contains i||(j::E).contains i)&&(match l[j]? with|some o=>F.all fun f=>o.after.toList.any fun e=>Region.binds .any e&&e.on == f|none=>false)
 | .alt x y,E=>oI l F x E&&oI l F y E
theorem Vn{l:List Oper}{F E:List Nat}{j:Nat}{o:Oper}(hj:l[j]?=some o)(h1:F.contains j=false)(h2:E.contains j=false)(h3:∀ e∈o.after.toList,Region.binds .any e=true→F.contains e.on=true∨E.contains e.on=true):j∈cand l F E:=by
 unfold cand;refine List.mem_filter.2 ⟨List.mem_range.2 (awb.1 hj).1,?_⟩;rw[h1,h2,hj];simp only[Bool.not_false,Bool.true_and,awc];intro e he
 cases hb:Region.binds .any e with
 | false=>rfl
 | true=>
  rcases h3 e he hb with h|h
  ·rw[h];rfl
  ·rw[h];simp
section
variable {P:Program} {ops:Array Oper} {l:List Oper} {K:List Kn} {X F:List Nat} {J:World→Prop} {Q:Act→World→Prop}
theorem Bk:∀ {t:Tr} {E:List Nat} {a:Act} {w:World} {j:Nat},Ql P ops l K X J Q t a w→oI l F t E=true→j∈heads t→(∃ t',Ql P ops l K X J Q (.step j t') a w∧oI l F (.step j t') E=true)∨(Ql P ops l K X J Q (.last j) a w∧oI l F (.last j) E=true)
 | .done,_,_,_,_,_,_,h=>by cases h
 | .step j t,E,a,w,i,h,hs,hi=>by
  obtain rfl:i=j:=by simpa[heads] using hi
  exact .inl ⟨t,h,hs⟩
 | .last j,E,a,w,i,h,hs,hi=>by
  obtain rfl:i=j:=by simpa[heads] using hi
  exact .inr ⟨h,hs⟩
 | .alt x y,E,a,w,i,h,hs,hi=>by
  simp only[oI,awa] at hs;rcases awd.1 hi with hi|hi
  ·exact Bk h.1 hs.1 hi
  ·exact Bk h.2 hs.2 hi
theorem O3:∀ {t:Tr} {E:List Nat} {a:Act} {w:World},Ql P ops l K X J Q t a w→oI l F t E=true→(∀ j,j<l.length→F.contains j=true∨E.contains j=true)→Ql P ops l K X J Q .done a w
 | .done,_,_,_,h,_,_=>h
 | .step j t,E,a,w,h,hs,hE=>by
  simp only[oI,awa,decide_eq_true_iff] at hs;obtain⟨⟨⟨⟨h1,h2⟩,h3⟩,_⟩,_⟩:=hs;rcases hE j h3 with h|h
  ·rw[h] at h2;cases h2
  ·rw[h] at h1;cases h1
 | .last j,E,a,w,h,hs,hE=>by
  simp only[oI,awa,decide_eq_true_iff] at hs;obtain⟨⟨⟨⟨⟨h1,h2⟩,h3⟩,_⟩,_⟩,_⟩:=hs;rcases hE j h3 with h|h
  ·rw[h] at h2;cases h2
  ·rw[h] at h1;cases h1
 | .alt x y,E,a,w,h,hs,hE=>by
  simp only[oI,awa] at hs;exact O3 h.1 hs.1 hE
end
def AO(P:Program)(l:List Oper)(F:List Nat)(K:List Kn)(J:World→Prop)(a:Act)(N:Nat):List Kn→Prop
 | []=>True
 | k::r=>(F.contains k.1=true→∀ o,l[k.1]?=some o→∀ b u,Fr b N→J u→(∀ j v,(l.filterMap (·.dst)).contains j=false→At a j v→At b j v)→(∀ (n:Nat) (k':Kn),K[n]?=some k'→Bd o k'.1→At b k'.2.1 k'.2.2) →
  Region.wanted o (yielded l.toArray b.tmps)=true∧(execOp b.eval o).run P u=.ok (.value k.2.2) u)∧AO P l F K J a N r
theorem fl{P:Program}{l:List Oper}{K:List Kn}{J:World→Prop}{a:Act}{N:Nat}{k:Kn}{o:Oper}(ho:l[k.1]?=some o) (h:∀ b u,Fr b N→J u→(∀ j v,(l.filterMap (·.dst)).contains j=false→At a j v→At b j v)→(∀ (n:Nat) (k':Kn),K[n]?=some k'→Bd o k'.1→At b k'.2.1 k'.2.2) →
 Region.wanted o (yielded l.toArray b.tmps)=true∧(execOp b.eval o).run P u=.ok (.value k.2.2) u) (F:List Nat):F.contains k.1=true→∀ o,l[k.1]?=some o→∀ b u,Fr b N→J u→(∀ j v,(l.filterMap (·.dst)).contains j=false→At a j v→At b j v)→(∀ (n:Nat) (k':Kn),K[n]?=some k'→Bd o k'.1→At b k'.2.1 k'.2.2) →
 Region.wanted o (yielded l.toArray b.tmps)=true∧(execOp b.eval o).run P u=.ok (.value k.2.2) u:=by
 intro _ o' ho';obtain rfl:o=o':=awe (ho.symm.trans ho');exact h
theorem tP{P:Program}{l:List Oper}{F:List Nat}{K:List Kn}{J:World→Prop}{a:Act}{N:Nat}:∀ {r:List Kn},AO P l F K J a N r→∀ k∈r,F.contains k.1=true→∀ o,l[k.1]?=some o→∀ b u,Fr b N→J u→(∀ j v,(l.filterMap (·.dst)).contains j=false→At a j v→At b j v)→(∀ (n:Nat) (k':Kn),K[n]?=some k'→Bd o k'.1→At b k'.2.1 k'.2.2) →
 Region.wanted o (yielded l.toArray b.tmps)=true∧(execOp b.eval o).run P u=.ok (.value k.2.2) u
 | [],_,_,h=>by cases h
 | x::r,h,k,hk=>by
  rcases awf.1 hk with rfl|hk
  ·exact h.1
  ·exact tP h.2 k hk
theorem Vl:∀ {l:List Oper},(l.filterMap (·.dst)).Nodup→∀ (i j:Nat) (o o':Oper) (s:Nat),l[i]?=some o→l[j]?=some o'→o.dst=some s→o'.dst=some s→i=j
 | [],_,i,_,_,_,_,h,_,_,_=>by simp at h
 | x::r,hn,i,j,o,o',s,hi,hj,ho,ho'=>by
  have hin:∀ (k:Nat) (o:Oper),r[k]?=some o→o.dst=some s→s∈r.filterMap (·.dst):=fun k o hk hs=>List.mem_filterMap.2 ⟨o,awg hk,hs⟩
  rw[List.filterMap_cons] at hn
  have hr:(r.filterMap (·.dst)).Nodup:=by
   split at hn
   ·exact hn
   ·exact(List.nodup_cons.1 hn).2
  have hx:x.dst=some s→s∉r.filterMap (·.dst):=fun e=>by
   rw[e] at hn;exact(List.nodup_cons.1 hn).1
  cases i with
  | zero=>
   cases j with
   | zero=>rfl
   | succ j=>
    obtain rfl:x=o:=by simpa using hi
    exact absurd (hin j o' (by simpa using hj) ho') (hx ho)
  | succ i=>
   cases j with
   | zero=>
    obtain rfl:x=o':=by simpa using hj
    exact absurd (hin i o (by simpa using hi) ho) (hx ho')
   | succ j=>rw[Vl hr i j o o' s (by simpa using hi) (by simpa using hj) ho ho']
def xs(F:List Nat)(K:List Kn):List Nat:=K.filterMap fun k=>if F.contains k.1 then some k.2.1 else none
theorem aW.swap{B:Nat}{w0 w:World}{b1 b2:Bx}{bs:List Bx}{rs:List Rw}(M:aW B w0 w (b1::b2::bs) rs):aW B w0 w (b2::b1::bs) rs:=by
 have hp:∀ b,b∈b2::b1::bs→b∈b1::b2::bs:=fun b hb=>by
  simp only[awf] at hb ⊢;rcases hb with h|h|h
  ·exact .inr (.inl h)
  ·exact .inl h
  ·exact .inr (.inr h)
 exact⟨M.below,M.le,M.old,fun b hb=>M.box b (hp b hb),fun b hb=>M.lo b (hp b hb),((List.Perm.swap b1 b2 bs).map Prod.fst).symm.nodup_iff.1 M.nd,M.row,fun r hr b hb=>M.far r hr b (hp b hb),M.vX⟩
structure Jm (B:Nat) (w0:World) (bs:List Bx) (u:World):Prop where
 below:awh B w0 u
 box:∀ b∈bs,vT u b
theorem Jm.b{B:Nat}{w0 u:World}{bs:List Bx}(h:Jm B w0 bs u)(i:Nat){g:Nat}{t:TypeId}{cs:Array Value}(e:bs[i]?=some (g,t,cs))(ht:Nat.blt t 9000=true:=by rfl):Whole u g t cs:=(h.box _ (awg e)).whole ht
section
variable {P:Program} {Q:Exit→Act→World→Prop}
theorem E6{id:Nat}{l:List Oper}{a:Act}{w:World}{N:Nat}(K:List Kn)(F:List Nat)(t:Tr)(J:World→Prop)
 (hm:P.follows .mixedOrders=true) (eS:ordered 0 l=true) (hK:(K.all fun k=>((l[k.1]?).bind (·.dst)) == some k.2.1)=true) (hF:(F.all fun i=>K.any fun k=>k.1 == i)=true) (hnd:(l.filterMap (·.dst)).Nodup) (hbd:((l.filterMap (·.dst)).all fun s=>Nat.blt s N)=true)
 (ajV:((cand l F []).all fun i=>(heads t).contains i)=true) (hsub:oI l F t []=true)
 (hf:Fr a N) (hfl:AO P l F K J a N K) (hJ:J w.drew) (hsp:Ql P l.toArray l K (xs F K) J (Q .normal) t a w.drew):(Code.region id l.toArray true).wp P Q a w:=by
 have hidx:=Vl hnd
 have hKd:∀ k∈K,∃ o:Oper,l[k.1]?=some o∧o.dst=some k.2.1:=fun k hk=>by
  have h:=awc.1 hK k hk;have h:(l[k.1]?).bind (·.dst)=some k.2.1:=by simpa using h
  cases e:l[k.1]? with
  | none=>rw[e] at h;cases h
  | some o=>rw[e] at h;exact⟨o,rfl,h⟩
 have hin:∀ (i:Nat) (o:Oper) (s:Nat),l[i]?=some o→o.dst=some s→(l.filterMap (·.dst)).contains s=true:=fun i o s ho hs=>by
  have:s∈l.filterMap (·.dst):=List.mem_filterMap.2 ⟨o,awg ho,hs⟩;simpa using this
 refine fO hm eS (fun L b u=>(∀ j o,l[j]?=some o→L j=true→∀ e∈o.after.toList,Region.binds .any e=true→L e.on=true)∧Fr b N∧(J u∨∀ f,F.contains f=true→L f=true)∧(∀ j v,(l.filterMap (·.dst)).contains j=false→At a j v→At b j v) ∧
  (∀ k∈K,L k.1=true→At b k.2.1 k.2.2)∧∃ t E a0,(∀ j,j<l.length→F.contains j=false→L j=E.contains j)∧((cand l F E).all fun i=>(heads t).contains i)=true∧oI l F t E=true∧Lb (xs F K) a0 b∧Ql P l.toArray l K (xs F K) J (Q .normal) t a0 u) ?_ ?_ ?_
 ·exact⟨fun _ _ _ h=>(by cases h),hf,.inl hJ,fun _ _ _ h=>h,fun _ _ h=>(by cases h),t,[],a,fun _ _ _=>rfl,ajV,hsub,.refl _ _,hsp⟩
 ·have key:∀ (i:Nat) (o:Oper),l[i]?=some o→∀ (L:Nat→Bool) (b:Act) (u:World) (Q':Exit→Act→World→Prop),((∀ j o,l[j]?=some o→L j=true→∀ e∈o.after.toList,Region.binds .any e=true→L e.on=true)∧Fr b N∧(J u∨∀ f,F.contains f=true→L f=true)∧(∀ j v,(l.filterMap (·.dst)).contains j=false→At a j v→At b j v) ∧
   (∀ k∈K,L k.1=true→At b k.2.1 k.2.2)∧∃ t E a0,(∀ j,j<l.length→F.contains j=false→L j=E.contains j)∧((cand l F E).all fun i=>(heads t).contains i)=true∧oI l F t E=true∧Lb (xs F K) a0 b∧Ql P l.toArray l K (xs F K) J (Q .normal) t a0 u)→L i=false →
   (∀ e∈o.after.toList,Region.binds .any e=true→L e.on=true) →
   (∀ b u,((∀ j o,l[j]?=some o→upd L i j=true→∀ e∈o.after.toList,Region.binds .any e=true→upd L i e.on=true)∧Fr b N∧(J u∨∀ f,F.contains f=true→upd L i f=true)∧(∀ j v,(l.filterMap (·.dst)).contains j=false→At a j v→At b j v) ∧
   (∀ k∈K,upd L i k.1=true→At b k.2.1 k.2.2)∧∃ t E a0,(∀ j,j<l.length→F.contains j=false→upd L i j=E.contains j)∧((cand l F E).all fun i=>(heads t).contains i)=true∧oI l F t E=true∧Lb (xs F K) a0 b∧Ql P l.toArray l K (xs F K) J (Q .normal) t a0 u)→Q' .normal b u)→wpList P l.toArray Q' [o] b u:=by
   intro i o ho L b u Q' ⟨hcl,hfr,hj,hout,hkn,t,E,a0,hLE,hc,hs,hag,hsp⟩ hL hA hNext;have hil:=(awb.1 ho).1;have up:∀ j,L j=true→upd L i j=true:=fun j hj=>by simp[upd,hj]
   have hcl':∀ j o,l[j]?=some o→upd L i j=true→∀ e∈o.after.toList,Region.binds .any e=true→upd L i e.on=true:=by
    intro j o' hj u7 e he hb;by_cases hji:j=i
    ·subst hji;obtain rfl:o=o':=awe (ho.symm.trans hj);exact up _ (hA e he hb)
    ·have hne:(j == i)=false:=by simpa using hji
     exact up _ (hcl j o' hj (by simpa[upd,hne] using u7) e he hb)
   have kr:∀ (n:Nat) (k:Kn),K[n]?=some k→Bd o k.1→At b k.2.1 k.2.2:=fun n k hk ⟨gr,he,hb⟩=>hkn k (awg hk) (hA _ he hb)
   have keep:∀ {b':Act} {d:Nat} {v:Value},o.dst=some d→Put b d v b'→(∀ k∈K,k.1=i→k.2.2=v)→(∀ j v,(l.filterMap (·.dst)).contains j=false→At a j v→At b' j v)∧∀ k∈K,upd L i k.1=true→At b' k.2.1 k.2.2:=by
    intro b' d v hd hp hv;constructor
    ·intro j x V4 hx;refine hp.old ?_ (hout j x V4 hx)
     cases e:j == d with
     | false=>rfl
     | true=>
      have e':j=d:=by simpa using e
      rw[e',hin i o d ho hd] at V4;cases V4
    ·intro k hk hLk;obtain⟨o',ho',hd'⟩:=hKd k hk;by_cases hki:k.1=i
     ·rw[hki] at ho';obtain rfl:o=o':=awe (ho.symm.trans ho');obtain rfl:d=k.2.1:=awe (hd.symm.trans hd');rw[hv k hk hki];exact hp.now
     ·have hne:(k.1 == i)=false:=by simpa using hki
      refine hp.old ?_ (hkn k hk (by simpa[upd,hne] using hLk))
      cases e:k.2.1 == d with
      | false=>rfl
      | true=>
       have e':k.2.1=d:=by simpa using e
       exact absurd (hidx k.1 i o' o d ho' ho (by rw[hd',e']) hd) hki
   cases hFi:F.contains i with
   | true=>
    have hj:J u:=by
     rcases hj with hj|hj
     ·exact hj
     ·rw[hj i hFi] at hL;cases hL
    obtain⟨k,hk,hki⟩:=List.any_eq_true.1 (awc.1 hF i (by simpa using hFi));have hki:k.1=i:=by simpa using hki
    obtain⟨o',ho',hd'⟩:=hKd k hk;rw[hki] at ho';obtain rfl:o=o':=awe (ho.symm.trans ho');obtain⟨hw,hr⟩:=tP hfl k hk (by rw[hki];exact hFi) o (by rw[hki];exact ho) b u hfr hj hout kr
    have hsN:k.2.1<N:=by
     have:=awc.1 hbd k.2.1 (List.mem_filterMap.2 ⟨o,awg ho,hd'⟩);simpa using this
    refine oG hw hr hd' hfr hsN fun b' hp=>awi (hNext b' u ?_)
    have hkv:∀ k'∈K,k'.1=i→k'.2.2=k.2.2:=fun k' hk' e=>by
     obtain⟨_,_,_⟩:=hKd k' hk';obtain⟨w2,h2⟩:=tP hfl k' hk' (by rw[e];exact hFi) o (by rw[e];exact ho) b u hfr hj hout kr;rw[hr] at h2;injection h2 with h2;injection h2 with h2;exact h2.symm
    obtain⟨g1,g2⟩:=keep hd' hp hkv;refine⟨hcl',hp.fr hfr,.inl hj,g1,g2,t,E,a0,fun j hjl hjF=>?_,hc,hs,hag.put hp ?_,hsp⟩
    ·have hne:(j == i)=false:=by
      cases e:j == i with
      | false=>rfl
      | true=>
       have e':j=i:=by simpa using e
       rw[e',hFi] at hjF;cases hjF
     rw[← hLE j hjl hjF];simp[upd,hne]
    ·have:k.2.1∈xs F K:=List.mem_filterMap.2 ⟨k,hk,by rw[hki,hFi];rfl⟩;simpa using this
   | false=>
    have hEi:E.contains i=false:=by rw[← hLE i hil hFi];exact hL
    have hmem:=Vn (F:=F) (E:=E) ho hFi hEi fun e he hb=>by
     have hLe:=hA e he hb;have hlt:=lQ 0 l eS i o ho e he hb
     cases hFe:F.contains e.on with
     | true=>exact .inl rfl
     | false=>exact .inr (by rw[← hLE e.on (by omega) hFe];exact hLe)
    have hh:=awc.1 hc i hmem
    have fin:∀ a1,Moved K i o b a1→Fr a1 N∧(∀ j v,(l.filterMap (·.dst)).contains j=false→At a j v→At a1 j v)∧∀ k∈K,upd L i k.1=true→At a1 k.2.1 k.2.2:=by
     intro a1 hmv;rcases hmv with⟨hd,rfl⟩|⟨d,v,hd,hp,hv⟩
     ·refine⟨hfr,hout,fun k hk hLk=>?_⟩;obtain⟨o',ho',hd'⟩:=hKd k hk;by_cases hki:k.1=i
      ·rw[hki] at ho';obtain rfl:o=o':=awe (ho.symm.trans ho');rw[hd] at hd';cases hd'
      ·have hne:(k.1 == i)=false:=by simpa using hki
       exact hkn k hk (by simpa[upd,hne] using hLk)
     ·obtain⟨g1,g2⟩:=keep hd hp fun k hk e=>by
       obtain⟨n,hn⟩:=List.getElem?_of_mem hk;exact hv n k hn e
      exact⟨hp.fr hfr,g1,g2⟩
    rcases Bk hsp hs (j:=i) (by simpa using hh) with⟨t',h1,h2⟩|⟨h1,h2⟩
    ·simp only[oI,awa] at h2;refine h1 o ho b hag kr Q' fun a1 w1 hJ1 hmv hS=>hNext a1 w1 ?_
     have fin:=fin a1 hmv;refine⟨hcl',fin.1,.inl hJ1,fin.2.1,fin.2.2,t',i::E,a1,fun j hjl hjF=>?_,h2.1.2,h2.2,.refl _ _,hS⟩;simp only[upd,List.contains_cons,hLE j hjl hjF]
    ·simp only[oI,awa] at h2;refine h1 o ho b hag kr Q' fun a1 w1 hmv hS=>hNext a1 w1 ?_
     have fin:=fin a1 hmv;refine⟨hcl',fin.1,.inr fun f hfF=>?_,fin.2.1,fin.2.2,.done,i::E,a1,fun j hjl hjF=>?_,h2.1.1.2,h2.1.2,.refl _ _,hS⟩
     ·have h3:=h2.2;rw[ho] at h3;obtain⟨e,he,hb⟩:=List.any_eq_true.1 (awc.1 h3 f (by simpa using hfF));simp only[awa,beq_iff_eq] at hb;exact up f (by rw[← hb.2];exact hA e he hb.1)
     ·simp only[upd,List.contains_cons,hLE j hjl hjF]
  have all:∀ (r:List Oper) (m:Nat),(∀ i o,r[i]?=some o→l[m+i]?=some o)→jt P l.toArray (fun L b u=>(∀ j o,l[j]?=some o→L j=true→∀ e∈o.after.toList,Region.binds .any e=true→L e.on=true)∧Fr b N∧(J u∨∀ f,F.contains f=true→L f=true)∧(∀ j v,(l.filterMap (·.dst)).contains j=false→At a j v→At b j v) ∧
   (∀ k∈K,L k.1=true→At b k.2.1 k.2.2)∧∃ t E a0,(∀ j,j<l.length→F.contains j=false→L j=E.contains j)∧((cand l F E).all fun i=>(heads t).contains i)=true∧oI l F t E=true∧Lb (xs F K) a0 b∧Ql P l.toArray l K (xs F K) J (Q .normal) t a0 u) m r:=by
   intro r
   induction r with
   | nil=>intro m _;trivial
   | cons o r ih=>
    intro m h;refine⟨fun L b u Q' hI hL hA hK=>key m o (h 0 o rfl) L b u Q' hI hL hA hK,ih (m+1) fun i o' ho'=>?_⟩;have:=h (i+1) o' (by simpa using ho')
    rwa [show m+1+i=m+(i+1) by omega]
  exact all l 0 fun i o ho=>by simpa using ho
 ·intro L b u ⟨hcl,hfr,hj,hout,hkn,t,E,a0,hLE,hc,hs,hag,hsp⟩ hall
  have h:=O3 hsp hs fun j hjl=>by
   cases hF:F.contains j with
   | true=>exact .inl rfl
   | false=>exact .inr (by rw[← hLE j hjl hF];exact hall j hjl)
  exact h b hag fun n k hk=>hkn k (awg hk) (hall k.1 (by
   obtain⟨o,ho,_⟩:=hKd k (awg hk);exact(awb.1 ho).1))
end
section
variable (P:Program) (fn:Func) (R:Ending→World→Prop) (N:Nat)
theorem hrC(s:Nat)(ty:TypeId)(hr:fn.results=#[.cell s ty]){d:TypeDesc}(hu:P.underlying ty=some d)(hd:(match d with|.struct _|.array _ _=>true|_=>false)=true){n:Nat}(hi:(P.info? ty).map (·.size)=some n)
 (a:Act) (w:World) (l:Slots) (g:Nat) (t:TypeId) (cs:Array Value) (F:Fs a N l) (hv:look s l=some (.pointer (some ⟨g,0,none⟩))) (hW:Whole w g t cs) (hn:Nat.beq n cs.size=true) (hR:R (.returned (.agg cs)) w):bodyPost P fn R .ret a w:=by
 refine⟨F.fr.defers,_,?_,hR⟩;have h:=F.e s hv;have hs:(P.info? ty).map (·.size)=some cs.size:=by rw[hi,awj hn]
 have h2:a.tmps.getD s undef=.pointer (some ⟨g,0,none⟩):=h;rw[Array.getD_eq_getD_getElem?] at h2;simp[results,hr,h2,asAddr,run_loadVar_row w g t ty cs (0,0) d hW hu hd hs]
end
theorem IG{P:Program}{ops ops':Array Oper}{Q:Exit→Act→World→Prop}{S:Act→World→Prop}{o:Oper}{a:Act}{w:World}(hg:o.guard=none)(hS:∀ a w,S a w→a.defers=[])
 (h:wpList P ops' (fun e a w=>e=.normal∧S a w) [o] a w) (next:∀ a1 w1,S a1 w1→(∃ v,a1=a.put o.dst v)→Q .normal a1 w1):wpList P ops Q [o] a w:=by
 have hw:∀ ops,Region.wanted o (yielded ops a.tmps)=true:=fun ops=>j_ hg
 have hno:¬ LetsOut (fun e a w=>e=Exit.normal∧S a w):=fun⟨_,_,h,_⟩=>by cases h
 unfold wpList at h ⊢;rw[if_pos (hw _)] at h ⊢;rcases h with h|⟨_,h⟩
 case inr=>exact absurd h hno
 refine .inl ?_;unfold Oper.wp at h ⊢;generalize (execOp a.eval o).run P w=r at h ⊢
 match r,h with
 | .ok (.value v) w',h=>exact next _ _ h.2 ⟨_,rfl⟩
 | .ok .skip w',h=>exact next _ _ h.2 ⟨_,rfl⟩
 | .ok (.defer d) w',h=>exact absurd (hS _ _ h.2) (by cases o.dst<;>simp[Act.put])
 | .ok (.enter f args) w',h=>
  refine Calls.mono h fun e w'' h=>?_
  match e,h with
  | .returned v,h=>exact next _ _ h.2 ⟨_,rfl⟩
  | .panicked c,h=>cases h.1
  | .outgrown,h=>exact absurd h hno
 | .ok (.row row args) w',h=>exact Rows.mono h fun v w'' h=>next _ _ h.2 ⟨_,rfl⟩
 | .halt (.panic v) w',h=>cases h.1
def CP:Nat→Slots→List fW
 | _,[]=>[]
 | n,(s,v)::r=>⟨s,n,[],true,v⟩::CP (n+1) r
theorem kf:∀ {S:Slots} {n:Nat} {e:fW},e∈CP n S→∃ i s v,S[i]?=some (s,v)∧e=⟨s,n+i,[],true,v⟩
 | [],_,_,h=>by cases h
 | (s,v)::r,n,e,h=>by
  rcases awf.1 h with rfl|h
  ·exact⟨0,s,v,rfl,rfl⟩
  ·obtain⟨i,s',v',h1,h2⟩:=kf h;exact⟨i+1,s',v',by simpa using h1,by rw[h2,show n+1+i=n+(i+1) by omega]⟩
def akH(s:Nat)(o:Oper):Oper:={ o with dst:=some s }
def BJ(o:Oper)(S:Slots):Array Oper:=(S.map (fun x=>akH x.1 o)++[o]).toArray
section
variable {a:Act} {N:Nat} {l S:Slots} {o:Oper}
theorem Pn:(BJ o S)[S.length]?=some o:=by
 unfold BJ;simp
theorem WY:jv (CP 0 S) S.length:=by
 refine⟨?_,?_,?_,?_⟩
 ·intro e he;obtain⟨i,s,v,h1,rfl⟩:=kf he;have:=(awb.1 h1).1;simpa using this
 ·intro e he e' he' hj;obtain⟨i,s,v,h1,rfl⟩:=kf he;obtain⟨i',s',v',h1',rfl⟩:=kf he';obtain rfl:i=i':=by simpa using hj
  rw[h1] at h1';obtain⟨rfl,rfl⟩:=awk (awe h1');rfl
 ·intro e he x hx;obtain⟨i,s,v,h1,rfl⟩:=kf he;cases hx
 ·intro e he;obtain⟨i,s,v,h1,rfl⟩:=kf he;simp
theorem afv(hf:Fr a N)(hS:∀ x∈S,At a x.1 x.2)(hl:∀ q v,look q l=some v→At a q v):Inv (BJ o S) a N l (CP 0 S) S.length:=by
 refine⟨hf,WY,?_,?_,fun q v _ h=>hl q v h⟩
 ·intro e he;obtain⟨i,s,v,h1,rfl⟩:=kf he;have hi:=(awb.1 h1).1;simp only[BJ,Nat.zero_add,List.getElem?_toArray];rw[List.getElem?_append_left (by simpa using hi),awl,h1];rfl
 ·intro e he;obtain⟨i,s,v,h1,rfl⟩:=kf he;exact hS (s,v) (awg h1)
end
def zA:List Kn→Oper→Slots
 | [],_=>[]
 | (j,d,v)::r,o=>bif tS o j then (d,v)::zA r o else zA r o
theorem Ak{o:Oper}{x:Nat×Value}:∀ {K:List Kn},x∈zA K o→∃ k∈K,tS o k.1=true∧k.2=x
 | [],h=>by cases h
 | (j,d,v)::r,h=>by
  unfold zA at h
  cases e:tS o j with
  | false=>
   rw[e] at h;obtain⟨k,h1,h2⟩:=Ak h;exact⟨k,awm _ h1,h2⟩
  | true=>
   rw[e] at h;rcases awf.1 h with rfl|h
   ·exact⟨_,awn ..,e,rfl⟩
   ·obtain⟨k,h1,h2⟩:=Ak h;exact⟨k,awm _ h1,h2⟩
theorem PV{o:Oper}{j:Nat}(h:tS o j=true):Bd o j:=by
 unfold tS at h;obtain⟨⟨on,gr⟩,h1,h2⟩:=List.any_eq_true.1 h;simp only[awa,beq_iff_eq] at h2;obtain⟨h2,rfl⟩:=h2;exact⟨gr,h1,h2⟩
def Xt:List Kn→Slots
 | []=>[]
 | (_,d,v)::r=>(d,v)::Xt r
theorem JE{x:Nat×Value}:∀ {K:List Kn},x∈Xt K→∃ k∈K,k.2=x
 | [],h=>by cases h
 | (j,d,v)::r,h=>by
  rcases awf.1 h with rfl|h
  ·exact⟨_,awn ..,rfl⟩
  ·obtain⟨k,h1,h2⟩:=JE h;exact⟨k,awm _ h1,h2⟩
theorem BX{q:Nat}{v:Value}:∀ {l:Slots},look q l=some v→(q,v)∈l
 | [],h=>by cases h
 | (s,u)::r,h=>by
  rw[bG] at h
  cases e:q == s with
  | true=>
   rw[e] at h;obtain rfl:u=v:=awe h;obtain rfl:q=s:=by simpa using e
   exact awn ..
  | false=>
   rw[e] at h;exact awm _ (BX h)
theorem om{q:Nat}:∀ {l:Slots},look q l=none→∀ x∈l,x.1≠q
 | [],_,x,hx=>by cases hx
 | (s,u)::r,h,x,hx=>by
  rw[bG] at h
  cases e:q == s with
  | true=>rw[e] at h;cases h
  | false=>
   rw[e] at h;rcases awf.1 hx with rfl|hx
   ·exact fun h'=>(by simpa using e:q≠s) h'.symm
   ·exact om h x hx
theorem acs{o:Option Value}(h:isN o=true):o=none:=by cases o with|none=>rfl|some v=>cases h
theorem BZ{q:Nat}{v:Value}:∀ {l r:Slots},look q (l++r)=some v→look q l=some v∨look q r=some v
 | [],_,h=>.inr h
 | (s,u)::t,r,h=>by
  rw[List.cons_append,bG] at h;rw[bG]
  cases e:q == s with
  | true=>rw[e] at h;exact .inl h
  | false=>
   rw[e] at h;exact BZ h
def ldJ(B:Nat)(w0:World)(bs:List Bx)(D:TD)(g off:Nat)(k:Value→Prop):Prop:=
 bif D.one' then
  (∃ i,tE bs i fun b=>match b with|(b,T,cs)=>bif Nat.blt T 9000 then b=g∧tE cs.toList off k else False)∨(∃ v,(∀ u,awh B w0 u→u.cell? ⟨g,off,none⟩=some v)∧k v)
 else
  (∃ i,tE bs i fun b=>match b with|(b,T,cs)=>bif Nat.blt T 9000 then b=g∧(Kv off cs.toList fun r=>I7 (jc D) r fun l=>k (.agg l.toArray)) else False) ∨
   (∃ cs:List Value,(∀ u,awh B w0 u→∀ j v,cs[j]?=some v→u.cell? ⟨g,off+j,none⟩=some v)∧qD cs (jc D) (k (.agg cs.toArray)))
theorem aco{B:Nat}{w0:World}{bs:List Bx}{D:TD}{g off:Nat}{kk:Value→Prop}(h:ldJ B w0 bs D g off kk){ty:TypeId}(hD:jB Tryz.prog ty D=true):∃ v,kk v∧∀ u,Jm B w0 bs u→∀ (a:Act) (o:Oper) (x:Operand),o.op=.load ty x→a.eval x=.pointer (some ⟨g,off,none⟩)→(execOp a.eval o).run Tryz.prog u=.ok (.value v) u:=by
 unfold ldJ at h
 cases h1:D.one' with
 | true=>
  rw[h1] at h;obtain⟨dd,hu,hd⟩:=Uw hD h1;rcases h with⟨i,h⟩|⟨v,h2,h3⟩
  ·obtain⟨⟨b,T,cs⟩,hb,h⟩:=gL h;obtain⟨hT,rfl,h3⟩:=bH h;obtain⟨v,h4,h5⟩:=gL h3;exact⟨v,h5,fun u J a o x ho hx=>b_ ho hx hu (by cases dd<;>first|rfl|cases hd) ((J.b i hb hT).cell off▸by simpa using h4)⟩
  ·exact⟨v,h3,fun u J a o x ho hx=>b_ ho hx hu (by cases dd<;>first|rfl|cases hd) (h2 u J.below)⟩
 | false=>
  rw[h1] at h;obtain⟨dd,hu,hd,hs⟩:=z7 hD h1;rcases h with⟨i,h⟩|⟨cs,h2,h3⟩
  ·obtain⟨⟨b,T,cs⟩,hb,h⟩:=gL h;obtain⟨hT,rfl,h3⟩:=bH h;obtain⟨h4,h5⟩:=Ku h3;obtain⟨h6,h7⟩:=I6 h5;refine⟨_,h7,fun u J a o x ho hx=>?_⟩;refine gV _ ho hx hu (by cases dd<;>first|rfl|cases hd) (hs.trans ?_) (AZ (J.b i hb hT) ?_)
   ·rw[awo,Nat.min_eq_left h6]
   ·rw[awo,Nat.min_eq_left h6]
  ·obtain⟨h4,h5⟩:=iK h3;exact⟨_,h5,fun u J a o x ho hx=>gV cs ho hx hu (by cases dd<;>first|rfl|cases hd) (hs.trans (by rw[h4])) (h2 u J.below)⟩
def vfl(B:Nat)(w0:World)(l:Slots)(vI:List Bx)(L:List Oper):List Nat→List Kn→(List Kn→Prop)→Prop
 | [],K,f=>f K
 | j::r,K,f=>tE L j fun o=>match o.guard with
  | some _=>False
  | none=>match o.dst with
   | none=>False
   | some d=>match o.op with
    | .load ty x=>qx l (CP 0 (zA K o)) [] x fun u=>FJ u False fun g off=>DB ty (fun D=>ldJ B w0 vI D g off fun v=>rW K [(j,d,v)] fun K'=>vfl B w0 l vI L r K' f) TT
    | op=>pop l (CP 0 (zA K o)) [] true (fun v=>rW K [(j,d,v)] fun K'=>vfl B w0 l vI L r K' f) op
def FlP(B:Nat)(w0:World)(N:Nat)(l:Slots)(vI:List Bx)(L:List Oper)(K:List Kn)(k:Kn):Prop:=
 ∃ o,L[k.1]?=some o∧o.dst=some k.2.1∧o.guard=none∧∀ (b:Act) (u:World),Fr b N→Jm B w0 vI u→(∀ q v,look q l=some v→At b q v)→(∀ k'∈K,tS o k'.1=true→At b k'.2.1 k'.2.2)→(execOp b.eval o).run Tryz.prog u=.ok (.value k.2.2) u
section
variable {B:Nat} {w0:World} {N:Nat} {l:Slots} {vI:List Bx} {L:List Oper}
theorem Ul:∀ {F:List Nat} {K:List Kn} {f:List Kn→Prop},vfl B w0 l vI L F K f→∃ K1,f (K++K1)∧K1.map (·.1)=F∧∀ k∈K1,FlP B w0 N l vI L (K++K1) k
 | [],K,f,h=>⟨[],by rw[List.append_nil];unfold vfl at h;exact h,rfl,by simp⟩
 | j::r,K,f,h=>by
  unfold vfl at h;obtain⟨o,ho,h⟩:=gL h;split at h
  ·exact h.elim
  rename_i hg;split at h
  ·exact h.elim
  rename_i d hd
  have hE:∀ (b:Act),Fr b N→(∀ q v,look q l=some v→At b q v)→(∀ k'∈K,tS o k'.1=true→At b k'.2.1 k'.2.2)→Inv (BJ o (zA K o)) b N l (CP 0 (zA K o)) (zA K o).length:=fun b hf hl hk=>afv hf (fun x hx=>by
   obtain⟨k,h1,h2,rfl⟩:=Ak hx;exact hk k h1 h2) hl
  have main:∀ v:Value,(∀ (b:Act) (u:World),Fr b N→Jm B w0 vI u→Inv (BJ o (zA K o)) b N l (CP 0 (zA K o)) (zA K o).length→(execOp b.eval o).run Tryz.prog u=.ok (.value v) u)→(rW K [(j,d,v)] fun K'=>vfl B w0 l vI L r K' f)→∃ K1,f (K++K1)∧K1.map (·.1)=j::r∧∀ k∈K1,FlP B w0 N l vI L (K++K1) k:=by
   intro v hv h;obtain⟨K1,h1,h2,h3⟩:=Ul (iL h);rw[List.append_assoc] at h1 h3;refine⟨(j,d,v)::K1,h1,by simp[h2],fun k hk=>?_⟩;rcases awf.1 hk with rfl|hk
   ·exact⟨o,ho,hd,hg,fun b u hf hJ hl hkn=>hv b u hf hJ (hE b hf hl fun k' hk'=>hkn k' (List.mem_append_left _ hk'))⟩
   ·exact h3 k hk
  split at h
  ·rename_i ty x hop;obtain⟨u,h1,h5⟩:=ct h;rcases oL h5 with⟨g,off,rfl,h6⟩|h6
   case inr=>exact h6.elim
   obtain⟨D,hD,h7⟩:=j5 h6;obtain⟨v,h2,h3⟩:=aco h7 hD;exact main v (fun b u hf hJ I=>h3 u hJ b o x hop (I.E h1 (by simp))) h2
  ·obtain⟨v,h2,h3⟩:=Mu WY (by simp) h;exact main v (fun b u hf hJ I=>h3 b u o rfl (fun x _ π' v hR hc=>I.E hR hc) rfl) h2
end
def newS:Nat→List fW→Slots→(Slots→Prop)→Prop
 | 0,_,T,f=>f T
 | n+1,⟨s,_,p,t,v⟩::r,T,f=>(match p with
  | []=>(match t with
   | true=>newS n r T fun T'=>f ((s,v)::T')
   | false=>False)
  | _::_=>False)
 | _+1,[],_,_=>False
theorem FQ:∀ {n:Nat} {m:List fW} {T:Slots} {f:Slots→Prop},newS n m T f→∃ T',f T'∧∀ x∈T',x∈T∨∃ e∈m,e.t=true∧(e.s,e.v)=x
 | 0,_,T,f,h=>⟨T,h,fun x hx=>.inl hx⟩
 | n+1,⟨s,j,p,t,v⟩::r,T,f,h=>by
  unfold newS at h;split at h
  ·split at h
   ·obtain⟨T',h1,h2⟩:=FQ h;refine⟨_,h1,fun x hx=>?_⟩;rcases awf.1 hx with rfl|hx
    ·exact .inr ⟨_,awn ..,rfl,rfl⟩
    ·rcases h2 x hx with h3|⟨e,h3,h4⟩
     ·exact .inl h3
     ·exact .inr ⟨e,awm _ h3,h4⟩
   ·exact h.elim
  ·exact h.elim
 | _+1,[],_,_,h=>h.elim
def UF:List Nat→List Bx→(List Bx→Prop)→Prop
 | [],_,f=>f []
 | i::r,bs,f=>tE bs i fun b=>UF r bs fun l=>f (b::l)
theorem Fu:∀ {kb:List Nat} {bs:List Bx} {f:List Bx→Prop},UF kb bs f→∃ l,f l∧∀ b∈l,b∈bs
 | [],_,_,h=>⟨[],h,by simp⟩
 | i::r,bs,f,h=>by
  obtain⟨b,h1,h2⟩:=gL h;obtain⟨l,h3,h4⟩:=Fu h2;refine⟨_,h3,fun x hx=>?_⟩;rcases awf.1 hx with rfl|hx
  ·exact awg h1
  ·exact h4 x hx
def rvK:List Bx→List Bx→(List Bx→Prop)→Prop
 | [],acc,f=>f acc
 | b::r,acc,f=>rvK r (b::acc) f
theorem Mg:∀ {bs acc:List Bx} {f:List Bx→Prop},rvK bs acc f→∃ l,f l∧∀ b∈l,b∈bs∨b∈acc
 | [],acc,_,h=>⟨acc,h,fun _ h=>.inr h⟩
 | b::r,acc,f,h=>by
  obtain⟨l,h1,h2⟩:=Mg (bs:=r) h;refine⟨l,h1,fun x hx=>?_⟩;rcases h2 x hx with h3|h3
  ·exact .inl (awm _ h3)
  ·rcases awf.1 h3 with rfl|h3
   ·exact .inl (awn ..)
   ·exact .inr h3
def oN(o:Oper)(T:Slots):Bool:=match o.dst with
 | none=>true
 | some d=>isN (look d T)
def slN(q:Nat):List Kn→Bool
 | []=>true
 | (_,d,_)::r=>bif Nat.beq q d then false else slN q r
theorem L4{q:Nat}:∀ {K:List Kn},slN q K=true→∀ k∈K,k.2.1≠q
 | [],_,_,h=>by cases h
 | (j,d,v)::r,h,k,hk=>by
  unfold slN at h
  cases e:Nat.beq q d with
  | true=>rw[e] at h;cases h
  | false=>
   rw[e] at h;rcases awf.1 hk with rfl|hk
   ·intro e';have e':d=q:=e';rw[e',Nat.beq_refl] at e;cases e
   ·exact L4 h k hk
def frK(K:List Kn):Slots→Bool
 | []=>true
 | (q,_)::r=>bif slN q K then frK K r else false
theorem Wt{K:List Kn}:∀ {T:Slots},frK K T=true→∀ x∈T,∀ k∈K,k.2.1≠x.1
 | [],_,_,h=>by cases h
 | (q,v)::r,h,x,hx=>by
  unfold frK at h
  cases e:slN q K with
  | false=>rw[e] at h;cases h
  | true=>
   rw[e] at h;rcases awf.1 hx with rfl|hx
   ·exact L4 e
   ·exact Wt h x hx
def noJ(j:Nat):List Kn→Bool
 | []=>true
 | (i,_,_)::r=>bif Nat.beq j i then false else noJ j r
theorem Vf{j:Nat}:∀ {K:List Kn},noJ j K=true→∀ k∈K,k.1≠j
 | [],_,_,h=>by cases h
 | (i,d,v)::r,h,k,hk=>by
  unfold noJ at h
  cases e:Nat.beq j i with
  | true=>rw[e] at h;cases h
  | false=>
   rw[e] at h;rcases awf.1 hk with rfl|hk
   ·intro e';have e':i=j:=e';rw[e',Nat.beq_refl] at e;cases e
   ·exact Vf h k hk
theorem F6{ds:List Nat}:∀ {l:Slots} {f:Slots→Prop},Wz ds l f→∃ l',f l'∧∀ x∈l',x∈l
 | [],f,h=>⟨[],h,fun _ h=>h⟩
 | (s,v)::r,f,h=>by
  unfold Wz at h
  cases hm:jw s ds with
  | true=>
   rw[hm] at h;obtain⟨l',h1,h2⟩:=F6 h;exact⟨l',h1,fun x hx=>awm _ (h2 x hx)⟩
  | false=>
   rw[hm] at h;obtain⟨l',h1,h2⟩:=F6 h;exact⟨_,h1,fun x hx=>(awf.1 hx).elim (fun e=>e▸awn ..) fun hx=>awm _ (h2 x hx)⟩
def flO(d:Option Nat)(T:Slots)(f:Slots→Prop):Prop:=match d with
 | none=>f T
 | some q=>Wz [q] T f
theorem adk{d:Option Nat}{T:Slots}{f:Slots→Prop}(h:flO d T f):∃ l',f l'∧∀ x∈l',x∈T:=by
 unfold flO at h;split at h
 ·exact⟨T,h,fun _ h=>h⟩
 ·exact F6 h
def ltK(K:List Kn)(l:Slots):List Nat→(Slots→Prop)→Prop
 | [],f=>f []
 | d::r,f=>match look d l with
  | none=>ltK K l r f
  | some v=>bif slN d K then ltK K l r fun T=>f ((d,v)::T) else ltK K l r f
theorem FT{K:List Kn}{l:Slots}:∀ {ds:List Nat} {f:Slots→Prop},ltK K l ds f→∃ T,f T∧∀ x∈T,look x.1 l=some x.2∧∀ k∈K,k.2.1≠x.1
 | [],f,h=>⟨[],h,fun _ h=>by cases h⟩
 | d::r,f,h=>by
  unfold ltK at h;split at h
  ·exact FT h
  ·rename_i v hv
   cases e:slN d K with
   | false=>rw[e] at h;exact FT h
   | true=>
    rw[e] at h;obtain⟨T,h1,h2⟩:=FT h;refine⟨_,h1,fun x hx=>?_⟩;rcases awf.1 hx with rfl|hx
    ·exact⟨hv,L4 e⟩
    ·exact h2 x hx
def knA(j:Nat)(v:Value)(p:Prop):List Kn→Prop
 | []=>p
 | (i,_,u)::r=>bif Nat.beq i j then u=v∧knA j v p r else knA j v p r
theorem Nh{j:Nat}{v:Value}{p:Prop}:∀ {K:List Kn},knA j v p K→p∧∀ k∈K,k.1=j→k.2.2=v
 | [],h=>⟨h,fun _ h=>by cases h⟩
 | (i,d,u)::r,h=>by
  unfold knA at h
  cases e:Nat.beq i j with
  | true=>
   rw[e] at h;obtain⟨h1,h2⟩:=Nh (K:=r) h.2;exact⟨h1,fun k hk=>(awf.1 hk).elim (fun e _=>by rw[e];exact h.1) (h2 k)⟩
  | false=>
   rw[e] at h;obtain⟨h1,h2⟩:=Nh (K:=r) h;refine⟨h1,fun k hk hkj=>?_⟩;rcases awf.1 hk with rfl|hk
   ·have hkj:i=j:=hkj;rw[hkj,Nat.beq_refl] at e;cases e
   ·exact h2 k hk hkj
def isD(s:Nat):Option Nat→Bool
 | none=>false
 | some q=>Nat.beq q s
def knT(K:List Kn)(j:Nat)(d:Option Nat)(p:Prop):Slots→Prop
 | []=>False
 | (s,v)::r=>match r with
  | []=>bif isD s d then knA j v p K else False
  | _::_=>False
def vop(B:Nat)(w0:World)(N:Nat)(l:Slots)(L:List Oper)(K:List Kn)(j:Nat)(T:Slots)(bs:List Bx)(rs:List Rw)(w:World)(k:Slots→List Bx→List Rw→World→Prop):Prop:=
 tE L j fun o=>match o.guard with
  | some _=>False
  | none=>flO o.dst T fun T1=>bif oN o T1 then bif noJ j K then rW T1 (zA K o) fun S=>O2 B w0 N l o S.length (CP 0 S) bs rs w fun m' bs' rs' w'=>newS (m'.length-S.length) m' T1 fun T'=>bif frK K T' then k T' bs' rs' w' else False else (rW T1 (zA K o) fun S=>O2 B w0 N l o S.length (CP 0 S) bs rs w fun m' bs' rs' w'=>newS (m'.length-S.length) m' [] fun T'=>knT K j o.dst (k T1 bs' rs' w') T') else False
def vst(B:Nat)(w0:World)(N:Nat)(l:Slots)(L:List Oper)(K:List Kn)(kb:List Nat)(vI:List Bx)(k:Slots→List Bx→List Rw→World→Prop):Tr→Slots→List Bx→List Rw→World→Prop
 | .done,T,bs,rs,w=>rW (Xt K) l fun r=>rW T r fun l'=>k l' bs rs w
 | .step j t,T,bs,rs,w=>vop B w0 N l L K j T bs rs w fun T' bs' rs' w'=>(rvK bs' [] fun r=>UF kb r fun b=>b=vI)∧vst B w0 N l L K kb vI k t T' bs' rs' w'
 | .last j,T,bs,rs,w=>vop B w0 N l L K j T bs rs w fun T' bs' rs' w'=>rW (Xt K) l fun r=>rW T' r fun l'=>k l' bs' rs' w'
 | .alt x y,T,bs,rs,w=>vst B w0 N l L K kb vI k x T bs rs w∧vst B w0 N l L K kb vI k y T bs rs w
section
variable {B:Nat} {w0:World} {N:Nat} {l:Slots} {vI:List Bx} {L:List Oper} {K:List Kn} {kb:List Nat} {k:Slots→List Bx→List Rw→World→Prop}
theorem aae{F:List Nat}{q:Nat}(h:∀ k∈K,k.2.1≠q):(xs F K).contains q=false:=by
 cases e:(xs F K).contains q with
 | false=>rfl
 | true=>
  have e:q∈xs F K:=by simpa using e
  unfold xs at e;obtain⟨k,h1,h2⟩:=List.mem_filterMap.1 e;split at h2
  ·exact absurd (awe h2) (h k h1)
  ·cases h2
structure TI (N:Nat) (l:Slots) (K:List Kn) (T:Slots) (a:Act):Prop where
 fr:Fr a N
 l_:∀ q v,look q l=some v→At a q v
 T_:∀ x∈T,At a x.1 x.2
 K_:∀ x∈T,∀ k∈K,k.2.1≠x.1
variable (R6:∀ q v,look q l=some v→∀ k∈K,k.2.1≠q) (qE:∀ (j:Nat) (o:Oper) (d:Nat),L[j]?=some o→o.dst=some d→look d l=none∧d<N)
include R6 in
theorem TI.agr{F:List Nat}{T:Slots}{a a':Act}(h:TI N l K T a)(hA:Lb (xs F K) a a'):TI N l K T a':=
 ⟨hA.fr h.fr,fun q v hq=>hA.old (aae (R6 q v hq)) (h.l_ q v hq),fun x hx=>hA.old (aae (h.K_ x hx)) (h.T_ x hx),h.K_⟩
include R6 in
theorem TI.end{F:List Nat}{T:Slots}{a a':Act}(h:TI N l K T a)(hA:Lb (xs F K) a a')(hk:∀ (n:Nat) (k:Kn),K[n]?=some k→At a' k.2.1 k.2.2):Fs a' N (T++(Xt K++l)):=by
 have h':=h.agr R6 hA;refine⟨h'.fr,fun q v hq=>?_⟩;rcases BZ hq with hq|hq
 ·exact h'.T_ _ (BX hq)
 ·rcases BZ hq with hq|hq
  ·obtain⟨k,h1,h2⟩:=JE (BX hq);obtain⟨i,hi⟩:=List.getElem?_of_mem h1;have:=hk i k hi
   rwa [h2] at this
  ·exact h'.l_ q v hq
include R6 qE in
theorem Uk{F:List Nat}{ops:Array Oper}{Q':Exit→Act→World→Prop}{j:Nat}{T:Slots}{bs:List Bx}{rs:List Rw}{a a':Act}{w:World}{kk:Slots→List Bx→List Rw→World→Prop}(hv:vop B w0 N l L K j T bs rs w kk)(h:TI N l K T a)(M:aW B w0 w bs rs){o:Oper}(ho:L[j]?=some o)
 (hA:Lb (xs F K) a a') (hb:∀ (n:Nat) (k:Kn),K[n]?=some k→Bd o k.1→At a' k.2.1 k.2.2)
 (next:∀ a1 w1 T' bs' rs',TI N l K T' a1→aW B w0 w1 bs' rs'→kk T' bs' rs' w1→Moved K j o a' a1→Q' .normal a1 w1):wpList Tryz.prog ops Q' [o] a' w:=by
 unfold vop at hv;obtain⟨o',ho',hv⟩:=gL hv;obtain rfl:o'=o:=awe (ho'.symm.trans ho);split at hv
 ·exact hv.elim
 rename_i hg;obtain⟨T1,hv,hT1⟩:=adk hv;obtain⟨hoN,hv⟩:=bH hv;have h':=h.agr R6 hA
 have keep:∀ v q u,(∀ d,o'.dst=some d→d≠q)→At a' q u→At (a'.put o'.dst v) q u:=fun v q u hq hu=>by
  cases hd:o'.dst with
  | none=>exact hu
  | some d=>
   refine(qy h'.fr (qE j o' d ho hd).2).old ?_ hu;simpa using fun e=>hq d hd e.symm
 have hT:∀ v,∀ x∈T1,At (a'.put o'.dst v) x.1 x.2:=fun v x hx=>keep v _ _ (fun d hd=>by
  unfold oN at hoN;rw[hd] at hoN;exact fun e=>om (acs hoN) x hx e.symm) (h'.T_ x (hT1 x hx))
 have hS:∀ x∈T1++zA K o',At a' x.1 x.2:=fun x hx=>by
  rcases awd.1 hx with hx|hx
  ·exact h'.T_ x (hT1 x hx)
  ·obtain⟨k,h1,h2,rfl⟩:=Ak hx;obtain⟨i,hi⟩:=List.getElem?_of_mem h1;exact hb i k hi (PV h2)
 have I:Inv (BJ o' (T1++zA K o')) a' N l (CP 0 (T1++zA K o')) (T1++zA K o').length:=afv h'.fr hS h'.l_
 cases hnJ:noJ j K with
 | false=>
  rw[hnJ] at hv;replace hv:=iL hv;refine IG (ops':=BJ o' (T1++zA K o')) (S:=fun a1 w1=>∃ m' bs' rs',Inv (BJ o' (T1++zA K o')) a1 N l m' ((T1++zA K o').length+1)∧aW B w0 w1 bs' rs'∧newS (m'.length-(T1++zA K o').length) m' [] fun T'=>knT K j o'.dst (kk T1 bs' rs' w1) T') hg (fun a w ⟨_,_,_,I,_⟩=>I.fr.defers) (z_ I M Pn hv fun a1 m' bs' rs' w1 I' M' h'=>awi ⟨rfl,m',bs',rs',I',M',h'⟩) ?_;rintro a1 w1 ⟨m',bs',rs',I',M',hn⟩ ⟨v,rfl⟩;obtain⟨T',h1,h2⟩:=FQ hn;unfold knT at h1;split at h1
  ·exact h1.elim
  rename_i s u r;split at h1
  ·obtain⟨h3,h4⟩:=bH h1;obtain⟨h5,h6⟩:=Nh h4
   obtain⟨d,hd⟩:∃ d,o'.dst=some d:=by
    cases hd:o'.dst with
    | none=>rw[hd] at h3;cases h3
    | some d=>exact⟨d,rfl⟩
   have hs:d=s:=by rw[hd] at h3;exact awj h3
   have hat:At (a'.put o'.dst v) s u:=by
    rcases h2 (s,u) (awn ..) with h7|⟨e,h7,h8,h9⟩
    ·cases h7
    ·have:=I'.at_ e h7;rw[h8] at this;obtain⟨rfl,rfl⟩:=awk h9;exact this
   have hp:Put a' d v (a'.put o'.dst v):=by rw[hd];exact qy h'.fr (qE j o' d ho hd).2
   have huv:u=v:=by
    have Le:=hp.now;rw[hs] at Le;exact awe (hat.symm.trans Le)
   refine next _ _ T1 bs' rs' ⟨I'.fr,fun q u hq=>keep v _ _ (fun d hd e=>?_) (h'.l_ q u hq),hT v,fun x hx=>h'.K_ x (hT1 x hx)⟩ M' h5 (.some d v hd hp fun n k hk hkj=>(h6 k (awg hk) hkj).trans huv)
   rw[← e,(qE j o' d ho hd).1] at hq;cases hq
  ·exact h1.elim
 | true=>
 rw[hnJ] at hv;replace hv:=iL hv;refine IG (ops':=BJ o' (T1++zA K o')) (S:=fun a1 w1=>∃ m' bs' rs',Inv (BJ o' (T1++zA K o')) a1 N l m' ((T1++zA K o').length+1)∧aW B w0 w1 bs' rs'∧newS (m'.length-(T1++zA K o').length) m' T1 fun T'=>bif frK K T' then kk T' bs' rs' w1 else False) hg (fun a w ⟨_,_,_,I,_⟩=>I.fr.defers) (z_ I M Pn hv fun a1 m' bs' rs' w1 I' M' h'=>awi ⟨rfl,m',bs',rs',I',M',h'⟩) ?_;rintro a1 w1 ⟨m',bs',rs',I',M',hn⟩ ⟨v,rfl⟩;obtain⟨T',h1,h2⟩:=FQ hn;obtain⟨h3,h4⟩:=bH h1;refine next _ _ T' bs' rs' ⟨I'.fr,fun q u hq=>keep v _ _ (fun d hd e=>?_) (h'.l_ q u hq),fun x hx=>?_,Wt h3⟩ M' h4 ?_
 ·rw[← e,(qE j o' d ho hd).1] at hq;cases hq
 ·rcases h2 x hx with h5|⟨e,h5,h6,rfl⟩
  ·exact hT v x h5
  ·have:=I'.at_ e h5
   rwa [h6] at this
 ·cases hd:o'.dst with
  | none=>exact .none hd rfl
  | some d=>
   refine .some d v hd (qy h'.fr (qE j o' d ho hd).2) fun n k hk hkj=>absurd hkj (Vf hnJ k (awg hk))
include R6 qE in
theorem E_{F:List Nat}{ops:Array Oper}{Q:Act→World→Prop}(hQ:∀ a l' bs rs w,Fs a N l'→aW B w0 w bs rs→k l' bs rs w→Q a w):∀ {t:Tr} {T:Slots} {bs:List Bx} {rs:List Rw} {a:Act} {w:World},vst B w0 N l L K kb vI k t T bs rs w→TI N l K T a→aW B w0 w bs rs→Ql Tryz.prog ops L K (xs F K) (Jm B w0 vI) Q t a w
 | .done,T,bs,rs,a,w,hv,h,M=>fun a' hA hk=>hQ a' _ bs rs w (h.end R6 hA hk) M (iL (iL hv))
 | .step j t,T,bs,rs,a,w,hv,h,M=>fun o ho a' hA hb Q' hn=>Uk R6 qE hv h M ho hA hb fun a1 w1 T' bs' rs' h' M' ⟨h1,h2⟩ mv=>by
  refine hn a1 w1 ⟨M'.below,fun b Zn=>M'.box b ?_⟩ mv (E_ hQ h2 h' M');obtain⟨r,h3,h4⟩:=Mg h1;obtain⟨s,h5,h6⟩:=Fu h3;subst h5;rcases h4 b (h6 b Zn) with h7|h7
  ·exact h7
  ·cases h7
 | .last j,T,bs,rs,a,w,hv,h,M=>fun o ho a' hA hb Q' hn=>Uk R6 qE hv h M ho hA hb fun a1 w1 T' bs' rs' h' M' h1 mv=>hn a1 w1 mv fun a2 hA2 hk=>hQ a2 _ bs' rs' w1 (h'.end R6 hA2 hk) M' (iL (iL h1))
 | .alt x y,T,bs,rs,a,w,hv,h,M=>⟨E_ hQ hv.1 h M,E_ hQ hv.2 h M⟩
end
def dsL:List Oper→(List Nat→Prop)→Prop
 | [],f=>f []
 | o::r,f=>match o.dst with
  | some d=>dsL r fun s=>f (d::s)
  | none=>dsL r f
theorem NU:∀ {L:List Oper} {f:List Nat→Prop},dsL L f→f (L.filterMap (·.dst))
 | [],_,h=>h
 | o::r,f,h=>by
  unfold dsL at h;split at h
  ·rename_i d hd;rw[List.filterMap_cons,hd];exact NU h
  ·rename_i hd;rw[List.filterMap_cons,hd];exact NU h
def abU(N:Nat)(L:List Oper)(F:List Nat)(t:Tr):Bool:=
 ordered 0 L&&(decide (L.filterMap (·.dst)).Nodup&&(((L.filterMap (·.dst)).all fun s=>Nat.blt s N)&&(((cand L F []).all fun i=>(heads t).contains i)&&oI L F t [])))
def Y0(L:List Oper)(F:List Nat):List Kn→Bool
 | []=>true
 | (j,d,_)::r=>bif F.contains j then false else (match L[j]? with
  | none=>false
  | some o=>bif isD d o.dst then Y0 L F r else false)
theorem Pw{L:List Oper}{F:List Nat}:∀ {K:List Kn},Y0 L F K=true→(∀ k∈K,∃ o:Oper,L[k.1]?=some o∧o.dst=some k.2.1)∧∀ k∈K,F.contains k.1=false
 | [],_=>⟨fun _ h=>(by cases h),fun _ h=>(by cases h)⟩
 | (j,d,v)::r,h=>by
  unfold Y0 at h
  cases e:F.contains j with
  | true=>rw[e] at h;cases h
  | false=>
   rw[e] at h
   cases e2:L[j]? with
   | none=>rw[e2] at h;cases h
   | some o=>
    rw[e2] at h
    cases e3:isD d o.dst with
    | false=>simp only[e3] at h;cases h
    | true=>
     simp only[e3] at h;obtain⟨h1,h2⟩:=Pw (K:=r) h;refine⟨fun k hk=>?_,fun k hk=>?_⟩
     ·rcases awf.1 hk with rfl|hk
      ·refine⟨o,e2,?_⟩
       cases hd:o.dst with
       | none=>rw[hd] at e3;cases e3
       | some q=>rw[hd] at e3;exact congrArg some (awj e3)
      ·exact h1 k hk
     ·rcases awf.1 hk with rfl|hk
      ·exact e
      ·exact h2 k hk
theorem spk{X Y:Prop}{B:Nat}{w0 w:World}{N:Nat}{l:Slots}{bs:List Bx}{rs:List Rw}{ops:Array Oper}{id:Nat}{k:Slots→List Bx→List Rw→World→Prop}(K0:List Kn)(F:List Nat)(t:Tr)(kb:List Nat)(hk0:Y0 ops.toList F K0=true)(h0:abU N ops.toList F t=true)
 (h:dsL ops.toList fun ds=>Wz ds l fun l'=>rvK bs [] fun r=>UF kb r fun vI=>vfl B w0 l' vI ops.toList F K0 fun K=>ltK K l ds fun T=>∀ w',awh w.heap.size w w'→aW B w0 w' bs rs→vst B w0 N l' ops.toList K kb vI k t T bs rs w') :
 X∨Y∨∀ (a:Act) (Q:Exit→Act→World→Prop),Fs a N l→aW B w0 w bs rs→(∀ a' l' bs' rs' w',Fs a' N l'→aW B w0 w' bs' rs'→k l' bs' rs' w'→Q .normal a' w')→(Code.region id ops true).wp Tryz.prog Q a w:=by
 refine .inr (.inr fun a Q Fa M next=>?_);obtain⟨L,rfl⟩:∃ L:List Oper,ops=L.toArray:=⟨ops.toList,by simp⟩;rw[List.toList_toArray] at hk0 h0 h;unfold abU at h0;simp only[awa,decide_eq_true_eq] at h0;obtain⟨eS,hnd,hbd,hcd,hsub⟩:=h0;obtain⟨l',h,hl'⟩:=Cy (NU h);obtain⟨r,h,hr⟩:=Mg h;obtain⟨vI,h,hJ⟩:=Fu h;obtain⟨K,h,hKF,hK⟩:=Ul (N:=N) h;obtain⟨hk1,hk2⟩:=Pw hk0;obtain⟨T0,h,hT0⟩:=FT h;have hin:∀ (j:Nat) (o:Oper) (d:Nat),L[j]?=some o→o.dst=some d→d∈L.filterMap (·.dst):=fun j o d ho hd=>List.mem_filterMap.2 ⟨o,awg ho,hd⟩
 have hno:∀ d,d∈L.filterMap (·.dst)→look d l'=none:=fun d hd=>by
  rw[hl',oh.2 hd];rfl
 have hold:∀ q v,look q l'=some v→look q l=some v∧(L.filterMap (·.dst)).contains q=false:=fun q v hq=>by
  rw[hl'] at hq
  cases hm:jw q (L.filterMap (·.dst)) with
  | true=>rw[hm] at hq;cases hq
  | false=>
   rw[hm] at hq;refine⟨hq,?_⟩
   cases hc:(L.filterMap (·.dst)).contains q with
   | false=>rfl
   | true=>
    have:q∈L.filterMap (·.dst):=by simpa using hc
    rw[oh.2 this] at hm;cases hm
 have hKo:∀ k∈K0++K,∃ o:Oper,L[k.1]?=some o∧o.dst=some k.2.1:=fun k hk=>by
  rcases awd.1 hk with hk|hk
  ·exact hk1 k hk
  ·obtain⟨o,h1,h2,-⟩:=hK k hk;exact⟨o,h1,h2⟩
 have hKd:∀ k∈K0++K,k.2.1∈L.filterMap (·.dst):=fun k hk=>by
  obtain⟨o,h1,h2⟩:=hKo k hk;exact hin _ _ _ h1 h2
 have R6:∀ q v,look q l'=some v→∀ k∈K0++K,k.2.1≠q:=fun q v hq k hk e=>by
  have h1:=hno _ (hKd k hk);rw[e,hq] at h1;cases h1
 have qE:∀ (j:Nat) (o:Oper) (d:Nat),L[j]?=some o→o.dst=some d→look d l'=none∧d<N:=fun j o d ho hd=>⟨hno d (hin j o d ho hd),by
  have:=awc.1 hbd d (hin j o d ho hd);simpa using this⟩
 have Md:=M.keep (w':=w.drew) (Below.refl _ _).drew;refine E6 (K0++K) F t (Jm B w0 vI) (by kernel_rfl) eS ?_ ?_ hnd hbd hcd hsub Fa.fr ?_ ⟨Md.below,fun b hb=>Md.box b ?_⟩ (E_ R6 qE (fun a l' bs rs w F M h=>next a l' bs rs w F M h) (h w.drew (Below.refl _ _).drew Md) ⟨Fa.fr,fun q v hq=>Fa.at_ q v (hold q v hq).1,fun x hx=>Fa.at_ _ _ (hT0 x hx).1,fun x hx=>(hT0 x hx).2⟩ Md)
 ·rw[awc];intro k hk;obtain⟨o,h1,h2⟩:=hKo k hk;simp[h1,h2]
 ·rw[awc];intro i hi;rw[← hKF] at hi;obtain⟨k,hk,rfl⟩:=List.mem_map.1 hi;exact List.any_eq_true.2 ⟨k,List.mem_append_right _ hk,by simp⟩
 ·have key:∀ K2:List Kn,(∀ k∈K2,F.contains k.1=true→FlP B w0 N l' vI L (K0++K) k)→AO Tryz.prog L F (K0++K) (Jm B w0 vI) a N K2:=by
   intro K2
   induction K2 with
   | nil=>intro _;trivial
   | cons k r ih=>
    intro h2;refine⟨fun hFk o ho b u hf hj hq hb=>?_,ih fun k' hk'=>h2 k' (awm _ hk')⟩;obtain⟨o',h3,-,h4,h5⟩:=h2 k (awn ..) hFk;obtain rfl:o'=o:=awe (h3.symm.trans ho)
    exact⟨j_ h4,h5 b u hf hj (fun q v hv=>hq q v (hold q v hv).2 (Fa.at_ q v (hold q v hv).1)) fun k' hk' he=>by
     obtain⟨i,hi⟩:=List.getElem?_of_mem hk';exact hb i k' hi (PV he)⟩
  exact key _ fun k hk hFk=>(awd.1 hk).elim (fun h=>by rw[hk2 k h] at hFk;cases hFk) (hK k)
 ·rcases hr b (hJ b hb) with h1|h1
  ·exact h1
  ·cases h1
theorem sp{X Y:Prop}{B:Nat}{w0 w:World}{N:Nat}{l:Slots}{bs:List Bx}{rs:List Rw}{ops:Array Oper}{id:Nat}{k:Slots→List Bx→List Rw→World→Prop}(F:List Nat)(t:Tr)(kb:List Nat)(h0:abU N ops.toList F t=true)
 (h:dsL ops.toList fun ds=>Wz ds l fun l'=>rvK bs [] fun r=>UF kb r fun vI=>vfl B w0 l' vI ops.toList F [] fun K=>ltK K l ds fun T=>∀ w',awh w.heap.size w w'→aW B w0 w' bs rs→vst B w0 N l' ops.toList K kb vI k t T bs rs w') :
 X∨Y∨∀ (a:Act) (Q:Exit→Act→World→Prop),Fs a N l→aW B w0 w bs rs→(∀ a' l' bs' rs' w',Fs a' N l'→aW B w0 w' bs' rs'→k l' bs' rs' w'→Q .normal a' w')→(Code.region id ops true).wp Tryz.prog Q a w:=spk [] F t kb rfl h0 h
theorem mva{R:Value→World→Prop}{x:Operand}{B:Nat}{w w0:World}{bs:List Bx}{rs:List Rw}{q:(Value→World→Prop)→Prop}(hR:eC R)(h:q R):
 ∃ R',eC R'∧(∀ (u:Value) (w1:World) (a:Act) (o':Oper),awh w.heap.size w w1→aW B w0 w1 bs rs→R u w1→o'.op=.assign x→vZ a [x] [u]→∃ v w2,(execOp a.eval o').run Tryz.prog w1=.ok (.value v) w2∧R' v w2∧awh w1.heap.size w1 w2)∧q R':=
 ⟨R,hR,fun u w1 _ _ _ _ hu ho oF=>⟨u,w1,oy ho (oD oF),hu,Below.refl _ _⟩,h⟩
section
variable {B:Nat} {w0 w:World} {bs:List Bx} {rs:List Rw} {t e ty mb:Nat} {m x y:Operand} {z v:Value} {k:Int} {L:List (Int×Value)} {K:Value→List Bx→List Rw→World→Prop}
theorem mmk(M:aW B w0 w bs rs)(h:∀ mb w',aW B w0 w' ((mb,9003,eF [])::bs) rs→K (.map (some mb)) ((mb,9003,eF [])::bs) rs w'):
 ∃ R:Value→World→Prop,(∀ (a:Act) (o':Oper),o'.op=.makeMap t none→o'.type=ty→vZ a [] []→∃ v w',(execOp a.eval o').run Tryz.prog w=.ok (.value v) w'∧R v w')∧∀ v w',R v w'→∃ bs' rs',aW B w0 w' bs' rs'∧K v bs' rs' w':=by
 refine⟨fun v w'=>v=.map (some w.heap.size)∧w'=w.alloc (.map #[] 0),fun a o' ho _ _=>⟨_,_,?_,rfl,rfl⟩,?_⟩
 ·unfold execOp;simp[ho,Instr.makeMap]
 ·rintro v w' ⟨rfl,rfl⟩;have M':=M.MP ((Below.refl _ w).alloc (Nat.le_refl _) _) (b:=(w.heap.size,9003,eF [])) (mU (aV.made w _ _)) (Nat.le_refl _);exact⟨_,_,M',h _ _ M'⟩
theorem mlk(M:aW B w0 w bs rs)(i:Nat)(hi:bs[i]?=some (mb,9003,eF L))(ht:Tryz.prog.underlying t=some (.map 3 e))(hz:∀ w,(zeroValue e).run Tryz.prog w=.ok z w)(hk:iX k)(h:aW B w0 w bs rs→K (.tuple #[(jU L k).getD z,.bool (jU L k).isSome]) bs rs w):
 ∃ R:Value→World→Prop,(∀ (a:Act) (o':Oper),o'.op=.lookup t m x true→o'.type=ty→vZ a [m,x] [.map (some mb),.int .i64 k]→∃ v w',(execOp a.eval o').run Tryz.prog w=.ok (.value v) w'∧R v w')∧∀ v w',R v w'→∃ bs' rs',aW B w0 w' bs' rs'∧K v bs' rs' w':=
 ⟨fun v w'=>v=.tuple #[(jU L k).getD z,.bool (jU L k).isSome]∧w'=w,fun _ _ ho _ oF=>⟨_,_,Gn ht (hz _) M i hi ho (oD oF) (uf oF) hk,rfl,rfl⟩,fun _ _ ⟨h1,h2⟩=>by subst h1 h2;exact⟨_,_,M,h M⟩⟩
theorem ml1(M:aW B w0 w bs rs)(i:Nat)(hi:bs[i]?=some (mb,9003,eF L))(ht:Tryz.prog.underlying t=some (.map 3 e))(hz:∀ w,(zeroValue e).run Tryz.prog w=.ok z w)(hk:iX k)(h:aW B w0 w bs rs→K ((jU L k).getD z) bs rs w):
 ∃ R:Value→World→Prop,(∀ (a:Act) (o':Oper),o'.op=.lookup t m x false→o'.type=ty→vZ a [m,x] [.map (some mb),.int .i64 k]→∃ v w',(execOp a.eval o').run Tryz.prog w=.ok (.value v) w'∧R v w')∧∀ v w',R v w'→∃ bs' rs',aW B w0 w' bs' rs'∧K v bs' rs' w':=
 ⟨fun v w'=>v=(jU L k).getD z∧w'=w,fun _ _ ho _ oF=>⟨_,_,ZH ht (hz _) M i hi ho (oD oF) (uf oF) hk,rfl,rfl⟩,fun _ _ ⟨h1,h2⟩=>by subst h1 h2;exact⟨_,_,M,h M⟩⟩
theorem Vm{k':List Bx→List Rw→World→Prop}(M:aW B w0 w bs rs)(i:Nat)(hi:bs[i]?=some (mb,9003,eF L))(ht:Tryz.prog.underlying t=some (.map 3 e))(hk:iX k)(h:∀ w',aW B w0 w' (bs.set i (mb,9003,eF ((k,v)::gW L k))) rs→k' (bs.set i (mb,9003,eF ((k,v)::gW L k))) rs w'):
 ∃ R:World→Prop,(∀ (a:Act) (o':Oper),o'.op=.mapUpdate t m x y→o'.type=ty→vZ a [m,x,y] [.map (some mb),.int .i64 k,v]→∃ w',(execOp a.eval o').run Tryz.prog w=.ok .skip w'∧R w')∧∀ w',R w'→∃ bs' rs',aW B w0 w' bs' rs'∧k' bs' rs' w':=by
 obtain⟨w',hr,M'⟩:=M.aff ht i hi hk v;refine⟨fun w''=>w''=w',fun a o' ho _ oF=>⟨_,?_,rfl⟩,fun w'' e=>by subst e;exact⟨_,_,M',h _ M'⟩⟩;unfold execOp;simp[ho,oD oF,uf oF,alm oF,hr]
end
end Go.Proofs.YtdcofoaihmongaaGreat
namespace Go.Proofs.YtdcofoaihmongaaGreat
open Go Go.ChangeAt Go.ChangeShapes Go.RowKit Go.WideShapes
def dV(s:ByteArray):Prop:=s.size≤140737488355328
def pU(n:Nat):Prop:=n≤140737488355328
structure Od (l:List ByteArray):Prop where
 len:pU l.length
 all:∀ s∈l,dV s
structure rY where
 bf:Int
 cats:Nat
deriving DecidableEq
structure rY.Ok (x:rY):Prop where
 bf:iX x.bf
 cats:zV x.cats
def rY.cells(x:rY):List Value:=[.int .i64 x.bf,.int .u64 x.cats]
structure vU where
 low:rY
 high:rY
deriving DecidableEq
structure vU.Ok (x:vU):Prop where
 low:x.low.Ok
 high:x.high.Ok
def vU.cells(x:vU):List Value:=[.int .i64 x.low.bf,.int .u64 x.low.cats,.int .i64 x.high.bf,.int .u64 x.high.cats]
structure yA where
 user:Int
 role:Int
 typ:Int
 rng:vU
deriving DecidableEq
structure yA.Ok (x:yA):Prop where
 user:iX x.user
 role:iX x.role
 typ:iX x.typ
 rng:x.rng.Ok
def yA.cells(x:yA):List Value:=[.int .i64 x.user,.int .i64 x.role,.int .i64 x.typ,.int .i64 x.rng.low.bf,.int .u64 x.rng.low.cats,.int .i64 x.rng.high.bf,.int .u64 x.rng.high.cats]
inductive aA where
 | node (op a rel b:Int) (names:List ByteArray) (set:ay) (kids:List aA)
def aA.op:aA→Int|.node o _ _ _ _ _ _=>o
def aA.a:aA→Int|.node _ a _ _ _ _ _=>a
def aA.rel:aA→Int|.node _ _ r _ _ _ _=>r
def aA.b:aA→Int|.node _ _ _ b _ _ _=>b
def aA.names:aA→List ByteArray|.node _ _ _ _ n _ _=>n
def aA.set:aA→ay|.node _ _ _ _ _ s _=>s
def aA.kids:aA→List aA|.node _ _ _ _ _ _ k=>k
inductive aA.Ok:aA→Prop
 | node {op a rel b:Int} {names:List ByteArray} {set:ay} {kids:List aA}:iX op→iX a→iX rel→iX b→Od names→set.Ok→pU kids.length→(∀ k∈kids,aA.Ok k)→aA.Ok (.node op a rel b names set kids)
structure aj.oC (x:aj):Prop where
 kind:iX x.kind
 src:x.src.Ok
 tgt:x.tgt.Ok
 cls:iX x.cls
 perms:Qk x.perms
 cond:iX x.cond
structure lD where
 name:ByteArray
 types:ay
deriving DecidableEq
structure lD.Ok (x:lD):Prop where
 name:dV x.name
 types:x.types.Ok
def lD.cells(x:lD):List Value:=[.string x.name,.int .u64 x.types.a,.int .u64 x.types.b,.int .u64 x.types.c,.int .u64 x.types.d]
theorem lD.eG(x:lD):x.cells.length=5:=rfl
structure iI where
 name:ByteArray
 types:ay
 next:ay
deriving DecidableEq
structure iI.Ok (x:iI):Prop where
 name:dV x.name
 types:x.types.Ok
 next:x.next.Ok
def iI.cells(x:iI):List Value:=[.string x.name,.int .u64 x.types.a,.int .u64 x.types.b,.int .u64 x.types.c,.int .u64 x.types.d,.int .u64 x.next.a,.int .u64 x.next.b,.int .u64 x.next.c,.int .u64 x.next.d]
theorem iI.eG(x:iI):x.cells.length=9:=rfl
structure kJ where
 name:ByteArray
 roles:ay
 dflt:rY
 rng:vU
deriving DecidableEq
structure kJ.Ok (x:kJ):Prop where
 name:dV x.name
 roles:x.roles.Ok
 dflt:x.dflt.Ok
 rng:x.rng.Ok
def kJ.cells(x:kJ):List Value:=[.string x.name,.int .u64 x.roles.a,.int .u64 x.roles.b,.int .u64 x.roles.c,.int .u64 x.roles.d,.int .i64 x.dflt.bf,.int .u64 x.dflt.cats,.int .i64 x.rng.low.bf,.int .u64 x.rng.low.cats,.int .i64 x.rng.high.bf,.int .u64 x.rng.high.cats]
theorem kJ.eG(x:kJ):x.cells.length=11:=rfl
structure iP where
 name:ByteArray
 val:Bool
deriving DecidableEq
structure iP.Ok (x:iP):Prop where
 name:dV x.name
def iP.cells(x:iP):List Value:=[.string x.name,.bool x.val]
theorem iP.eG(x:iP):x.cells.length=2:=rfl
structure bV where
 kind:Int
 src:ay
 tgt:ay
 cls:Int
 name:ByteArray
 res:Int
 cond:Int
deriving DecidableEq
structure bV.Ok (x:bV):Prop where
 kind:iX x.kind
 src:x.src.Ok
 tgt:x.tgt.Ok
 cls:iX x.cls
 name:dV x.name
 res:iX x.res
 cond:iX x.cond
def bV.cells(x:bV):List Value:=[.int .i64 x.kind,.int .u64 x.src.a,.int .u64 x.src.b,.int .u64 x.src.c,.int .u64 x.src.d,.int .u64 x.tgt.a,.int .u64 x.tgt.b,.int .u64 x.tgt.c,.int .u64 x.tgt.d,.int .i64 x.cls,.string x.name,.int .i64 x.res,.int .i64 x.cond]
theorem bV.eG(x:bV):x.cells.length=13:=rfl
structure k_ where
 roles:ay
 types:ay
 cls:Int
 res:Int
deriving DecidableEq
structure k_.Ok (x:k_):Prop where
 roles:x.roles.Ok
 types:x.types.Ok
 cls:iX x.cls
 res:iX x.res
def k_.cells(x:k_):List Value:=[.int .u64 x.roles.a,.int .u64 x.roles.b,.int .u64 x.roles.c,.int .u64 x.roles.d,.int .u64 x.types.a,.int .u64 x.types.b,.int .u64 x.types.c,.int .u64 x.types.d,.int .i64 x.cls,.int .i64 x.res]
theorem k_.eG(x:k_):x.cells.length=10:=rfl
structure lu where
 src:ay
 tgt:ay
 cls:Int
 rng:vU
deriving DecidableEq
structure lu.Ok (x:lu):Prop where
 src:x.src.Ok
 tgt:x.tgt.Ok
 cls:iX x.cls
 rng:x.rng.Ok
def lu.cells(x:lu):List Value:=[.int .u64 x.src.a,.int .u64 x.src.b,.int .u64 x.src.c,.int .u64 x.src.d,.int .u64 x.tgt.a,.int .u64 x.tgt.b,.int .u64 x.tgt.c,.int .u64 x.tgt.d,.int .i64 x.cls,.int .i64 x.rng.low.bf,.int .u64 x.rng.low.cats,.int .i64 x.rng.high.bf,.int .u64 x.rng.high.cats]
theorem lu.eG(x:lu):x.cells.length=13:=rfl
structure kZ where
 name:ByteArray
 ctx:yA
deriving DecidableEq
structure kZ.Ok (x:kZ):Prop where
 name:dV x.name
 ctx:x.ctx.Ok
def kZ.cells(x:kZ):List Value:=[.string x.name,.int .i64 x.ctx.user,.int .i64 x.ctx.role,.int .i64 x.ctx.typ,.int .i64 x.ctx.rng.low.bf,.int .u64 x.ctx.rng.low.cats,.int .i64 x.ctx.rng.high.bf,.int .u64 x.ctx.rng.high.cats]
theorem kZ.eG(x:kZ):x.cells.length=8:=rfl
structure lC where
 pat:ByteArray
 kind:Int
 ctx:yA
deriving DecidableEq
structure lC.Ok (x:lC):Prop where
 pat:dV x.pat
 kind:iX x.kind
 ctx:x.ctx.Ok
def lC.cells(x:lC):List Value:=[.string x.pat,.int .i64 x.kind,.int .i64 x.ctx.user,.int .i64 x.ctx.role,.int .i64 x.ctx.typ,.int .i64 x.ctx.rng.low.bf,.int .u64 x.ctx.rng.low.cats,.int .i64 x.ctx.rng.high.bf,.int .u64 x.ctx.rng.high.cats]
theorem lC.eG(x:lC):x.cells.length=9:=rfl
structure lE where
 name:ByteArray
 kind:Int
 src:ay
 tgt:ay
deriving DecidableEq
structure lE.Ok (x:lE):Prop where
 name:dV x.name
 kind:iX x.kind
 src:x.src.Ok
 tgt:x.tgt.Ok
def lE.cells(x:lE):List Value:=[.string x.name,.int .i64 x.kind,.int .u64 x.src.a,.int .u64 x.src.b,.int .u64 x.src.c,.int .u64 x.src.d,.int .u64 x.tgt.a,.int .u64 x.tgt.b,.int .u64 x.tgt.c,.int .u64 x.tgt.d]
theorem lE.eG(x:lE):x.cells.length=10:=rfl
structure mI where
 name:ByteArray
 perms:List ByteArray
deriving DecidableEq
structure mI.Ok (x:mI):Prop where
 name:dV x.name
 perms:Od x.perms
structure mM where
 name:ByteArray
 pq:List ByteArray
 perm:Bool
deriving DecidableEq
structure mM.Ok (x:mM):Prop where
 name:dV x.name
 pq:Od x.pq
structure pF where
 cls:Int
 perms:Int
 val:Bool
 expr:aA
structure pF.Ok (x:pF):Prop where
 cls:iX x.cls
 perms:Qk x.perms
 expr:x.expr.Ok
theorem aj.eG(x:aj):x.cells.length=13:=rfl
structure aF where
 classes:List mI
 types:List mM
 attrs:List lD
 roles:List iI
 users:List kJ
 bools:List iP
 bf:List ByteArray
 cats:List ByteArray
 conds:List aA
 rules:List aj
 trans:List bV
 aT:List k_
 ranges:List lu
 cons:List pF
 bL:List kZ
 files:List lC
 asserts:List lE
structure aF.Ok (p:aF):Prop where
 classes:∀ x∈p.classes,mI.Ok x
 agN:pU p.classes.length
 types:∀ x∈p.types,mM.Ok x
 wJ:pU p.types.length
 attrs:∀ x∈p.attrs,lD.Ok x
 akO:pU p.attrs.length
 roles:∀ x∈p.roles,iI.Ok x
 UU:pU p.roles.length
 users:∀ x∈p.users,kJ.Ok x
 abK:pU p.users.length
 bools:∀ x∈p.bools,iP.Ok x
 akN:pU p.bools.length
 bf:∀ x∈p.bf,dV x
 alD:pU p.bf.length
 cats:∀ x∈p.cats,dV x
 amX:pU p.cats.length
 conds:∀ x∈p.conds,aA.Ok x
 Xi:pU p.conds.length
 rules:∀ x∈p.rules,aj.oC x
 wQ:pU p.rules.length
 trans:∀ x∈p.trans,bV.Ok x
 Us:pU p.trans.length
 aT:∀ x∈p.aT,k_.Ok x
 ahr:pU p.aT.length
 ranges:∀ x∈p.ranges,lu.Ok x
 ahv:pU p.ranges.length
 cons:∀ x∈p.cons,pF.Ok x
 amW:pU p.cons.length
 bL:∀ x∈p.bL,kZ.Ok x
 alC:pU p.bL.length
 files:∀ x∈p.files,lC.Ok x
 akD:pU p.files.length
 asserts:∀ x∈p.asserts,lE.Ok x
 agT:pU p.asserts.length
def aX(s:ByteArray):List Value:=[.string s]
theorem I_(s:ByteArray):(aX s).length=1:=rfl
def aU(w:World)(v:Value)(l:List ByteArray):Prop:=SliceAt w v 1 l.length (l.flatMap aX)
theorem aU.keep{w w':World}{v:Value}{l:List ByteArray}(h:aU w v l)(hb:Below w.heap.size w w'):aU w' v l:=SliceAt.keep h hb
def aC{α:Type}(k:Nat)(R:List Value→α→Prop)(w:World)(v:Value)(l:List α):Prop:=
 ∃ es:List (List Value),es.length=l.length∧(∀ x∈es,x.length=k)∧SliceAt w v k l.length es.flatten∧∀ (i:Nat) x y,es[i]?=some x→l[i]?=some y→R x y
theorem aC.slice{α:Type}{k:Nat}{R:List Value→α→Prop}{w:World}{v:Value}{l:List α}(h:aC k R w v l):∃ cs,SliceAt w v k l.length cs:=by
 obtain⟨es,_,_,h,_⟩:=h;exact⟨_,h⟩
theorem aC.form{α:Type}{k:Nat}{R:List Value→α→Prop}{w:World}{v:Value}{l:List α}(h:aC k R w v l)(hk:0<k):
 ∃ a c,v=.slice a l.length c∧l.length≤c∧l.length≤9223372036854775807∧∀ i y,l[i]?=some y→∃ b off x,a=some ⟨b,off,none⟩∧R x y∧x.length=k∧∀ j u,x[j]?=some u→w.cell? ⟨b,off+i*k+j,none⟩=some u:=by
 obtain⟨es,h1,h2,h3,h4⟩:=h;obtain⟨a,c,hv,hc,hm,hcell⟩:=h3.form hk;refine⟨a,c,hv,hc,hm,fun i y hy=>?_⟩;have hi:=(awb.1 hy).1;obtain⟨b,off,ha,hcl⟩:=hcell i hi;obtain⟨x,hx⟩:∃ x,es[i]?=some x:=⟨_,awp (by omega)⟩;refine⟨b,off,x,ha,h4 i x y hx hy,h2 x (awg hx),fun j u hu=>hcl j u ?_⟩;rw[Kg h2 hx j (by rw[← h2 x (awg hx)];exact(awb.1 hu).1)];exact hu
theorem aC.mono{α:Type}{k:Nat}{R R':List Value→α→Prop}{w w':World}{v:Value}{l:List α}(h:aC k R w v l)(hb:Below w.heap.size w w')(hr:∀ x y,R x y→R' x y):aC k R' w' v l:=by
 obtain⟨es,h1,h2,h3,h4⟩:=h;exact⟨es,h1,h2,h3.keep hb,fun i x y hx hy=>hr x y (h4 i x y hx hy)⟩
inductive bB (w:World):List Value→aA→Prop
 | node {op a rel b:Int} {names:List ByteArray} {set:ay} {kids:List aA} {nv kv:Value} {es:List (List Value)}:aU w nv names→es.length=kids.length→(∀ x∈es,x.length=10)→SliceAt w kv 10 kids.length es.flatten →
  (∀ (i:Nat) x y,es[i]?=some x→kids[i]?=some y→bB w x y) →
  bB w [.int .i64 op,.int .i64 a,.int .i64 rel,.int .i64 b,nv,.int .u64 set.a,.int .u64 set.b,.int .u64 set.c,.int .u64 set.d,kv] (.node op a rel b names set kids)
theorem bB.keep{w w':World}(hb:Below w.heap.size w w'){cs:List Value}{e:aA}(h:bB w cs e):bB w' cs e:=by
 induction h with
 | node h1 h2 h3 h4 _ ih=>exact .node (h1.keep hb) h2 h3 (h4.keep hb) ih
theorem bB.open{w:World}{cs:List Value}{e:aA}(h:bB w cs e):∃ nv kv,cs=[.int .i64 e.op,.int .i64 e.a,.int .i64 e.rel,.int .i64 e.b,nv,.int .u64 e.set.a,.int .u64 e.set.b,.int .u64 e.set.c,.int .u64 e.set.d,kv]∧aU w nv e.names∧aC 10 (bB w) w kv e.kids:=by
 cases h with
 | node h1 h2 h3 h4 h5=>exact⟨_,_,rfl,h1,_,h2,h3,h4,h5⟩
def mG(w:World)(v:Value)(l:List aA):Prop:=aC 10 (bB w) w v l
theorem mG.keep{w w':World}{v:Value}{l:List aA}(h:mG w v l)(hb:Below w.heap.size w w'):mG w' v l:=aC.mono h hb fun _ _ h=>bB.keep hb h
def q_(w:World)(cs:List Value)(x:mI):Prop:=∃ v,cs=[.string x.name,v]∧aU w v x.perms
def qZ(w:World)(cs:List Value)(x:mM):Prop:=∃ v,cs=[.string x.name,v,.bool x.perm]∧aU w v x.pq
def q8(w:World)(cs:List Value)(x:pF):Prop:=∃ es,cs=[.int .i64 x.cls,.int .u32 x.perms,.bool x.val]++es∧bB w es x.expr
theorem q_.keep{w w':World}(hb:Below w.heap.size w w'){cs:List Value}{x:mI}(h:q_ w cs x):q_ w' cs x:=by
 obtain⟨v,e,h⟩:=h;exact⟨v,e,h.keep hb⟩
theorem qZ.keep{w w':World}(hb:Below w.heap.size w w'){cs:List Value}{x:mM}(h:qZ w cs x):qZ w' cs x:=by
 obtain⟨v,e,h⟩:=h;exact⟨v,e,h.keep hb⟩
theorem q8.keep{w w':World}(hb:Below w.heap.size w w'){cs:List Value}{x:pF}(h:q8 w cs x):q8 w' cs x:=by
 obtain⟨v,e,h⟩:=h;exact⟨v,e,h.keep hb⟩
structure aK (w:World) (c0 c1 c2 c3 c4 c5 c6 c7 c8 c9 aR aO aN aQ aM aL aP:Value) (p:aF):Prop where
 classes:aC 2 (q_ w) w c0 p.classes
 types:aC 3 (qZ w) w c1 p.types
 attrs:SliceAt w c2 5 p.attrs.length (p.attrs.flatMap lD.cells)
 roles:SliceAt w c3 9 p.roles.length (p.roles.flatMap iI.cells)
 users:SliceAt w c4 11 p.users.length (p.users.flatMap kJ.cells)
 bools:SliceAt w c5 2 p.bools.length (p.bools.flatMap iP.cells)
 bf:aU w c6 p.bf
 cats:aU w c7 p.cats
 conds:mG w c8 p.conds
 rules:SliceAt w c9 13 p.rules.length (p.rules.flatMap aj.cells)
 trans:SliceAt w aR 13 p.trans.length (p.trans.flatMap bV.cells)
 aT:SliceAt w aO 10 p.aT.length (p.aT.flatMap k_.cells)
 ranges:SliceAt w aN 13 p.ranges.length (p.ranges.flatMap lu.cells)
 cons:aC 13 (q8 w) w aQ p.cons
 bL:SliceAt w aM 8 p.bL.length (p.bL.flatMap kZ.cells)
 files:SliceAt w aL 9 p.files.length (p.files.flatMap lC.cells)
 asserts:SliceAt w aP 10 p.asserts.length (p.asserts.flatMap lE.cells)
theorem aK.keep{w w':World}{c0 c1 c2 c3 c4 c5 c6 c7 c8 c9 aR aO aN aQ aM aL aP:Value}{p:aF}(h:aK w c0 c1 c2 c3 c4 c5 c6 c7 c8 c9 aR aO aN aQ aM aL aP p)(hb:Below w.heap.size w w'):aK w' c0 c1 c2 c3 c4 c5 c6 c7 c8 c9 aR aO aN aQ aM aL aP p:=
 ⟨aC.mono h.classes hb fun _ _ h=>q_.keep hb h,aC.mono h.types hb fun _ _ h=>qZ.keep hb h,h.attrs.keep hb,h.roles.keep hb,h.users.keep hb,h.bools.keep hb,h.bf.keep hb,h.cats.keep hb,h.conds.keep hb,h.rules.keep hb,h.trans.keep hb,h.aT.keep hb,h.ranges.keep hb,aC.mono h.cons hb fun _ _ h=>q8.keep hb h,h.bL.keep hb,h.files.keep hb,h.asserts.keep hb⟩
theorem fN{n:Nat}(h:n≤reachBytes):n≤140737488355328:=by unfold reachBytes at h;omega
theorem bW{n b:Nat}(hb:0<b)(h:n*b≤reachBytes):n≤140737488355328:=fN (Nat.le_trans (Nat.le_mul_of_pos_right n hb) h)
theorem wf_i64{n:Int}(h:(Lit.int .i64 n).wf=true):iX n:=by
 have a1:IntKind.i64.min=-9223372036854775808:=by decide
 have a2:IntKind.i64.max=9223372036854775807:=by decide
 simp only[Lit.wf,a1,a2] at h;simp at h;unfold iX;omega
theorem wf_u32{n:Int}(h:(Lit.int .u32 n).wf=true):Qk n:=by
 have a1:IntKind.u32.min=0:=by decide
 have a2:IntKind.u32.max=4294967295:=by decide
 simp only[Lit.wf,a1,a2] at h;simp at h;unfold Qk;omega
theorem wf_u64{n:Int}(h:(Lit.int .u64 n).wf=true):∃ m:Nat,n=m∧zV m:=by
 have a1:IntKind.u64.min=0:=by decide
 have a2:IntKind.u64.max=18446744073709551615:=by decide
 simp only[Lit.wf,a1,a2] at h;simp at h;exact⟨n.toNat,by omega,by unfold zV;omega⟩
theorem dI{w:World}{f:Nat}{cs:List Value}(h:Rd Tryz.prog w f 54 cs):∃ s:ay,cs=s.cells∧s.Ok:=by
 obtain⟨f',rfl,es,rfl,hn,hx⟩:=h.array Tryz.underlying54
 match es,hn with
 | [e0,e1,e2,e3],_=>
  obtain⟨A,rfl,hA⟩:=(hx e0 (by simp)).2.int Tryz.underlying52;obtain⟨B,rfl,hB⟩:=(hx e1 (by simp)).2.int Tryz.underlying52;obtain⟨C,rfl,hC⟩:=(hx e2 (by simp)).2.int Tryz.underlying52;obtain⟨D,rfl,hD⟩:=(hx e3 (by simp)).2.int Tryz.underlying52;obtain⟨a,rfl,ha⟩:=wf_u64 hA;obtain⟨b,rfl,hb⟩:=wf_u64 hB;obtain⟨c,rfl,hc⟩:=wf_u64 hC;obtain⟨d,rfl,hd⟩:=wf_u64 hD;exact⟨⟨a,b,c,d⟩,rfl,ha,hb,hc,hd⟩
theorem xw{w:World}{f:Nat}{cs:List Value}(h:Rd Tryz.prog w f 70 cs):∃ x:rY,cs=x.cells∧x.Ok:=by
 obtain⟨f',rfl,h⟩:=h.struct Tryz.underlying70;obtain⟨c0,_,rfl,-,r0,c1,_,rfl,-,r1,hn⟩:=h;obtain rfl:_=[]:=hn;obtain⟨A,rfl,hA⟩:=r0.int Tryz.underlying3;obtain⟨B',rfl,hB'⟩:=r1.int Tryz.underlying52;obtain⟨B,rfl,hB⟩:=wf_u64 hB';exact⟨⟨A,B⟩,rfl,⟨wf_i64 hA,hB⟩⟩
theorem wS{w:World}{f:Nat}{cs:List Value}(h:Rd Tryz.prog w f 72 cs):∃ x:vU,cs=x.cells∧x.Ok:=by
 obtain⟨f',rfl,h⟩:=h.struct Tryz.underlying72;obtain⟨c0,_,rfl,-,r0,c1,_,rfl,-,r1,hn⟩:=h;obtain rfl:_=[]:=hn;obtain⟨A,rfl,hA⟩:=xw r0;obtain⟨B,rfl,hB⟩:=xw r1;exact⟨⟨A,B⟩,rfl,⟨hA,hB⟩⟩
theorem EL{w:World}{f:Nat}{cs:List Value}(h:Rd Tryz.prog w f 74 cs):∃ x:yA,cs=x.cells∧x.Ok:=by
 obtain⟨f',rfl,h⟩:=h.struct Tryz.underlying74;obtain⟨c0,_,rfl,-,r0,c1,_,rfl,-,r1,c2,_,rfl,-,r2,c3,_,rfl,-,r3,hn⟩:=h;obtain rfl:_=[]:=hn;obtain⟨A,rfl,hA⟩:=r0.int Tryz.underlying3;obtain⟨B,rfl,hB⟩:=r1.int Tryz.underlying3;obtain⟨C,rfl,hC⟩:=r2.int Tryz.underlying3;obtain⟨D,rfl,hD⟩:=wS r3;exact⟨⟨A,B,C,D⟩,rfl,⟨wf_i64 hA,wf_i64 hB,wf_i64 hC,hD⟩⟩
theorem cB{α:Type}{Q:List Value→Prop}{R:List Value→α→Prop}(one:∀ cs,Q cs→∃ x,R cs x):∀ es:List (List Value),(∀ x∈es,Q x)→∃ l:List α,es.length=l.length∧(∀ (i:Nat) x y,es[i]?=some x→l[i]?=some y→R x y)
 | [],_=>⟨[],rfl,fun i x y h=>by simp at h⟩
 | e::es,h=>by
  obtain⟨x,hx⟩:=one e (h e (by simp));obtain⟨l,h1,h2⟩:=cB one es fun y hy=>h y (by simp[hy])
  refine⟨x::l,by simp[h1],fun i y z hy hz=>?_⟩
  cases i with
  | zero=>simp at hy hz;subst hy hz;exact hx
  | succ i=>exact h2 i y z (by simpa using hy) (by simpa using hz)
theorem dR{α:Type}{R:List Value→α→Prop}{B:α→Prop}{es:List (List Value)}{l:List α}(hl:es.length=l.length)(h:∀ (i:Nat) x y,es[i]?=some x→l[i]?=some y→R x y∧B y):∀ y∈l,B y:=by
 intro y hy;obtain⟨i,hi⟩:=List.getElem?_of_mem hy;have hlt:=(awb.1 hi).1;exact(h i _ y (awp (by omega)) hi).2
theorem d_{α:Type}{cells:α→List Value}:∀ {es:List (List Value)} {l:List α},es.length=l.length→(∀ (i:Nat) x y,es[i]?=some x→l[i]?=some y→x=cells y)→es.flatten=l.flatMap cells
 | [],[],_,_=>rfl
 | [],_::_,h,_=>by simp at h
 | _::_,[],h,_=>by simp at h
 | e::es,x::l,h,hr=>by
  rw[List.flatten_cons,List.flatMap_cons,hr 0 e x rfl rfl,d_ (es:=es) (l:=l) (by simpa using h) fun i a b ha hb=>hr (i+1) a b (by simpa using ha) (by simpa using hb)]
theorem QM{w:World}{f:Nat}{cs:List Value}(h:Rd Tryz.prog w f 9 cs):∃ x,cs=aX x∧dV x:=by
 obtain⟨s,rfl,hs⟩:=h.string Tryz.underlying9;exact⟨s,rfl,fN hs⟩
theorem nY{w:World}{f:Nat}{cs:List Value}(h:Rd Tryz.prog w f 28 cs):∃ v,∃ l:List ByteArray,cs=[v]∧SliceAt w v 1 l.length (l.flatMap aX)∧(∀ x∈l,dV x)∧pU l.length:=by
 obtain⟨f',v,rfl,rfl,es,h1,h2,h3⟩:=h.slice Tryz.underlying28;rw[show Tryz.prog.cellsOf 9=1 from by kernel_rfl] at h1;obtain⟨l,e1,e2⟩:=cB (R:=fun cs (x:ByteArray)=>cs=aX x∧dV x) (fun cs h=>QM h.2) es h2;rw[d_ e1 fun i x y hx hy=>(e2 i x y hx hy).1,e1] at h1;rw[e1] at h3;exact⟨v,l,rfl,h1,dR e1 e2,bW (of_decide_eq_true (by kernel_rfl)) h3⟩
theorem CJ{w:World}:∀ (f:Nat) (cs:List Value),Rd Tryz.prog w f 89 cs→∃ e,bB w cs e∧e.Ok:=by
 intro f
 induction f using Nat.strongRecOn with
 | ind f ih=>
  intro cs h;obtain⟨f',rfl,h⟩:=h.struct Tryz.underlying89;obtain⟨c0,_,rfl,-,r0,c1,_,rfl,-,r1,c2,_,rfl,-,r2,c3,_,rfl,-,r3,c4,_,rfl,-,r4,c5,_,rfl,-,r5,c6,_,rfl,-,r6,hn⟩:=h;obtain rfl:_=[]:=hn;obtain⟨A,rfl,hA⟩:=r0.int Tryz.underlying3;obtain⟨B,rfl,hB⟩:=r1.int Tryz.underlying3;obtain⟨C,rfl,hC⟩:=r2.int Tryz.underlying3;obtain⟨D,rfl,hD⟩:=r3.int Tryz.underlying3;obtain⟨nv,ns,rfl,hns,hno,hnl⟩:=nY r4;obtain⟨s,rfl,hs⟩:=dI r5;obtain⟨f'',kv,rfl,rfl,es,h1,h2,h3⟩:=r6.slice Tryz.underlying29;rw[show Tryz.prog.cellsOf 89=10 from by kernel_rfl] at h1 h2;obtain⟨l,e1,e2⟩:=cB (R:=fun cs (x:aA)=>bB w cs x∧x.Ok) (fun cs h=>ih f'' (by omega) cs h.2) es h2;rw[e1] at h1 h3;exact⟨.node A B C D ns s l,.node hns e1 (fun x hx=>(h2 x hx).1) h1 fun i x y hx hy=>(e2 i x y hx hy).1,.node (wf_i64 hA) (wf_i64 hB) (wf_i64 hC) (wf_i64 hD) ⟨hnl,hno⟩ hs (bW (of_decide_eq_true (by kernel_rfl)) h3) (dR e1 e2)⟩
theorem Lc{w:World}{f:Nat}{cs:List Value}(h:Rd Tryz.prog w f 56 cs):∃ x:aj,cs=x.cells∧x.oC:=by
 obtain⟨f',rfl,h⟩:=h.struct Tryz.underlying56;obtain⟨c0,_,rfl,-,r0,c1,_,rfl,-,r1,c2,_,rfl,-,r2,c3,_,rfl,-,r3,c4,_,rfl,-,r4,c5,_,rfl,-,r5,c6,_,rfl,-,r6,hn⟩:=h;obtain rfl:_=[]:=hn;obtain⟨A,rfl,hA⟩:=r0.int Tryz.underlying3;obtain⟨B,rfl,hB⟩:=dI r1;obtain⟨C,rfl,hC⟩:=dI r2;obtain⟨D,rfl⟩:=r3.bool Tryz.underlying4;obtain⟨E,rfl,hE⟩:=r4.int Tryz.underlying3;obtain⟨F,rfl,hF⟩:=r5.int Tryz.underlying50;obtain⟨G,rfl,hG⟩:=r6.int Tryz.underlying3;exact⟨⟨A,B,C,D,E,F,G⟩,rfl,⟨wf_i64 hA,hB,hC,wf_i64 hE,wf_u32 hF,wf_i64 hG⟩⟩
theorem Ov{w:World}{f:Nat}{cs:List Value}(h:Rd Tryz.prog w f 30 cs):∃ v,∃ l:List aj,cs=[v]∧SliceAt w v 13 l.length (l.flatMap aj.cells)∧(∀ x∈l,aj.oC x)∧pU l.length:=by
 obtain⟨f',v,rfl,rfl,es,h1,h2,h3⟩:=h.slice Tryz.underlying30;rw[show Tryz.prog.cellsOf 56=13 from by kernel_rfl] at h1;obtain⟨l,e1,e2⟩:=cB (R:=fun cs (x:aj)=>cs=aj.cells x∧aj.oC x) (fun cs h=>Lc h.2) es h2;rw[d_ e1 fun i x y hx hy=>(e2 i x y hx hy).1,e1] at h1;rw[e1] at h3;exact⟨v,l,rfl,h1,dR e1 e2,bW (of_decide_eq_true (by kernel_rfl)) h3⟩
theorem OD{w:World}{f:Nat}{cs:List Value}(h:Rd Tryz.prog w f 184 cs):∃ x:lD,cs=x.cells∧x.Ok:=by
 obtain⟨f',rfl,h⟩:=h.struct Tryz.underlying184;obtain⟨c0,_,rfl,-,r0,c1,_,rfl,-,r1,hn⟩:=h;obtain rfl:_=[]:=hn;obtain⟨A,rfl,hA⟩:=r0.string Tryz.underlying9;obtain⟨B,rfl,hB⟩:=dI r1;exact⟨⟨A,B⟩,rfl,⟨fN hA,hB⟩⟩
theorem TH{w:World}{f:Nat}{cs:List Value}(h:Rd Tryz.prog w f 24 cs):∃ v,∃ l:List lD,cs=[v]∧SliceAt w v 5 l.length (l.flatMap lD.cells)∧(∀ x∈l,lD.Ok x)∧pU l.length:=by
 obtain⟨f',v,rfl,rfl,es,h1,h2,h3⟩:=h.slice Tryz.underlying24;rw[show Tryz.prog.cellsOf 184=5 from by kernel_rfl] at h1;obtain⟨l,e1,e2⟩:=cB (R:=fun cs (x:lD)=>cs=lD.cells x∧lD.Ok x) (fun cs h=>OD h.2) es h2;rw[d_ e1 fun i x y hx hy=>(e2 i x y hx hy).1,e1] at h1;rw[e1] at h3;exact⟨v,l,rfl,h1,dR e1 e2,bW (of_decide_eq_true (by kernel_rfl)) h3⟩
theorem Ox{w:World}{f:Nat}{cs:List Value}(h:Rd Tryz.prog w f 188 cs):∃ x:iI,cs=x.cells∧x.Ok:=by
 obtain⟨f',rfl,h⟩:=h.struct Tryz.underlying188;obtain⟨c0,_,rfl,-,r0,c1,_,rfl,-,r1,c2,_,rfl,-,r2,hn⟩:=h;obtain rfl:_=[]:=hn;obtain⟨A,rfl,hA⟩:=r0.string Tryz.underlying9;obtain⟨B,rfl,hB⟩:=dI r1;obtain⟨C,rfl,hC⟩:=dI r2;exact⟨⟨A,B,C⟩,rfl,⟨fN hA,hB,hC⟩⟩
theorem Tx{w:World}{f:Nat}{cs:List Value}(h:Rd Tryz.prog w f 25 cs):∃ v,∃ l:List iI,cs=[v]∧SliceAt w v 9 l.length (l.flatMap iI.cells)∧(∀ x∈l,iI.Ok x)∧pU l.length:=by
 obtain⟨f',v,rfl,rfl,es,h1,h2,h3⟩:=h.slice Tryz.underlying25;rw[show Tryz.prog.cellsOf 188=9 from by kernel_rfl] at h1;obtain⟨l,e1,e2⟩:=cB (R:=fun cs (x:iI)=>cs=iI.cells x∧iI.Ok x) (fun cs h=>Ox h.2) es h2;rw[d_ e1 fun i x y hx hy=>(e2 i x y hx hy).1,e1] at h1;rw[e1] at h3;exact⟨v,l,rfl,h1,dR e1 e2,bW (of_decide_eq_true (by kernel_rfl)) h3⟩
theorem Oo{w:World}{f:Nat}{cs:List Value}(h:Rd Tryz.prog w f 192 cs):∃ x:kJ,cs=x.cells∧x.Ok:=by
 obtain⟨f',rfl,h⟩:=h.struct Tryz.underlying192;obtain⟨c0,_,rfl,-,r0,c1,_,rfl,-,r1,c2,_,rfl,-,r2,c3,_,rfl,-,r3,hn⟩:=h;obtain rfl:_=[]:=hn;obtain⟨A,rfl,hA⟩:=r0.string Tryz.underlying9;obtain⟨B,rfl,hB⟩:=dI r1;obtain⟨C,rfl,hC⟩:=xw r2;obtain⟨D,rfl,hD⟩:=wS r3;exact⟨⟨A,B,C,D⟩,rfl,⟨fN hA,hB,hC,hD⟩⟩
theorem Tq{w:World}{f:Nat}{cs:List Value}(h:Rd Tryz.prog w f 26 cs):∃ v,∃ l:List kJ,cs=[v]∧SliceAt w v 11 l.length (l.flatMap kJ.cells)∧(∀ x∈l,kJ.Ok x)∧pU l.length:=by
 obtain⟨f',v,rfl,rfl,es,h1,h2,h3⟩:=h.slice Tryz.underlying26;rw[show Tryz.prog.cellsOf 192=11 from by kernel_rfl] at h1;obtain⟨l,e1,e2⟩:=cB (R:=fun cs (x:kJ)=>cs=kJ.cells x∧kJ.Ok x) (fun cs h=>Oo h.2) es h2;rw[d_ e1 fun i x y hx hy=>(e2 i x y hx hy).1,e1] at h1;rw[e1] at h3;exact⟨v,l,rfl,h1,dR e1 e2,bW (of_decide_eq_true (by kernel_rfl)) h3⟩
theorem OC{w:World}{f:Nat}{cs:List Value}(h:Rd Tryz.prog w f 197 cs):∃ x:iP,cs=x.cells∧x.Ok:=by
 obtain⟨f',rfl,h⟩:=h.struct Tryz.underlying197;obtain⟨c0,_,rfl,-,r0,c1,_,rfl,-,r1,hn⟩:=h;obtain rfl:_=[]:=hn;obtain⟨A,rfl,hA⟩:=r0.string Tryz.underlying9;obtain⟨B,rfl⟩:=r1.bool Tryz.underlying4;exact⟨⟨A,B⟩,rfl,⟨fN hA⟩⟩
theorem TG{w:World}{f:Nat}{cs:List Value}(h:Rd Tryz.prog w f 27 cs):∃ v,∃ l:List iP,cs=[v]∧SliceAt w v 2 l.length (l.flatMap iP.cells)∧(∀ x∈l,iP.Ok x)∧pU l.length:=by
 obtain⟨f',v,rfl,rfl,es,h1,h2,h3⟩:=h.slice Tryz.underlying27;rw[show Tryz.prog.cellsOf 197=2 from by kernel_rfl] at h1;obtain⟨l,e1,e2⟩:=cB (R:=fun cs (x:iP)=>cs=iP.cells x∧iP.Ok x) (fun cs h=>OC h.2) es h2;rw[d_ e1 fun i x y hx hy=>(e2 i x y hx hy).1,e1] at h1;rw[e1] at h3;exact⟨v,l,rfl,h1,dR e1 e2,bW (of_decide_eq_true (by kernel_rfl)) h3⟩
theorem Ot{w:World}{f:Nat}{cs:List Value}(h:Rd Tryz.prog w f 84 cs):∃ x:bV,cs=x.cells∧x.Ok:=by
 obtain⟨f',rfl,h⟩:=h.struct Tryz.underlying84;obtain⟨c0,_,rfl,-,r0,c1,_,rfl,-,r1,c2,_,rfl,-,r2,c3,_,rfl,-,r3,c4,_,rfl,-,r4,c5,_,rfl,-,r5,c6,_,rfl,-,r6,hn⟩:=h;obtain rfl:_=[]:=hn;obtain⟨A,rfl,hA⟩:=r0.int Tryz.underlying3;obtain⟨B,rfl,hB⟩:=dI r1;obtain⟨C,rfl,hC⟩:=dI r2;obtain⟨D,rfl,hD⟩:=r3.int Tryz.underlying3;obtain⟨E,rfl,hE⟩:=r4.string Tryz.underlying9;obtain⟨F,rfl,hF⟩:=r5.int Tryz.underlying3;obtain⟨G,rfl,hG⟩:=r6.int Tryz.underlying3;exact⟨⟨A,B,C,D,E,F,G⟩,rfl,⟨wf_i64 hA,hB,hC,wf_i64 hD,fN hE,wf_i64 hF,wf_i64 hG⟩⟩
theorem Tt{w:World}{f:Nat}{cs:List Value}(h:Rd Tryz.prog w f 31 cs):∃ v,∃ l:List bV,cs=[v]∧SliceAt w v 13 l.length (l.flatMap bV.cells)∧(∀ x∈l,bV.Ok x)∧pU l.length:=by
 obtain⟨f',v,rfl,rfl,es,h1,h2,h3⟩:=h.slice Tryz.underlying31;rw[show Tryz.prog.cellsOf 84=13 from by kernel_rfl] at h1;obtain⟨l,e1,e2⟩:=cB (R:=fun cs (x:bV)=>cs=bV.cells x∧bV.Ok x) (fun cs h=>Ot h.2) es h2;rw[d_ e1 fun i x y hx hy=>(e2 i x y hx hy).1,e1] at h1;rw[e1] at h3;exact⟨v,l,rfl,h1,dR e1 e2,bW (of_decide_eq_true (by kernel_rfl)) h3⟩
theorem Ow{w:World}{f:Nat}{cs:List Value}(h:Rd Tryz.prog w f 203 cs):∃ x:k_,cs=x.cells∧x.Ok:=by
 obtain⟨f',rfl,h⟩:=h.struct Tryz.underlying203;obtain⟨c0,_,rfl,-,r0,c1,_,rfl,-,r1,c2,_,rfl,-,r2,c3,_,rfl,-,r3,hn⟩:=h;obtain rfl:_=[]:=hn;obtain⟨A,rfl,hA⟩:=dI r0;obtain⟨B,rfl,hB⟩:=dI r1;obtain⟨C,rfl,hC⟩:=r2.int Tryz.underlying3;obtain⟨D,rfl,hD⟩:=r3.int Tryz.underlying3;exact⟨⟨A,B,C,D⟩,rfl,⟨hA,hB,wf_i64 hC,wf_i64 hD⟩⟩
theorem Tw{w:World}{f:Nat}{cs:List Value}(h:Rd Tryz.prog w f 32 cs):∃ v,∃ l:List k_,cs=[v]∧SliceAt w v 10 l.length (l.flatMap k_.cells)∧(∀ x∈l,k_.Ok x)∧pU l.length:=by
 obtain⟨f',v,rfl,rfl,es,h1,h2,h3⟩:=h.slice Tryz.underlying32;rw[show Tryz.prog.cellsOf 203=10 from by kernel_rfl] at h1;obtain⟨l,e1,e2⟩:=cB (R:=fun cs (x:k_)=>cs=k_.cells x∧k_.Ok x) (fun cs h=>Ow h.2) es h2;rw[d_ e1 fun i x y hx hy=>(e2 i x y hx hy).1,e1] at h1;rw[e1] at h3;exact⟨v,l,rfl,h1,dR e1 e2,bW (of_decide_eq_true (by kernel_rfl)) h3⟩
theorem Oy{w:World}{f:Nat}{cs:List Value}(h:Rd Tryz.prog w f 205 cs):∃ x:lu,cs=x.cells∧x.Ok:=by
 obtain⟨f',rfl,h⟩:=h.struct Tryz.underlying205;obtain⟨c0,_,rfl,-,r0,c1,_,rfl,-,r1,c2,_,rfl,-,r2,c3,_,rfl,-,r3,hn⟩:=h;obtain rfl:_=[]:=hn;obtain⟨A,rfl,hA⟩:=dI r0;obtain⟨B,rfl,hB⟩:=dI r1;obtain⟨C,rfl,hC⟩:=r2.int Tryz.underlying3;obtain⟨D,rfl,hD⟩:=wS r3;exact⟨⟨A,B,C,D⟩,rfl,⟨hA,hB,wf_i64 hC,hD⟩⟩
theorem Tz{w:World}{f:Nat}{cs:List Value}(h:Rd Tryz.prog w f 33 cs):∃ v,∃ l:List lu,cs=[v]∧SliceAt w v 13 l.length (l.flatMap lu.cells)∧(∀ x∈l,lu.Ok x)∧pU l.length:=by
 obtain⟨f',v,rfl,rfl,es,h1,h2,h3⟩:=h.slice Tryz.underlying33;rw[show Tryz.prog.cellsOf 205=13 from by kernel_rfl] at h1;obtain⟨l,e1,e2⟩:=cB (R:=fun cs (x:lu)=>cs=lu.cells x∧lu.Ok x) (fun cs h=>Oy h.2) es h2;rw[d_ e1 fun i x y hx hy=>(e2 i x y hx hy).1,e1] at h1;rw[e1] at h3;exact⟨v,l,rfl,h1,dR e1 e2,bW (of_decide_eq_true (by kernel_rfl)) h3⟩
theorem Ou{w:World}{f:Nat}{cs:List Value}(h:Rd Tryz.prog w f 125 cs):∃ x:kZ,cs=x.cells∧x.Ok:=by
 obtain⟨f',rfl,h⟩:=h.struct Tryz.underlying125;obtain⟨c0,_,rfl,-,r0,c1,_,rfl,-,r1,hn⟩:=h;obtain rfl:_=[]:=hn;obtain⟨A,rfl,hA⟩:=r0.string Tryz.underlying9;obtain⟨B,rfl,hB⟩:=EL r1;exact⟨⟨A,B⟩,rfl,⟨fN hA,hB⟩⟩
theorem Tv{w:World}{f:Nat}{cs:List Value}(h:Rd Tryz.prog w f 35 cs):∃ v,∃ l:List kZ,cs=[v]∧SliceAt w v 8 l.length (l.flatMap kZ.cells)∧(∀ x∈l,kZ.Ok x)∧pU l.length:=by
 obtain⟨f',v,rfl,rfl,es,h1,h2,h3⟩:=h.slice Tryz.underlying35;rw[show Tryz.prog.cellsOf 125=8 from by kernel_rfl] at h1;obtain⟨l,e1,e2⟩:=cB (R:=fun cs (x:kZ)=>cs=kZ.cells x∧kZ.Ok x) (fun cs h=>Ou h.2) es h2;rw[d_ e1 fun i x y hx hy=>(e2 i x y hx hy).1,e1] at h1;rw[e1] at h3;exact⟨v,l,rfl,h1,dR e1 e2,bW (of_decide_eq_true (by kernel_rfl)) h3⟩
theorem Oz{w:World}{f:Nat}{cs:List Value}(h:Rd Tryz.prog w f 127 cs):∃ x:lC,cs=x.cells∧x.Ok:=by
 obtain⟨f',rfl,h⟩:=h.struct Tryz.underlying127;obtain⟨c0,_,rfl,-,r0,c1,_,rfl,-,r1,c2,_,rfl,-,r2,hn⟩:=h;obtain rfl:_=[]:=hn;obtain⟨A,rfl,hA⟩:=r0.string Tryz.underlying9;obtain⟨B,rfl,hB⟩:=r1.int Tryz.underlying3;obtain⟨C,rfl,hC⟩:=EL r2;exact⟨⟨A,B,C⟩,rfl,⟨fN hA,wf_i64 hB,hC⟩⟩
theorem TA{w:World}{f:Nat}{cs:List Value}(h:Rd Tryz.prog w f 36 cs):∃ v,∃ l:List lC,cs=[v]∧SliceAt w v 9 l.length (l.flatMap lC.cells)∧(∀ x∈l,lC.Ok x)∧pU l.length:=by
 obtain⟨f',v,rfl,rfl,es,h1,h2,h3⟩:=h.slice Tryz.underlying36;rw[show Tryz.prog.cellsOf 127=9 from by kernel_rfl] at h1;obtain⟨l,e1,e2⟩:=cB (R:=fun cs (x:lC)=>cs=lC.cells x∧lC.Ok x) (fun cs h=>Oz h.2) es h2;rw[d_ e1 fun i x y hx hy=>(e2 i x y hx hy).1,e1] at h1;rw[e1] at h3;exact⟨v,l,rfl,h1,dR e1 e2,bW (of_decide_eq_true (by kernel_rfl)) h3⟩
theorem OE{w:World}{f:Nat}{cs:List Value}(h:Rd Tryz.prog w f 129 cs):∃ x:lE,cs=x.cells∧x.Ok:=by
 obtain⟨f',rfl,h⟩:=h.struct Tryz.underlying129;obtain⟨c0,_,rfl,-,r0,c1,_,rfl,-,r1,c2,_,rfl,-,r2,c3,_,rfl,-,r3,hn⟩:=h;obtain rfl:_=[]:=hn;obtain⟨A,rfl,hA⟩:=r0.string Tryz.underlying9;obtain⟨B,rfl,hB⟩:=r1.int Tryz.underlying3;obtain⟨C,rfl,hC⟩:=dI r2;obtain⟨D,rfl,hD⟩:=dI r3;exact⟨⟨A,B,C,D⟩,rfl,⟨fN hA,wf_i64 hB,hC,hD⟩⟩
theorem TJ{w:World}{f:Nat}{cs:List Value}(h:Rd Tryz.prog w f 37 cs):∃ v,∃ l:List lE,cs=[v]∧SliceAt w v 10 l.length (l.flatMap lE.cells)∧(∀ x∈l,lE.Ok x)∧pU l.length:=by
 obtain⟨f',v,rfl,rfl,es,h1,h2,h3⟩:=h.slice Tryz.underlying37;rw[show Tryz.prog.cellsOf 129=10 from by kernel_rfl] at h1;obtain⟨l,e1,e2⟩:=cB (R:=fun cs (x:lE)=>cs=lE.cells x∧lE.Ok x) (fun cs h=>OE h.2) es h2;rw[d_ e1 fun i x y hx hy=>(e2 i x y hx hy).1,e1] at h1;rw[e1] at h3;exact⟨v,l,rfl,h1,dR e1 e2,bW (of_decide_eq_true (by kernel_rfl)) h3⟩
theorem OB{w:World}{f:Nat}{cs:List Value}(h:Rd Tryz.prog w f 180 cs):∃ x:mI,q_ w cs x∧x.Ok:=by
 obtain⟨f',rfl,h⟩:=h.struct Tryz.underlying180;obtain⟨c0,_,rfl,-,r0,c1,_,rfl,-,r1,hn⟩:=h;obtain rfl:_=[]:=hn;obtain⟨A,rfl,hA⟩:=r0.string Tryz.underlying9;obtain⟨vB,B,rfl,sB,aB,lB⟩:=nY r1;exact⟨⟨A,B⟩,⟨vB,rfl,sB⟩,⟨fN hA,⟨lB,aB⟩⟩⟩
theorem TF{w:World}{f:Nat}{cs:List Value}(h:Rd Tryz.prog w f 22 cs):∃ v,∃ l:List mI,cs=[v]∧aC 2 (q_ w) w v l∧(∀ x∈l,mI.Ok x)∧pU l.length:=by
 obtain⟨f',v,rfl,rfl,es,h1,h2,h3⟩:=h.slice Tryz.underlying22;rw[show Tryz.prog.cellsOf 180=2 from by kernel_rfl] at h1 h2;obtain⟨l,e1,e2⟩:=cB (R:=fun cs (x:mI)=>q_ w cs x∧mI.Ok x) (fun cs h=>OB h.2) es h2;rw[e1] at h1 h3;exact⟨v,l,rfl,⟨es,e1,fun x hx=>(h2 x hx).1,h1,fun i x y hx hy=>(e2 i x y hx hy).1⟩,dR e1 e2,bW (of_decide_eq_true (by kernel_rfl)) h3⟩
theorem Oq{w:World}{f:Nat}{cs:List Value}(h:Rd Tryz.prog w f 86 cs):∃ x:mM,qZ w cs x∧x.Ok:=by
 obtain⟨f',rfl,h⟩:=h.struct Tryz.underlying86;obtain⟨c0,_,rfl,-,r0,c1,_,rfl,-,r1,c2,_,rfl,-,r2,hn⟩:=h;obtain rfl:_=[]:=hn;obtain⟨A,rfl,hA⟩:=r0.string Tryz.underlying9;obtain⟨vB,B,rfl,sB,aB,lB⟩:=nY r1;obtain⟨C,rfl⟩:=r2.bool Tryz.underlying4;exact⟨⟨A,B,C⟩,⟨vB,rfl,sB⟩,⟨fN hA,⟨lB,aB⟩⟩⟩
theorem Ts{w:World}{f:Nat}{cs:List Value}(h:Rd Tryz.prog w f 23 cs):∃ v,∃ l:List mM,cs=[v]∧aC 3 (qZ w) w v l∧(∀ x∈l,mM.Ok x)∧pU l.length:=by
 obtain⟨f',v,rfl,rfl,es,h1,h2,h3⟩:=h.slice Tryz.underlying23;rw[show Tryz.prog.cellsOf 86=3 from by kernel_rfl] at h1 h2;obtain⟨l,e1,e2⟩:=cB (R:=fun cs (x:mM)=>qZ w cs x∧mM.Ok x) (fun cs h=>Oq h.2) es h2;rw[e1] at h1 h3;exact⟨v,l,rfl,⟨es,e1,fun x hx=>(h2 x hx).1,h1,fun i x y hx hy=>(e2 i x y hx hy).1⟩,dR e1 e2,bW (of_decide_eq_true (by kernel_rfl)) h3⟩
theorem OA{w:World}{f:Nat}{cs:List Value}(h:Rd Tryz.prog w f 91 cs):∃ x:pF,q8 w cs x∧x.Ok:=by
 obtain⟨f',rfl,h⟩:=h.struct Tryz.underlying91;obtain⟨c0,_,rfl,-,r0,c1,_,rfl,-,r1,c2,_,rfl,-,r2,c3,_,rfl,-,r3,hn⟩:=h;obtain rfl:_=[]:=hn;obtain⟨A,rfl,hA⟩:=r0.int Tryz.underlying3;obtain⟨B,rfl,hB⟩:=r1.int Tryz.underlying50;obtain⟨C,rfl⟩:=r2.bool Tryz.underlying4;obtain⟨D,sD,hD⟩:=CJ _ _ r3;exact⟨⟨A,B,C,D⟩,⟨_,by simp,sD⟩,⟨wf_i64 hA,wf_u32 hB,hD⟩⟩
theorem TB{w:World}{f:Nat}{cs:List Value}(h:Rd Tryz.prog w f 34 cs):∃ v,∃ l:List pF,cs=[v]∧aC 13 (q8 w) w v l∧(∀ x∈l,pF.Ok x)∧pU l.length:=by
 obtain⟨f',v,rfl,rfl,es,h1,h2,h3⟩:=h.slice Tryz.underlying34;rw[show Tryz.prog.cellsOf 91=13 from by kernel_rfl] at h1 h2;obtain⟨l,e1,e2⟩:=cB (R:=fun cs (x:pF)=>q8 w cs x∧pF.Ok x) (fun cs h=>OA h.2) es h2;rw[e1] at h1 h3;exact⟨v,l,rfl,⟨es,e1,fun x hx=>(h2 x hx).1,h1,fun i x y hx hy=>(e2 i x y hx hy).1⟩,dR e1 e2,bW (of_decide_eq_true (by kernel_rfl)) h3⟩
theorem Sq{w:World}{f:Nat}{cs:List Value}(h:Rd Tryz.prog w f 29 cs):∃ v,∃ l:List aA,cs=[v]∧aC 10 (bB w) w v l∧(∀ x∈l,aA.Ok x)∧pU l.length:=by
 obtain⟨f',v,rfl,rfl,es,h1,h2,h3⟩:=h.slice Tryz.underlying29;rw[show Tryz.prog.cellsOf 89=10 from by kernel_rfl] at h1 h2;obtain⟨l,e1,e2⟩:=cB (R:=fun cs (x:aA)=>bB w cs x∧aA.Ok x) (fun cs h=>CJ _ _ h.2) es h2;rw[e1] at h1 h3;exact⟨v,l,rfl,⟨es,e1,fun x hx=>(h2 x hx).1,h1,fun i x y hx hy=>(e2 i x y hx hy).1⟩,dR e1 e2,bW (of_decide_eq_true (by kernel_rfl)) h3⟩
theorem BA{w:World}{u:Value}(h:Arg Tryz.prog w 39 u):∃ c0 c1 c2 c3 c4 c5 c6 c7 c8 c9 aR aO aN aQ aM aL aP:Value,∃ p:aF,u=.agg #[c0,c1,c2,c3,c4,c5,c6,c7,c8,c9,aR,aO,aN,aQ,aM,aL,aP]∧aK w c0 c1 c2 c3 c4 c5 c6 c7 c8 c9 aR aO aN aQ aM aL aP p∧p.Ok:=by
 obtain⟨f,cs,h,rfl⟩:=h;rw[Tryz.underlying39];obtain⟨f',rfl,h⟩:=h.struct Tryz.underlying39;obtain⟨c0,_,rfl,-,r0,c1,_,rfl,-,r1,c2,_,rfl,-,r2,c3,_,rfl,-,r3,c4,_,rfl,-,r4,c5,_,rfl,-,r5,c6,_,rfl,-,r6,c7,_,rfl,-,r7,c8,_,rfl,-,r8,c9,_,rfl,-,r9,aR,_,rfl,-,r10,aO,_,rfl,-,r11,aN,_,rfl,-,r12,aQ,_,rfl,-,r13,aM,_,rfl,-,r14,aL,_,rfl,-,r15,aP,_,rfl,-,r16,hn⟩:=h;obtain rfl:_=[]:=hn;obtain⟨v0,l0,rfl,s0,o0,b0⟩:=TF r0;obtain⟨v1,l1,rfl,s1,o1,b1⟩:=Ts r1;obtain⟨v2,l2,rfl,s2,o2,b2⟩:=TH r2;obtain⟨v3,l3,rfl,s3,o3,b3⟩:=Tx r3;obtain⟨v4,l4,rfl,s4,o4,b4⟩:=Tq r4;obtain⟨v5,l5,rfl,s5,o5,b5⟩:=TG r5;obtain⟨v6,l6,rfl,s6,o6,b6⟩:=nY r6;obtain⟨v7,l7,rfl,s7,o7,b7⟩:=nY r7;obtain⟨v8,l8,rfl,s8,o8,b8⟩:=Sq r8;obtain⟨v9,l9,rfl,s9,o9,b9⟩:=Ov r9;obtain⟨v10,l10,rfl,s10,o10,b10⟩:=Tt r10;obtain⟨v11,l11,rfl,s11,o11,b11⟩:=Tw r11;obtain⟨v12,l12,rfl,s12,o12,b12⟩:=Tz r12;obtain⟨v13,l13,rfl,s13,o13,b13⟩:=TB r13;obtain⟨v14,l14,rfl,s14,o14,b14⟩:=Tv r14;obtain⟨v15,l15,rfl,s15,o15,b15⟩:=TA r15;obtain⟨v16,l16,rfl,s16,o16,b16⟩:=TJ r16;exact⟨v0,v1,v2,v3,v4,v5,v6,v7,v8,v9,v10,v11,v12,v13,v14,v15,v16,⟨l0,l1,l2,l3,l4,l5,l6,l7,l8,l9,l10,l11,l12,l13,l14,l15,l16⟩,rfl,⟨s0,s1,s2,s3,s4,s5,s6,s7,s8,s9,s10,s11,s12,s13,s14,s15,s16⟩,⟨o0,b0,o1,b1,o2,b2,o3,b3,o4,b4,o5,b5,o6,b6,o7,b7,o8,b8,o9,b9,o10,b10,o11,b11,o12,b12,o13,b13,o14,b14,o15,b15,o16,b16⟩⟩
end Go.Proofs.YtdcofoaihmongaaGreat
namespace Go.Proofs.YtdcofoaihmongaaGreat
open Go Go.RowKit
theorem SliceAt.elt{α:Type}{f:α→List Value}{k n i c:Nat}{w:World}{a:Option Addr}{l:List α}{y:α}(h:SliceAt w (.slice a n c) k n (l.flatMap f))(hf:∀ x,(f x).length=k)(hk:0<k)(hy:l[i]?=some y)(hi:i<n):
 ∃ b off,a=some ⟨b,off,none⟩∧∀ j u,(f y)[j]?=some u→w.cell? ⟨b,off+i*k+j,none⟩=some u:=by
 obtain⟨a',c',e,-,-,h2⟩:=SliceAt.form h hk;injection e with e1 e2 e3;subst e1;obtain⟨b,off,hb,h3⟩:=h2 i hi;refine⟨b,off,hb,fun j u hu=>h3 j u ?_⟩;rw[cE hf hy j (hf y▸(awb.1 hu).1)];exact hu
theorem aU.get{w:World}{v:Value}{l:List ByteArray}(h:aU w v l):∃ a c,v=.slice a l.length c∧l.length≤9223372036854775807∧∀ (i:Nat) s,l[i]?=some s→∃ b off,a=some ⟨b,off,none⟩∧w.cell? ⟨b,off+i*1,none⟩=some (.string s):=by
 obtain⟨a,c,rfl,-,hm,-⟩:=SliceAt.form h (by decide);refine⟨a,c,rfl,hm,fun i s hs=>?_⟩;obtain⟨b,off,e,hc⟩:=SliceAt.elt (f:=aX) h (fun _=>rfl) (by decide) hs (awb.1 hs).1;exact⟨b,off,e,hc 0 _ rfl⟩
theorem dS{α:Type}{f:α→List Value}{k n n' c c' m:Nat}{w0 w:World}{a a':Option Addr}{l r:List α}(hf:∀ x,(f x).length=k)(hk:0<k)(h:SliceAt w0 (.slice a n c) k n (l.flatMap f))(h':SliceAt w0 (.slice a' n' c') k n' (r.flatMap f))(hn:n=l.length)(hn':n'=r.length)(hm:m<l.length)(hl:l.length=r.length)(hb:awh w0.heap.size w0 w):
 ∃ x y b o b' o',l[m]?=some x∧r[m]?=some y∧(a=some ⟨b,o,none⟩∧∀ j u,(f x)[j]?=some u→w.cell? ⟨b,o+m*k+j,none⟩=some u)∧(a'=some ⟨b',o',none⟩∧∀ j u,(f y)[j]?=some u→w.cell? ⟨b',o'+m*k+j,none⟩=some u):=by
 obtain⟨x,hx⟩:∃ x,l[m]?=some x:=⟨_,awp hm⟩;obtain⟨y,hy⟩:∃ y,r[m]?=some y:=⟨_,awp (hl▸hm)⟩;obtain⟨b,o,e,hc⟩:=h.elt hf hk hx (hn▸hm);obtain⟨b',o',e',hc'⟩:=h'.elt hf hk hy (hn'▸hl▸hm);exact⟨x,y,b,o,b',o',hx,hy,⟨e,dH hb hc⟩,e',dH hb hc'⟩
theorem aK.open{w:World}{c0 c1 c2 c3 c4 c5 c6 c7 c8 c9 aR aO aN aQ aM aL aP:Value}{p:aF}(h:aK w c0 c1 c2 c3 c4 c5 c6 c7 c8 c9 aR aO aN aQ aM aL aP p):∃ a0 a1 a2 a3 a4 a5 a6 a7 a8 a9 Qi Qh a12 XQ Qg Qf Qe k0 k1 k2 k3 k4 k5 k6 k7 k8 k9 k10 k11 k12 k13 k14 k15 k16,c0=.slice a0 p.classes.length k0∧c1=.slice a1 p.types.length k1∧c2=.slice a2 p.attrs.length k2∧c3=.slice a3 p.roles.length k3∧c4=.slice a4 p.users.length k4∧c5=.slice a5 p.bools.length k5∧c6=.slice a6 p.bf.length k6∧c7=.slice a7 p.cats.length k7∧c8=.slice a8 p.conds.length k8∧c9=.slice a9 p.rules.length k9∧aR=.slice Qi p.trans.length k10∧aO=.slice Qh p.aT.length k11∧aN=.slice a12 p.ranges.length k12∧aQ=.slice XQ p.cons.length k13∧aM=.slice Qg p.bL.length k14∧aL=.slice Qf p.files.length k15∧aP=.slice Qe p.asserts.length k16:=by
 obtain⟨a0,k0,e0,-⟩:=aC.form h.classes (by decide);obtain⟨a1,k1,e1,-⟩:=aC.form h.types (by decide);obtain⟨a2,k2,e2,-⟩:=SliceAt.form h.attrs (by decide);obtain⟨a3,k3,e3,-⟩:=SliceAt.form h.roles (by decide);obtain⟨a4,k4,e4,-⟩:=SliceAt.form h.users (by decide);obtain⟨a5,k5,e5,-⟩:=SliceAt.form h.bools (by decide);obtain⟨a6,k6,e6,-⟩:=aU.get h.bf;obtain⟨a7,k7,e7,-⟩:=aU.get h.cats;obtain⟨a8,k8,e8,-⟩:=aC.form h.conds (by decide);obtain⟨a9,k9,e9,-⟩:=SliceAt.form h.rules (by decide);obtain⟨Qi,k10,e10,-⟩:=SliceAt.form h.trans (by decide);obtain⟨Qh,k11,e11,-⟩:=SliceAt.form h.aT (by decide);obtain⟨a12,k12,e12,-⟩:=SliceAt.form h.ranges (by decide);obtain⟨XQ,k13,e13,-⟩:=aC.form h.cons (by decide);obtain⟨Qg,k14,e14,-⟩:=SliceAt.form h.bL (by decide);obtain⟨Qf,k15,e15,-⟩:=SliceAt.form h.files (by decide);obtain⟨Qe,k16,e16,-⟩:=SliceAt.form h.asserts (by decide);exact⟨_,_,_,_,_,_,_,_,_,_,_,_,_,_,_,_,_,_,_,_,_,_,_,_,_,_,_,_,_,_,_,_,_,_,e0,e1,e2,e3,e4,e5,e6,e7,e8,e9,e10,e11,e12,e13,e14,e15,e16⟩
theorem bd{t:TypeId}{parts:Array (Nat×Operand)}{vs:List Value}{cells:Array Value}(h:Tryz.prog.built t ((parts.toList.zip vs).map fun x=>(x.1.1,x.2))=some cells)(a:Act)(w:World)(o:Oper)(ho:o.op=.build t parts)(hv:vZ a (iF (.build t parts)) vs):
 (execOp a.eval o).run Tryz.prog w=.ok (.value (.agg cells)) w:=by
 refine vm ho rfl ?_;rw[← h];congr 1;have h1:vs=(parts.toList.map (·.2)).map a.eval:=(vf hv).symm;rw[h1,Array.toList_map];generalize parts.toList=l
 induction l with
 | nil=>rfl
 | cons x r ih=>simp only[List.map_cons,List.zip_cons_cons,ih]
theorem ri{v M:Int}(h:M=v):Ending.returned (kQ [.int .i64 v])=.returned (.int .i64 M):=by rw[h];rfl
theorem rb{v M:Bool}(h:M=v):Ending.returned (kQ [.bool v])=.returned (.bool M):=by rw[h];rfl
theorem je{w:World}{B n:Nat}{u:Value}{xs:List Value}{l:List ByteArray}(h:w.ownsRow B 9 1 u n xs)(hn:n=l.length)(hx:xs=l.flatMap aX):aU w u l:=by
 subst hn hx;exact SliceAt.bC h fun v hv=>by obtain⟨s,-,hs⟩:=List.mem_flatMap.1 hv;simp only[aX,List.mem_singleton] at hs;subst hs;rfl
theorem rF{α:Type}{f:α→ByteArray}{l:List α}{m:Nat}{y:α}(h:l[m]?=some y):((l.take (m+1)).map f).flatMap aX=((l.take m).map f).flatMap aX++[.string (f y)]:=by
 rw[List.take_add_one,h];simp[aX]
theorem aC.elt{α:Type}{k i c:Nat}{R:List Value→α→Prop}{w:World}{a:Option Addr}{l:List α}{y:α}{n:Nat}(h:aC k R w (.slice a n c) l)(hk:0<k)(hy:l[i]?=some y):∃ b off x,a=some ⟨b,off,none⟩∧R x y∧∀ j u,x[j]?=some u→w.cell? ⟨b,off+i*k+j,none⟩=some u:=by
 obtain⟨la,lk,e,-,-,hc⟩:=aC.form h hk;injection e with e1 e2 e3;subst e1;obtain⟨b,off,x,h1,h2,-,h3⟩:=hc i y hy;exact⟨b,off,x,h1,h2,h3⟩
theorem fbp{op:Op}{ty:TypeId}{xs:List Operand}{vs:List Value}{v:Value}{B:Nat}{w0 w:World}{bs:List Bx}{rs:List Rw}{K:Value→List Bx→List Rw→World→Prop}(M:aW B w0 w bs rs)(hx:∀ (a:Act) (o':Oper),o'.op=op→vZ a xs vs→(execOp a.eval o').run Tryz.prog w=.ok (.value v) w)(h:K v bs rs w):
 ∃ R:Value→World→Prop,(∀ (a:Act) (o':Oper),o'.op=op→o'.type=ty→vZ a xs vs→∃ v w',(execOp a.eval o').run Tryz.prog w=.ok (.value v) w'∧R v w')∧∀ v w',R v w'→∃ bs' rs',aW B w0 w' bs' rs'∧K v bs' rs' w':=
 ⟨fun v' w'=>v'=v∧w'=w,fun a o' ho _ hv=>⟨_,_,hx a o' ho hv,rfl,rfl⟩,fun _ _ ⟨h1,h2⟩=>by subst h1 h2;exact⟨_,_,M,h⟩⟩
def aZ(n:Nat):Int:=2^(2^n)-1
theorem five{n:Nat}(h:n≤5):n=0∨n=1∨n=2∨n=3∨n=4∨n=5:=by omega
theorem nt1{n:Nat}(h:n≤5):IntKind.i64.wrap (1*2^((n:Nat):Int).toNat)=((2^n:Nat):Int):=by
 rcases five h with rfl|rfl|rfl|rfl|rfl|rfl<;>rfl
theorem nt2{n:Nat}(h:n≤5):IntKind.i64.wrap ((((2^n:Nat):Int)).tdiv 64)=0:=by
 rcases five h with rfl|rfl|rfl|rfl|rfl|rfl<;>rfl
theorem nt3{n:Nat}(h:n≤5):IntKind.u64.wrap (1*2^((n:Nat):Int).toNat)=((2^n:Nat):Int):=by
 rcases five h with rfl|rfl|rfl|rfl|rfl|rfl<;>rfl
theorem nt4{n:Nat}(h:n≤5):IntKind.u64.wrap (1*2^(((2^n:Nat):Int)).toNat)=aZ n+1:=by
 rcases five h with rfl|rfl|rfl|rfl|rfl|rfl<;>rfl
theorem nt5{n:Nat}(h:n≤5):IntKind.u64.wrap (aZ n+1-1)=aZ n:=by
 rcases five h with rfl|rfl|rfl|rfl|rfl|rfl<;>rfl
theorem nt6{n:Nat}(h:n≤5):2^n≤32:=by
 rcases five h with rfl|rfl|rfl|rfl|rfl|rfl<;>decide
def q5(w:World)(tp mb:Nat)(c0 c1 c2 c3 c4 c5 c6 c7 c8 c9 aR aO aN aQ aM aL aP:Value)(u:Int):Prop:=Whole w tp 304 #[c0,c1,c2,c3,c4,c5,c6,c7,c8,c9,aR,aO,aN,aQ,aM,aL,aP,.int .i64 1,.int .u64 u,.map (some mb)]
def bT(w:World)(base:Nat)(v:Value)(x:Int):Prop:=∃ g,v=.slice (some ⟨g,0,none⟩) 1 1∧Whole w g 52 #[.int .u64 x]∧base≤g
theorem bT.keep{w w':World}{base:Nat}{v:Value}{x:Int}(h:bT w base v x)(hb:awh w.heap.size w w'):bT w' base v x:=by
 obtain⟨g,e,hw,hl⟩:=h;exact⟨g,e,Whole.under hb hw hw.lt,hl⟩
def jZ(i:Int)(k:Nat):Bool:=decide (bits .and .i64 (((0*64)+(k:Int))/2^(i:Int).toNat) 1=1)
def fM(i:Int):Nat→Int
 | 0=>0
 | k+1=>if jZ i k=true then bits .or .u64 (fM i k) (IntKind.u64.wrap (1*2^((k:Int):Int).toNat)) else fM i k
def zx(u i:Int):Int:=bits .and .u64 (fM i 64) u
def notM(u x:Int):Int:=bits .and .u64 (bits .xor .u64 18446744073709551615 x) u
def BI(op:Int):Int:=if op=1 then 0 else if op=2 then 1 else 2
def DU(u op x y:Int):Int:=if op=3 then bits .and .u64 x y else if op=4 then bits .or .u64 x y else if op=6 then bits .and .u64 (bits .xor .u64 18446744073709551615 (bits .xor .u64 x y)) u else bits .xor .u64 x y
def iM(n:Nat)(op a:Int)(k:Nat):Bool:=((!decide ((k:Int)=BI op))||(decide (op=1)&&(decide (a<0)||decide ((n:Int)≤a))))
def LO(u:Int)(n:Nat)(op a:Int)(l:List Int):Int:=
 if iM n op a l.length=true then 0 else if op=1 then zx u a else if op=2 then notM u (l.getD 0 0) else DU u op (l.getD 0 0) (l.getD 1 0)
mutual
def cF(u:Int)(n:Nat):aA→Int
 | .node op a _ _ _ _ kids=>LO u n op a (nP u n kids)
def nP(u:Int)(n:Nat):List aA→List Int
 | []=>[]
 | k::l=>cF u n k::nP u n l
end
theorem uj(u:Int)(n:Nat)(e:aA):cF u n e=LO u n e.op e.a (nP u n e.kids):=by cases e;rw[cF];rfl
theorem pZ(u:Int)(n:Nat):∀ l:List aA,(nP u n l).length=l.length
 | []=>by rw[nP];rfl
 | k::l=>by rw[nP,List.length_cons,List.length_cons,pZ u n l]
theorem uo(u:Int)(n:Nat):∀ (l:List aA) (i:Nat) {y:aA},l[i]?=some y→(nP u n l).getD i 0=cF u n y
 | [],_,_,h=>by simp at h
 | k::l,0,y,h=>by
  rw[nP];obtain rfl:k=y:=by simpa using h
  rfl
 | k::l,i+1,y,h=>by
  rw[nP];simpa using uo u n l i (by simpa using h)
theorem C4{i:Int}{k:Nat}(h:jZ i k=true):fM i (k+1)=bits .or .u64 (fM i k) (IntKind.u64.wrap (1*2^((k:Int):Int).toNat)):=if_pos h
theorem ES{i:Int}{k:Nat}(h:jZ i k=false):fM i (k+1)=fM i k:=if_neg (by rw[h];decide)
theorem nA(w0:World)(c0 c1 c2 c3 c4 c6 c7 c8 c9 aR aO aN aQ aM aL aP:Value)(iu:Option Addr)(nB iq:Nat)(hn:nB≤5):Calls Tryz.prog 148 #[.agg #[c0,c1,c2,c3,c4,.slice iu nB iq,c6,c7,c8,c9,aR,aO,aN,aQ,aM,aL,aP]] w0 (fun(r:Ending) (w':World)=>∃ v,r=.returned v∧((∃ tp mb,v=.pointer (some ⟨tp,0,none⟩)∧q5 w' tp mb c0 c1 c2 c3 c4 (.slice iu nB iq) c6 c7 c8 c9 aR aO aN aQ aM aL aP (aZ nB)∧aV w' Tryz.prog 3 mb (List.map ival [])∧w0.heap.size≤tp∧w0.heap.size≤mb)∧awh w0.heap.size w0 w')):=by
 have hn6:=nt6 hn;have bJ:=hr1 Tryz.prog Tryz.f148 (fun(r:Ending) (w':World)=>∃ v,r=.returned v∧((∃ tp mb,v=.pointer (some ⟨tp,0,none⟩)∧q5 w' tp mb c0 c1 c2 c3 c4 (.slice iu nB iq) c6 c7 c8 c9 aR aO aN aQ aM aL aP (aZ nB)∧aV w' Tryz.prog 3 mb (List.map ival [])∧w0.heap.size≤tp∧w0.heap.size≤mb)∧awh w0.heap.size w0 w')) 28 2 rfl;refine en Tryz.func148 rfl Tryz.ntmps148 rfl (vs:=[.agg #[c0,c1,c2,c3,c4,.slice iu nB iq,c6,c7,c8,c9,aR,aO,aN,aQ,aM,aL,aP]]) rfl fun _ F=>?_
 have M:=Mm.start w0;refine awq fun K1 gU=>ah<|Ig (on rfl) rfl (F.u rf) rfl F rfl M fun g1 _ _ F M=>xA (v:=(.pointer none)) F rf rf rf fun _ F=>awi<|gU _ _ ?_
 refine awq fun K2 iy=>ah<|xF 5 F rf rf rf OW rf aio rf fun _ F=>xL F (M.b 0 rfl) rf rf rf u27 rf rf fun _ F=>kz F rf (fK rfl (F.u rf) u27) fun _ F=>
  ke (on rfl) (adE rfl (F.u rf) rfl) rfl F rfl (congrArg (Value.int .i64) (if_neg (by omega))) fun _ F=>
  xA F rf rf rf fun _ F=>
  awi<|
  iy _ _ ?_
 refine awq fun K3 nE=>?_
 refine rd 9 [9,10,11,12,13,14,15,16,4] [bI (.agg #[c0,c1,c2,c3,c4,.slice iu nB iq,c6,c7,c8,c9,aR,aO,aN,aQ,aM,aL,aP]),bI (.int .i64 (nB:Int)),bI (.int .i64 ((2^nB:Nat):Int)),bI (.int .i64 0),bI (.int .i64 1),(H_ M.wd),(La M.wd #[c0,c1,c2,c3,c4,.slice iu nB iq,c6,c7,c8,c9,aR,aO,aN,aQ,aM,aL,aP,.int .i64 1,.int .u64 18446744073709551615]),(Dl M.wd 304 #[c0,c1,c2,c3,c4,.slice iu nB iq,c6,c7,c8,c9,aR,aO,aN,aQ,aM,aL,aP,.int .i64 1,.int .u64 18446744073709551615]),(Dl M.wd 304 #[c0,c1,c2,c3,c4,.slice iu nB iq,c6,c7,c8,c9,aR,aO,aN,aQ,aM,aL,aP,.int .i64 1,.int .u64 18446744073709551615])] (by kernel_rfl) (by kernel_rfl) (by kernel_rfl) rfl (by decide) rfl rfl F ⟨ak _,ak _,ak _,ak _,ak _,RP _,JN _ _,yV _ _ _,yV _ _ _,trivial⟩ ⟨?_,?_,?_,?_,?_,?_,?_,?_,?_,trivial⟩ ?_
 ·exact fun a w Q' hf hi H G hK=>dv (on rfl) (Ax rfl (G 1 _ rfl (F.g 1 rfl)).ev OW rfl ((M.keep hi).b 0 rfl) Bh rfl) rfl hf rfl hK rfl
 ·exact fun a w Q' hf hi H G hK=>dv (on rfl) (cW rfl (G 3 _ rfl (F.g 3 rfl)).ev) rfl hf rfl hK rfl
 ·exact fun a w Q' hf hi H G hK=>dv (on rfl) (mX rfl rfl (iA (H 1 ⟨.data,by simp,rfl⟩ _ _ rfl rfl)).ev (by omega) (show _≤((64:Nat):Int) by omega)) rfl hf rfl hK (Eq.symm (congrArg (Value.int .i64) (nt1 hn)))
 ·exact fun a w Q' hf hi H G hK=>dv (on rfl) (PW rfl (iA (H 2 ⟨.data,by simp,rfl⟩ _ _ rfl rfl)).ev rfl (by decide)) rfl hf rfl hK (Eq.symm (congrArg (Value.int .i64) (nt2 hn)))
 ·exact fun a w Q' hf hi H G hK=>dv (on rfl) (CQ rfl rfl (iA (H 3 ⟨.data,by simp,rfl⟩ _ _ rfl rfl)).ev) rfl hf rfl hK (Eq.symm rfl)
 ·exact fun a w Q' hf hi H G hK=>dmk (on rfl) rfl Fh rfl hf rfl hi hK
 ·intro a w Q' hf hi H G hK;obtain⟨_,F4,mb2,rfl,ajE,aiN⟩:=H 5 ⟨.data,by simp,rfl⟩ _ _ rfl rfl;exact dv (on rfl) (vm rfl (pv:=#[(0,.agg #[c0,c1,c2,c3,c4,.slice iu nB iq,c6,c7,c8,c9,aR,aO,aN,aQ,aM,aL,aP]),(1,.int .i64 1),(2,.int .u64 18446744073709551615),(3,(.map (some mb2)))]) (by simp[(iA (H 0 ⟨.data,by simp,rfl⟩ _ _ rfl rfl)).ev,(iA (H 4 ⟨.data,by simp,rfl⟩ _ _ rfl rfl)).ev,F4.ev,BigFrame.eval_const]) (cells:=#[c0,c1,c2,c3,c4,.slice iu nB iq,c6,c7,c8,c9,aR,aO,aN,aQ,aM,aL,aP,.int .i64 1,.int .u64 18446744073709551615,.map (some mb2)]) (by kernel_rfl)) rfl hf rfl hK ⟨mb2,rfl,ajE,aiN⟩
 ·intro a w Q' hf hi H G hK;obtain⟨_,Cw,mbx,rfl,xI,lmx⟩:=H 6 ⟨.data,by simp,rfl⟩ _ _ rfl rfl;exact dn (f:=fun n=>.pointer (some ⟨n,0,none⟩)) (on rfl) (P0 rfl Cw.ev) rfl hf rfl hK (fun b w' n=>⟨b,mbx,rfl,n.whole,xI.kept (n.below.block _ xI.lt),n.at_▸hi.size,lmx⟩)
 ·intro a w Q' hf hi H G hK;obtain⟨_,Cv,tpx,mbx,rfl,htx,xI,ltx,lmx⟩:=H 7 ⟨.data,by simp,rfl⟩ _ _ rfl rfl;exact dv (on rfl) (oy rfl Cv.ev) rfl hf rfl hK ⟨tpx,mbx,rfl,htx,xI,ltx,lmx⟩
 (repeat clear F);intro _ _ Dq F D
 have M0:=M;have ajX:=Dq;obtain⟨_,h,tpx,mbx,rfl,htx,xI,ltx,lmx⟩:=D 8 _ _ rfl rfl;have F:=F.add h;have M:=M.keep Dq;clear D Dq;have M:=M0.FP ajX (b1:=(tpx,304,#[c0,c1,c2,c3,c4,.slice iu nB iq,c6,c7,c8,c9,aR,aO,aN,aQ,aM,aL,aP,.int .i64 1,.int .u64 18446744073709551615,(.map (some mbx))])) (.inl ⟨rfl,htx⟩) ltx (b2:=(mbx,9003,eF [])) (mU xI) lmx (gM htx xI);refine nE _ _ ?_
 refine awq fun K4 ox=>awq fun K5 ow=>ah<|xM F rf rf rf fun _ F=>
  ke (on rfl) (mX rfl rfl (F.u rf) (by omega) (show _≤((64:Nat):Int) by omega)) rfl F rfl (congrArg (Value.int .i64) (nt1 hn)) fun _ F=>
  kz F rf (jo rfl (F.u rf) rfl) fun _ F=>
  awi<|
  ow _ _ ?_
 refine awr (F.e 19 rfl) (fun hc3=>?_) (fun hc3=>?_)
 ·have V6:=of_decide_eq_true hc3
  refine ah<|xM F rf rf rf fun _ F=>xM F rf rf rf fun _ F=>
   ke (on rfl) (mX rfl rfl (F.u rf) (by omega) (show _≤((64:Nat):Int) by omega)) rfl F rfl (congrArg (Value.int .u64) (nt3 hn)) fun _ F=>
   ke (on rfl) (mX rfl rfl (F.u rf) (Int.natCast_nonneg _) (Int.ofNat_le.2 (Nat.le_trans hn6 (by decide)))) rfl F rfl (congrArg (Value.int .u64) (nt4 hn)) fun _ F=>
   ke (on rfl) (Kp rfl (F.u rf) rfl) rfl F rfl (congrArg (Value.int .u64) (nt5 hn)) fun _ F=>
   kz F rf (dL rfl (F.u rf)) fun _ F=>
   xF 18 F rf rf rf zL rf kC rf fun _ F=>
   ks (on rfl) rfl (F.u rf) (F.u rf) F M 0 (cs':=#[c0,c1,c2,c3,c4,.slice iu nB iq,c6,c7,c8,c9,aR,aO,aN,aQ,aM,aL,aP,.int .i64 1,.int .u64 (aZ nB),(.map (some mbx))]) rfl rfl rfl kC rfl rfl rfl rfl fun _ M=>
   awi<|
   ox _ _ ?_
  refine awq fun K6 pT=>ah<|xM F rf rf rf fun _ F=>xA F rf rf rf fun _ F=>awi<|pT _ _ ?_
  refine wp_ret<|bJ _ _ _ _ F rfl ?_;exact⟨_,rfl,⟨_,_,rfl,M.b 0 rfl,M.map 1 rfl,M.lo _ (awg (i:=0) rfl),M.lo _ (awg (i:=1) rfl)⟩,M.below⟩
 ·have TL:=of_decide_eq_false hc3;exfalso;omega
theorem FL(w0:World)(op:Int):Calls Tryz.prog 232 #[.int .i64 op] w0 (fun(e:Ending) (w':World)=>e=.returned (.int .i64 (BI op))∧awh w0.heap.size w0 w'):=by
 exact dD [] (fn:=Tryz.f232) Tryz.func232 rfl Tryz.ntmps232 rfl<|an (fun a=>fun M=>⟨ri (by simp_all [BI]),M.below⟩) fun a=>an (fun b=>fun M=>⟨ri (by simp_all [BI]),M.below⟩) fun b=>fun M=>⟨ri (by simp_all [BI]),M.below⟩
theorem KO(w0:World)(tp mb:Nat)(c0 c1 c2 c3 c4 c6 c7 c8 c9 aR aO aN aQ aM aL aP:Value)(iu:Option Addr)(nB iq:Nat)(u:Int)(hT:q5 w0 tp mb c0 c1 c2 c3 c4 (.slice iu nB iq) c6 c7 c8 c9 aR aO aN aQ aM aL aP u)(bi:Int)(hb0:0≤bi)(hb1:bi≤60):Calls Tryz.prog 233 #[.pointer (some ⟨tp,0,none⟩),.int .i64 bi] w0 (fun(r:Ending) (w':World)=>∃ v,r=.returned v∧((bT w' w0.heap.size v (zx u bi))∧awh w0.heap.size w0 w')):=by
 have TM:∀ j uu,[c0,c1,c2,c3,c4,.slice iu nB iq,c6,c7,c8,c9,aR,aO,aN,aQ,aM,aL,aP,.int .i64 1,.int .u64 u,(.map (some mb))][j]?=some uu→w0.cell? ⟨tp,0+j,none⟩=some uu:=fun j u hu=>by rw[Nat.zero_add];exact(Whole.cell hT j).trans (by simpa using hu)
 have bJ:=hr1 Tryz.prog Tryz.f233 (fun(r:Ending) (w':World)=>∃ v,r=.returned v∧((bT w' w0.heap.size v (zx u bi))∧awh w0.heap.size w0 w')) 50 4 rfl;refine en Tryz.func233 rfl Tryz.ntmps233 rfl (vs:=[.pointer (some ⟨tp,0,none⟩),.int .i64 bi]) rfl fun _ F=>?_
 have M:=Mm.start w0;refine awq fun K1 gU=>ah<|xA (v:=.slice none 0 0) F rf rf rf fun _ F=>awi<|gU _ _ ?_
 refine awq fun K2 iy=>ah<|xM F rf rf rf fun _ F=>kz F rf (dL rfl (F.u rf)) fun _ F=>xF 17 F rf rf rf zL rf UC rf fun _ F=>kz F rf (b_ rf (F.u rf) u3 rfl ((dH M.below TM) 17 _ rfl)) fun _ F=>
  kn (f:=fun n=>.slice (some ⟨n,0,none⟩) 1 1) (on rfl) (Aw rfl (F.u rf) (F.u rf) Bb JX TS rfl (by decide)) rfl F rfl M fun g1 _ _ F M=>
  xA F rf rf rf fun _ F=>
  awi<|
  iy _ _ ?_
 refine awq fun K3 nE=>awq fun K4 ox=>ah<|xM F rf rf rf fun _ F=>kz F rf (fK rfl (F.u rf) Bb) fun _ F=>xM (v:=.int .i64 0) F rf rf rf fun _ F=>awi<|ox _ _ ?_
 refine wp_block<|?_;refine eH (ι:=Nat×Int) (fun|(t,x),a,w=>Fs a 50 [(0,.pointer (some ⟨tp,0,none⟩)),(1,.int .i64 bi),(5,.slice (some ⟨g1,0,none⟩) 1 1),(14,.int .i64 1),(15,.int .i64 (t:Int))]∧Mm w0 w [(g1,52,#[.int .u64 x])] []∧t≤1∧(t=0→x=0)∧(t=1→x=zx u bi)) (fun|(t,x)=>1-t) (0,0) ⟨F.sub ⟨rfl,rfl,rfl,rfl,rfl,trivial⟩,M,aws _,⟨fun _=>rfl,fun h=>by cases h⟩⟩ ?_
 (repeat clear F);(repeat clear M)
 rintro⟨t,x⟩ _ _ ⟨F,M,ht,hx⟩;refine awq fun K5 ow=>ah<|kz F rf (jo rfl (F.u rf) (F.u rf)) fun _ F=>awi<|ow _ _ ?_
 refine awq fun K6 pT=>?_
 refine awr (F.e 16 rfl) (fun hc2=>?_) (fun hc2=>?_)
 ·have hd3:=of_decide_eq_true hc2;refine wp_skip<|pT _ _ ?_;refine awq fun K7 rS=>wp_block<|awq fun K8 xK=>?_
  have ht0:t=0:=by omega
  have F:=F.eq 15 rfl (congrArg (Value.int .i64) (show((t:Nat):Int)=0 by omega));refine ah<|xM F rf rf rf fun _ F=>xA F rf rf rf fun _ F=>awi<|xK _ _ ?_
  refine awq fun K9 zf=>awq fun Xy lZ=>ah<|xM (v:=.int .i64 0) F rf rf rf fun _ F=>awi<|lZ _ _ ?_
  refine wp_block<|?_;refine eH (ι:=Nat×Int) (fun|(k,acc),a,w=>Fs a 50 [(0,.pointer (some ⟨tp,0,none⟩)),(1,.int .i64 bi),(5,.slice (some ⟨g1,0,none⟩) 1 1),(6,.int .i64 0),(14,.int .i64 1),(15,.int .i64 0),(18,.int .i64 (k:Int))]∧Mm w0 w [(g1,52,#[.int .u64 acc])] []∧k≤64∧acc=fM bi k) (fun|(k,acc)=>64-k) (0,x) ⟨F.sub ⟨rfl,rfl,rfl,rfl,rfl,rfl,rfl,trivial⟩,M,aws _,hx.1 ht0⟩ ?_
  (repeat clear F);(repeat clear M)
  rintro⟨k,acc⟩ _ _ ⟨F,M,hk,hacc⟩;refine awq fun K11 qH=>ah<|kz F rf (jo rfl (F.u rf) rfl) fun _ F=>awi<|qH _ _ ?_
  refine awq fun K12 pR=>?_
  refine awr (F.e 19 rfl) (fun R8=>?_) (fun R8=>?_)
  ·have TL:=of_decide_eq_true R8;refine wp_skip<|pR _ _ ?_;refine awq fun K13 pQ=>wp_block<|awq fun K14 tO=>ah<|xM F rf rf rf fun _ F=>xA F rf rf rf fun _ F=>awi<|tO _ _ ?_
   refine awq fun K15 rT=>ah<|xM F rf rf rf fun _ F=>
    ke (on rfl) (Xb rfl (F.u rf) rfl) rfl F rfl (congrArg (Value.int .i64) (wrap_i64 (by omega))) fun _ F=>
    xM F rf rf rf fun _ F=>
    ke (on rfl) (eX rfl (F.u rf) (F.u rf)) rfl F rfl (congrArg (Value.int .i64) (wrap_i64 (by omega))) fun _ F=>
    xM F rf rf rf fun _ F=>
    kz F rf (W8 rfl (F.u rf) (F.u rf) (by omega) (show _≤((64:Nat):Int) by omega)) fun _ F=>
    kz F rf (Kt rfl (F.u rf) rfl) fun _ F=>
    kz F rf (PX rfl (F.u rf) rfl) fun _ F=>
    awi<|
    rT _ _ ?_
   refine awr (F.e 28 rfl) (fun rQ=>?_) (fun rQ=>?_)
   ·have hd7:=of_decide_eq_true rQ;have hbit:jZ bi k=true:=rQ;refine rd 8 [29,30,31,32,33,34,35,36] [bI (.slice (some ⟨g1,0,none⟩) 1 1),bI (.int .i64 0),bI (.pointer (some ⟨g1,0,none⟩)),bI (.int .u64 acc),bI (.int .i64 (k:Int)),bI (.int .u64 (IntKind.u64.wrap (1*2^((k:Int):Int).toNat))),bI (.int .u64 (bits .or .u64 acc (IntKind.u64.wrap (1*2^((k:Int):Int).toNat)))),bI (.pointer (some ⟨g1,0,none⟩))] (by kernel_rfl) (by kernel_rfl) (by kernel_rfl) rfl (by decide) rfl rfl F ⟨ak _,ak _,ak _,ak _,ak _,ak _,ak _,ak _,trivial⟩ ⟨?_,?_,?_,?_,?_,?_,?_,?_,trivial⟩ ?_
    ·exact fun a w Q' hf hi H G hK=>dv (on rfl) (cW rfl (G 5 _ rfl (F.g 5 rfl)).ev) rfl hf rfl hK rfl
    ·exact fun a w Q' hf hi H G hK=>dv (on rfl) (cW rfl (G 6 _ rfl (F.g 6 rfl)).ev) rfl hf rfl hK rfl
    ·exact fun a w Q' hf hi H G hK=>dv (on rfl) (bD (i:=0) rfl (iA (H 0 ⟨.data,by simp,rfl⟩ _ _ rfl rfl)).ev (iA (H 1 ⟨.data,by simp,rfl⟩ _ _ rfl rfl)).ev (by omega) Bb kC) rfl hf rfl hK rfl
    ·exact fun a w Q' hf hi H G hK=>dv (on rfl) (b_ rfl (iA (H 2 ⟨.data,by simp,rfl⟩ _ _ rfl rfl)).ev OV rfl (((M.keep hi).b 0 rfl).c1 0)) rfl hf rfl hK rfl
    ·exact fun a w Q' hf hi H G hK=>dv (on rfl) (cW rfl (G 7 _ rfl (F.g 7 rfl)).ev) rfl hf rfl hK rfl
    ·exact fun a w Q' hf hi H G hK=>dv (on rfl) (mX rfl rfl (iA (H 4 ⟨.data,by simp,rfl⟩ _ _ rfl rfl)).ev (by omega) (show _≤((64:Nat):Int) by omega)) rfl hf rfl hK rfl
    ·exact fun a w Q' hf hi H G hK=>dv (on rfl) (W9 rfl (iA (H 3 ⟨.data,by simp,rfl⟩ _ _ rfl rfl)).ev (iA (H 5 ⟨.data,by simp,rfl⟩ _ _ rfl rfl)).ev) rfl hf rfl hK rfl
    ·exact fun a w Q' hf hi H G hK=>dv (on rfl) (bD (i:=0) rfl (iA (H 0 ⟨.data,by simp,rfl⟩ _ _ rfl rfl)).ev (iA (H 1 ⟨.data,by simp,rfl⟩ _ _ rfl rfl)).ev (by omega) Bb kC) rfl hf rfl hK rfl
    (repeat clear F);intro _ _ Dq F D
    obtain⟨_,h,rfl⟩:=D 6 _ _ rfl rfl;have F:=F.add h;obtain⟨_,h,rfl⟩:=D 7 _ _ rfl rfl;have F:=F.add h;have M:=M.keep Dq;clear D Dq;intro Qt Wg;refine ks (on rfl) rfl (F.u rf) (F.u rf) F M 0 (cs':=#[.int .u64 (bits .or .u64 acc (IntKind.u64.wrap (1*2^((k:Int):Int).toNat)))]) rfl rfl rfl kC rfl (jA _ _ rfl) rfl rfl fun _ M=>awi (Wg _ _ ?_)
    refine pQ _ _ ?_
    refine ah<|
     ke (on rfl) (eX rfl (F.u rf) rfl) rfl F rfl (congrArg (Value.int .i64) (wrap_i64 (by omega))) fun _ F=>
     xM F rf rf rf fun _ F=>
     awi<|?_
    exact⟨(k+1,bits .or .u64 acc (IntKind.u64.wrap (1*2^((k:Int):Int).toNat))),⟨F.sub ⟨rfl,rfl,rfl,rfl,rfl,rfl,rfl,trivial⟩,M,by omega,by rw[C4 hbit,← hacc]⟩,by show 64-(k+1)<64-k;omega⟩
   ·have hd8:=of_decide_eq_false rQ;have hbit:jZ bi k=false:=rQ;refine wp_skip<|pQ _ _ ?_
    refine ah<|
     ke (on rfl) (eX rfl (F.u rf) rfl) rfl F rfl (congrArg (Value.int .i64) (wrap_i64 (by omega))) fun _ F=>
     xM F rf rf rf fun _ F=>
     awi<|?_
    exact⟨(k+1,acc),⟨F.sub ⟨rfl,rfl,rfl,rfl,rfl,rfl,rfl,trivial⟩,M,by omega,by rw[ES hbit,← hacc]⟩,by show 64-(k+1)<64-k;omega⟩
  ·have hd9:=of_decide_eq_false R8;refine wp_exit<|zf _ _ ?_;refine rd 10 [38,39,40,41,42,43,44,45,46,47] [bI (.slice (some ⟨g1,0,none⟩) 1 1),bI (.int .i64 0),bI (.pointer (some ⟨g1,0,none⟩)),bI (.int .u64 acc),bI (.pointer (some ⟨tp,0,none⟩)),bI (.pointer (some ⟨tp,0,none⟩)),bI (.pointer (some ⟨tp,18,none⟩)),bI (.int .u64 u),bI (.int .u64 (bits .and .u64 acc u)),bI (.pointer (some ⟨g1,0,none⟩))] (by kernel_rfl) (by kernel_rfl) (by kernel_rfl) rfl (by decide) rfl rfl F ⟨ak _,ak _,ak _,ak _,ak _,ak _,ak _,ak _,ak _,ak _,trivial⟩ ⟨?_,?_,?_,?_,?_,?_,?_,?_,?_,?_,trivial⟩ ?_
   ·exact fun a w Q' hf hi H G hK=>dv (on rfl) (cW rfl (G 5 _ rfl (F.g 5 rfl)).ev) rfl hf rfl hK rfl
   ·exact fun a w Q' hf hi H G hK=>dv (on rfl) (cW rfl (G 6 _ rfl (F.g 6 rfl)).ev) rfl hf rfl hK rfl
   ·exact fun a w Q' hf hi H G hK=>dv (on rfl) (bD (i:=0) rfl (iA (H 0 ⟨.data,by simp,rfl⟩ _ _ rfl rfl)).ev (iA (H 1 ⟨.data,by simp,rfl⟩ _ _ rfl rfl)).ev (by omega) Bb kC) rfl hf rfl hK rfl
   ·exact fun a w Q' hf hi H G hK=>dv (on rfl) (b_ rfl (iA (H 2 ⟨.data,by simp,rfl⟩ _ _ rfl rfl)).ev OV rfl (((M.keep hi).b 0 rfl).c1 0)) rfl hf rfl hK rfl
   ·exact fun a w Q' hf hi H G hK=>dv (on rfl) (cW rfl (G 0 _ rfl (F.g 0 rfl)).ev) rfl hf rfl hK rfl
   ·exact fun a w Q' hf hi H G hK=>dv (on rfl) (dL rfl (iA (H 4 ⟨.data,by simp,rfl⟩ _ _ rfl rfl)).ev) rfl hf rfl hK rfl
   ·exact fun a w Q' hf hi H G hK=>dv (on rfl) (kV rfl (iA (H 5 ⟨.data,by simp,rfl⟩ _ _ rfl rfl)).ev zL rfl kC) rfl hf rfl hK rfl
   ·exact fun a w Q' hf hi H G hK=>dv (on rfl) (b_ rfl (iA (H 6 ⟨.data,by simp,rfl⟩ _ _ rfl rfl)).ev OV rfl ((dH (M.keep hi).below TM) 18 _ rfl)) rfl hf rfl hK rfl
   ·exact fun a w Q' hf hi H G hK=>dv (on rfl) (Kt rfl (iA (H 3 ⟨.data,by simp,rfl⟩ _ _ rfl rfl)).ev (iA (H 7 ⟨.data,by simp,rfl⟩ _ _ rfl rfl)).ev) rfl hf rfl hK rfl
   ·exact fun a w Q' hf hi H G hK=>dv (on rfl) (bD (i:=0) rfl (iA (H 0 ⟨.data,by simp,rfl⟩ _ _ rfl rfl)).ev (iA (H 1 ⟨.data,by simp,rfl⟩ _ _ rfl rfl)).ev (by omega) Bb kC) rfl hf rfl hK rfl
   (repeat clear F);intro _ _ Dq F D
   obtain⟨_,h,rfl⟩:=D 8 _ _ rfl rfl;have F:=F.add h;obtain⟨_,h,rfl⟩:=D 9 _ _ rfl rfl;have F:=F.add h;have M:=M.keep Dq;clear D Dq;intro Qt Wg;refine ks (on rfl) rfl (F.u rf) (F.u rf) F M 0 (cs':=#[.int .u64 (bits .and .u64 acc u)]) rfl rfl rfl kC rfl (jA _ _ rfl) rfl rfl fun _ M=>awi (Wg _ _ ?_)
   refine rS _ _ ?_;have F:=F.eq 15 rfl (congrArg (Value.int .i64) (show(0:Int)=((t:Nat):Int) by omega))
   refine ah<|
    ke (on rfl) (eX rfl (F.u rf) rfl) rfl F rfl (congrArg (Value.int .i64) (wrap_i64 (by omega))) fun _ F=>
    xM F rf rf rf fun _ F=>
    awi<|?_
   exact⟨(t+1,bits .and .u64 acc u),⟨F.sub ⟨rfl,rfl,rfl,rfl,rfl,trivial⟩,M,by omega,⟨fun h=>by omega,fun _=>by rw[show k=64 by omega] at hacc;rw[hacc];rfl⟩⟩,by show 1-(t+1)<1-t;omega⟩
 ·have af5:=of_decide_eq_false hc2;refine wp_exit<|nE _ _ ?_;refine awq fun K16 F3=>ah<|xM F rf rf rf fun _ F=>xA F rf rf rf fun _ F=>awi<|F3 _ _ ?_
  refine wp_ret<|bJ _ _ _ _ F rfl ?_;exact⟨_,rfl,⟨_,rfl,(by have hW:=M.b 0 rfl;rw[hx.2 (by omega)] at hW;exact hW),M.lo _ (awg (i:=0) rfl)⟩,M.below⟩
def yp:Nat→ay
 | 0=>ay.zero
 | k+1=>(yp k).with (k:Int)
def ay.all(n:Nat):ay:=yp (min n 256)
theorem Hw:∀ k,(yp k).Ok
 | 0=>zW
 | k+1=>ay.zX (Hw k) _
theorem Bz(w:World)(n:Nat)(hn:n≤140737488355328):Calls Tryz.prog 104 #[.int .i64 (n:Int)] w fun e w'=>e=.returned (.agg #[.int .u64 (ay.all n).a,.int .u64 (ay.all n).b,.int .u64 (ay.all n).c,.int .u64 (ay.all n).d])∧awh w.heap.size w w':=by
 refine dD [] (fn:=Tryz.f104) Tryz.func104 rfl Tryz.ntmps104 rfl<|ei<|an Im fun g1 w1 M1=>ei (x:=.agg #[.int .u64 0,.int .u64 0,.int .u64 0,.int .u64 0])<|an (bd (by kernel_rfl))<|ei<|an Im fun g2 w2 M2=>lb 0<|an ⟨rfl,rfl⟩ fun w3 M3=>lp (ι:=Nat) (fun k=>[(4,.int .i64 (k:Int))]) (fun k=>[(g2,54,#[.int .u64 (yp k).a,.int .u64 (yp k).b,.int .u64 (yp k).c,.int .u64 (yp k).d]),_]) (fun _=>[]) (fun k _=>k≤n∧k≤256) (fun k=>256-k) 0 (an ⟨⟨rfl,trivial⟩,fun M=>⟨M,aws _,aws _⟩⟩ ?_)
 intro k w M ⟨hk1,hk2⟩;refine an (fun h=>?_) fun h=>?_
 ·simp only[awa,decide_eq_true_eq] at h;exact lb 0<|an rfl<|cl<|an (Ee _ (yp k) (Hw k) k) fun w4 M4=>lb 0<|an ⟨rfl,rfl⟩ fun w5 M5=>an (by omega)<|bk (k+1) ⟨rfl,trivial⟩ (fun M=>⟨M,by omega⟩) (by dsimp only;omega)
 ·obtain rfl:k=min n 256:=by
   rw[Bool.and_eq_false_iff,decide_eq_false_iff_not,decide_eq_false_iff_not] at h;omega
  exact lb 0<|an rfl<|lb 1<|an ⟨rfl,rfl⟩ fun w M=>ei (x:=1)<|an rfl fun M=>⟨rfl,M.below⟩
theorem vE{w:World}{g:Nat}{s:ay}{k:Nat}(h:Whole w g 54 #[.int .u64 s.a,.int .u64 s.b,.int .u64 s.c,.int .u64 s.d])(hk:k<4):w.cell? ⟨g,k,none⟩=some (.int .u64 (s.word k)):=by
 have h1:=h.cell k
 rwa [show(#[.int .u64 s.a,.int .u64 s.b,.int .u64 s.c,.int .u64 s.d]:Array Value)[k]?=some (.int .u64 (s.word k)) by rw[← Array.getElem?_toList];exact s.vG hk] at h1
def rX(x y:Nat):Nat:=x&&&(18446744073709551615-y)
theorem ZT{x:Nat}(hx:zV x)(y:Nat):zV (rX x y):=Nat.lt_of_le_of_lt Nat.and_le_left hx
def ay.minus(a b:ay):ay:=⟨rX a.a b.a,rX a.b b.b,rX a.c b.c,rX a.d b.d⟩
theorem ay.AV(a b:ay){j:Nat}(hj:j<4):(a.minus b).word j=rX (a.word j) (b.word j):=by
 rcases four hj with rfl|rfl|rfl|rfl<;>rfl
theorem ay.Ue{a b:ay}(h:∀ j,j<4→a.word j=b.word j):a=b:=by
 have h0:=h 0 (by decide);have h1:=h 1 (by decide);have h2:=h 2 (by decide);have h3:=h 3 (by decide);obtain⟨p,q,r,s⟩:=a;obtain⟨p',q',r',s'⟩:=b;simp[ay.word] at h0 h1 h2 h3;clear h;simp[h0,h1,h2,h3]
theorem Mk(w:World)(a b:ay)(ha:a.Ok)(hb:b.Ok):Calls Tryz.prog 194 #[.agg #[.int .u64 a.a,.int .u64 a.b,.int .u64 a.c,.int .u64 a.d],.agg #[.int .u64 b.a,.int .u64 b.b,.int .u64 b.c,.int .u64 b.d]] w fun e w'=>e=.returned (.agg #[.int .u64 (a.minus b).a,.int .u64 (a.minus b).b,.int .u64 (a.minus b).c,.int .u64 (a.minus b).d])∧awh w.heap.size w w':=by
 have HOA:=awt ha;have HOB:=awt hb;clear ha hb;obtain⟨wo,bP⟩:∃ wo,wo=((w.alloc (.cells #[.int .u64 a.a,.int .u64 a.b,.int .u64 a.c,.int .u64 a.d] 54)).alloc (.cells #[.int .u64 b.a,.int .u64 b.b,.int .u64 b.c,.int .u64 b.d] 54)).alloc (.cells #[.int .u64 0,.int .u64 0,.int .u64 0,.int .u64 0] 54):=⟨_,rfl⟩;have HA0:=awt (show Whole wo w.heap.size 54 #[.int .u64 a.a,.int .u64 a.b,.int .u64 a.c,.int .u64 a.d] by rw[bP];exact((Whole.new w 54 _).alloc _).alloc _);have HA1:=awt (show Whole wo (w.heap.size+1) 54 #[.int .u64 b.a,.int .u64 b.b,.int .u64 b.c,.int .u64 b.d] by rw[bP];exact(dh w _ _ _).alloc _);have HA2:=awt (show Whole wo (w.heap.size+2) 54 #[.int .u64 0,.int .u64 0,.int .u64 0,.int .u64 0] by rw[bP];have h:=dh (w.alloc (.cells #[.int .u64 a.a,.int .u64 a.b,.int .u64 a.c,.int .u64 a.d] 54)) (.cells #[.int .u64 b.a,.int .u64 b.b,.int .u64 b.c,.int .u64 b.d] 54) #[.int .u64 0,.int .u64 0,.int .u64 0,.int .u64 0] 54;simpa using h);have fG:=awt (show awh w.heap.size w wo by rw[bP];exact(((Below.refl _ w).alloc (Nat.le_refl _) _).alloc (by simp) _).alloc (by simp;omega) _)
 go_enter Tryz.func194,Tryz.ntmps194
 go_upto_region 1 with(fail)
 rw[← bP];clear bP
 go_wp2_with fail
 go_loopw [5] (fun i wr=>∃ (k:Nat) (s:ay),k≤4∧i=.int .i64 k∧(∀ j,j<4→s.word j=if j<k then rX (a.word j) (b.word j) else a.word j)∧Whole wr w.heap.size 54 #[.int .u64 s.a,.int .u64 s.b,.int .u64 s.c,.int .u64 s.d]∧Whole wr (w.heap.size+1) 54 #[.int .u64 b.a,.int .u64 b.b,.int .u64 b.c,.int .u64 b.d]∧Whole wr (w.heap.size+2) 54 #[.int .u64 0,.int .u64 0,.int .u64 0,.int .u64 0]∧awh w.heap.size w wr) (fun i _=>4-(intOf i).toNat)
 case atStart=>exact⟨0,a,by omega,rfl,fun j _=>rfl,HA0.out,HA1.out,HA2.out,fG.out⟩
 case round=>
  clear HA0 HA1 HA2 fG;obtain⟨k,s,hk,rfl,hse,h0,h1,h2,hbw⟩:=hrel;have HSE:=awt hse;have Qo:=awt h0;have jy:=awt h1;have nL:=awt h2;have XR:=awt hbw;clear hse h0 h1 h2 hbw;by_cases hlt:k<4
  ·obtain⟨x,hx⟩:∃ x,x=a.word k:=⟨_,rfl⟩;obtain⟨y,hy⟩:∃ y,y=b.word k:=⟨_,rfl⟩;have hsk:s.word k=x:=by rw[HSE.out k hlt,if_neg (Nat.lt_irrefl k),hx]
   have HKA:=awt (show wr.cell? ⟨w.heap.size,k,none⟩=some (.int .u64 (x:Int)) by rw[← hsk];exact vE Qo.out hlt);have HKB:=awt (show wr.cell? ⟨w.heap.size+1,k,none⟩=some (.int .u64 (y:Int)) by rw[hy];exact vE jy.out hlt);have HAN:=awt (u64_andNot_nat x y (by rw[hx];exact ay.iJ HOA.out k) (by rw[hy];exact ay.iJ HOB.out k))
   have ak7:=awt (show ∀ j,j<4→(s.put k (x&&&(18446744073709551615-y))).word j=if j<k+1 then rX (a.word j) (b.word j) else a.word j by
    intro j hj;rw[ay.II s hlt hj];by_cases e:j=k
    ·subst e;rw[if_pos rfl,if_pos (by omega),hx,hy];rfl
    ·rw[if_neg e,HSE.out j hj];by_cases e2:j<k
     ·rw[if_pos e2,if_pos (by omega)]
     ·rw[if_neg e2,if_neg (by omega)])
   clear hx hy hsk HSE
   go_wp2_with fail
   refine dP (fun w w'=>Below w.heap.size w w') [some 10,some 11,some 12,some 13,some 14,some 15,some 16,some 17,some 18] [bI (.int .i64 (k:Int)),bI (.int .i64 (k:Int)),bI (.pointer (some ⟨w.heap.size,k,none⟩)),bI (.int .u64 (x:Int)),bI (.int .i64 (k:Int)),bI (.pointer (some ⟨w.heap.size+1,k,none⟩)),bI (.int .u64 (y:Int)),bI (.int .u64 ((x&&&(18446744073709551615-y):Nat):Int)),bI (.pointer (some ⟨w.heap.size,k,none⟩))] (fun _ w'=>awh wr.heap.size wr w') 9 (by kernel_rfl) (by kernel_rfl) (by kernel_rfl) rfl (by decide) rfl rfl ((Below.refl _ _).drew) ⟨ak _,ak _,ak _,ak _,ak _,ak _,ak _,ak _,ak _,trivial⟩ ⟨(fun _=>aq _),(fun _=>aq _),(fun _=>aq _),(fun _=>aq _),(fun _=>aq _),(fun _=>aq _),(fun _=>aq _),(fun _=>aq _),(fun _=>aq _),trivial⟩ ⟨?_,?_,?_,?_,?_,?_,?_,?_,?_,?_⟩
   ·intro L a wx Q' hL hi H F hK
    try dsimp only at hi
    have h5:a.tmps[5]?=some (.int .i64 (k:Int)):=F 5 rfl;have HI:=awt hi;clear H F hi hL
    go_wp2_with fail
    exact hK _ _ (Below.refl _ _) HI.out rfl
   ·intro L a wx Q' hL hi H F hK
    try dsimp only at hi
    have h5:a.tmps[5]?=some (.int .i64 (k:Int)):=F 5 rfl;have HI:=awt hi;clear H F hi hL
    go_wp2_with fail
    exact hK _ _ (Below.refl _ _) HI.out rfl
   ·intro L a wx Q' hL hi H F hK
    try dsimp only at hi
    obtain⟨_,nF,rfl⟩:=H 1 ⟨.data,by simp,rfl⟩ _ rfl;replace nF:=nF _ rfl;have h2:a.tmps[2]?=some (.pointer (some ⟨w.heap.size,0,none⟩)):=F 2 rfl;have HI:=awt hi;clear H F hi hL
    go_wp2_with fail
    exact hK _ _ (Below.refl _ _) HI.out rfl
   ·intro L a wx Q' hL hi H F hK
    try dsimp only at hi
    obtain⟨_,h12,rfl⟩:=H 2 ⟨.data,by simp,rfl⟩ _ rfl;replace h12:=h12 _ rfl;have HI:=awt hi;clear H F hi hL;have kk:wx.cell? ⟨w.heap.size,k,none⟩=some (.int .u64 (x:Int)):=awu HI.out HKA.out
    go_wp2_with fail
    exact hK _ _ (Below.refl _ _) HI.out rfl
   ·intro L a wx Q' hL hi H F hK
    try dsimp only at hi
    have h5:a.tmps[5]?=some (.int .i64 (k:Int)):=F 5 rfl;have HI:=awt hi;clear H F hi hL
    go_wp2_with fail
    exact hK _ _ (Below.refl _ _) HI.out rfl
   ·intro L a wx Q' hL hi H F hK
    try dsimp only at hi
    obtain⟨_,F4,rfl⟩:=H 4 ⟨.data,by simp,rfl⟩ _ rfl;replace F4:=F4 _ rfl;have h3:a.tmps[3]?=some (.pointer (some ⟨w.heap.size+1,0,none⟩)):=F 3 rfl;have HI:=awt hi;clear H F hi hL
    go_wp2_with fail
    exact hK _ _ (Below.refl _ _) HI.out rfl
   ·intro L a wx Q' hL hi H F hK
    try dsimp only at hi
    obtain⟨_,Cw,rfl⟩:=H 5 ⟨.data,by simp,rfl⟩ _ rfl;replace Cw:=Cw _ rfl;have HI:=awt hi;clear H F hi hL;have kk:wx.cell? ⟨w.heap.size+1,k,none⟩=some (.int .u64 (y:Int)):=awu HI.out HKB.out
    go_wp2_with fail
    exact hK _ _ (Below.refl _ _) HI.out rfl
   ·intro L a wx Q' hL hi H F hK
    try dsimp only at hi
    obtain⟨_,EH,rfl⟩:=H 3 ⟨.data,by simp,rfl⟩ _ rfl;replace EH:=EH _ rfl;obtain⟨_,Cv,rfl⟩:=H 6 ⟨.data,by simp,rfl⟩ _ rfl;replace Cv:=Cv _ rfl;have HI:=awt hi;clear H F hi hL
    go_wp2_with fail
    exact hK _ _ (Below.refl _ _) HI.out (congrArg (Value.int IntKind.u64) HAN.out.symm)
   ·intro L a wx Q' hL hi H F hK
    try dsimp only at hi
    obtain⟨_,Le,rfl⟩:=H 0 ⟨.data,by simp,rfl⟩ _ rfl;replace Le:=Le _ rfl;have h2:a.tmps[2]?=some (.pointer (some ⟨w.heap.size,0,none⟩)):=F 2 rfl;have HI:=awt hi;clear H F hi hL
    go_wp2_with fail
    exact hK _ _ (Below.refl _ _) HI.out rfl
   ·intro a wx hl L hi hL Q' hK
    try dsimp only at hi
    have HB:=awt hi;clear hi hL;obtain⟨_,rfl,_,rfl,_,rfl,_,rfl,_,rfl,_,rfl,_,rfl,_,rfl,_,rfl,rfl⟩:=hl;simp only[List.setIfInBounds_toArray,List.set_cons_zero,List.set_cons_succ];have HX:=awt (Whole.under HB.out Qo.out Qo.out.lt);have HY:=awt (Whole.under HB.out jy.out jy.out.lt);have HZ:=awt (Whole.under HB.out nL.out nL.out.lt);have Li:=awt (XR.out.trans (HB.out.mono XR.out.size));clear HB Qo jy nL XR
    go_wp2_with (refine aG rfl 52 _ _ rfl (w.heap.size) k (.int .u64 ((x&&&(18446744073709551615-y):Nat):Int)) rfl rfl 54 _ HX.out (by simp[Value.cells];omega) Fq rfl ?_;intro w2 S2 W2;have q7:=awt S2;have HW2:=awt (show Whole w2 w.heap.size 54 #[.int .u64 (s.put k (x&&&(18446744073709551615-y))).a,.int .u64 (s.put k (x&&&(18446744073709551615-y))).b,.int .u64 (s.put k (x&&&(18446744073709551615-y))).c,.int .u64 (s.put k (x&&&(18446744073709551615-y))).d] from by rw[sV s hlt _];exact W2);clear S2 W2)
    go_roundw
    case rel=>exact⟨k+1,s.put k (x&&&(18446744073709551615-y)),by omega,by go_num,ak7.out,HW2.out,q7.out.whole HY.out (by omega),q7.out.whole HZ.out (by omega),Li.out.trans (q7.out.below (by omega))⟩
    case measure=>simp[intOf];omega
  ·obtain rfl:k=4:=by omega
   have HF:=awt (show s=a.minus b from ay.Ue fun j hj=>by rw[HSE.out j hj,if_pos hj,ay.AV a b hj])
   go_wp2_with (first|(refine wpList_load_row rfl 54 _ rfl (w.heap.size) rfl 54 _ (0,0) _ Qo.out Tryz.underlying54 rfl cO ?_)|(refine aG rfl 54 _ _ rfl (w.heap.size+2) 0 (.agg #[.int .u64 s.a,.int .u64 s.b,.int .u64 s.c,.int .u64 s.d]) rfl rfl 54 _ nL.out (by simp[Value.cells]) cO rfl ?_;intro w3 SW3 WW3;rw[bp _ _ (by rfl)] at WW3;have ad2:=awt SW3;have HW3:=awt (show Whole w3 (w.heap.size+2) 54 #[.int .u64 s.a,.int .u64 s.b,.int .u64 s.c,.int .u64 s.d] from WW3);clear SW3 WW3 nL))
   have e0:w3.cell? ⟨w.heap.size+2,0,none⟩=some (.int .u64 s.a):=HW3.out.cell 0;have e1:w3.cell? ⟨w.heap.size+2,1,none⟩=some (.int .u64 s.b):=HW3.out.cell 1;have e2:w3.cell? ⟨w.heap.size+2,2,none⟩=some (.int .u64 s.c):=HW3.out.cell 2;have e3:w3.cell? ⟨w.heap.size+2,3,none⟩=some (.int .u64 s.d):=HW3.out.cell 3;refine bodyPost_ret (v:=.agg #[.int .u64 s.a,.int .u64 s.b,.int .u64 s.c,.int .u64 s.d]) ?_ rfl ⟨by rw[HF.out],XR.out.trans (ad2.out.below (by omega))⟩;simp[results,Tryz.results194,go_sem,e0,e1,e2,e3]
def ay.within(a b:ay):Bool:=decide (a.minus b=ay.zero)
def ay.unit(s:ay):ay:=⟨rX s.a 1,s.b,s.c,s.d⟩
theorem ay.X5{s:ay}(h:s.Ok):s.unit.Ok:=⟨ZT h.a _,h.b,h.c,h.d⟩
theorem DC(w:World)(s:ay)(hs:s.Ok):Calls Tryz.prog 195 #[.agg #[.int .u64 s.a,.int .u64 s.b,.int .u64 s.c,.int .u64 s.d],.int .i64 0] w fun e w'=>e=.returned (.agg #[.int .u64 s.unit.a,.int .u64 s.unit.b,.int .u64 s.unit.c,.int .u64 s.unit.d])∧awh w.heap.size w w':=by
 have HAN:=awt (u64_andNot_nat s.a 1 hs.a (by decide));clear hs;obtain⟨wo,bP⟩:∃ wo,wo=(w.alloc (.cells #[.int .u64 s.a,.int .u64 s.b,.int .u64 s.c,.int .u64 s.d] 54)).alloc (.cells #[.int .u64 0,.int .u64 0,.int .u64 0,.int .u64 0] 54):=⟨_,rfl⟩;have HA0:=awt (show Whole wo w.heap.size 54 #[.int .u64 s.a,.int .u64 s.b,.int .u64 s.c,.int .u64 s.d] by rw[bP];exact(Whole.new w 54 _).alloc _);have HA1:=awt (show Whole wo (w.heap.size+1) 54 #[.int .u64 0,.int .u64 0,.int .u64 0,.int .u64 0] by rw[bP];exact dh w _ _ _);have fG:=awt (show awh w.heap.size w wo by rw[bP];exact((Below.refl _ w).alloc (Nat.le_refl _) _).alloc (by simp) _);have HK0:=awt (show wo.cell? ⟨w.heap.size,0,none⟩=some (.int .u64 (s.a:Int)) from HA0.out.cell 0)
 go_enter Tryz.func195,Tryz.ntmps195
 go_upto_region 1 with(fail)
 rw[← bP];clear bP
 go_wp2_with fail
 refine dP (fun w w'=>Below w.heap.size w w') [some 11,some 12,some 13,some 14,some 15,some 16,some 17,some 18,some 19,some 20] [bI (.int .i64 0),bI (.int .i64 0),bI (.int .i64 0),bI (.int .i64 0),bI (.pointer (some ⟨w.heap.size,0,none⟩)),bI (.int .u64 (s.a:Int)),bI (.int .i64 0),bI (.int .u64 ((1:Nat):Int)),bI (.int .u64 ((rX s.a 1:Nat):Int)),bI (.pointer (some ⟨w.heap.size,0,none⟩))] (fun _ w'=>awh wo.heap.size wo w') 10 (by kernel_rfl) (by kernel_rfl) (by kernel_rfl) rfl (by decide) rfl rfl ((Below.refl _ _).drew) ⟨ak _,ak _,ak _,ak _,ak _,ak _,ak _,ak _,ak _,ak _,trivial⟩ ⟨(fun _=>aq _),(fun _=>aq _),(fun _=>aq _),(fun _=>aq _),(fun _=>aq _),(fun _=>aq _),(fun _=>aq _),(fun _=>aq _),(fun _=>aq _),(fun _=>aq _),trivial⟩ ⟨?_,?_,?_,?_,?_,?_,?_,?_,?_,?_,?_⟩
 ·intro L a wx Q' hL hi H F hK
  try dsimp only at hi
  have h1:a.tmps[1]?=some (.int .i64 0):=F 1 rfl;have HI:=awt hi;clear H F hi hL
  go_wp2_with fail
  exact hK _ _ (Below.refl _ _) HI.out rfl
 ·intro L a wx Q' hL hi H F hK
  try dsimp only at hi
  obtain⟨_,nF,rfl⟩:=H 0 ⟨.data,by simp,rfl⟩ _ rfl;replace nF:=nF _ rfl;have HI:=awt hi;clear H F hi hL
  go_wp2_with fail
  exact hK _ _ (Below.refl _ _) HI.out rfl
 ·intro L a wx Q' hL hi H F hK
  try dsimp only at hi
  have h1:a.tmps[1]?=some (.int .i64 0):=F 1 rfl;have HI:=awt hi;clear H F hi hL
  go_wp2_with fail
  exact hK _ _ (Below.refl _ _) HI.out rfl
 ·intro L a wx Q' hL hi H F hK
  try dsimp only at hi
  obtain⟨_,EH,rfl⟩:=H 2 ⟨.data,by simp,rfl⟩ _ rfl;replace EH:=EH _ rfl;have HI:=awt hi;clear H F hi hL
  go_wp2_with fail
  exact hK _ _ (Below.refl _ _) HI.out rfl
 ·intro L a wx Q' hL hi H F hK
  try dsimp only at hi
  obtain⟨_,F4,rfl⟩:=H 3 ⟨.data,by simp,rfl⟩ _ rfl;replace F4:=F4 _ rfl;have h2:a.tmps[2]?=some (.pointer (some ⟨w.heap.size,0,none⟩)):=F 2 rfl;have HI:=awt hi;clear H F hi hL
  go_wp2_with fail
  exact hK _ _ (Below.refl _ _) HI.out rfl
 ·intro L a wx Q' hL hi H F hK
  try dsimp only at hi
  obtain⟨_,Cw,rfl⟩:=H 4 ⟨.data,by simp,rfl⟩ _ rfl;replace Cw:=Cw _ rfl;have HI:=awt hi;clear H F hi hL;have kk:wx.cell? ⟨w.heap.size,0,none⟩=some (.int .u64 (s.a:Int)):=awu HI.out HK0.out
  go_wp2_with fail
  exact hK _ _ (Below.refl _ _) HI.out rfl
 ·intro L a wx Q' hL hi H F hK
  try dsimp only at hi
  have h1:a.tmps[1]?=some (.int .i64 0):=F 1 rfl;have HI:=awt hi;clear H F hi hL
  go_wp2_with fail
  exact hK _ _ (Below.refl _ _) HI.out rfl
 ·intro L a wx Q' hL hi H F hK
  try dsimp only at hi
  obtain⟨_,NI,rfl⟩:=H 6 ⟨.data,by simp,rfl⟩ _ rfl;replace NI:=NI _ rfl;have HI:=awt hi;clear H F hi hL
  go_wp2_with (go_at_call 64;go_must (refine(Hs _ 0 (by decide)).mono ?_;rintro e w1 ⟨rfl,rfl⟩))
  exact hK _ _ (Below.refl _ _) HI.out rfl
 ·intro L a wx Q' hL hi H F hK
  try dsimp only at hi
  obtain⟨_,Cv,rfl⟩:=H 5 ⟨.data,by simp,rfl⟩ _ rfl;replace Cv:=Cv _ rfl;obtain⟨_,NH,rfl⟩:=H 7 ⟨.data,by simp,rfl⟩ _ rfl;replace NH:=NH _ rfl;have HI:=awt hi;clear H F hi hL
  go_wp2_with fail
  exact hK _ _ (Below.refl _ _) HI.out (congrArg (Value.int IntKind.u64) HAN.out.symm)
 ·intro L a wx Q' hL hi H F hK
  try dsimp only at hi
  obtain⟨_,h12,rfl⟩:=H 1 ⟨.data,by simp,rfl⟩ _ rfl;replace h12:=h12 _ rfl;have h2:a.tmps[2]?=some (.pointer (some ⟨w.heap.size,0,none⟩)):=F 2 rfl;have HI:=awt hi;clear H F hi hL
  go_wp2_with fail
  exact hK _ _ (Below.refl _ _) HI.out rfl
 ·intro a wx hl L hi hL Q' hK
  try dsimp only at hi
  have HB:=awt hi;clear hi hL;obtain⟨_,rfl,_,rfl,_,rfl,_,rfl,_,rfl,_,rfl,_,rfl,_,rfl,_,rfl,_,rfl,rfl⟩:=hl;simp only[List.setIfInBounds_toArray,List.set_cons_zero,List.set_cons_succ];have HX:=awt (Whole.under HB.out HA0.out HA0.out.lt);have HY:=awt (Whole.under HB.out HA1.out HA1.out.lt);have Li:=awt (fG.out.trans (HB.out.mono fG.out.size));clear HB HA0 HA1 fG
  go_wp2_with (first|(refine aG rfl 52 _ _ rfl (w.heap.size) 0 (.int .u64 ((rX s.a 1:Nat):Int)) rfl rfl 54 _ HX.out (by simp[Value.cells]) Fq rfl ?_;intro w2 S2 W2;have q7:=awt S2;have HW2:=awt (show Whole w2 w.heap.size 54 #[.int .u64 s.unit.a,.int .u64 s.unit.b,.int .u64 s.unit.c,.int .u64 s.unit.d] from W2);clear S2 W2 HX)|(refine wpList_load_row rfl 54 _ rfl (w.heap.size) rfl 54 _ (0,0) _ HW2.out Tryz.underlying54 rfl cO ?_)|(have HZ:=awt (q7.out.whole HY.out (by omega));refine aG rfl 54 _ _ rfl (w.heap.size+1) 0 (.agg #[.int .u64 s.unit.a,.int .u64 s.unit.b,.int .u64 s.unit.c,.int .u64 s.unit.d]) rfl rfl 54 _ HZ.out (by simp[Value.cells]) cO rfl ?_;intro w3 SW3 WW3;rw[bp _ _ (by rfl)] at WW3;have ad2:=awt SW3;have HW3:=awt (show Whole w3 (w.heap.size+1) 54 #[.int .u64 s.unit.a,.int .u64 s.unit.b,.int .u64 s.unit.c,.int .u64 s.unit.d] from WW3);clear SW3 WW3 HZ))
  have e0:w3.cell? ⟨w.heap.size+1,0,none⟩=some (.int .u64 s.unit.a):=HW3.out.cell 0;have e1:w3.cell? ⟨w.heap.size+1,1,none⟩=some (.int .u64 s.unit.b):=HW3.out.cell 1;have e2:w3.cell? ⟨w.heap.size+1,2,none⟩=some (.int .u64 s.unit.c):=HW3.out.cell 2;have e3:w3.cell? ⟨w.heap.size+1,3,none⟩=some (.int .u64 s.unit.d):=HW3.out.cell 3;refine bodyPost_ret (v:=.agg #[.int .u64 s.unit.a,.int .u64 s.unit.b,.int .u64 s.unit.c,.int .u64 s.unit.d]) ?_ rfl ⟨rfl,(Li.out.trans (q7.out.below (Nat.le_refl _))).trans (ad2.out.below (by omega))⟩;simp[results,Tryz.results195,go_sem,e0,e1,e2,e3]
theorem nM(t:ay)(W:World):(Op.equalIn 10000 54 (.agg #[.int .u64 t.a,.int .u64 t.b,.int .u64 t.c,.int .u64 t.d]) (.agg #[.int .u64 0,.int .u64 0,.int .u64 0,.int .u64 0])).run Tryz.prog W=.ok (decide (t=ay.zero)) W:=by
 rw[adp];congr 1;obtain⟨a,b,c,d⟩:=t;simp[ay.zero]
theorem qq(w:World)(a b:ay)(ha:a.Ok)(hb:b.Ok):Calls Tryz.prog 105 #[.agg #[.int .u64 a.a,.int .u64 a.b,.int .u64 a.c,.int .u64 a.d],.agg #[.int .u64 b.a,.int .u64 b.b,.int .u64 b.c,.int .u64 b.d]] w fun e w'=>e=.returned (.bool (a.within b))∧awh w.heap.size w w':=by
 have HOA:=awt ha;have HOB:=awt hb;obtain⟨t,ht⟩:∃ t,t=a.minus b:=⟨_,rfl⟩;have HT:=awt ht;unfold ay.within;rw[← ht];have hq:∀ W,(Op.equalIn 10000 54 (.agg #[.int .u64 t.a,.int .u64 t.b,.int .u64 t.c,.int .u64 t.d]) (.agg #[.int .u64 0,.int .u64 0,.int .u64 0,.int .u64 0])).run Tryz.prog W=.ok (decide (t=ay.zero)) W:=nM t;obtain⟨q,hqq⟩:∃ q,q=decide (t=ay.zero):=⟨_,rfl⟩;rw[← hqq];rw[← hqq] at hq;clear ha hb ht hqq;obtain⟨wo,bP⟩:∃ wo,wo=(w.alloc (.cells #[.int .u64 a.a,.int .u64 a.b,.int .u64 a.c,.int .u64 a.d] 54)).alloc (.cells #[.int .u64 b.a,.int .u64 b.b,.int .u64 b.c,.int .u64 b.d] 54):=⟨_,rfl⟩;have HA0:=awt (show Whole wo w.heap.size 54 #[.int .u64 a.a,.int .u64 a.b,.int .u64 a.c,.int .u64 a.d] by rw[bP];exact(Whole.new w 54 _).alloc _);have HA1:=awt (show Whole wo (w.heap.size+1) 54 #[.int .u64 b.a,.int .u64 b.b,.int .u64 b.c,.int .u64 b.d] by rw[bP];exact dh w _ _ _);have fG:=awt (show awh w.heap.size w wo by rw[bP];exact((Below.refl _ w).alloc (Nat.le_refl _) _).alloc (by simp) _)
 go_enter Tryz.func105,Tryz.ntmps105
 go_upto_region 1 with(fail)
 rw[← bP];clear bP
 go_wp2_with (first|(refine wpList_load_row rfl 54 _ rfl (w.heap.size) rfl 54 _ (0,0) _ HA0.out Tryz.underlying54 rfl cO ?_)|(refine wpList_load_row rfl 54 _ rfl (w.heap.size+1) rfl 54 _ (0,0) _ HA1.out Tryz.underlying54 rfl cO ?_)|(go_at_call 194;go_must (refine(Mk wo a b HOA.out HOB.out).mono ?_;rintro e w1 ⟨rfl,hb1⟩;rw[← HT.out];have jy:=awt hb1;clear hb1)))
 go_ret
 exact⟨rfl,fG.out.trans (jy.out.mono fG.out.size)⟩
theorem aC.size{α:Type}{k:Nat}{R:List Value→α→Prop}{w:World}{v:Value}{l:List α}(h:aC k R w v l)(hk:0<k):∃ a c,v=.slice a l.length c∧l.length≤c∧l.length≤9223372036854775807:=by
 obtain⟨a,c,h1,h2,h3,-⟩:=h.form hk;exact⟨a,c,h1,h2,h3⟩
theorem dU{w:World}{v:Value}{k n:Nat}{cs:List Value}(h:SliceAt w v k n cs)(hk:0<k):∃ a c,v=.slice a n c∧n≤c∧n≤9223372036854775807:=by
 obtain⟨a,c,h1,h2,h3,-⟩:=h.form hk;exact⟨a,c,h1,h2,h3⟩
theorem aK.f0{w:World}{c0 c1 c2 c3 c4 c5 c6 c7 c8 c9 aR aO aN aQ aM aL aP:Value}{p:aF}(h:aK w c0 c1 c2 c3 c4 c5 c6 c7 c8 c9 aR aO aN aQ aM aL aP p):∃ a c,c0=.slice a p.classes.length c∧p.classes.length≤c∧p.classes.length≤9223372036854775807:=aC.size h.classes (by decide)
theorem aK.f1{w:World}{c0 c1 c2 c3 c4 c5 c6 c7 c8 c9 aR aO aN aQ aM aL aP:Value}{p:aF}(h:aK w c0 c1 c2 c3 c4 c5 c6 c7 c8 c9 aR aO aN aQ aM aL aP p):∃ a c,c1=.slice a p.types.length c∧p.types.length≤c∧p.types.length≤9223372036854775807:=aC.size h.types (by decide)
theorem aK.f2{w:World}{c0 c1 c2 c3 c4 c5 c6 c7 c8 c9 aR aO aN aQ aM aL aP:Value}{p:aF}(h:aK w c0 c1 c2 c3 c4 c5 c6 c7 c8 c9 aR aO aN aQ aM aL aP p):∃ a c,c2=.slice a p.attrs.length c∧p.attrs.length≤c∧p.attrs.length≤9223372036854775807:=dU h.attrs (by decide)
theorem aK.f3{w:World}{c0 c1 c2 c3 c4 c5 c6 c7 c8 c9 aR aO aN aQ aM aL aP:Value}{p:aF}(h:aK w c0 c1 c2 c3 c4 c5 c6 c7 c8 c9 aR aO aN aQ aM aL aP p):∃ a c,c3=.slice a p.roles.length c∧p.roles.length≤c∧p.roles.length≤9223372036854775807:=dU h.roles (by decide)
theorem aK.f4{w:World}{c0 c1 c2 c3 c4 c5 c6 c7 c8 c9 aR aO aN aQ aM aL aP:Value}{p:aF}(h:aK w c0 c1 c2 c3 c4 c5 c6 c7 c8 c9 aR aO aN aQ aM aL aP p):∃ a c,c4=.slice a p.users.length c∧p.users.length≤c∧p.users.length≤9223372036854775807:=dU h.users (by decide)
theorem aK.f5{w:World}{c0 c1 c2 c3 c4 c5 c6 c7 c8 c9 aR aO aN aQ aM aL aP:Value}{p:aF}(h:aK w c0 c1 c2 c3 c4 c5 c6 c7 c8 c9 aR aO aN aQ aM aL aP p):∃ a c,c5=.slice a p.bools.length c∧p.bools.length≤c∧p.bools.length≤9223372036854775807:=dU h.bools (by decide)
theorem aK.f6{w:World}{c0 c1 c2 c3 c4 c5 c6 c7 c8 c9 aR aO aN aQ aM aL aP:Value}{p:aF}(h:aK w c0 c1 c2 c3 c4 c5 c6 c7 c8 c9 aR aO aN aQ aM aL aP p):∃ a c,c6=.slice a p.bf.length c∧p.bf.length≤c∧p.bf.length≤9223372036854775807:=dU h.bf (by decide)
theorem aK.f7{w:World}{c0 c1 c2 c3 c4 c5 c6 c7 c8 c9 aR aO aN aQ aM aL aP:Value}{p:aF}(h:aK w c0 c1 c2 c3 c4 c5 c6 c7 c8 c9 aR aO aN aQ aM aL aP p):∃ a c,c7=.slice a p.cats.length c∧p.cats.length≤c∧p.cats.length≤9223372036854775807:=dU h.cats (by decide)
theorem aK.f8{w:World}{c0 c1 c2 c3 c4 c5 c6 c7 c8 c9 aR aO aN aQ aM aL aP:Value}{p:aF}(h:aK w c0 c1 c2 c3 c4 c5 c6 c7 c8 c9 aR aO aN aQ aM aL aP p):∃ a c,c8=.slice a p.conds.length c∧p.conds.length≤c∧p.conds.length≤9223372036854775807:=aC.size h.conds (by decide)
theorem aK.f9{w:World}{c0 c1 c2 c3 c4 c5 c6 c7 c8 c9 aR aO aN aQ aM aL aP:Value}{p:aF}(h:aK w c0 c1 c2 c3 c4 c5 c6 c7 c8 c9 aR aO aN aQ aM aL aP p):∃ a c,c9=.slice a p.rules.length c∧p.rules.length≤c∧p.rules.length≤9223372036854775807:=dU h.rules (by decide)
theorem aK.f11{w:World}{c0 c1 c2 c3 c4 c5 c6 c7 c8 c9 aR aO aN aQ aM aL aP:Value}{p:aF}(h:aK w c0 c1 c2 c3 c4 c5 c6 c7 c8 c9 aR aO aN aQ aM aL aP p):∃ a c,aO=.slice a p.aT.length c∧p.aT.length≤c∧p.aT.length≤9223372036854775807:=dU h.aT (by decide)
theorem aK.f12{w:World}{c0 c1 c2 c3 c4 c5 c6 c7 c8 c9 aR aO aN aQ aM aL aP:Value}{p:aF}(h:aK w c0 c1 c2 c3 c4 c5 c6 c7 c8 c9 aR aO aN aQ aM aL aP p):∃ a c,aN=.slice a p.ranges.length c∧p.ranges.length≤c∧p.ranges.length≤9223372036854775807:=dU h.ranges (by decide)
def bA(i n:Int):Bool:=decide (0≤i)&&decide (i<n)
theorem cC(w:World)(i n:Int):Calls Tryz.prog 113 #[.int .i64 i,.int .i64 n] w fun e w'=>e=.returned (.bool (bA i n))∧w=w':=by
 unfold bA
 cases h:decide (0≤i) with
 | false=>
  go_enter Tryz.func113,Tryz.ntmps113
  go_wp2
  go_ret
  exact⟨rfl,rfl⟩
 | true=>
  go_enter Tryz.func113,Tryz.ntmps113
  go_wp2
  go_ret
  exact⟨rfl,rfl⟩
def xX(a b:rY):Bool:=decide (b.bf≤a.bf)&&decide (rX b.cats a.cats=0)
theorem vu(w:World)(a b:rY)(ha:a.Ok)(hb:b.Ok):Calls Tryz.prog 109 #[.agg #[.int .i64 a.bf,.int .u64 a.cats],.agg #[.int .i64 b.bf,.int .u64 b.cats]] w fun e w'=>e=.returned (.bool (xX a b))∧awh w.heap.size w w':=by
 have hd:(bits .andNot .u64 (b.cats:Int) (a.cats:Int) == 0)=decide (rX b.cats a.cats=0):=by
  rw[u64_andNot_nat b.cats a.cats hb.cats ha.cats];show(((rX b.cats a.cats:Nat):Int) == 0)=_;rw[awv];simp
 have HD:=awt hd;clear hd ha hb;obtain⟨wo,bP⟩:∃ wo,wo=((w).alloc (.cells #[.int .i64 a.bf,.int .u64 a.cats] 70)).alloc (.cells #[.int .i64 b.bf,.int .u64 b.cats] 70):=⟨_,rfl⟩;have W0:=awt (show Whole wo w.heap.size 70 #[.int .i64 a.bf,.int .u64 a.cats] by rw[bP];exact((show Whole _ w.heap.size 70 #[.int .i64 a.bf,.int .u64 a.cats] from Whole.new w 70 _).alloc _));have W1:=awt (show Whole wo (w.heap.size+1) 70 #[.int .i64 b.bf,.int .u64 b.cats] by rw[bP];exact(dh w _ _ _));have fG:=awt (show awh w.heap.size w wo by rw[bP];exact(((Below.refl _ w).alloc (Nat.le_refl _) _).alloc (by simp) _));have ka0:wo.cell? ⟨w.heap.size,0,none⟩=some (.int .i64 a.bf):=W0.out.cell 0;have ka1:wo.cell? ⟨w.heap.size,1,none⟩=some (.int .u64 a.cats):=W0.out.cell 1;have kb0:wo.cell? ⟨w.heap.size+1,0,none⟩=some (.int .i64 b.bf):=W1.out.cell 0;have kb1:wo.cell? ⟨w.heap.size+1,1,none⟩=some (.int .u64 b.cats):=W1.out.cell 1;unfold xX;by_cases h:b.bf≤a.bf
 ·have h1:decide (b.bf≤a.bf)=true:=by simp[h]
  rw[h1]
  go_enter Tryz.func109,Tryz.ntmps109
  go_upto_region 1 with(fail)
  rw[← bP];clear bP
  go_wp2
  go_ret
  exact⟨aH (by rw[← HD.out];rfl),fG.out⟩
 ·have h1:decide (b.bf≤a.bf)=false:=by simp[h]
  rw[h1]
  go_enter Tryz.func109,Tryz.ntmps109
  go_upto_region 1 with(fail)
  rw[← bP];clear bP
  go_wp2
  go_ret
  exact⟨rfl,fG.out⟩
def vA(n:Nat)(k:Int):Bool:=decide (-(n:Int)≤k)&&decide (k≤(n:Int))
theorem KA(w:World)(c0 c1 c2 c3 c4 c5 c6 c7 c8 c9 aR aO aN aQ aM aL aP:Value)(p:aF)(hp:aK w c0 c1 c2 c3 c4 c5 c6 c7 c8 c9 aR aO aN aQ aM aL aP p)(k:Int):Calls Tryz.prog 112 #[.agg #[c0,c1,c2,c3,c4,c5,c6,c7,c8,c9,aR,aO,aN,aQ,aM,aL,aP],.int .i64 k] w fun e w'=>e=.returned (.bool (vA p.conds.length k))∧awh w.heap.size w w':=by
 obtain⟨a8,k8,rfl,hk8,hm8⟩:=aK.f8 hp;obtain⟨n8,hn8⟩:∃ n,n=p.conds.length:=⟨_,rfl⟩;have N8:=awt hn8;rw[← hn8] at hk8 hm8 ⊢;clear hn8;obtain⟨wo,bP⟩:∃ wo,wo=(w).alloc (.cells #[c0,c1,c2,c3,c4,c5,c6,c7,.slice a8 n8 k8,c9,aR,aO,aN,aQ,aM,aL,aP] 39):=⟨_,rfl⟩;have W0:=awt (show Whole wo w.heap.size 39 #[c0,c1,c2,c3,c4,c5,c6,c7,.slice a8 n8 k8,c9,aR,aO,aN,aQ,aM,aL,aP] by rw[bP];exact(Whole.new w 39 _));have fG:=awt (show awh w.heap.size w wo by rw[bP];exact((Below.refl _ w).alloc (Nat.le_refl _) _));have kp8:wo.cell? ⟨w.heap.size,8,none⟩=some (.slice a8 n8 k8):=W0.out.cell 8;clear hp;unfold vA;by_cases h:-(n8:Int)≤k
 ·have h1:decide (-(n8:Int)≤k)=true:=by simp[h]
  rw[h1]
  go_enter Tryz.func112,Tryz.ntmps112
  go_upto_region 1 with(fail)
  rw[← bP];clear bP
  go_wp2
  go_ret
  exact⟨aH (by simp),fG.out⟩
 ·have h1:decide (-(n8:Int)≤k)=false:=by simp[h]
  rw[h1]
  go_enter Tryz.func112,Tryz.ntmps112
  go_upto_region 1 with(fail)
  rw[← bP];clear bP
  go_wp2
  go_ret
  exact⟨aH (by simp),fG.out⟩
def dZ(s:ByteArray)(i:Nat):Nat:=if h:i<s.size then (s[i]'h).toNat else 0
theorem oB{s:ByteArray}{i:Nat}(h:i<s.size):(s[i]'h).toNat=dZ s i:=by unfold dZ;rw[dif_pos h]
theorem oA(s:ByteArray)(i:Nat):dZ s i<256:=by
 unfold dZ;split
 ·exact UInt8.toNat_lt _
 ·decide
def C5(s:ByteArray)(i:Nat):Bool:=decide ((dZ s i:Int)<32)||decide ((126:Int)<dZ s i)||decide ((dZ s i:Int)=34)
def oK(s:ByteArray):Bool:=!(fH (C5 s) s.size 0)&&decide ((s.size:Int)≤256)
theorem Mt(w:World)(s:ByteArray)(hs:dV s):Calls Tryz.prog 200 #[.string s] w fun e w'=>e=.returned (.bool (oK s))∧w=w':=by
 have hs':s.size≤140737488355328:=hs;obtain⟨n,hn⟩:∃ n,n=s.size:=⟨_,rfl⟩;have HN:=awt hn;have hnb:n≤140737488355328:=by rw[hn];exact hs'
 unfold oK;clear hs hs'
 go_enter Tryz.func200,Tryz.ntmps200
 go_wp2_with fail
 go_loopw [3] (fun i wr=>wr=w∧∃ k:Nat,k≤n∧i=.int .i64 k∧Hid (fH (C5 s) s.size 0=fH (C5 s) (n-k) k)) (fun i _=>n-(intOf i).toNat)
 case atStart=>exact⟨rfl,0,aws _,rfl,awt (by rw[hn,Nat.sub_zero])⟩
 case round=>
  obtain⟨rfl,k,hk,rfl,hinv⟩:=hrel;by_cases hlt:k<n
  ·have hks:k<s.size:=by rw[← hn];exact hlt
   obtain⟨x,hx⟩:∃ x,x=dZ s k:=⟨_,rfl⟩;have hsx:(s[k]'hks).toNat=x:=by rw[oB hks,hx]
   have VT:x<256:=by rw[hx];exact oA s k
   have hlt2:0≤(k:Int)∧(k:Int)<s.size:=by omega
   have HX:=awt hx;clear hx;by_cases h1:(x:Int)<32
   ·have HB:=awt (show C5 s k=true by unfold C5;rw[← HX.out];simp[h1]);have hd1:decide ((x:Int)<32)=true:=by simp[h1]
    go_wp2_with fail
    go_ret
    exact⟨aH (by rw[hinv.out,eP hlt HB.out];rfl),rfl⟩
   ·by_cases h2:(126:Int)<x
    ·have HB:=awt (show C5 s k=true by unfold C5;rw[← HX.out];simp[h2]);have hd1:decide ((x:Int)<32)=false:=by simp;omega
     go_wp2_with fail
     go_ret
     exact⟨aH (by rw[hinv.out,eP hlt HB.out];rfl),rfl⟩
    ·by_cases h3:(x:Int)=34
     ·have HB:=awt (show C5 s k=true by unfold C5;rw[← HX.out];simp[h3])
      go_wp2_with fail
      go_ret
      exact⟨aH (by rw[hinv.out,eP hlt HB.out];rfl),rfl⟩
     ·have HB:=awt (show C5 s k=false by unfold C5;rw[← HX.out];simp[h1,h2,h3])
      go_wp2_with fail
      go_roundw
      case rel=>exact⟨by first|trivial|rfl,k+1,by omega,by go_num,awt (hinv.out.trans (j7 hlt HB.out))⟩
      case measure=>simp[intOf];omega
  ·obtain rfl:k=n:=by omega
   go_wp2_with fail
   go_ret
   exact⟨aH (by rw[hinv.out,iQ];rfl),rfl⟩
def jW(x:Nat):Bool:=(decide ((65:Int)≤x)&&decide ((x:Int)≤90))||(decide ((97:Int)≤x)&&decide ((x:Int)≤122))||decide ((x:Int)=95)
def nG(x:Nat):Bool:=decide ((48:Int)≤x)&&decide ((x:Int)≤57)
theorem oP(w:World)(x:Nat):Calls Tryz.prog 248 #[.int .u8 (x:Int)] w fun e w'=>e=.returned (.bool (jW x))∧w=w':=by
 unfold jW;by_cases t0:(65:Int)≤x
 ·have d0:decide ((65:Int)≤x)=true:=by simp;omega
  by_cases t1:(x:Int)≤90
  ·have d1:decide ((x:Int)≤90)=true:=by simp;omega
   have d2:decide ((97:Int)≤x)=false:=by simp;omega
   have d3:decide ((x:Int)≤122)=true:=by simp;omega
   go_enter Tryz.func248,Tryz.ntmps248
   go_wp2
   go_ret
   exact⟨aH (by first|rfl|(simp<;>omega)|(simp[*];done)|(simp;omega)),rfl⟩
  ·have d1:decide ((x:Int)≤90)=false:=by simp;omega
   by_cases t2:(97:Int)≤x
   ·have d2:decide ((97:Int)≤x)=true:=by simp;omega
    by_cases t3:(x:Int)≤122
    ·have d3:decide ((x:Int)≤122)=true:=by simp;omega
     go_enter Tryz.func248,Tryz.ntmps248
     go_wp2
     go_ret
     exact⟨aH (by first|rfl|(simp<;>omega)|(simp[*];done)|(simp;omega)),rfl⟩
    ·have d3:decide ((x:Int)≤122)=false:=by simp;omega
     go_enter Tryz.func248,Tryz.ntmps248
     go_wp2
     go_ret
     exact⟨aH (by first|rfl|(simp<;>omega)|(simp[*];done)|(simp;omega)),rfl⟩
   ·have d2:decide ((97:Int)≤x)=false:=by simp;omega
    have d3:decide ((x:Int)≤122)=true:=by simp;omega
    go_enter Tryz.func248,Tryz.ntmps248
    go_wp2
    go_ret
    exact⟨aH (by first|rfl|(simp<;>omega)|(simp[*];done)|(simp;omega)),rfl⟩
 ·have d0:decide ((65:Int)≤x)=false:=by simp;omega
  have d1:decide ((x:Int)≤90)=true:=by simp;omega
  have d2:decide ((97:Int)≤x)=false:=by simp;omega
  have d3:decide ((x:Int)≤122)=true:=by simp;omega
  go_enter Tryz.func248,Tryz.ntmps248
  go_wp2
  go_ret
  exact⟨aH (by first|rfl|(simp<;>omega)|(simp[*];done)|(simp;omega)),rfl⟩
theorem EK(w:World)(x:Nat):Calls Tryz.prog 249 #[.int .u8 (x:Int)] w fun e w'=>e=.returned (.bool (nG x))∧w=w':=by
 unfold nG;by_cases t0:(48:Int)≤x
 ·have d0:decide ((48:Int)≤x)=true:=by simp;omega
  go_enter Tryz.func249,Tryz.ntmps249
  go_wp2
  go_ret
  exact⟨aH (by first|rfl|(simp<;>omega)|(simp[*];done)|(simp;omega)),rfl⟩
 ·have d0:decide ((48:Int)≤x)=false:=by simp;omega
  go_enter Tryz.func249,Tryz.ntmps249
  go_wp2
  go_ret
  exact⟨aH (by first|rfl|(simp<;>omega)|(simp[*];done)|(simp;omega)),rfl⟩
def jP(s ws:ByteArray):Nat→Nat→Nat→Bool
 | 0,_,_=>false
 | k+1,fr,i=>if dZ ws i=32 then (if (ws.extract fr i).toList=s.toList∧s.toList.isEmpty=false then true else jP s ws k (i+1) (i+1)) else jP s ws k fr (i+1)
def E8(s ws:ByteArray):Bool:=jP s ws ws.size 0 0
theorem E9{s ws:ByteArray}{n fr i:Nat}(h:i<n)(hb:dZ ws i≠32):jP s ws (n-i) fr i=jP s ws (n-(i+1)) fr (i+1):=by
 obtain⟨k,hk⟩:∃ k,n-i=k+1:=⟨n-i-1,by omega⟩;rw[hk,show n-(i+1)=k by omega];exact if_neg hb
theorem IK{s ws:ByteArray}{n fr i:Nat}(h:i<n)(hb:dZ ws i=32)(h1:(ws.extract fr i).toList=s.toList)(h2:s.toList.isEmpty=false):jP s ws (n-i) fr i=true:=by
 obtain⟨k,hk⟩:∃ k,n-i=k+1:=⟨n-i-1,by omega⟩;rw[hk];exact(if_pos hb).trans (if_pos ⟨h1,h2⟩)
theorem uh{s ws:ByteArray}{n fr i:Nat}(h:i<n)(hb:dZ ws i=32)(h1:¬ ((ws.extract fr i).toList=s.toList∧s.toList.isEmpty=false)):jP s ws (n-i) fr i=jP s ws (n-(i+1)) (i+1) (i+1):=by
 obtain⟨k,hk⟩:∃ k,n-i=k+1:=⟨n-i-1,by omega⟩;rw[hk,show n-(i+1)=k by omega];exact(if_pos hb).trans (if_neg h1)
theorem IJ(w:World)(s ws:ByteArray)(hs:dV ws):Calls Tryz.prog 201 #[.string s,.string ws] w fun e w'=>e=.returned (.bool (E8 s ws))∧w=w':=by
 have hs':ws.size≤140737488355328:=hs;obtain⟨n,hn⟩:∃ n,n=ws.size:=⟨_,rfl⟩;have HN:=awt hn;have hnb:n≤140737488355328:=by rw[hn];exact hs'
 unfold E8;clear hs hs'
 go_enter Tryz.func201,Tryz.ntmps201
 go_wp2_with fail
 go_loopw [5,6] (fun f i wr=>wr=w∧∃ fr k:Nat,fr≤k∧k≤n∧f=.int .i64 fr∧i=.int .i64 k∧Hid (jP s ws ws.size 0 0=jP s ws (n-k) fr k)) (fun _ i _=>n-(intOf i).toNat)
 case atStart=>exact⟨rfl,0,0,Nat.le_refl _,aws _,rfl,rfl,awt (by rw[hn,Nat.sub_zero])⟩
 case round=>
  obtain⟨rfl,fr,k,hfr,hk,rfl,rfl,hinv⟩:=hrel;by_cases hlt:k<n
  ·have hks:k<ws.size:=by rw[← hn];exact hlt
   obtain⟨x,hx⟩:∃ x,x=dZ ws k:=⟨_,rfl⟩;have hsx:(ws[k]'hks).toNat=x:=by rw[oB hks,hx]
   have VT:x<256:=by rw[hx];exact oA ws k
   have hlt2:0≤(k:Int)∧(k:Int)<ws.size:=by omega
   have HX:=awt hx;clear hx;by_cases h32:x=32
   ·subst h32;have Tk:=awt HX.out.symm;have hlt3:0≤(k:Int)∧(k:Int)≤ws.size:=by omega
    have aqy:0≤(fr:Int)∧(fr:Int)≤k:=by omega
    by_cases h1:(ws.extract fr k).toList=s.toList
    ·by_cases h2:s.toList.isEmpty=true
     ·have HM:=awt (uh (fr:=fr) hlt Tk.out (fun h=>by rw[h2] at h;cases h.2));clear HX Tk
      go_wp2_with fail
      go_roundw
      case rel=>exact⟨by first|trivial|rfl,k+1,k+1,Nat.le_refl _,by omega,by go_num,by go_num,awt (hinv.out.trans HM.out)⟩
      case measure=>simp[intOf];omega
     ·have HM:=awt (IK (fr:=fr) hlt Tk.out h1 (Bool.eq_false_iff.2 h2));have h2':s.toList.isEmpty=false:=Bool.eq_false_iff.2 h2;clear h2;clear HX Tk
      go_wp2_with fail
      go_ret
      exact⟨aH (by rw[hinv.out,HM.out]),rfl⟩
    ·have HM:=awt (uh (fr:=fr) hlt Tk.out (fun h=>h1 h.1));clear HX Tk
     go_wp2_with fail
     go_roundw
     case rel=>exact⟨by first|trivial|rfl,k+1,k+1,Nat.le_refl _,by omega,by go_num,by go_num,awt (hinv.out.trans HM.out)⟩
     case measure=>simp[intOf];omega
   ·have HM:=awt (E9 (s:=s) (fr:=fr) hlt (by rw[← HX.out];exact h32));clear HX
    go_wp2_with fail
    go_roundw
    case rel=>exact⟨by first|trivial|rfl,fr,k+1,by omega,by omega,rfl,by go_num,awt (hinv.out.trans HM.out)⟩
    case measure=>simp[intOf];omega
  ·obtain rfl:k=n:=by omega
   go_wp2_with fail
   go_ret
   exact⟨aH (by rw[hinv.out,Nat.sub_self];rfl),rfl⟩
def kwB:ByteArray:=⟨#[109,111,100,117,108,101,32,99,108,97,115,115,32,116,121,112,101,32,97,108,105,97,115,32,116,121,112,101,97,116,116,114,105,98,117,116,101,32,97,116,116,114,105,98,117,116,101,32,114,111,108,101,32,116,121,112,101,115,32,114,111,108,101,97,108,108,111,119,32,114,111,108,101,95,116,114,97,110,115,105,116,105,111,110,32,117,115,101,114,32,114,111,108,101,115,32,108,101,118,101,108,32,114,97,110,103,101,32,98,111,111,108,32,116,114,117,101,32,102,97,108,115,101,32,115,101,110,115,105,116,105,118,105,116,121,32,99,97,116,101,103,111,114,121,32,97,108,108,111,119,32,97,117,100,105,116,97,108,108,111,119,32,100,111,110,116,97,117,100,105,116,32,110,101,118,101,114,97,108,108,111,119,32,116,121,112,101,95,116,114,97,110,115,105,116,105,111,110,32,116,121,112,101,95,99,104,97,110,103,101,32,116,121,112,101,95,109,101,109,98,101,114,32,114,97,110,103,101,95,116,114,97,110,115,105,116,105,111,110,32,99,111,110,115,116,114,97,105,110,32,118,97,108,105,100,97,116,101,116,114,97,110,115,32,105,102,32,101,108,115,101,32,111,112,116,105,111,110,97,108,32,114,101,113,117,105,114,101,32,115,105,100,32,102,105,108,101,99,111,110,32,112,101,114,109,105,115,115,105,118,101,32,97,115,115,101,114,116,32,115,101,108,102,32,105,110,32]⟩
theorem acp:dV kwB:=by
 show kwB.size≤140737488355328;have:kwB.size=327:=by kernel_rfl
 omega
def kq(s:ByteArray):Bool:=E8 s kwB
theorem yY(w:World)(s:ByteArray):Calls Tryz.prog 278 #[.string s] w fun e w'=>e=.returned (.bool (kq s))∧w=w':=by
 obtain⟨q,hq⟩:∃ q,q=kq s:=⟨_,rfl⟩;have HQ:=awt hq;rw[← hq];clear hq
 go_enter Tryz.func278,Tryz.ntmps278
 go_wp2_with (go_at_call 201;go_must (refine(show Calls Tryz.prog 201 _ _ (fun e w'=>e=.returned (.bool q)∧w=w') from by rw[HQ.out];exact IJ w s kwB acp).mono ?_;rintro e w' ⟨rfl,rfl⟩))
 go_ret
 exact⟨rfl,rfl⟩
def tX(s:ByteArray)(i:Nat):Bool:=!jW (dZ s i)&&(decide (i=0)||!nG (dZ s i))
def yU(s:ByteArray):Bool:=!(fH (tX s) s.size 0)&&(decide ((1:Int)≤(s.size:Int))&&decide ((s.size:Int)≤32))
theorem BU(w:World)(s:ByteArray)(hs:dV s):Calls Tryz.prog 198 #[.string s] w fun e w'=>e=.returned (.bool (yU s))∧w=w':=by
 have hs':s.size≤140737488355328:=hs;obtain⟨n,hn⟩:∃ n,n=s.size:=⟨_,rfl⟩;have HN:=awt hn;have hnb:n≤140737488355328:=by rw[hn];exact hs'
 unfold yU;clear hs hs'
 go_enter Tryz.func198,Tryz.ntmps198
 go_wp2_with fail
 go_loopw [3] (fun i wr=>wr=w∧∃ k:Nat,k≤n∧i=.int .i64 k∧Hid (fH (tX s) s.size 0=fH (tX s) (n-k) k)) (fun i _=>n-(intOf i).toNat)
 case atStart=>exact⟨rfl,0,aws _,rfl,awt (by rw[hn,Nat.sub_zero])⟩
 case round=>
  obtain⟨rfl,k,hk,rfl,hinv⟩:=hrel;by_cases hlt:k<n
  ·have hks:k<s.size:=by rw[← hn];exact hlt
   obtain⟨x,hx⟩:∃ x,x=dZ s k:=⟨_,rfl⟩;have hsx:(s[k]'hks).toNat=x:=by rw[oB hks,hx]
   have VT:x<256:=by rw[hx];exact oA s k
   have hlt2:0≤(k:Int)∧(k:Int)<s.size:=by omega
   have HX:=awt hx;clear hx
   cases hl:jW x with
   | true=>
    have HB:=awt (show tX s k=false by unfold tX;rw[← HX.out,hl];rfl);have HL:=awt hl;clear hl HX
    go_wp2_with (have hZ:=HL;clear hZ;go_at_call 248;go_must (refine(show Calls Tryz.prog 248 _ _ (fun e w'=>e=.returned (.bool true)∧_=w') from by have h:=oP wr x;rw[HL.out] at h;exact h).mono ?_;rintro e w' ⟨rfl,rfl⟩;clear HL))
    go_roundw
    case rel=>exact⟨by first|trivial|rfl,k+1,by omega,by go_num,awt (hinv.out.trans (j7 hlt HB.out))⟩
    case measure=>simp[intOf];omega
   | false=>
    have HL:=awt hl;by_cases h0:k=0
    ·subst h0;have HB:=awt (show tX s 0=true by unfold tX;rw[← HX.out,hl];rfl);clear hl HX
     go_wp2_with (have hZ:=HL;clear hZ;go_at_call 248;go_must (refine(show Calls Tryz.prog 248 _ _ (fun e w'=>e=.returned (.bool false)∧_=w') from by have h:=oP wr x;rw[HL.out] at h;exact h).mono ?_;rintro e w' ⟨rfl,rfl⟩;clear HL))
     go_ret
     exact⟨aH (by rw[hinv.out,eP hlt HB.out];rfl),rfl⟩
    ·have hd0:decide ((k:Int)=0)=false:=by simp;omega
     cases hg:nG x with
     | true=>
      have HB:=awt (show tX s k=false by unfold tX;rw[← HX.out,hl,hg];simp[h0]);have HDG:=awt hg;clear hl hg HX
      go_wp2_with (first|(have hZ:=HL;clear hZ;go_at_call 248;go_must (refine(show Calls Tryz.prog 248 _ _ (fun e w'=>e=.returned (.bool false)∧_=w') from by have h:=oP wr x;rw[HL.out] at h;exact h).mono ?_;rintro e w' ⟨rfl,rfl⟩;clear HL))|(have hZ:=HDG;clear hZ;go_at_call 249;go_must (refine(show Calls Tryz.prog 249 _ _ (fun e w'=>e=.returned (.bool true)∧_=w') from by have h:=EK wr x;rw[HDG.out] at h;exact h).mono ?_;rintro e w' ⟨rfl,rfl⟩;clear HDG)))
      go_roundw
      case rel=>exact⟨by first|trivial|rfl,k+1,by omega,by go_num,awt (hinv.out.trans (j7 hlt HB.out))⟩
      case measure=>simp[intOf];omega
     | false=>
      have HB:=awt (show tX s k=true by unfold tX;rw[← HX.out,hl,hg];simp);have HDG:=awt hg;clear hl hg HX
      go_wp2_with (first|(have hZ:=HL;clear hZ;go_at_call 248;go_must (refine(show Calls Tryz.prog 248 _ _ (fun e w'=>e=.returned (.bool false)∧_=w') from by have h:=oP wr x;rw[HL.out] at h;exact h).mono ?_;rintro e w' ⟨rfl,rfl⟩;clear HL))|(have hZ:=HDG;clear hZ;go_at_call 249;go_must (refine(show Calls Tryz.prog 249 _ _ (fun e w'=>e=.returned (.bool false)∧_=w') from by have h:=EK wr x;rw[HDG.out] at h;exact h).mono ?_;rintro e w' ⟨rfl,rfl⟩;clear HDG)))
      go_ret
      exact⟨aH (by rw[hinv.out,eP hlt HB.out];rfl),rfl⟩
  ·obtain rfl:k=n:=by omega
   have HF:=awt hinv.out;clear hinv;by_cases h1:(1:Int)≤(s.size:Int)
   ·have hd1:decide ((1:Int)≤(s.size:Int))=true:=by simp;omega
    go_wp2_with fail
    go_ret
    exact⟨aH (by first|rfl|(rw[HF.out,iQ];simp;omega)),rfl⟩
   ·have hd1:decide ((1:Int)≤(s.size:Int))=false:=by simp;omega
    go_wp2_with fail
    go_ret
    exact⟨aH (by first|rfl|(rw[HF.out,iQ];simp;omega)),rfl⟩
def yh(s:ByteArray)(i:Nat):Bool:=decide ((dZ s i:Int)<33)||decide ((126:Int)<dZ s i)||decide ((dZ s i:Int)=34)||decide ((dZ s i:Int)=47)
def mT(s:ByteArray):Bool:=!(fH (yh s) s.size 0)&&(decide ((1:Int)≤(s.size:Int))&&decide ((s.size:Int)≤32))
theorem MJ(w:World)(s:ByteArray)(hs:dV s):Calls Tryz.prog 114 #[.string s] w fun e w'=>e=.returned (.bool (mT s))∧w=w':=by
 have hs':s.size≤140737488355328:=hs;obtain⟨n,hn⟩:∃ n,n=s.size:=⟨_,rfl⟩;have HN:=awt hn;have hnb:n≤140737488355328:=by rw[hn];exact hs'
 unfold mT;clear hs hs'
 go_enter Tryz.func114,Tryz.ntmps114
 go_wp2_with fail
 go_loopw [3] (fun i wr=>wr=w∧∃ k:Nat,k≤n∧i=.int .i64 k∧Hid (fH (yh s) s.size 0=fH (yh s) (n-k) k)) (fun i _=>n-(intOf i).toNat)
 case atStart=>exact⟨rfl,0,aws _,rfl,awt (by rw[hn,Nat.sub_zero])⟩
 case round=>
  obtain⟨rfl,k,hk,rfl,hinv⟩:=hrel;by_cases hlt:k<n
  ·have hks:k<s.size:=by rw[← hn];exact hlt
   obtain⟨x,hx⟩:∃ x,x=dZ s k:=⟨_,rfl⟩;have hsx:(s[k]'hks).toNat=x:=by rw[oB hks,hx]
   have VT:x<256:=by rw[hx];exact oA s k
   have hlt2:0≤(k:Int)∧(k:Int)<s.size:=by omega
   have HX:=awt hx;clear hx;by_cases h1:(x:Int)<33
   ·have HB:=awt (show yh s k=true by unfold yh;rw[← HX.out];simp[h1]);have hd1:decide ((x:Int)<33)=true:=by simp[h1]
    go_wp2_with fail
    go_ret
    exact⟨aH (by rw[hinv.out,eP hlt HB.out];rfl),rfl⟩
   ·by_cases h2:(126:Int)<x
    ·have HB:=awt (show yh s k=true by unfold yh;rw[← HX.out];simp[h2]);have hd1:decide ((x:Int)<33)=false:=by simp;omega
     go_wp2_with fail
     go_ret
     exact⟨aH (by rw[hinv.out,eP hlt HB.out];rfl),rfl⟩
    ·by_cases h3:(x:Int)=34
     ·have HB:=awt (show yh s k=true by unfold yh;rw[← HX.out];simp[h3])
      go_wp2_with fail
      go_ret
      exact⟨aH (by rw[hinv.out,eP hlt HB.out];rfl),rfl⟩
     ·have hd3:decide ((x:Int)=34)=false:=by simp[h3]
      have aqM:((x:Int) == 34)=false:=by simpa using h3
      by_cases h4:(x:Int)=47
      ·have HB:=awt (show yh s k=true by unfold yh;rw[← HX.out];simp[h4])
       go_wp2_with fail
       go_ret
       exact⟨aH (by rw[hinv.out,eP hlt HB.out];rfl),rfl⟩
      ·have HB:=awt (show yh s k=false by unfold yh;rw[← HX.out];simp[h1,h2,h3,h4])
       go_wp2_with fail
       go_roundw
       case rel=>exact⟨by first|trivial|rfl,k+1,by omega,by go_num,awt (hinv.out.trans (j7 hlt HB.out))⟩
       case measure=>simp[intOf];omega
  ·obtain rfl:k=n:=by omega
   have HF:=awt hinv.out;clear hinv;by_cases h1:(1:Int)≤(s.size:Int)
   ·have hd1:decide ((1:Int)≤(s.size:Int))=true:=by simp;omega
    go_wp2_with fail
    go_ret
    exact⟨aH (by first|rfl|(rw[HF.out,iQ];simp;omega)),rfl⟩
   ·have hd1:decide ((1:Int)≤(s.size:Int))=false:=by simp;omega
    go_wp2_with fail
    go_ret
    exact⟨aH (by first|rfl|(rw[HF.out,iQ];simp;omega)),rfl⟩
def nD(s:ByteArray):Bool:=yU s&&!kq s
theorem R3(w:World)(s:ByteArray)(hs:dV s):Calls Tryz.prog 243 #[.string s] w fun e w'=>e=.returned (.bool (nD s))∧w=w':=by
 have HS:=awt hs;clear hs;unfold nD
 cases h1:yU s with
 | false=>
  have H1:=awt h1;clear h1
  go_enter Tryz.func243,Tryz.ntmps243
  go_wp2_with (have hZ:=H1;clear hZ;go_at_call 198;go_must (refine(show Calls Tryz.prog 198 _ _ (fun e w'=>e=.returned (.bool false)∧_=w') from by have h:=BU w s HS.out;rw[H1.out] at h;exact h).mono ?_;rintro e w' ⟨rfl,rfl⟩;clear H1))
  go_ret
  exact⟨rfl,rfl⟩
 | true=>
  have H1:=awt h1
  cases h2:kq s with
  | false=>
   have H2:=awt h2;clear h1 h2
   go_enter Tryz.func243,Tryz.ntmps243
   go_wp2_with (first|(have hZ:=H1;clear hZ;go_at_call 198;go_must (refine(show Calls Tryz.prog 198 _ _ (fun e w'=>e=.returned (.bool true)∧_=w') from by have h:=BU w s HS.out;rw[H1.out] at h;exact h).mono ?_;rintro e w' ⟨rfl,rfl⟩;clear H1))|(have hZ:=H2;clear hZ;go_at_call 278;go_must (refine(show Calls Tryz.prog 278 _ _ (fun e w'=>e=.returned (.bool false)∧_=w') from by have h:=yY w s;rw[H2.out] at h;exact h).mono ?_;rintro e w' ⟨rfl,rfl⟩;clear H2)))
   go_ret
   exact⟨rfl,rfl⟩
  | true=>
   have H2:=awt h2;clear h1 h2
   go_enter Tryz.func243,Tryz.ntmps243
   go_wp2_with (first|(have hZ:=H1;clear hZ;go_at_call 198;go_must (refine(show Calls Tryz.prog 198 _ _ (fun e w'=>e=.returned (.bool true)∧_=w') from by have h:=BU w s HS.out;rw[H1.out] at h;exact h).mono ?_;rintro e w' ⟨rfl,rfl⟩;clear H1))|(have hZ:=H2;clear hZ;go_at_call 278;go_must (refine(show Calls Tryz.prog 278 _ _ (fun e w'=>e=.returned (.bool true)∧_=w') from by have h:=yY w s;rw[H2.out] at h;exact h).mono ?_;rintro e w' ⟨rfl,rfl⟩;clear H2)))
   go_ret
   exact⟨rfl,rfl⟩
theorem Cm(w:World)(s:ByteArray)(hs:dV s):Calls Tryz.prog 192 #[.string s] w fun e w'=>e=.returned (.bool (nD s))∧w=w':=by
 have HS:=awt hs;clear hs
 go_enter Tryz.func192,Tryz.ntmps192
 go_wp2_with (go_at_call 243;go_must (refine(R3 w s HS.out).mono ?_;rintro e w' ⟨rfl,rfl⟩))
 go_ret
 exact⟨rfl,rfl⟩
theorem SliceAt.front{w:World}{a:Addr}{k n c i:Nat}{cs:List Value}(h:SliceAt w (.slice (some a) n c) k n cs)(hi:i≤n):SliceAt w (.slice (some a) i c) k i (cs.take (i*k)):=by
 obtain⟨h1,h2,h3,⟨h4,h5⟩|⟨a',c',h4,h5,h6⟩⟩:=h
 ·cases h4
 ·cases h4;refine⟨?_,by omega,fun u hu=>h3 u (List.mem_of_mem_take hu),.inr ⟨a,c,rfl,by omega,fun j u hj=>?_⟩⟩
  ·rw[awo,h1];exact Nat.min_eq_left (Nat.mul_le_mul_right k hi)
  ·rw[List.getElem?_take] at hj;split at hj
   ·exact h6 j u hj
   ·cases hj
theorem QL(l:List ByteArray)(i:Nat):(l.flatMap aX).take (i*1)=(l.take i).flatMap aX:=by
 rw[Nat.mul_one]
 induction l generalizing i with
 | nil=>simp
 | cons x l ih=>
  cases i with
  | zero=>simp
  | succ i=>simp[aX,List.flatMap_cons,ih]
theorem aU.front{w:World}{a:Addr}{n c i:Nat}{l:List ByteArray}(h:aU w (.slice (some a) n c) l)(hn:n=l.length)(hi:i≤n):aU w (.slice (some a) i c) (l.take i):=by
 subst hn;have h1:=SliceAt.front h hi;rw[QL] at h1;unfold aU;rw[awo,Nat.min_eq_left hi];exact h1
theorem aU.open{w:World}{v:Value}{l:List ByteArray}(h:aU w v l):∃ a c,v=.slice a l.length c∧l.length≤c∧l.length≤9223372036854775807∧∀ i s,l[i]?=some s→∃ b off,a=some ⟨b,off,none⟩∧w.cell? ⟨b,off+i,none⟩=some (.string s):=by
 obtain⟨a,c,h1,h2,h3,h4⟩:=SliceAt.form h (by decide);refine⟨a,c,h1,h2,h3,fun i s hs=>?_⟩;have hi:=(awb.1 hs).1;obtain⟨b,off,ha,hc⟩:=h4 i hi;have h5:=hc 0 (.string s) (by rw[cE I_ hs 0 (by decide)];rfl);simp only[Nat.mul_one,Nat.add_zero] at h5;exact⟨b,off,ha,h5⟩
def NA(l:List ByteArray)(s:ByteArray)(i:Nat):Bool:=match l[i]? with
 | some x=>decide (x.toList=s.toList)
 | none=>false
def hasB(l:List ByteArray)(s:ByteArray):Bool:=fH (NA l s) l.length 0
theorem PG{l:List ByteArray}{s x:ByteArray}{i:Nat}(h:l[i]?=some x):NA l s i=decide (x.toList=s.toList):=by unfold NA;rw[h]
theorem Ka(w:World)(s:ByteArray)(v:Value)(l:List ByteArray)(h:aU w v l):Calls Tryz.prog 193 #[.string s,v] w fun e w'=>e=.returned (.bool (hasB l s))∧w=w':=by
 obtain⟨a,c,rfl,hc,hm,hcell⟩:=h.open;obtain⟨n,hn⟩:∃ n,n=l.length:=⟨_,rfl⟩;have HN:=awt hn;have HC:=awt hcell;unfold hasB;rw[← hn] at hc hm ⊢;clear hcell h hn
 go_enter Tryz.func193,Tryz.ntmps193
 go_wp2_with fail
 go_loopw [5] (fun i wr=>wr=w∧∃ k:Nat,k≤n∧i=.int .i64 k∧Hid (fH (NA l s) n 0=fH (NA l s) (n-k) k)) (fun i _=>n-(intOf i).toNat)
 case atStart=>exact⟨rfl,0,aws _,rfl,awt (by rw[Nat.sub_zero])⟩
 case round=>
  obtain⟨rfl,k,hk,rfl,hinv⟩:=hrel;by_cases hlt:k<n
  ·obtain⟨x,hx⟩:∃ x,l[k]?=some x:=⟨_,awp (by rw[← HN.out];exact hlt)⟩;have HX:=awt hx;obtain⟨b,off,rfl,k0⟩:=HC.out k x hx;clear hx;by_cases he:x.toList=s.toList
   ·have HB:=awt (show NA l s k=true by rw[PG HX.out];simp[he])
    go_wp2_with fail
    go_ret
    exact⟨aH (by rw[hinv.out,eP hlt HB.out]),rfl⟩
   ·have HB:=awt (show NA l s k=false by rw[PG HX.out];simp[he]);have hb1:(x.toList == s.toList)=false:=by simp[he]
    go_wp2_with fail
    go_roundw
    case rel=>exact⟨by first|trivial|rfl,k+1,by omega,by go_num,awt (hinv.out.trans (j7 hlt HB.out))⟩
    case measure=>simp[intOf];omega
  ·obtain rfl:k=n:=by omega
   go_wp2_with fail
   go_ret
   exact⟨aH (by rw[hinv.out,iQ]),rfl⟩
def tH(l o:List ByteArray)(i:Nat):Int:=match l[i]? with
 | some s=>if nD s=true then (if hasB (l.take i) s=true then 12 else if hasB o s=true then 12 else 0) else 10
 | none=>0
def bU(l o:List ByteArray):Int:=aJ (tH l o) l.length 0
theorem Et{l o:List ByteArray}{s:ByteArray}{i:Nat}(h:l[i]?=some s):tH l o i=if nD s=true then (if hasB (l.take i) s=true then 12 else if hasB o s=true then 12 else 0) else 10:=by unfold tH;rw[h]
theorem EJ{P:Program}{a:Act}{w:World}{o:Oper}{t e:TypeId}{x hi:Operand}{g off n c h k:Nat}{hk:IntKind}(ho:o.op=.slice t x none (some hi) none)(hx:a.eval x=.slice (some ⟨g,off,none⟩) n c)(hh:a.eval hi=.int hk (h:Int))(hhc:h≤c)(hc:0<c)
 (hu:P.underlying t=some (.slice e)) (hs:(P.info? e).map (·.size)=some k):(execOp a.eval o).run P w=.ok (.value (.slice (some ⟨g,off,none⟩) h c)) w:=by
 have hadd:(⟨g,off,none⟩:Addr).add 0=⟨g,off,none⟩:=by unfold Addr.add;split<;>simp_all
 have h1:(0:Int)≤(h:Int)∧(h:Int)≤(c:Int):=by omega
 have hne:¬ c=0:=by omega
 unfold execOp;simp[ho,hx,hh,Instr.sliceAt,Sem.run_bind,run_underlying hu w,Result.andThen_ok,Instr.slice,Instr.sliceBounds,Instr.sliceBound,asIntOf,Sem.run_pure,h1,run_sizeOf hs,hne,hadd];intro h';omega
theorem fE(w:World)(v v':Value)(l o:List ByteArray)(h:aU w v l)(ho:aU w v' o)(hok:∀ s∈l,dV s):Calls Tryz.prog 101 #[v,v'] w fun e w'=>e=.returned (.int .i64 (bU l o))∧awh w.heap.size w w':=by
 obtain⟨a,c,rfl,xI,hget⟩:=aU.get h;obtain⟨_,_,rfl,-⟩:=aU.get ho;have hcl:l.length≤c:=by obtain⟨_,_,e,hk,-⟩:=SliceAt.form h (by decide);injection e with e1 e2 e3;omega
 unfold bU;refine dD [] (fn:=Tryz.f101) Tryz.func101 rfl Tryz.ntmps101 rfl<|lr (ι:=Nat) (fun m=>[(5,.int .i64 (m:Int))]) (fun m _=>m≤l.length∧aJ (tH l o) l.length 0=aJ (tH l o) (l.length-m) m) (fun m=>l.length-m) 0 (an ⟨⟨rfl,trivial⟩,fun M=>⟨M,aws _,by rw[Nat.sub_zero]⟩⟩ ?_);rintro m w1 M ⟨hm,hinv⟩;refine an (fun h2=>?_) fun h2 M=>⟨ri (by rw[hinv,show m=l.length by simp at h2;omega,cI]),M.below⟩
 have hlt:m<l.length:=by simp at h2;omega
 obtain⟨s,hs⟩:∃ s,l[m]?=some s:=⟨_,awp hlt⟩;obtain⟨b,off,rfl,hc⟩:=hget m s hs;have hcf:=Et (o:=o) hs;have out:∀ v:Int,tH l o m=v→v≠0→aJ (tH l o) l.length 0=v:=fun v h1 h2=>by rw[hinv,cL hlt (by rw[h1];exact h2),h1]
 refine ia<|an ⟨rfl,rfl,hlt⟩<|lc (x:=.string s)<|an (awu M.below hc)<|cl<|an ((Cm _ s (hok s (awg hs))).mono fun _ _ ⟨h1,h2⟩=>⟨h1,h2▸Below.refl _ _⟩) fun w2 M2=>an (fun h3 M=>⟨ri (out 10 (by rw[hcf,if_neg (by simpa using h3)]) (by decide)),M.below⟩) fun h3=>?_
 rw[if_pos (by simpa using h3)] at hcf;refine dr (by kernel_rfl)<|ia<|an ⟨rfl,rfl,hlt⟩<|lc (x:=.string s)<|an (awu M2.below hc)<|ei (x:=.slice (some ⟨b,off,none⟩) m c)<|an (fun a w o ho hv=>EJ ho (oD hv) (uf hv) (by omega) (by omega) u28 sz9)<|cl<|an (fun w' hb M'=>(Ka w' s _ _ ((aU.front h rfl (Nat.le_of_lt hlt)).keep M'.below)).mono fun _ _ ⟨h1,h2⟩=>⟨h1,h2▸Below.refl _ _⟩)<|ia<|an (fun _=>⟨rfl,rfl,hlt⟩)<|lc (x:=.string s)<|an (fun _=>awu M2.below hc)<|cl<|an (fun _ w' hb M'=>(Ka w' s _ _ (ho.keep M'.below)).mono fun _ _ ⟨h1,h2⟩=>⟨h1,h2▸Below.refl _ _⟩) fun w3 sG M3=>an (fun h4 M=>⟨ri (out 12 ?_ (by decide)),M.below⟩) fun h4=>an (by omega)<|bk (m+1) ⟨rfl,trivial⟩ (fun M=>⟨M,by omega,hinv.trans (bS hlt ?_)⟩) (by dsimp only;omega)
 all_goals rw[hcf];clear out hinv hcf;cases h5:hasB (l.take m) s<;>cases h6:hasB o s<;>simp_all
end Go.Proofs.YtdcofoaihmongaaGreat
namespace Go.Proofs.YtdcofoaihmongaaGreat
open Go Go.RowKit Go.WideMaps
theorem aa4(d:Nat)(x0 y0:Int)(w:World):(Op.equalIn (d+1) 52 (.int .u64 x0) (.int .u64 y0)).run Tryz.prog w=.ok (decide (x0=y0)) w:=by
 by_cases h:x0=y0<;>simp[Op.equalIn,run_underlying Tryz.underlying52,h]
theorem mo(d:Nat)(x0 x1 x2 x3 y0 y1 y2 y3:Int)(w:World):(Op.equalIn (d+2) 54 (.agg #[.int .u64 x0,.int .u64 x1,.int .u64 x2,.int .u64 x3]) (.agg #[.int .u64 y0,.int .u64 y1,.int .u64 y2,.int .u64 y3])).run Tryz.prog w=.ok (decide (x0=y0∧x1=y1∧x2=y2∧x3=y3)) w:=by
 have hsz:=kC
 obtain⟨i0,hi,-⟩:∃ i,Tryz.prog.info? 52=some i∧True:=by
  cases h:Tryz.prog.info? 52 with
  | none=>rw[h] at hsz;cases hsz
  | some i=>exact⟨i,rfl,trivial⟩
 rw[show d+2=(d+1)+1 from rfl,run_equalIn_array w (d+1) _ _ Tryz.underlying54 hi,show Tryz.prog.cellsOf 52=1 from by kernel_rfl];have p0:∀ x0 x1 x2 x3:Int,(part 52 #[.int .u64 x0,.int .u64 x1,.int .u64 x2,.int .u64 x3] (0*1)).run Tryz.prog w=.ok (.int .u64 x0) w:=fun x0 x1 x2 x3=>by kernel_rfl
 have p1:∀ x0 x1 x2 x3:Int,(part 52 #[.int .u64 x0,.int .u64 x1,.int .u64 x2,.int .u64 x3] (1*1)).run Tryz.prog w=.ok (.int .u64 x1) w:=fun x0 x1 x2 x3=>by kernel_rfl
 have p2:∀ x0 x1 x2 x3:Int,(part 52 #[.int .u64 x0,.int .u64 x1,.int .u64 x2,.int .u64 x3] (2*1)).run Tryz.prog w=.ok (.int .u64 x2) w:=fun x0 x1 x2 x3=>by kernel_rfl
 have p3:∀ x0 x1 x2 x3:Int,(part 52 #[.int .u64 x0,.int .u64 x1,.int .u64 x2,.int .u64 x3] (3*1)).run Tryz.prog w=.ok (.int .u64 x3) w:=fun x0 x1 x2 x3=>by kernel_rfl
 have eq:=fun a b=>aa4 d a b w
 rw[show List.range 4=[0,1,2,3] from rfl];simp only[Op.eqItems,Sem.run_bind,p0,Result.andThen_ok,eq];by_cases h0:x0=y0<;>by_cases h1:x1=y1<;>by_cases h2:x2=y2<;>by_cases h3:x3=y3<;>simp[h0,h1,h2,h3,Sem.run_bind,p1,p2,p3,eq]
theorem rU(d:Nat)(x0 y0:Int)(w:World):(Op.equalIn (d+1) 3 (.int .i64 x0) (.int .i64 y0)).run Tryz.prog w=.ok (decide (x0=y0)) w:=by
 by_cases h:x0=y0<;>simp[Op.equalIn,run_underlying Tryz.underlying3,h]
theorem agF(d:Nat)(x0 y0:Bool)(w:World):(Op.equalIn (d+1) 4 (.bool x0) (.bool y0)).run Tryz.prog w=.ok (decide (x0=y0)) w:=by
 by_cases h:x0=y0<;>simp[Op.equalIn,run_underlying Tryz.underlying4,h]
theorem agE(d:Nat)(x0 y0:Int)(w:World):(Op.equalIn (d+1) 50 (.int .u32 x0) (.int .u32 y0)).run Tryz.prog w=.ok (decide (x0=y0)) w:=by
 by_cases h:x0=y0<;>simp[Op.equalIn,run_underlying Tryz.underlying50,h]
theorem agD(d:Nat)(x0 x1 x2 x3 x4 x5 x6 x7 x8 x10 pH pG y0 y1 y2 y3 y4 y5 y6 y7 y8 vV Dw Dv:Int)(x9 y9:Bool)(w:World):(Op.equalIn (d+3) 56 (.agg #[.int .i64 x0,.int .u64 x1,.int .u64 x2,.int .u64 x3,.int .u64 x4,.int .u64 x5,.int .u64 x6,.int .u64 x7,.int .u64 x8,.bool x9,.int .i64 x10,.int .u32 pH,.int .i64 pG]) (.agg #[.int .i64 y0,.int .u64 y1,.int .u64 y2,.int .u64 y3,.int .u64 y4,.int .u64 y5,.int .u64 y6,.int .u64 y7,.int .u64 y8,.bool y9,.int .i64 vV,.int .u32 Dw,.int .i64 Dv])).run Tryz.prog w=.ok (decide (x0=y0∧x1=y1∧x2=y2∧x3=y3∧x4=y4∧x5=y5∧x6=y6∧x7=y7∧x8=y8∧x9=y9∧x10=vV∧pH=Dw∧pG=Dv)) w:=by
 have hf:(Tryz.prog.fieldsOf 56).toList.map (fun f=>(f.type,f.offset))=[(3,0),(54,1),(54,5),(4,9),(3,10),(50,11),(3,12)]:=by kernel_rfl
 have hq:(Op.eqFields (d+2) #[.int .i64 x0,.int .u64 x1,.int .u64 x2,.int .u64 x3,.int .u64 x4,.int .u64 x5,.int .u64 x6,.int .u64 x7,.int .u64 x8,.bool x9,.int .i64 x10,.int .u32 pH,.int .i64 pG] #[.int .i64 y0,.int .u64 y1,.int .u64 y2,.int .u64 y3,.int .u64 y4,.int .u64 y5,.int .u64 y6,.int .u64 y7,.int .u64 y8,.bool y9,.int .i64 vV,.int .u32 Dw,.int .i64 Dv] (Tryz.prog.fieldsOf 56).toList).run Tryz.prog w=.ok ([decide (x0=y0),decide (x1=y1∧x2=y2∧x3=y3∧x4=y4),decide (x5=y5∧x6=y6∧x7=y7∧x8=y8),decide (x9=y9),decide (x10=vV),decide (pH=Dw),decide (pG=Dv)].all id) w:=by
  refine cM _ _ (by kernel_rfl) (by kernel_rfl) fun i f r hi hr=>?_
  have hm:=congrArg (fun z:List (Nat×Nat)=>z[i]?) hf;simp only[awl,hi,Option.map_some] at hm;have hlt:i<7:=(awb.1 hr).1
  match i,hlt with
  | 0,_=>
   obtain⟨h1,h2⟩:=awk (awe hm);obtain rfl:=awe hr;rw[h1,h2];exact⟨.int .i64 x0,.int .i64 y0,by kernel_rfl,by kernel_rfl,rU (d+1) x0 y0 w⟩
  | 1,_=>
   obtain⟨h1,h2⟩:=awk (awe hm);obtain rfl:=awe hr;rw[h1,h2];exact⟨.agg #[.int .u64 x1,.int .u64 x2,.int .u64 x3,.int .u64 x4],.agg #[.int .u64 y1,.int .u64 y2,.int .u64 y3,.int .u64 y4],by kernel_rfl,by kernel_rfl,mo d x1 x2 x3 x4 y1 y2 y3 y4 w⟩
  | 2,_=>
   obtain⟨h1,h2⟩:=awk (awe hm);obtain rfl:=awe hr;rw[h1,h2];exact⟨.agg #[.int .u64 x5,.int .u64 x6,.int .u64 x7,.int .u64 x8],.agg #[.int .u64 y5,.int .u64 y6,.int .u64 y7,.int .u64 y8],by kernel_rfl,by kernel_rfl,mo d x5 x6 x7 x8 y5 y6 y7 y8 w⟩
  | 3,_=>
   obtain⟨h1,h2⟩:=awk (awe hm);obtain rfl:=awe hr;rw[h1,h2];exact⟨.bool x9,.bool y9,by kernel_rfl,by kernel_rfl,agF (d+1) x9 y9 w⟩
  | 4,_=>
   obtain⟨h1,h2⟩:=awk (awe hm);obtain rfl:=awe hr;rw[h1,h2];exact⟨.int .i64 x10,.int .i64 vV,by kernel_rfl,by kernel_rfl,rU (d+1) x10 vV w⟩
  | 5,_=>
   obtain⟨h1,h2⟩:=awk (awe hm);obtain rfl:=awe hr;rw[h1,h2];exact⟨.int .u32 pH,.int .u32 Dw,by kernel_rfl,by kernel_rfl,agE (d+1) pH Dw w⟩
  | 6,_=>
   obtain⟨h1,h2⟩:=awk (awe hm);obtain rfl:=awe hr;rw[h1,h2];exact⟨.int .i64 pG,.int .i64 Dv,by kernel_rfl,by kernel_rfl,rU (d+1) pG Dv w⟩
 rw[show d+3=(d+2)+1 from rfl,run_equalIn_agg w (d+2) 56 _ _ (by kernel_rfl) (by kernel_rfl),hq];congr 1;rw[awv];simp[and_assoc]
theorem Kj(d:Nat)(x0 y0:ByteArray)(w:World):(Op.equalIn (d+1) 9 (.string x0) (.string y0)).run Tryz.prog w=.ok (decide (x0=y0)) w:=by
 have e:(x0 == y0)=decide (x0=y0):=by
  rw[awv,decide_eq_true_eq];constructor
  ·intro h;have h':(x0.data == y0.data)=true:=h;exact ByteArray.ext (by simpa using h')
  ·intro h;subst h;show(x0.data == x0.data)=true;simp
 simp[Op.equalIn,run_underlying Tryz.underlying9,e]
theorem agC(d:Nat)(x0 x1 x2 x3 x4 x5 x6 x7 x8 x9 pH pG y0 y1 y2 y3 y4 y5 y6 y7 y8 y9 Dw Dv:Int)(x10 vV:ByteArray)(w:World):(Op.equalIn (d+3) 84 (.agg #[.int .i64 x0,.int .u64 x1,.int .u64 x2,.int .u64 x3,.int .u64 x4,.int .u64 x5,.int .u64 x6,.int .u64 x7,.int .u64 x8,.int .i64 x9,.string x10,.int .i64 pH,.int .i64 pG]) (.agg #[.int .i64 y0,.int .u64 y1,.int .u64 y2,.int .u64 y3,.int .u64 y4,.int .u64 y5,.int .u64 y6,.int .u64 y7,.int .u64 y8,.int .i64 y9,.string vV,.int .i64 Dw,.int .i64 Dv])).run Tryz.prog w=.ok (decide (x0=y0∧x1=y1∧x2=y2∧x3=y3∧x4=y4∧x5=y5∧x6=y6∧x7=y7∧x8=y8∧x9=y9∧x10=vV∧pH=Dw∧pG=Dv)) w:=by
 have hf:(Tryz.prog.fieldsOf 84).toList.map (fun f=>(f.type,f.offset))=[(3,0),(54,1),(54,5),(3,9),(9,10),(3,11),(3,12)]:=by kernel_rfl
 have hq:(Op.eqFields (d+2) #[.int .i64 x0,.int .u64 x1,.int .u64 x2,.int .u64 x3,.int .u64 x4,.int .u64 x5,.int .u64 x6,.int .u64 x7,.int .u64 x8,.int .i64 x9,.string x10,.int .i64 pH,.int .i64 pG] #[.int .i64 y0,.int .u64 y1,.int .u64 y2,.int .u64 y3,.int .u64 y4,.int .u64 y5,.int .u64 y6,.int .u64 y7,.int .u64 y8,.int .i64 y9,.string vV,.int .i64 Dw,.int .i64 Dv] (Tryz.prog.fieldsOf 84).toList).run Tryz.prog w=.ok ([decide (x0=y0),decide (x1=y1∧x2=y2∧x3=y3∧x4=y4),decide (x5=y5∧x6=y6∧x7=y7∧x8=y8),decide (x9=y9),decide (x10=vV),decide (pH=Dw),decide (pG=Dv)].all id) w:=by
  refine cM _ _ (by kernel_rfl) (by kernel_rfl) fun i f r hi hr=>?_
  have hm:=congrArg (fun z:List (Nat×Nat)=>z[i]?) hf;simp only[awl,hi,Option.map_some] at hm;have hlt:i<7:=(awb.1 hr).1
  match i,hlt with
  | 0,_=>
   obtain⟨h1,h2⟩:=awk (awe hm);obtain rfl:=awe hr;rw[h1,h2];exact⟨.int .i64 x0,.int .i64 y0,by kernel_rfl,by kernel_rfl,rU (d+1) x0 y0 w⟩
  | 1,_=>
   obtain⟨h1,h2⟩:=awk (awe hm);obtain rfl:=awe hr;rw[h1,h2];exact⟨.agg #[.int .u64 x1,.int .u64 x2,.int .u64 x3,.int .u64 x4],.agg #[.int .u64 y1,.int .u64 y2,.int .u64 y3,.int .u64 y4],by kernel_rfl,by kernel_rfl,mo d x1 x2 x3 x4 y1 y2 y3 y4 w⟩
  | 2,_=>
   obtain⟨h1,h2⟩:=awk (awe hm);obtain rfl:=awe hr;rw[h1,h2];exact⟨.agg #[.int .u64 x5,.int .u64 x6,.int .u64 x7,.int .u64 x8],.agg #[.int .u64 y5,.int .u64 y6,.int .u64 y7,.int .u64 y8],by kernel_rfl,by kernel_rfl,mo d x5 x6 x7 x8 y5 y6 y7 y8 w⟩
  | 3,_=>
   obtain⟨h1,h2⟩:=awk (awe hm);obtain rfl:=awe hr;rw[h1,h2];exact⟨.int .i64 x9,.int .i64 y9,by kernel_rfl,by kernel_rfl,rU (d+1) x9 y9 w⟩
  | 4,_=>
   obtain⟨h1,h2⟩:=awk (awe hm);obtain rfl:=awe hr;rw[h1,h2];exact⟨.string x10,.string vV,by kernel_rfl,by kernel_rfl,Kj (d+1) x10 vV w⟩
  | 5,_=>
   obtain⟨h1,h2⟩:=awk (awe hm);obtain rfl:=awe hr;rw[h1,h2];exact⟨.int .i64 pH,.int .i64 Dw,by kernel_rfl,by kernel_rfl,rU (d+1) pH Dw w⟩
  | 6,_=>
   obtain⟨h1,h2⟩:=awk (awe hm);obtain rfl:=awe hr;rw[h1,h2];exact⟨.int .i64 pG,.int .i64 Dv,by kernel_rfl,by kernel_rfl,rU (d+1) pG Dv w⟩
 rw[show d+3=(d+2)+1 from rfl,run_equalIn_agg w (d+2) 84 _ _ (by kernel_rfl) (by kernel_rfl),hq];congr 1;rw[awv];simp[and_assoc]
theorem WI(d:Nat)(x0 x1 y0 y1:Int)(w:World):(Op.equalIn (d+2) 70 (.agg #[.int .i64 x0,.int .u64 x1]) (.agg #[.int .i64 y0,.int .u64 y1])).run Tryz.prog w=.ok (decide (x0=y0∧x1=y1)) w:=by
 have hf:(Tryz.prog.fieldsOf 70).toList.map (fun f=>(f.type,f.offset))=[(3,0),(52,1)]:=by kernel_rfl
 have hq:(Op.eqFields (d+1) #[.int .i64 x0,.int .u64 x1] #[.int .i64 y0,.int .u64 y1] (Tryz.prog.fieldsOf 70).toList).run Tryz.prog w=.ok ([decide (x0=y0),decide (x1=y1)].all id) w:=by
  refine cM _ _ (by kernel_rfl) (by kernel_rfl) fun i f r hi hr=>?_
  have hm:=congrArg (fun z:List (Nat×Nat)=>z[i]?) hf;simp only[awl,hi,Option.map_some] at hm;have hlt:i<2:=(awb.1 hr).1
  match i,hlt with
  | 0,_=>
   obtain⟨h1,h2⟩:=awk (awe hm);obtain rfl:=awe hr;rw[h1,h2];exact⟨.int .i64 x0,.int .i64 y0,by kernel_rfl,by kernel_rfl,rU d x0 y0 w⟩
  | 1,_=>
   obtain⟨h1,h2⟩:=awk (awe hm);obtain rfl:=awe hr;rw[h1,h2];exact⟨.int .u64 x1,.int .u64 y1,by kernel_rfl,by kernel_rfl,aa4 d x1 y1 w⟩
 rw[show d+2=(d+1)+1 from rfl,run_equalIn_agg w (d+1) 70 _ _ (by kernel_rfl) (by kernel_rfl),hq];congr 1;rw[awv];simp
theorem WH(d:Nat)(x0 x1 x2 x3 y0 y1 y2 y3:Int)(w:World):(Op.equalIn (d+3) 72 (.agg #[.int .i64 x0,.int .u64 x1,.int .i64 x2,.int .u64 x3]) (.agg #[.int .i64 y0,.int .u64 y1,.int .i64 y2,.int .u64 y3])).run Tryz.prog w=.ok (decide (x0=y0∧x1=y1∧x2=y2∧x3=y3)) w:=by
 have hf:(Tryz.prog.fieldsOf 72).toList.map (fun f=>(f.type,f.offset))=[(70,0),(70,2)]:=by kernel_rfl
 have hq:(Op.eqFields (d+2) #[.int .i64 x0,.int .u64 x1,.int .i64 x2,.int .u64 x3] #[.int .i64 y0,.int .u64 y1,.int .i64 y2,.int .u64 y3] (Tryz.prog.fieldsOf 72).toList).run Tryz.prog w=.ok ([decide (x0=y0∧x1=y1),decide (x2=y2∧x3=y3)].all id) w:=by
  refine cM _ _ (by kernel_rfl) (by kernel_rfl) fun i f r hi hr=>?_
  have hm:=congrArg (fun z:List (Nat×Nat)=>z[i]?) hf;simp only[awl,hi,Option.map_some] at hm;have hlt:i<2:=(awb.1 hr).1
  match i,hlt with
  | 0,_=>
   obtain⟨h1,h2⟩:=awk (awe hm);obtain rfl:=awe hr;rw[h1,h2];exact⟨.agg #[.int .i64 x0,.int .u64 x1],.agg #[.int .i64 y0,.int .u64 y1],by kernel_rfl,by kernel_rfl,WI d x0 x1 y0 y1 w⟩
  | 1,_=>
   obtain⟨h1,h2⟩:=awk (awe hm);obtain rfl:=awe hr;rw[h1,h2];exact⟨.agg #[.int .i64 x2,.int .u64 x3],.agg #[.int .i64 y2,.int .u64 y3],by kernel_rfl,by kernel_rfl,WI d x2 x3 y2 y3 w⟩
 rw[show d+3=(d+2)+1 from rfl,run_equalIn_agg w (d+2) 72 _ _ (by kernel_rfl) (by kernel_rfl),hq];congr 1;rw[awv];simp[and_assoc]
theorem aa3(d:Nat)(x0 x1 x2 x3 x4 x5 x6 y0 y1 y2 y3 y4 y5 y6:Int)(w:World):(Op.equalIn (d+4) 74 (.agg #[.int .i64 x0,.int .i64 x1,.int .i64 x2,.int .i64 x3,.int .u64 x4,.int .i64 x5,.int .u64 x6]) (.agg #[.int .i64 y0,.int .i64 y1,.int .i64 y2,.int .i64 y3,.int .u64 y4,.int .i64 y5,.int .u64 y6])).run Tryz.prog w=.ok (decide (x0=y0∧x1=y1∧x2=y2∧x3=y3∧x4=y4∧x5=y5∧x6=y6)) w:=by
 have hf:(Tryz.prog.fieldsOf 74).toList.map (fun f=>(f.type,f.offset))=[(3,0),(3,1),(3,2),(72,3)]:=by kernel_rfl
 have hq:(Op.eqFields (d+3) #[.int .i64 x0,.int .i64 x1,.int .i64 x2,.int .i64 x3,.int .u64 x4,.int .i64 x5,.int .u64 x6] #[.int .i64 y0,.int .i64 y1,.int .i64 y2,.int .i64 y3,.int .u64 y4,.int .i64 y5,.int .u64 y6] (Tryz.prog.fieldsOf 74).toList).run Tryz.prog w=.ok ([decide (x0=y0),decide (x1=y1),decide (x2=y2),decide (x3=y3∧x4=y4∧x5=y5∧x6=y6)].all id) w:=by
  refine cM _ _ (by kernel_rfl) (by kernel_rfl) fun i f r hi hr=>?_
  have hm:=congrArg (fun z:List (Nat×Nat)=>z[i]?) hf;simp only[awl,hi,Option.map_some] at hm;have hlt:i<4:=(awb.1 hr).1
  match i,hlt with
  | 0,_=>
   obtain⟨h1,h2⟩:=awk (awe hm);obtain rfl:=awe hr;rw[h1,h2];exact⟨.int .i64 x0,.int .i64 y0,by kernel_rfl,by kernel_rfl,rU (d+2) x0 y0 w⟩
  | 1,_=>
   obtain⟨h1,h2⟩:=awk (awe hm);obtain rfl:=awe hr;rw[h1,h2];exact⟨.int .i64 x1,.int .i64 y1,by kernel_rfl,by kernel_rfl,rU (d+2) x1 y1 w⟩
  | 2,_=>
   obtain⟨h1,h2⟩:=awk (awe hm);obtain rfl:=awe hr;rw[h1,h2];exact⟨.int .i64 x2,.int .i64 y2,by kernel_rfl,by kernel_rfl,rU (d+2) x2 y2 w⟩
  | 3,_=>
   obtain⟨h1,h2⟩:=awk (awe hm);obtain rfl:=awe hr;rw[h1,h2];exact⟨.agg #[.int .i64 x3,.int .u64 x4,.int .i64 x5,.int .u64 x6],.agg #[.int .i64 y3,.int .u64 y4,.int .i64 y5,.int .u64 y6],by kernel_rfl,by kernel_rfl,WH d x3 x4 x5 x6 y3 y4 y5 y6 w⟩
 rw[show d+4=(d+3)+1 from rfl,run_equalIn_agg w (d+3) 74 _ _ (by kernel_rfl) (by kernel_rfl),hq];congr 1;rw[awv];simp
theorem adx(d:Nat)(x1 x2 x3 x4 x5 x6 x7 y1 y2 y3 y4 y5 y6 y7:Int)(x0 y0:ByteArray)(w:World):(Op.equalIn (d+5) 125 (.agg #[.string x0,.int .i64 x1,.int .i64 x2,.int .i64 x3,.int .i64 x4,.int .u64 x5,.int .i64 x6,.int .u64 x7]) (.agg #[.string y0,.int .i64 y1,.int .i64 y2,.int .i64 y3,.int .i64 y4,.int .u64 y5,.int .i64 y6,.int .u64 y7])).run Tryz.prog w=.ok (decide (x0=y0∧x1=y1∧x2=y2∧x3=y3∧x4=y4∧x5=y5∧x6=y6∧x7=y7)) w:=by
 have hf:(Tryz.prog.fieldsOf 125).toList.map (fun f=>(f.type,f.offset))=[(9,0),(74,1)]:=by kernel_rfl
 have hq:(Op.eqFields (d+4) #[.string x0,.int .i64 x1,.int .i64 x2,.int .i64 x3,.int .i64 x4,.int .u64 x5,.int .i64 x6,.int .u64 x7] #[.string y0,.int .i64 y1,.int .i64 y2,.int .i64 y3,.int .i64 y4,.int .u64 y5,.int .i64 y6,.int .u64 y7] (Tryz.prog.fieldsOf 125).toList).run Tryz.prog w=.ok ([decide (x0=y0),decide (x1=y1∧x2=y2∧x3=y3∧x4=y4∧x5=y5∧x6=y6∧x7=y7)].all id) w:=by
  refine cM _ _ (by kernel_rfl) (by kernel_rfl) fun i f r hi hr=>?_
  have hm:=congrArg (fun z:List (Nat×Nat)=>z[i]?) hf;simp only[awl,hi,Option.map_some] at hm;have hlt:i<2:=(awb.1 hr).1
  match i,hlt with
  | 0,_=>
   obtain⟨h1,h2⟩:=awk (awe hm);obtain rfl:=awe hr;rw[h1,h2];exact⟨.string x0,.string y0,by kernel_rfl,by kernel_rfl,Kj (d+3) x0 y0 w⟩
  | 1,_=>
   obtain⟨h1,h2⟩:=awk (awe hm);obtain rfl:=awe hr;rw[h1,h2];exact⟨.agg #[.int .i64 x1,.int .i64 x2,.int .i64 x3,.int .i64 x4,.int .u64 x5,.int .i64 x6,.int .u64 x7],.agg #[.int .i64 y1,.int .i64 y2,.int .i64 y3,.int .i64 y4,.int .u64 y5,.int .i64 y6,.int .u64 y7],by kernel_rfl,by kernel_rfl,aa3 d x1 x2 x3 x4 x5 x6 x7 y1 y2 y3 y4 y5 y6 y7 w⟩
 rw[show d+5=(d+4)+1 from rfl,run_equalIn_agg w (d+4) 125 _ _ (by kernel_rfl) (by kernel_rfl),hq];congr 1;rw[awv];simp
theorem adw(d:Nat)(x1 x2 x3 x4 x5 x6 x7 x8 y1 y2 y3 y4 y5 y6 y7 y8:Int)(x0 y0:ByteArray)(w:World):(Op.equalIn (d+5) 127 (.agg #[.string x0,.int .i64 x1,.int .i64 x2,.int .i64 x3,.int .i64 x4,.int .i64 x5,.int .u64 x6,.int .i64 x7,.int .u64 x8]) (.agg #[.string y0,.int .i64 y1,.int .i64 y2,.int .i64 y3,.int .i64 y4,.int .i64 y5,.int .u64 y6,.int .i64 y7,.int .u64 y8])).run Tryz.prog w=.ok (decide (x0=y0∧x1=y1∧x2=y2∧x3=y3∧x4=y4∧x5=y5∧x6=y6∧x7=y7∧x8=y8)) w:=by
 have hf:(Tryz.prog.fieldsOf 127).toList.map (fun f=>(f.type,f.offset))=[(9,0),(3,1),(74,2)]:=by kernel_rfl
 have hq:(Op.eqFields (d+4) #[.string x0,.int .i64 x1,.int .i64 x2,.int .i64 x3,.int .i64 x4,.int .i64 x5,.int .u64 x6,.int .i64 x7,.int .u64 x8] #[.string y0,.int .i64 y1,.int .i64 y2,.int .i64 y3,.int .i64 y4,.int .i64 y5,.int .u64 y6,.int .i64 y7,.int .u64 y8] (Tryz.prog.fieldsOf 127).toList).run Tryz.prog w=.ok ([decide (x0=y0),decide (x1=y1),decide (x2=y2∧x3=y3∧x4=y4∧x5=y5∧x6=y6∧x7=y7∧x8=y8)].all id) w:=by
  refine cM _ _ (by kernel_rfl) (by kernel_rfl) fun i f r hi hr=>?_
  have hm:=congrArg (fun z:List (Nat×Nat)=>z[i]?) hf;simp only[awl,hi,Option.map_some] at hm;have hlt:i<3:=(awb.1 hr).1
  match i,hlt with
  | 0,_=>
   obtain⟨h1,h2⟩:=awk (awe hm);obtain rfl:=awe hr;rw[h1,h2];exact⟨.string x0,.string y0,by kernel_rfl,by kernel_rfl,Kj (d+3) x0 y0 w⟩
  | 1,_=>
   obtain⟨h1,h2⟩:=awk (awe hm);obtain rfl:=awe hr;rw[h1,h2];exact⟨.int .i64 x1,.int .i64 y1,by kernel_rfl,by kernel_rfl,rU (d+3) x1 y1 w⟩
  | 2,_=>
   obtain⟨h1,h2⟩:=awk (awe hm);obtain rfl:=awe hr;rw[h1,h2];exact⟨.agg #[.int .i64 x2,.int .i64 x3,.int .i64 x4,.int .i64 x5,.int .u64 x6,.int .i64 x7,.int .u64 x8],.agg #[.int .i64 y2,.int .i64 y3,.int .i64 y4,.int .i64 y5,.int .u64 y6,.int .i64 y7,.int .u64 y8],by kernel_rfl,by kernel_rfl,aa3 d x2 x3 x4 x5 x6 x7 x8 y2 y3 y4 y5 y6 y7 y8 w⟩
 rw[show d+5=(d+4)+1 from rfl,run_equalIn_agg w (d+4) 127 _ _ (by kernel_rfl) (by kernel_rfl),hq];congr 1;rw[awv];simp
theorem adv(d:Nat)(x1 x2 x3 x4 x5 x6 x7 x8 x9 y1 y2 y3 y4 y5 y6 y7 y8 y9:Int)(x0 y0:ByteArray)(w:World):(Op.equalIn (d+3) 129 (.agg #[.string x0,.int .i64 x1,.int .u64 x2,.int .u64 x3,.int .u64 x4,.int .u64 x5,.int .u64 x6,.int .u64 x7,.int .u64 x8,.int .u64 x9]) (.agg #[.string y0,.int .i64 y1,.int .u64 y2,.int .u64 y3,.int .u64 y4,.int .u64 y5,.int .u64 y6,.int .u64 y7,.int .u64 y8,.int .u64 y9])).run Tryz.prog w=.ok (decide (x0=y0∧x1=y1∧x2=y2∧x3=y3∧x4=y4∧x5=y5∧x6=y6∧x7=y7∧x8=y8∧x9=y9)) w:=by
 have hf:(Tryz.prog.fieldsOf 129).toList.map (fun f=>(f.type,f.offset))=[(9,0),(3,1),(54,2),(54,6)]:=by kernel_rfl
 have hq:(Op.eqFields (d+2) #[.string x0,.int .i64 x1,.int .u64 x2,.int .u64 x3,.int .u64 x4,.int .u64 x5,.int .u64 x6,.int .u64 x7,.int .u64 x8,.int .u64 x9] #[.string y0,.int .i64 y1,.int .u64 y2,.int .u64 y3,.int .u64 y4,.int .u64 y5,.int .u64 y6,.int .u64 y7,.int .u64 y8,.int .u64 y9] (Tryz.prog.fieldsOf 129).toList).run Tryz.prog w=.ok ([decide (x0=y0),decide (x1=y1),decide (x2=y2∧x3=y3∧x4=y4∧x5=y5),decide (x6=y6∧x7=y7∧x8=y8∧x9=y9)].all id) w:=by
  refine cM _ _ (by kernel_rfl) (by kernel_rfl) fun i f r hi hr=>?_
  have hm:=congrArg (fun z:List (Nat×Nat)=>z[i]?) hf;simp only[awl,hi,Option.map_some] at hm;have hlt:i<4:=(awb.1 hr).1
  match i,hlt with
  | 0,_=>
   obtain⟨h1,h2⟩:=awk (awe hm);obtain rfl:=awe hr;rw[h1,h2];exact⟨.string x0,.string y0,by kernel_rfl,by kernel_rfl,Kj (d+1) x0 y0 w⟩
  | 1,_=>
   obtain⟨h1,h2⟩:=awk (awe hm);obtain rfl:=awe hr;rw[h1,h2];exact⟨.int .i64 x1,.int .i64 y1,by kernel_rfl,by kernel_rfl,rU (d+1) x1 y1 w⟩
  | 2,_=>
   obtain⟨h1,h2⟩:=awk (awe hm);obtain rfl:=awe hr;rw[h1,h2];exact⟨.agg #[.int .u64 x2,.int .u64 x3,.int .u64 x4,.int .u64 x5],.agg #[.int .u64 y2,.int .u64 y3,.int .u64 y4,.int .u64 y5],by kernel_rfl,by kernel_rfl,mo d x2 x3 x4 x5 y2 y3 y4 y5 w⟩
  | 3,_=>
   obtain⟨h1,h2⟩:=awk (awe hm);obtain rfl:=awe hr;rw[h1,h2];exact⟨.agg #[.int .u64 x6,.int .u64 x7,.int .u64 x8,.int .u64 x9],.agg #[.int .u64 y6,.int .u64 y7,.int .u64 y8,.int .u64 y9],by kernel_rfl,by kernel_rfl,mo d x6 x7 x8 x9 y6 y7 y8 y9 w⟩
 rw[show d+3=(d+2)+1 from rfl,run_equalIn_agg w (d+2) 129 _ _ (by kernel_rfl) (by kernel_rfl),hq];congr 1;rw[awv];simp[and_assoc]
theorem adu(d:Nat)(x1 x2 x3 x4 y1 y2 y3 y4:Int)(x0 y0:ByteArray)(w:World):(Op.equalIn (d+3) 184 (.agg #[.string x0,.int .u64 x1,.int .u64 x2,.int .u64 x3,.int .u64 x4]) (.agg #[.string y0,.int .u64 y1,.int .u64 y2,.int .u64 y3,.int .u64 y4])).run Tryz.prog w=.ok (decide (x0=y0∧x1=y1∧x2=y2∧x3=y3∧x4=y4)) w:=by
 have hf:(Tryz.prog.fieldsOf 184).toList.map (fun f=>(f.type,f.offset))=[(9,0),(54,1)]:=by kernel_rfl
 have hq:(Op.eqFields (d+2) #[.string x0,.int .u64 x1,.int .u64 x2,.int .u64 x3,.int .u64 x4] #[.string y0,.int .u64 y1,.int .u64 y2,.int .u64 y3,.int .u64 y4] (Tryz.prog.fieldsOf 184).toList).run Tryz.prog w=.ok ([decide (x0=y0),decide (x1=y1∧x2=y2∧x3=y3∧x4=y4)].all id) w:=by
  refine cM _ _ (by kernel_rfl) (by kernel_rfl) fun i f r hi hr=>?_
  have hm:=congrArg (fun z:List (Nat×Nat)=>z[i]?) hf;simp only[awl,hi,Option.map_some] at hm;have hlt:i<2:=(awb.1 hr).1
  match i,hlt with
  | 0,_=>
   obtain⟨h1,h2⟩:=awk (awe hm);obtain rfl:=awe hr;rw[h1,h2];exact⟨.string x0,.string y0,by kernel_rfl,by kernel_rfl,Kj (d+1) x0 y0 w⟩
  | 1,_=>
   obtain⟨h1,h2⟩:=awk (awe hm);obtain rfl:=awe hr;rw[h1,h2];exact⟨.agg #[.int .u64 x1,.int .u64 x2,.int .u64 x3,.int .u64 x4],.agg #[.int .u64 y1,.int .u64 y2,.int .u64 y3,.int .u64 y4],by kernel_rfl,by kernel_rfl,mo d x1 x2 x3 x4 y1 y2 y3 y4 w⟩
 rw[show d+3=(d+2)+1 from rfl,run_equalIn_agg w (d+2) 184 _ _ (by kernel_rfl) (by kernel_rfl),hq];congr 1;rw[awv];simp
theorem WJ(d:Nat)(x1 x2 x3 x4 x5 x6 x7 x8 y1 y2 y3 y4 y5 y6 y7 y8:Int)(x0 y0:ByteArray)(w:World):(Op.equalIn (d+3) 188 (.agg #[.string x0,.int .u64 x1,.int .u64 x2,.int .u64 x3,.int .u64 x4,.int .u64 x5,.int .u64 x6,.int .u64 x7,.int .u64 x8]) (.agg #[.string y0,.int .u64 y1,.int .u64 y2,.int .u64 y3,.int .u64 y4,.int .u64 y5,.int .u64 y6,.int .u64 y7,.int .u64 y8])).run Tryz.prog w=.ok (decide (x0=y0∧x1=y1∧x2=y2∧x3=y3∧x4=y4∧x5=y5∧x6=y6∧x7=y7∧x8=y8)) w:=by
 have hf:(Tryz.prog.fieldsOf 188).toList.map (fun f=>(f.type,f.offset))=[(9,0),(54,1),(54,5)]:=by kernel_rfl
 have hq:(Op.eqFields (d+2) #[.string x0,.int .u64 x1,.int .u64 x2,.int .u64 x3,.int .u64 x4,.int .u64 x5,.int .u64 x6,.int .u64 x7,.int .u64 x8] #[.string y0,.int .u64 y1,.int .u64 y2,.int .u64 y3,.int .u64 y4,.int .u64 y5,.int .u64 y6,.int .u64 y7,.int .u64 y8] (Tryz.prog.fieldsOf 188).toList).run Tryz.prog w=.ok ([decide (x0=y0),decide (x1=y1∧x2=y2∧x3=y3∧x4=y4),decide (x5=y5∧x6=y6∧x7=y7∧x8=y8)].all id) w:=by
  refine cM _ _ (by kernel_rfl) (by kernel_rfl) fun i f r hi hr=>?_
  have hm:=congrArg (fun z:List (Nat×Nat)=>z[i]?) hf;simp only[awl,hi,Option.map_some] at hm;have hlt:i<3:=(awb.1 hr).1
  match i,hlt with
  | 0,_=>
   obtain⟨h1,h2⟩:=awk (awe hm);obtain rfl:=awe hr;rw[h1,h2];exact⟨.string x0,.string y0,by kernel_rfl,by kernel_rfl,Kj (d+1) x0 y0 w⟩
  | 1,_=>
   obtain⟨h1,h2⟩:=awk (awe hm);obtain rfl:=awe hr;rw[h1,h2];exact⟨.agg #[.int .u64 x1,.int .u64 x2,.int .u64 x3,.int .u64 x4],.agg #[.int .u64 y1,.int .u64 y2,.int .u64 y3,.int .u64 y4],by kernel_rfl,by kernel_rfl,mo d x1 x2 x3 x4 y1 y2 y3 y4 w⟩
  | 2,_=>
   obtain⟨h1,h2⟩:=awk (awe hm);obtain rfl:=awe hr;rw[h1,h2];exact⟨.agg #[.int .u64 x5,.int .u64 x6,.int .u64 x7,.int .u64 x8],.agg #[.int .u64 y5,.int .u64 y6,.int .u64 y7,.int .u64 y8],by kernel_rfl,by kernel_rfl,mo d x5 x6 x7 x8 y5 y6 y7 y8 w⟩
 rw[show d+3=(d+2)+1 from rfl,run_equalIn_agg w (d+2) 188 _ _ (by kernel_rfl) (by kernel_rfl),hq];congr 1;rw[awv];simp[and_assoc]
theorem adt(d:Nat)(x1 x2 x3 x4 x5 x6 x7 x8 x9 x10 y1 y2 y3 y4 y5 y6 y7 y8 y9 vV:Int)(x0 y0:ByteArray)(w:World):(Op.equalIn (d+4) 192 (.agg #[.string x0,.int .u64 x1,.int .u64 x2,.int .u64 x3,.int .u64 x4,.int .i64 x5,.int .u64 x6,.int .i64 x7,.int .u64 x8,.int .i64 x9,.int .u64 x10]) (.agg #[.string y0,.int .u64 y1,.int .u64 y2,.int .u64 y3,.int .u64 y4,.int .i64 y5,.int .u64 y6,.int .i64 y7,.int .u64 y8,.int .i64 y9,.int .u64 vV])).run Tryz.prog w=.ok (decide (x0=y0∧x1=y1∧x2=y2∧x3=y3∧x4=y4∧x5=y5∧x6=y6∧x7=y7∧x8=y8∧x9=y9∧x10=vV)) w:=by
 have hf:(Tryz.prog.fieldsOf 192).toList.map (fun f=>(f.type,f.offset))=[(9,0),(54,1),(70,5),(72,7)]:=by kernel_rfl
 have hq:(Op.eqFields (d+3) #[.string x0,.int .u64 x1,.int .u64 x2,.int .u64 x3,.int .u64 x4,.int .i64 x5,.int .u64 x6,.int .i64 x7,.int .u64 x8,.int .i64 x9,.int .u64 x10] #[.string y0,.int .u64 y1,.int .u64 y2,.int .u64 y3,.int .u64 y4,.int .i64 y5,.int .u64 y6,.int .i64 y7,.int .u64 y8,.int .i64 y9,.int .u64 vV] (Tryz.prog.fieldsOf 192).toList).run Tryz.prog w=.ok ([decide (x0=y0),decide (x1=y1∧x2=y2∧x3=y3∧x4=y4),decide (x5=y5∧x6=y6),decide (x7=y7∧x8=y8∧x9=y9∧x10=vV)].all id) w:=by
  refine cM _ _ (by kernel_rfl) (by kernel_rfl) fun i f r hi hr=>?_
  have hm:=congrArg (fun z:List (Nat×Nat)=>z[i]?) hf;simp only[awl,hi,Option.map_some] at hm;have hlt:i<4:=(awb.1 hr).1
  match i,hlt with
  | 0,_=>
   obtain⟨h1,h2⟩:=awk (awe hm);obtain rfl:=awe hr;rw[h1,h2];exact⟨.string x0,.string y0,by kernel_rfl,by kernel_rfl,Kj (d+2) x0 y0 w⟩
  | 1,_=>
   obtain⟨h1,h2⟩:=awk (awe hm);obtain rfl:=awe hr;rw[h1,h2];exact⟨.agg #[.int .u64 x1,.int .u64 x2,.int .u64 x3,.int .u64 x4],.agg #[.int .u64 y1,.int .u64 y2,.int .u64 y3,.int .u64 y4],by kernel_rfl,by kernel_rfl,mo (d+1) x1 x2 x3 x4 y1 y2 y3 y4 w⟩
  | 2,_=>
   obtain⟨h1,h2⟩:=awk (awe hm);obtain rfl:=awe hr;rw[h1,h2];exact⟨.agg #[.int .i64 x5,.int .u64 x6],.agg #[.int .i64 y5,.int .u64 y6],by kernel_rfl,by kernel_rfl,WI (d+1) x5 x6 y5 y6 w⟩
  | 3,_=>
   obtain⟨h1,h2⟩:=awk (awe hm);obtain rfl:=awe hr;rw[h1,h2];exact⟨.agg #[.int .i64 x7,.int .u64 x8,.int .i64 x9,.int .u64 x10],.agg #[.int .i64 y7,.int .u64 y8,.int .i64 y9,.int .u64 vV],by kernel_rfl,by kernel_rfl,WH d x7 x8 x9 x10 y7 y8 y9 vV w⟩
 rw[show d+4=(d+3)+1 from rfl,run_equalIn_agg w (d+3) 192 _ _ (by kernel_rfl) (by kernel_rfl),hq];congr 1;rw[awv];simp[and_assoc]
theorem ads(d:Nat)(x1 y1:Bool)(x0 y0:ByteArray)(w:World):(Op.equalIn (d+2) 197 (.agg #[.string x0,.bool x1]) (.agg #[.string y0,.bool y1])).run Tryz.prog w=.ok (decide (x0=y0∧x1=y1)) w:=by
 have hf:(Tryz.prog.fieldsOf 197).toList.map (fun f=>(f.type,f.offset))=[(9,0),(4,1)]:=by kernel_rfl
 have hq:(Op.eqFields (d+1) #[.string x0,.bool x1] #[.string y0,.bool y1] (Tryz.prog.fieldsOf 197).toList).run Tryz.prog w=.ok ([decide (x0=y0),decide (x1=y1)].all id) w:=by
  refine cM _ _ (by kernel_rfl) (by kernel_rfl) fun i f r hi hr=>?_
  have hm:=congrArg (fun z:List (Nat×Nat)=>z[i]?) hf;simp only[awl,hi,Option.map_some] at hm;have hlt:i<2:=(awb.1 hr).1
  match i,hlt with
  | 0,_=>
   obtain⟨h1,h2⟩:=awk (awe hm);obtain rfl:=awe hr;rw[h1,h2];exact⟨.string x0,.string y0,by kernel_rfl,by kernel_rfl,Kj d x0 y0 w⟩
  | 1,_=>
   obtain⟨h1,h2⟩:=awk (awe hm);obtain rfl:=awe hr;rw[h1,h2];exact⟨.bool x1,.bool y1,by kernel_rfl,by kernel_rfl,agF d x1 y1 w⟩
 rw[show d+2=(d+1)+1 from rfl,run_equalIn_agg w (d+1) 197 _ _ (by kernel_rfl) (by kernel_rfl),hq];congr 1;rw[awv];simp
theorem adr(d:Nat)(x0 x1 x2 x3 x4 x5 x6 x7 x8 x9 y0 y1 y2 y3 y4 y5 y6 y7 y8 y9:Int)(w:World):(Op.equalIn (d+3) 203 (.agg #[.int .u64 x0,.int .u64 x1,.int .u64 x2,.int .u64 x3,.int .u64 x4,.int .u64 x5,.int .u64 x6,.int .u64 x7,.int .i64 x8,.int .i64 x9]) (.agg #[.int .u64 y0,.int .u64 y1,.int .u64 y2,.int .u64 y3,.int .u64 y4,.int .u64 y5,.int .u64 y6,.int .u64 y7,.int .i64 y8,.int .i64 y9])).run Tryz.prog w=.ok (decide (x0=y0∧x1=y1∧x2=y2∧x3=y3∧x4=y4∧x5=y5∧x6=y6∧x7=y7∧x8=y8∧x9=y9)) w:=by
 have hf:(Tryz.prog.fieldsOf 203).toList.map (fun f=>(f.type,f.offset))=[(54,0),(54,4),(3,8),(3,9)]:=by kernel_rfl
 have hq:(Op.eqFields (d+2) #[.int .u64 x0,.int .u64 x1,.int .u64 x2,.int .u64 x3,.int .u64 x4,.int .u64 x5,.int .u64 x6,.int .u64 x7,.int .i64 x8,.int .i64 x9] #[.int .u64 y0,.int .u64 y1,.int .u64 y2,.int .u64 y3,.int .u64 y4,.int .u64 y5,.int .u64 y6,.int .u64 y7,.int .i64 y8,.int .i64 y9] (Tryz.prog.fieldsOf 203).toList).run Tryz.prog w=.ok ([decide (x0=y0∧x1=y1∧x2=y2∧x3=y3),decide (x4=y4∧x5=y5∧x6=y6∧x7=y7),decide (x8=y8),decide (x9=y9)].all id) w:=by
  refine cM _ _ (by kernel_rfl) (by kernel_rfl) fun i f r hi hr=>?_
  have hm:=congrArg (fun z:List (Nat×Nat)=>z[i]?) hf;simp only[awl,hi,Option.map_some] at hm;have hlt:i<4:=(awb.1 hr).1
  match i,hlt with
  | 0,_=>
   obtain⟨h1,h2⟩:=awk (awe hm);obtain rfl:=awe hr;rw[h1,h2];exact⟨.agg #[.int .u64 x0,.int .u64 x1,.int .u64 x2,.int .u64 x3],.agg #[.int .u64 y0,.int .u64 y1,.int .u64 y2,.int .u64 y3],by kernel_rfl,by kernel_rfl,mo d x0 x1 x2 x3 y0 y1 y2 y3 w⟩
  | 1,_=>
   obtain⟨h1,h2⟩:=awk (awe hm);obtain rfl:=awe hr;rw[h1,h2];exact⟨.agg #[.int .u64 x4,.int .u64 x5,.int .u64 x6,.int .u64 x7],.agg #[.int .u64 y4,.int .u64 y5,.int .u64 y6,.int .u64 y7],by kernel_rfl,by kernel_rfl,mo d x4 x5 x6 x7 y4 y5 y6 y7 w⟩
  | 2,_=>
   obtain⟨h1,h2⟩:=awk (awe hm);obtain rfl:=awe hr;rw[h1,h2];exact⟨.int .i64 x8,.int .i64 y8,by kernel_rfl,by kernel_rfl,rU (d+1) x8 y8 w⟩
  | 3,_=>
   obtain⟨h1,h2⟩:=awk (awe hm);obtain rfl:=awe hr;rw[h1,h2];exact⟨.int .i64 x9,.int .i64 y9,by kernel_rfl,by kernel_rfl,rU (d+1) x9 y9 w⟩
 rw[show d+3=(d+2)+1 from rfl,run_equalIn_agg w (d+2) 203 _ _ (by kernel_rfl) (by kernel_rfl),hq];congr 1;rw[awv];simp[and_assoc]
theorem adq(d:Nat)(x0 x1 x2 x3 x4 x5 x6 x7 x8 x9 x10 pH pG y0 y1 y2 y3 y4 y5 y6 y7 y8 y9 vV Dw Dv:Int)(w:World):(Op.equalIn (d+4) 205 (.agg #[.int .u64 x0,.int .u64 x1,.int .u64 x2,.int .u64 x3,.int .u64 x4,.int .u64 x5,.int .u64 x6,.int .u64 x7,.int .i64 x8,.int .i64 x9,.int .u64 x10,.int .i64 pH,.int .u64 pG]) (.agg #[.int .u64 y0,.int .u64 y1,.int .u64 y2,.int .u64 y3,.int .u64 y4,.int .u64 y5,.int .u64 y6,.int .u64 y7,.int .i64 y8,.int .i64 y9,.int .u64 vV,.int .i64 Dw,.int .u64 Dv])).run Tryz.prog w=.ok (decide (x0=y0∧x1=y1∧x2=y2∧x3=y3∧x4=y4∧x5=y5∧x6=y6∧x7=y7∧x8=y8∧x9=y9∧x10=vV∧pH=Dw∧pG=Dv)) w:=by
 have hf:(Tryz.prog.fieldsOf 205).toList.map (fun f=>(f.type,f.offset))=[(54,0),(54,4),(3,8),(72,9)]:=by kernel_rfl
 have hq:(Op.eqFields (d+3) #[.int .u64 x0,.int .u64 x1,.int .u64 x2,.int .u64 x3,.int .u64 x4,.int .u64 x5,.int .u64 x6,.int .u64 x7,.int .i64 x8,.int .i64 x9,.int .u64 x10,.int .i64 pH,.int .u64 pG] #[.int .u64 y0,.int .u64 y1,.int .u64 y2,.int .u64 y3,.int .u64 y4,.int .u64 y5,.int .u64 y6,.int .u64 y7,.int .i64 y8,.int .i64 y9,.int .u64 vV,.int .i64 Dw,.int .u64 Dv] (Tryz.prog.fieldsOf 205).toList).run Tryz.prog w=.ok ([decide (x0=y0∧x1=y1∧x2=y2∧x3=y3),decide (x4=y4∧x5=y5∧x6=y6∧x7=y7),decide (x8=y8),decide (x9=y9∧x10=vV∧pH=Dw∧pG=Dv)].all id) w:=by
  refine cM _ _ (by kernel_rfl) (by kernel_rfl) fun i f r hi hr=>?_
  have hm:=congrArg (fun z:List (Nat×Nat)=>z[i]?) hf;simp only[awl,hi,Option.map_some] at hm;have hlt:i<4:=(awb.1 hr).1
  match i,hlt with
  | 0,_=>
   obtain⟨h1,h2⟩:=awk (awe hm);obtain rfl:=awe hr;rw[h1,h2];exact⟨.agg #[.int .u64 x0,.int .u64 x1,.int .u64 x2,.int .u64 x3],.agg #[.int .u64 y0,.int .u64 y1,.int .u64 y2,.int .u64 y3],by kernel_rfl,by kernel_rfl,mo (d+1) x0 x1 x2 x3 y0 y1 y2 y3 w⟩
  | 1,_=>
   obtain⟨h1,h2⟩:=awk (awe hm);obtain rfl:=awe hr;rw[h1,h2];exact⟨.agg #[.int .u64 x4,.int .u64 x5,.int .u64 x6,.int .u64 x7],.agg #[.int .u64 y4,.int .u64 y5,.int .u64 y6,.int .u64 y7],by kernel_rfl,by kernel_rfl,mo (d+1) x4 x5 x6 x7 y4 y5 y6 y7 w⟩
  | 2,_=>
   obtain⟨h1,h2⟩:=awk (awe hm);obtain rfl:=awe hr;rw[h1,h2];exact⟨.int .i64 x8,.int .i64 y8,by kernel_rfl,by kernel_rfl,rU (d+2) x8 y8 w⟩
  | 3,_=>
   obtain⟨h1,h2⟩:=awk (awe hm);obtain rfl:=awe hr;rw[h1,h2];exact⟨.agg #[.int .i64 x9,.int .u64 x10,.int .i64 pH,.int .u64 pG],.agg #[.int .i64 y9,.int .u64 vV,.int .i64 Dw,.int .u64 Dv],by kernel_rfl,by kernel_rfl,WH d x9 x10 pH pG y9 vV Dw Dv w⟩
 rw[show d+4=(d+3)+1 from rfl,run_equalIn_agg w (d+3) 205 _ _ (by kernel_rfl) (by kernel_rfl),hq];congr 1;rw[awv];simp[and_assoc]
end Go.Proofs.YtdcofoaihmongaaGreat
namespace Go.Proofs.YtdcofoaihmongaaGreat
open Go Go.RowKit
theorem abW:(Tryz.prog.info? 89).map (·.size)=some 10:=by kernel_rfl
theorem C_(n:Nat):(ay.all n).Ok:=Hw _
def eV(s:ay):Bool:=!(decide (s=ay.zero))
theorem pK(x y:ay)(w:World):(Op.equalIn 10000 54 (.agg #[.int .u64 x.a,.int .u64 x.b,.int .u64 x.c,.int .u64 x.d]) (.agg #[.int .u64 y.a,.int .u64 y.b,.int .u64 y.c,.int .u64 y.d])).run Tryz.prog w=.ok (decide (x=y)) w:=by
 rw[show(10000:Nat)=9998+2 from rfl,mo];congr 1;rw[awv];obtain⟨x_a,x_b,x_c,x_d⟩:=x;obtain⟨y_a,y_b,y_c,y_d⟩:=y;simp only[decide_eq_true_eq,ay.mk.injEq,Int.natCast_inj]
theorem gj(w:World)(s:ay)(hs:s.Ok)(n:Nat)(hn:n≤140737488355328):Calls Tryz.prog 103 #[.agg #[.int .u64 s.a,.int .u64 s.b,.int .u64 s.c,.int .u64 s.d],.int .i64 (n:Int)] w fun e w'=>e=.returned (.tuple #[.bool (eV s),.bool (s.within (ay.all n))])∧awh w.heap.size w w':=by
 exact dD [] (fn:=Tryz.f103) Tryz.func103 rfl Tryz.ntmps103 rfl<|fun g1 w1 M1=>dr (by kernel_rfl)<|lb 0<|an rfl<|ei (x:=.agg #[.int .u64 0,.int .u64 0,.int .u64 0,.int .u64 0])<|an (bd (by kernel_rfl))<|ei (x:=decide (s=ay.zero))<|an ⟨rV,fun w=>pK s ay.zero w⟩<|lb 0<|an rfl<|cl<|an (fun w' hb' M'=>Bz w' n hn)<|cl<|an (fun w' hb' M'=>qq w' s _ hs (C_ n))<|fun w hb M=>fun M=>⟨rfl,M.below⟩
def wR(n:Nat)(s:ay):Bool:=s.within (ay.all n).unit
theorem jC(w:World)(c0 c1 c2 c3 c4 c5 c6 c7 c8 c9 aR aO aN aQ aM aL aP:Value)(p:aF)(hp:aK w c0 c1 c2 c3 c4 c5 c6 c7 c8 c9 aR aO aN aQ aM aL aP p)(hok:p.Ok)(s:ay)(hs:s.Ok):Calls Tryz.prog 106 #[.agg #[c0,c1,c2,c3,c4,c5,c6,c7,c8,c9,aR,aO,aN,aQ,aM,aL,aP],.agg #[.int .u64 s.a,.int .u64 s.b,.int .u64 s.c,.int .u64 s.d]] w fun e w'=>e=.returned (.bool (wR p.roles.length s))∧awh w.heap.size w w':=by
 obtain⟨_,_,_,_,_,_,_,_,_,_,_,_,_,_,_,_,_,_,_,_,_,_,_,_,_,_,_,_,_,_,_,_,_,_,rfl,rfl,rfl,rfl,rfl,rfl,rfl,rfl,rfl,rfl,rfl,rfl,rfl,rfl,rfl,rfl,rfl⟩:=hp.open;have hn3:p.roles.length≤140737488355328:=hok.UU;exact dD [] (fn:=Tryz.f106) Tryz.func106 rfl Tryz.ntmps106 rfl<|fun g1 w1 M1=>fun g2 w2 M2=>dr (by kernel_rfl)<|lb 0<|an rfl<|lb 1<|an rfl<|cl<|an (fun w' hb' M'=>Bz w' _ hn3)<|cl<|an (fun w' hb' M'=>DC w' (ay.all p.roles.length) (C_ _))<|cl<|an (fun w' hb' M'=>qq w' s _ hs (ay.X5 (C_ _)))<|fun w hb M=>fun M=>⟨rfl,M.below⟩
def xu(nS nC:Nat)(l:rY):Bool:=bA l.bf (nS:Int)&&(decide ((64:Int)≤(nC:Int))||decide ((l.cats:Int)/2^nC=0))
theorem xq(w:World)(c0 c1 c2 c3 c4 c5 c6 c7 c8 c9 aR aO aN aQ aM aL aP:Value)(p:aF)(hp:aK w c0 c1 c2 c3 c4 c5 c6 c7 c8 c9 aR aO aN aQ aM aL aP p)(l:rY)(hl:l.Ok):Calls Tryz.prog 108 #[.agg #[c0,c1,c2,c3,c4,c5,c6,c7,c8,c9,aR,aO,aN,aQ,aM,aL,aP],.agg #[.int .i64 l.bf,.int .u64 l.cats]] w fun e w'=>e=.returned (.bool (xu p.bf.length p.cats.length l))∧awh w.heap.size w w':=by
 obtain⟨a6,k6,rfl,hk6,hm6⟩:=aK.f6 hp;obtain⟨n6,hn6⟩:∃ n,n=p.bf.length:=⟨_,rfl⟩;have N6:=awt hn6;rw[← hn6] at hk6 hm6 ⊢;clear hn6;obtain⟨a7,k7,rfl,hk7,hm7⟩:=aK.f7 hp;obtain⟨n7,hn7⟩:∃ n,n=p.cats.length:=⟨_,rfl⟩;have N7:=awt hn7;rw[← hn7] at hk7 hm7 ⊢;clear hn7;have hcl:l.cats<18446744073709551616:=hl.cats;clear hp hl;obtain⟨wo,bP⟩:∃ wo,wo=((w).alloc (.cells #[c0,c1,c2,c3,c4,c5,.slice a6 n6 k6,.slice a7 n7 k7,c8,c9,aR,aO,aN,aQ,aM,aL,aP] 39)).alloc (.cells #[.int .i64 l.bf,.int .u64 l.cats] 70):=⟨_,rfl⟩;have W0:=awt (show Whole wo w.heap.size 39 #[c0,c1,c2,c3,c4,c5,.slice a6 n6 k6,.slice a7 n7 k7,c8,c9,aR,aO,aN,aQ,aM,aL,aP] by rw[bP];exact((show Whole _ w.heap.size 39 #[c0,c1,c2,c3,c4,c5,.slice a6 n6 k6,.slice a7 n7 k7,c8,c9,aR,aO,aN,aQ,aM,aL,aP] from Whole.new w 39 _).alloc _));have W1:=awt (show Whole wo (w.heap.size+1) 70 #[.int .i64 l.bf,.int .u64 l.cats] by rw[bP];exact(dh w _ _ _));have fG:=awt (show awh w.heap.size w wo by rw[bP];exact(((Below.refl _ w).alloc (Nat.le_refl _) _).alloc (by simp) _));have ka6:wo.cell? ⟨w.heap.size,6,none⟩=some (.slice a6 n6 k6):=W0.out.cell 6;have ka7:wo.cell? ⟨w.heap.size,7,none⟩=some (.slice a7 n7 k7):=W0.out.cell 7;have kb0:wo.cell? ⟨w.heap.size+1,0,none⟩=some (.int .i64 l.bf):=W1.out.cell 0;have kb1:wo.cell? ⟨w.heap.size+1,1,none⟩=some (.int .u64 l.cats):=W1.out.cell 1;unfold xu
 cases hb:bA l.bf (n6:Int) with
 | false=>
  have H1:=awt hb;clear hb
  go_enter Tryz.func108,Tryz.ntmps108
  go_upto_region 1 with(fail)
  rw[← bP];clear bP
  go_wp2_with (have hZ:=H1;clear hZ;go_at_call 113;go_must (refine(show Calls Tryz.prog 113 _ _ (fun e w'=>e=.returned (.bool false)∧wo=w') from by have h:=cC wo l.bf (n6:Int);rw[H1.out] at h;exact h).mono ?_;rintro e w' ⟨rfl,rfl⟩;clear H1))
  go_ret
  exact⟨rfl,fG.out⟩
 | true=>
  have H1:=awt hb;clear hb;by_cases h64:(64:Int)≤(n7:Int)
  ·have d1:decide ((64:Int)≤(n7:Int))=true:=by simp;omega
   rw[d1]
   go_enter Tryz.func108,Tryz.ntmps108
   go_upto_region 1 with(fail)
   rw[← bP];clear bP
   go_wp2_with (have hZ:=H1;clear hZ;go_at_call 113;go_must (refine(show Calls Tryz.prog 113 _ _ (fun e w'=>e=.returned (.bool true)∧wo=w') from by have h:=cC wo l.bf (n6:Int);rw[H1.out] at h;exact h).mono ?_;rintro e w' ⟨rfl,rfl⟩;clear H1))
   go_ret
   exact⟨rfl,fG.out⟩
  ·have d1:decide ((64:Int)≤(n7:Int))=false:=by simp;omega
   rw[d1];have h7:n7<64:=by omega
   go_enter Tryz.func108,Tryz.ntmps108
   go_upto_region 1 with(fail)
   rw[← bP];clear bP
   go_wp2_with (have hZ:=H1;clear hZ;go_at_call 113;go_must (refine(show Calls Tryz.prog 113 _ _ (fun e w'=>e=.returned (.bool true)∧wo=w') from by have h:=cC wo l.bf (n6:Int);rw[H1.out] at h;exact h).mono ?_;rintro e w' ⟨rfl,rfl⟩;clear H1))
   go_ret
   exact⟨aH (by first|rfl|(simp<;>rfl)),fG.out⟩
def tg(nS nC:Nat)(r:vU):Bool:=xu nS nC r.low&&xu nS nC r.high&&xX r.high r.low
theorem wU(w:World)(c0 c1 c2 c3 c4 c5 c6 c7 c8 c9 aR aO aN aQ aM aL aP:Value)(p:aF)(hp:aK w c0 c1 c2 c3 c4 c5 c6 c7 c8 c9 aR aO aN aQ aM aL aP p)(r:vU)(hr:r.Ok):Calls Tryz.prog 107 #[.agg #[c0,c1,c2,c3,c4,c5,c6,c7,c8,c9,aR,aO,aN,aQ,aM,aL,aP],.agg #[.int .i64 r.low.bf,.int .u64 r.low.cats,.int .i64 r.high.bf,.int .u64 r.high.cats]] w fun e w'=>e=.returned (.bool (tg p.bf.length p.cats.length r))∧awh w.heap.size w w':=by
 obtain⟨_,_,_,_,_,_,_,_,_,_,_,_,_,_,_,_,_,_,_,_,_,_,_,_,_,_,_,_,_,_,_,_,_,_,rfl,rfl,rfl,rfl,rfl,rfl,rfl,rfl,rfl,rfl,rfl,rfl,rfl,rfl,rfl,rfl,rfl⟩:=hp.open;exact dD [] (fn:=Tryz.f107) Tryz.func107 rfl Tryz.ntmps107 rfl<|fun g1 w1 M1=>fun g2 w2 M2=>lb 1<|an rfl<|lb 0<|an rfl<|cl<|an (xq _ _ _ _ _ _ _ _ _ _ _ _ _ _ _ _ _ _ p (hp.keep M2.below) r.low hr.low) fun w3 M3=>lb 1<|an (fun _=>rfl)<|lb 0<|an (fun _=>rfl)<|cl<|an (fun _=>xq _ _ _ _ _ _ _ _ _ _ _ _ _ _ _ _ _ _ p (hp.keep M3.below) r.high hr.high) fun w4 M4=>lb 0<|an (fun _=>rfl)<|lb 0<|an (fun _=>rfl)<|cl<|an (fun _=>vu _ r.high r.low hr.high hr.low) fun w5 M5=>fun M=>⟨rfl,M.below⟩
def kO(cl:List mI)(c:Int)(v:Int):Bool:=match (if 0≤c then cl[c.toNat]? else none) with
 | some x=>decide ((32:Int)≤(x.perms.length:Int))||decide (v/2^x.perms.length=0)
 | none=>false
theorem yF{cl:List mI}{c v:Int}(h:bA c (cl.length:Int)=false):kO cl c v=false:=by
 unfold kO;by_cases h0:0≤c
 ·rw[if_pos h0,List.getElem?_eq_none (by unfold bA at h;simp[h0] at h;omega)]
 ·rw[if_neg h0]
theorem A8(w:World)(c0 c1 c2 c3 c4 c5 c6 c7 c8 c9 aR aO aN aQ aM aL aP:Value)(p:aF)(hp:aK w c0 c1 c2 c3 c4 c5 c6 c7 c8 c9 aR aO aN aQ aM aL aP p)(c v:Int)(hv:Qk v):Calls Tryz.prog 111 #[.agg #[c0,c1,c2,c3,c4,c5,c6,c7,c8,c9,aR,aO,aN,aQ,aM,aL,aP],.int .i64 c,.int .u32 v] w fun e w'=>e=.returned (.bool (kO p.classes c v))∧awh w.heap.size w w':=by
 obtain⟨a0,k0,rfl,hk0,hm0,hcell⟩:=aC.form hp.classes (by decide);obtain⟨n0,hn0⟩:∃ n,n=p.classes.length:=⟨_,rfl⟩;have N0:=awt hn0;have HC:=awt hcell;rw[← hn0] at hk0 hm0 ⊢;have hv':0≤v∧v<4294967296:=hv;clear hn0 hcell hp hv;obtain⟨wo,bP⟩:∃ wo,wo=(w).alloc (.cells #[.slice a0 n0 k0,c1,c2,c3,c4,c5,c6,c7,c8,c9,aR,aO,aN,aQ,aM,aL,aP] 39):=⟨_,rfl⟩;have W0:=awt (show Whole wo w.heap.size 39 #[.slice a0 n0 k0,c1,c2,c3,c4,c5,c6,c7,c8,c9,aR,aO,aN,aQ,aM,aL,aP] by rw[bP];exact(Whole.new w 39 _));have fG:=awt (show awh w.heap.size w wo by rw[bP];exact((Below.refl _ w).alloc (Nat.le_refl _) _));have ka0:wo.cell? ⟨w.heap.size,0,none⟩=some (.slice a0 n0 k0):=W0.out.cell 0
 cases hb:bA c (n0:Int) with
 | false=>
  have H1:=awt hb;rw[yF (by rw[← N0.out];exact hb)];clear hb
  go_enter Tryz.func111,Tryz.ntmps111
  go_upto_region 1 with(fail)
  rw[← bP];clear bP
  go_wp2_with (have hZ:=H1;clear hZ;go_at_call 113;go_must (refine(show Calls Tryz.prog 113 _ _ (fun e w'=>e=.returned (.bool false)∧wo=w') from by have h:=cC wo c (n0:Int);rw[H1.out] at h;exact h).mono ?_;rintro e w' ⟨rfl,rfl⟩;clear H1))
  go_ret
  exact⟨rfl,fG.out⟩
 | true=>
  have H1:=awt hb;obtain⟨hc0,XJ⟩:0≤c∧c<(n0:Int):=by unfold bA at hb;simpa using hb
  obtain⟨i,rfl⟩:∃ i:Nat,c=i:=⟨c.toNat,by omega⟩;obtain⟨x,hx⟩:∃ x,p.classes[i]?=some x:=⟨_,awp (by have:=N0.out;omega)⟩
  have hval:kO p.classes (i:Int) v=(decide ((32:Int)≤(x.perms.length:Int))||decide (v/2^x.perms.length=0)):=by
   unfold kO;rw[if_pos hc0];simp only[Int.toNat_natCast,hx]
  rw[hval];obtain⟨b,off,cs,rfl,hrow,hlen,hcc⟩:=HC.out i x hx;obtain⟨pv,rfl,hst⟩:=hrow;obtain⟨a1,k1,rfl,hk1,hm1,-⟩:=hst.open;have kx:wo.cell? ⟨b,off+i*2+1,none⟩=some (.slice a1 x.perms.length k1):=awu fG.out (hcc 1 _ rfl);obtain⟨m,hm⟩:∃ m,m=x.perms.length:=⟨_,rfl⟩;rw[← hm] at kx hm1 hk1 ⊢;clear hb hval hx hst hcc hm;by_cases h32:(32:Int)≤(m:Int)
  ·have d1:decide ((32:Int)≤(m:Int))=true:=by simp;omega
   rw[d1]
   go_enter Tryz.func111,Tryz.ntmps111
   go_upto_region 1 with(fail)
   rw[← bP];clear bP
   go_wp2_with (have hZ:=H1;clear hZ;go_at_call 113;go_must (refine(show Calls Tryz.prog 113 _ _ (fun e w'=>e=.returned (.bool true)∧wo=w') from by have h:=cC wo (i:Int) (n0:Int);rw[H1.out] at h;exact h).mono ?_;rintro e w' ⟨rfl,rfl⟩;clear H1))
   go_ret
   exact⟨rfl,fG.out⟩
  ·have d1:decide ((32:Int)≤(m:Int))=false:=by simp;omega
   rw[d1];have h7:m<32:=by omega
   go_enter Tryz.func111,Tryz.ntmps111
   go_upto_region 1 with(fail)
   rw[← bP];clear bP
   go_wp2_with (have hZ:=H1;clear hZ;go_at_call 113;go_must (refine(show Calls Tryz.prog 113 _ _ (fun e w'=>e=.returned (.bool true)∧wo=w') from by have h:=cC wo (i:Int) (n0:Int);rw[H1.out] at h;exact h).mono ?_;rintro e w' ⟨rfl,rfl⟩;clear H1))
   go_ret
   exact⟨aH (by first|rfl|(simp<;>rfl)),fG.out⟩
def bF:Nat→aA→Int
 | 0,_=>0
 | m+1,e=>lW (fun i=>match e.kids[i]? with|some k=>bF m k|none=>0) e.kids.length+1
theorem jV:∀ (m:Nat) (e:aA),0≤bF m e∧bF m e≤m
 | 0,_=>⟨Int.le_refl 0,Int.le_refl 0⟩
 | m+1,e=>by
  unfold bF;have h1:=jT (fun i=>match e.kids[i]? with|some k=>bF m k|none=>0) e.kids.length
  have h2:=w_ (f:=fun i=>match e.kids[i]? with|some k=>bF m k|none=>0) (b:=m) (by omega) e.kids.length fun i _=>by
   split
   ·exact(jV m _).2
   ·omega
  omega
theorem MZ:∀ (m:Nat) (w:World) (cs:List Value) (e:aA),m≤13→bB w cs e→Calls Tryz.prog 100 #[.agg cs.toArray,.int .i64 (m:Int)] w fun r w'=>r=.returned (.int .i64 (bF m e))∧awh w.heap.size w w':=by
 intro m
 induction m with
 | zero=>
  intro w cs e _ h;obtain⟨_,_,rfl,hn,hk⟩:=h.open;obtain⟨_,_,rfl,-⟩:=aU.get hn;obtain⟨_,_,rfl,-⟩:=aC.form hk (by decide);refine dD [] (fn:=Tryz.f100) Tryz.func100 rfl Tryz.ntmps100 rfl<|fun g1 w1 M1=>?_
  exact an (fun _ M=>⟨rfl,M.below⟩) fun h=>by simp at h
 | succ m ih=>
  intro w cs e hm h;obtain⟨_,_,rfl,hn,hk⟩:=h.open;obtain⟨_,_,rfl,-⟩:=aU.get hn;obtain⟨_,_,rfl,-,hkm,-⟩:=aC.form hk (by decide);refine dD [] (fn:=Tryz.f100) Tryz.func100 rfl Tryz.ntmps100 rfl<|fun g1 w1 M1=>?_
  refine an (fun h=>by simp at h;omega) fun _=>?_
  refine lr (ι:=Nat) (fun k=>[(5,.int .i64 (lW (fun i=>match e.kids[i]? with|some k=>bF m k|none=>0) k)),(6,.int .i64 (k:Int))]) (fun k _=>k≤e.kids.length) (fun k=>e.kids.length-k) 0 (an ⟨⟨rfl,rfl,trivial⟩,fun M=>⟨M,aws _⟩⟩ ?_);intro k w M hkl;have hx:=jT (fun i=>match e.kids[i]? with|some k=>bF m k|none=>0) k
  have hz:=w_ (f:=fun i=>match e.kids[i]? with|some k=>bF m k|none=>0) (b:=m) (by omega) k fun i _=>by
   split
   ·exact(jV m _).2
   ·omega
  refine lb 0<|an rfl<|an (fun h1=>?_) fun h1=>?_
  ·have hlt:k<e.kids.length:=by simp at h1;omega
   obtain⟨y,hy⟩:∃ y,e.kids[k]?=some y:=⟨_,awp hlt⟩;obtain⟨b,o,_,e1,hE,hc⟩:=aC.elt hk (by decide) hy;obtain⟨_,_,rfl,hn2,hk2⟩:=hE.open;obtain⟨_,_,rfl,-⟩:=aU.get hn2;obtain⟨_,_,rfl,-⟩:=aC.form hk2 (by decide);refine lb 0<|an rfl<|ia<|an ⟨e1,rfl,hlt⟩<|lc<|an (dH M.below hc)<|an (by omega)<|cl (v:=.int .i64 (bF m y))<|an ?_ fun w2 M2=>fbp M2 (v:=.int .i64 (lW (fun i=>match e.kids[i]? with|some k=>bF m k|none=>0) (k+1))) (fun a o ho hv=>?_)<|?_
   ·have h2:=ih _ _ y (by omega) (hE.keep M.below)
    rwa [show((m:Nat):Int)=((m+1:Nat):Int)-1 by omega] at h2
   ·rw[CQ ho (oD hv) (uf hv)]
    have e2:lW (fun i=>match e.kids[i]? with|some k=>bF m k|none=>0) (k+1)=max (lW (fun i=>match e.kids[i]? with|some k=>bF m k|none=>0) k) (bF m y):=by
     show max _ (match e.kids[k]? with|some k=>bF m k|none=>0)=_;rw[hy]
    rw[e2,Int.max_def];congr 3;split<;>split<;>omega
   ·exact an (by omega)<|bk (k+1) ⟨rfl,rfl,trivial⟩ (fun M=>⟨M,by omega⟩) (by dsimp only;omega)
  ·obtain rfl:k=e.kids.length:=by simp at h1;omega
   exact an (by omega) fun M=>⟨rfl,M.below⟩
def ou(o:Int):Int:=if o=1 then 0 else if o=8 then 0 else if o=9 then 0 else if o=2 then 1 else if o=3 then 2 else if o=4 then 2 else if o=5 then 2 else if o=6 then 2 else if o=7 then 2 else -1
theorem JR(w:World)(o:Int):Calls Tryz.prog 244 #[.int .i64 o] w fun e w'=>e=.returned (.int .i64 (ou o))∧w=w':=by
 unfold ou;by_cases h0:o=1
 ·rw[if_pos h0];subst h0
  go_enter Tryz.func244,Tryz.ntmps244
  go_wp2
  go_ret
  exact⟨rfl,rfl⟩
 ·rw[if_neg h0];by_cases h1:o=8
  ·rw[if_pos h1];subst h1
   go_enter Tryz.func244,Tryz.ntmps244
   go_wp2
   go_ret
   exact⟨rfl,rfl⟩
  ·rw[if_neg h1];by_cases h2:o=9
   ·rw[if_pos h2];subst h2
    go_enter Tryz.func244,Tryz.ntmps244
    go_wp2
    go_ret
    exact⟨rfl,rfl⟩
   ·rw[if_neg h2];by_cases h3:o=2
    ·rw[if_pos h3];subst h3
     go_enter Tryz.func244,Tryz.ntmps244
     go_wp2
     go_ret
     exact⟨rfl,rfl⟩
    ·rw[if_neg h3];by_cases h4:o=3
     ·rw[if_pos h4];subst h4
      go_enter Tryz.func244,Tryz.ntmps244
      go_wp2
      go_ret
      exact⟨rfl,rfl⟩
     ·rw[if_neg h4];by_cases h5:o=4
      ·rw[if_pos h5];subst h5
       go_enter Tryz.func244,Tryz.ntmps244
       go_wp2
       go_ret
       exact⟨rfl,rfl⟩
      ·rw[if_neg h5];by_cases h6:o=5
       ·rw[if_pos h6];subst h6
        go_enter Tryz.func244,Tryz.ntmps244
        go_wp2
        go_ret
        exact⟨rfl,rfl⟩
       ·rw[if_neg h6];by_cases h7:o=6
        ·rw[if_pos h7];subst h7
         go_enter Tryz.func244,Tryz.ntmps244
         go_wp2
         go_ret
         exact⟨rfl,rfl⟩
        ·rw[if_neg h7];by_cases h8:o=7
         ·rw[if_pos h8];subst h8
          go_enter Tryz.func244,Tryz.ntmps244
          go_wp2
          go_ret
          exact⟨rfl,rfl⟩
         ·rw[if_neg h8]
          go_enter Tryz.func244,Tryz.ntmps244
          go_wp2
          go_ret
          exact⟨rfl,rfl⟩
theorem pz(w:World)(cs:List Value)(e:aA)(h:bB w cs e):Calls Tryz.prog 39 #[.agg cs.toArray] w fun r w'=>r=.returned (.int .i64 (bF 13 e))∧awh w.heap.size w w':=by
 have HE:=awt h;obtain⟨nv,kv,hcs,-,-⟩:=h.open;rw[hcs] at HE;subst hcs;clear h;show Calls Tryz.prog 39 #[.agg #[.int .i64 e.op,.int .i64 e.a,.int .i64 e.rel,.int .i64 e.b,nv,.int .u64 e.set.a,.int .u64 e.set.b,.int .u64 e.set.c,.int .u64 e.set.d,kv]] w _;obtain⟨wo,bP⟩:∃ wo,wo=(w).alloc (.cells #[.int .i64 e.op,.int .i64 e.a,.int .i64 e.rel,.int .i64 e.b,nv,.int .u64 e.set.a,.int .u64 e.set.b,.int .u64 e.set.c,.int .u64 e.set.d,kv] 89):=⟨_,rfl⟩;have W0:=awt (show Whole wo w.heap.size 89 #[.int .i64 e.op,.int .i64 e.a,.int .i64 e.rel,.int .i64 e.b,nv,.int .u64 e.set.a,.int .u64 e.set.b,.int .u64 e.set.c,.int .u64 e.set.d,kv] by rw[bP];exact(Whole.new w 89 _));have fG:=awt (show awh w.heap.size w wo by rw[bP];exact((Below.refl _ w).alloc (Nat.le_refl _) _))
 go_enter Tryz.func39,Tryz.ntmps39
 go_upto_region 1 with(fail)
 rw[← bP];clear bP
 go_wp2_with (first|(refine wpList_load_row rfl 89 _ rfl (w.heap.size) rfl 89 _ (0,0) _ W0.out Tryz.underlying89 rfl abW ?_)|(go_at_call 100;go_must (refine(MZ 13 wo _ e (by omega) (bB.keep fG.out HE.out)).mono ?_;rintro r w1 ⟨rfl,hb1⟩;have jy:=awt hb1;clear hb1)))
 go_ret
 exact⟨rfl,fG.out.trans (jy.out.mono fG.out.size)⟩
def kW(e:aA):Bool:=(((((((decide (e.op=8)||decide (e.op=9))||(!decide (ou e.op=(e.kids.length:Int))))||(!decide (e.rel=0)))||(!decide (e.b=0)))||decide (0<(e.names.length:Int)))||(!decide (e.set=ay.zero)))||((!decide (e.op=1))&&(!decide (e.a=0))))
theorem aA.ind{M:aA→Prop}(h:∀ e,(∀ k∈e.kids,M k)→M e):∀ e,M e:=
 fun e=>aA.rec (motive_1:=M) (motive_2:=fun l=>∀ k∈l,M k) (fun _ _ _ _ _ _ _ ih=>h _ ih) (fun _ hk=>by cases hk) (fun _ _ hk hl x hx=>by
  rcases awf.1 hx with rfl|hx
  ·exact hk
  ·exact hl x hx) e
mutual
def kM(nB:Nat):aA→Int
 | .node op a rel b names set kids=>if kW (.node op a rel b names set kids)=true then 2 else if (decide (op=1)&&!bA a (nB:Int))=true then 3 else mw nB kids
def mw(nB:Nat):List aA→Int
 | []=>0
 | k::l=>if kM nB k=0 then mw nB l else kM nB k
end
theorem qV(nB:Nat)(e:aA):kM nB e=if kW e=true then 2 else if (decide (e.op=1)&&!bA e.a (nB:Int))=true then 3 else mw nB e.kids:=by
 cases e;rw[kM];rfl
theorem CY{nB:Nat}{l:List aA}{k:Nat}{y:aA}(h:l[k]?=some y):mw nB (l.drop k)=if kM nB y=0 then mw nB (l.drop (k+1)) else kM nB y:=by
 obtain⟨hk,rfl⟩:=awb.1 h;rw[List.drop_eq_getElem_cons hk,mw]
section
variable {nB:Nat} {e:aA}
theorem SE(h:kW e=true):kM nB e=2:=by rw[qV,if_pos h]
theorem SC(h:kW e=false)(h2:(decide (e.op=1)&&!bA e.a (nB:Int))=true):kM nB e=3:=by rw[qV,if_neg (by rw[h];decide),if_pos h2]
theorem CW(h:kW e=false)(h2:(decide (e.op=1)&&!bA e.a (nB:Int))=false):kM nB e=mw nB e.kids:=by rw[qV,if_neg (by rw[h];decide),if_neg (by rw[h2];decide)]
end
theorem DR:∀ e:aA,∀ (w0:World) (cs:List Value) (c0 c1 c2 c3 c4 c5 c6 c7 c8 c9 aR aO aN aQ aM aL aP:Value) (p:aF),aK w0 c0 c1 c2 c3 c4 c5 c6 c7 c8 c9 aR aO aN aQ aM aL aP p→bB w0 cs e→Calls Tryz.prog 196 #[.agg #[c0,c1,c2,c3,c4,c5,c6,c7,c8,c9,aR,aO,aN,aQ,aM,aL,aP],.agg cs.toArray] w0 (RI w0 (kM p.bools.length e)):=by
 refine aA.ind fun e ih=>?_
 intro w0 cs c0 c1 c2 c3 c4 c5 c6 c7 c8 c9 aR aO aN aQ aM aL aP p hp h;obtain⟨nv,kv,rfl,Nv,hk⟩:=h.open;obtain⟨_,_,rfl,-⟩:=aU.get Nv;obtain⟨_,_,rfl,-,xI,-⟩:=aC.form hk (by decide);obtain⟨_,_,_,_,_,_,_,_,_,_,_,_,_,_,_,_,_,_,_,_,_,_,_,_,_,_,_,_,_,_,_,_,_,_,rfl,rfl,rfl,rfl,rfl,rfl,rfl,rfl,rfl,rfl,rfl,rfl,rfl,rfl,rfl,rfl,rfl⟩:=hp.open;refine dD [] (fn:=Tryz.f196) Tryz.func196 rfl Tryz.ntmps196 rfl<|fun g1 w1 M1=>fun g2 w2 M2=>dr (by kernel_rfl)<|lb 0<|an rfl<|lb 0<|an (fun _=>rfl)<|lb 0<|an (fun _=>rfl)<|cl<|an (fun _ w' hb M=>(JR _ _).mono fun _ _ ⟨h1,h2⟩=>⟨h1,h2▸Below.refl _ _⟩)<|lb 0<|an (fun _=>rfl)<|lb 0<|an (fun _=>rfl)<|lb 0<|an (fun _=>rfl)<|lb 0<|an (fun _=>rfl)<|lb 0<|an (fun _=>rfl)<|ei (x:=.agg #[.int .u64 0,.int .u64 0,.int .u64 0,.int .u64 0])<|an (fun _=>bd (by kernel_rfl))<|ei<|an (fun _=>⟨rV,fun w=>nM e.set w⟩)<|lb 0<|an (fun _=>rfl)<|lb 0<|an (fun _=>rfl)<|fun w3 hb M3=>an (fun h1 M=>⟨ri (SE h1),M.below⟩) fun h1=>lb 0<|an rfl<|lb 0<|an (fun _=>rfl)<|lb 1<|an (fun _=>rfl)<|cl<|an (fun _=>(cC _ _ _).mono fun _ _ ⟨h1,h2⟩=>⟨h1,h2▸Below.refl _ _⟩) fun w4 M4=>an (fun h2 M=>⟨ri (SC h1 h2),M.below⟩) fun h2=>lr (ι:=Nat) (fun m=>[(5,.int .i64 (m:Int))]) (fun m _=>m≤e.kids.length∧mw p.bools.length e.kids=mw p.bools.length (e.kids.drop m)) (fun m=>e.kids.length-m) 0 (an ⟨⟨rfl,trivial⟩,fun M=>⟨M,aws _,rfl⟩⟩ ?_)
 rintro m w M ⟨hm,hinv⟩;refine lb 0<|an rfl<|an (fun h3=>?_) fun h3 M=>⟨ri (by rw[CW h1 h2,hinv,show m=e.kids.length by simp at h3;omega,List.drop_length];rfl),M.below⟩
 have hlt:m<e.kids.length:=by simp at h3;omega
 obtain⟨y,hy⟩:∃ y,e.kids[m]?=some y:=⟨_,awp hlt⟩;obtain⟨b,o,_,e1,hE,hc⟩:=aC.elt hk (by decide) hy;obtain⟨nv',kv',rfl,hn',hk'⟩:=hE.open;obtain⟨_,_,rfl,-⟩:=aU.get hn';obtain⟨_,_,rfl,-⟩:=aC.form hk' (by decide);exact dr (by kernel_rfl)<|lb 1<|an rfl<|lb 0<|an rfl<|ia<|an ⟨e1,rfl,hlt⟩<|lc<|an (dH M.below hc)<|cl<|an (fun w' hb M'=>ih y (awg hy) w' _ _ _ _ _ _ _ _ _ _ _ _ _ _ _ _ _ _ p (hp.keep M'.below) (hE.keep M'.below)) fun w5 V8 M5=>an (fun h4 M=>⟨ri (by rw[CW h1 h2,hinv,CY hy,if_neg (by simpa using h4)]),M.below⟩) fun h4=>an (by omega)<|bk (m+1) ⟨rfl,trivial⟩ (fun M=>⟨M,by omega,by rw[hinv,CY hy,if_pos (by simpa using h4)]⟩) (by dsimp only;omega)
def eU(nB:Nat)(e:aA):Int:=if (12:Int)<bF 13 e then 4 else kM nB e
theorem DY(e:aA)(w0:World)(cs:List Value)(c0 c1 c2 c3 c4 c5 c6 c7 c8 c9 aR aO aN aQ aM aL aP:Value)(p:aF)(hp:aK w0 c0 c1 c2 c3 c4 c5 c6 c7 c8 c9 aR aO aN aQ aM aL aP p)(h:bB w0 cs e):Calls Tryz.prog 110 #[.agg #[c0,c1,c2,c3,c4,c5,c6,c7,c8,c9,aR,aO,aN,aQ,aM,aL,aP],.agg cs.toArray] w0 (RI w0 (eU p.bools.length e)):=by
 obtain⟨nv,kv,rfl,-,-⟩:=h.open;have bJ:=hr1 Tryz.prog Tryz.f110 (RI w0 (eU p.bools.length e)) 11 4 rfl;refine en Tryz.func110 rfl Tryz.ntmps110 rfl (vs:=[.agg #[c0,c1,c2,c3,c4,c5,c6,c7,c8,c9,aR,aO,aN,aQ,aM,aL,aP],.agg #[.int .i64 e.op,.int .i64 e.a,.int .i64 e.rel,.int .i64 e.b,nv,.int .u64 e.set.a,.int .u64 e.set.b,.int .u64 e.set.c,.int .u64 e.set.d,kv]]) rfl fun _ F=>?_
 have M:=Mm.start w0;refine awq fun K1 gU=>ah<|Ig (on rfl) rfl (F.u rf) rfl F rfl M fun g1 _ _ F M=>Ig (on rfl) rfl (F.u rf) rfl F rfl M fun g2 _ _ F M=>xA (v:=.int .i64 0) F rf rf rf fun _ F=>awi<|gU _ _ ?_
 refine awq fun K2 iy=>awq fun K3 nE=>ah<|xW F (M.b 0 rfl) rf rf rf OU rf rN rf fun _ F=>xC F M rf rf q39 (args1 (F.u rf)) (pz _ _ e (bB.keep M.below h)) fun _ _ F M=>kz F rf (Kr rfl (F.u rf) rfl) fun _ F=>awi<|nE _ _ ?_
 refine awr (F.e 7 rfl) (fun hc3=>?_) (fun hc3=>?_)
 ·have V6:=of_decide_eq_true hc3;refine awq fun K4 ox=>ah<|xA (v:=.int .i64 4) F rf rf rf fun _ F=>awi<|ox _ _ ?_
  refine wp_ret<|bJ _ _ _ _ F rfl ?_;exact⟨dG (by unfold eU;repeat (first|with_reducible rfl|assumption|(with_reducible refine Eq.trans (if_pos ?_) ?_;focus (first|assumption|(refine sj ?_;assumption)|(refine r_ ?_;assumption)|omega|(simp[V6];done)))|(with_reducible refine Eq.trans (if_neg ?_) ?_;focus (first|assumption|(refine sj ?_;assumption)|(refine r_ ?_;assumption)|omega|(simp[V6];done)))|omega)),M.below⟩
 ·have TL:=of_decide_eq_false hc3;refine wp_skip<|iy _ _ ?_;refine awq fun K5 ow=>ah<|xW F (M.b 1 rfl) rf rf rf OW rf Bh rf fun _ F=>xW F (M.b 0 rfl) rf rf rf OU rf rN rf fun _ F=>xC F M rf rf aiy (args2 (F.u rf) (F.u rf)) (DR e _ _ _ _ _ _ _ _ _ _ _ _ _ _ _ _ _ _ _ p (hp.keep M.below) (bB.keep M.below h)) fun _ _ F M=>xA F rf rf rf fun _ F=>awi<|ow _ _ ?_
  refine wp_ret<|bJ _ _ _ _ F rfl ?_;exact⟨dG (by unfold eU;repeat (first|with_reducible rfl|assumption|(with_reducible refine Eq.trans (if_pos ?_) ?_;focus (first|assumption|(refine sj ?_;assumption)|(refine r_ ?_;assumption)|omega|(simp[TL];done)))|(with_reducible refine Eq.trans (if_neg ?_) ?_;focus (first|assumption|(refine sj ?_;assumption)|(refine r_ ?_;assumption)|omega|(simp[TL];done)))|omega)),M.below⟩
end Go.Proofs.YtdcofoaihmongaaGreat
namespace Go.Proofs.YtdcofoaihmongaaGreat
open Go Go.RowKit
theorem cf{B:Nat}{w0 w:World}{bs:List Bx}{rs:List Rw}{X:Prop}{f:FuncId}{args:Array Value}{R:Value→World→Prop}{K:Value→List Bx→List Rw→World→Prop}(M:aW B w0 w bs rs)(hc:Calls Tryz.prog f args w fun e w'=>∃ v,e=.returned v∧(R v w'∧awh w.heap.size w w'))
 (h:∀ v w',R v w'→awh w.heap.size w w'→aW B w0 w' bs rs→K v bs rs w'):X∨∃ R:Value→World→Prop,(Calls Tryz.prog f args w fun e w'=>∃ v,e=.returned v∧R v w')∧∀ v w',R v w'→∃ bs' rs',aW B w0 w' bs' rs'∧K v bs' rs' w':=
 .inr ⟨_,hc,fun v w' ⟨h1,h2⟩=>⟨_,_,M.keep h2,h v w' h1 h2 (M.keep h2)⟩⟩
theorem cb{B:Nat}{w0 w:World}{bs:List Bx}{rs:List Rw}{X:Prop}{f:FuncId}{args:Array Value}{v:Value}{K:Value→List Bx→List Rw→World→Prop}(M:aW B w0 w bs rs)(hc:Calls Tryz.prog f args w fun e w'=>e=.returned v∧awh w.heap.size w w')
 (h:∀ w',awh w.heap.size w w'→aW B w0 w' bs rs→K v bs rs w'):X∨∃ R:Value→World→Prop,(Calls Tryz.prog f args w fun e w'=>∃ v,e=.returned v∧R v w')∧∀ v w',R v w'→∃ bs' rs',aW B w0 w' bs' rs'∧K v bs' rs' w':=
 cf (R:=fun u _=>u=v) M (hc.mono fun _ _ ⟨h1,h2⟩=>⟨v,h1,rfl,h2⟩) fun u w' e hb M'=>by subst e;exact h w' hb M'
theorem cst{B:Nat}{w0 w:World}{bs:List Bx}{rs:List Rw}{X:Prop}{f:FuncId}{args:Array Value}{x:Int}{K:Value→List Bx→List Rw→World→Prop}(M:aW B w0 w bs rs)
 (hc:Calls Tryz.prog f args w fun r w'=>∃ v,r=.returned v∧(bT w' w.heap.size v x∧awh w.heap.size w w')) (h:∀ g w',aW B w0 w' ((g,52,#[.int .u64 x])::bs) rs→K (.slice (some ⟨g,0,none⟩) 1 1) ((g,52,#[.int .u64 x])::bs) rs w') :
 X∨∃ R:Value→World→Prop,(Calls Tryz.prog f args w fun e w'=>∃ v,e=.returned v∧R v w')∧∀ v w',R v w'→∃ bs' rs',aW B w0 w' bs' rs'∧K v bs' rs' w':=
 .inr ⟨_,hc,fun v w' ⟨⟨g,e,hW,hg⟩,hb⟩=>by subst e;exact⟨_,_,M.newAt hb hW hg,h g w' (M.newAt hb hW hg)⟩⟩
theorem mz1{B:Nat}{w0 w:World}{bs:List Bx}{rs:List Rw}{t e ty b:Nat}{z:Value}{x y:Operand}{κ κ':IntKind}{K:Value→List Bx→List Rw→World→Prop}(M:aW B w0 w bs rs)(hu:Tryz.prog.underlying t=some (.slice e))(hi:iw (Tryz.prog.info? e) 1 b=true)(hz:(Tryz.prog.info? e).bind (·.zero)=some z)(h1:z.cells=#[z])(hb:b≤281474976710656)
 (h:∀ g w',aW B w0 w' ((g,e,#[z])::bs) rs→K (.slice (some ⟨g,0,none⟩) 1 1) ((g,e,#[z])::bs) rs w') (he:Nat.blt e 9000=true:=by rfl) :
 ∃ R:Value→World→Prop,(∀ (a:Act) (o':Oper),o'.op=.makeSlice t x y→o'.type=ty→vZ a [x,y] [.int κ 1,.int κ' 1]→∃ v w',(execOp a.eval o').run Tryz.prog w=.ok (.value v) w'∧R v w')∧∀ v w',R v w'→∃ bs' rs',aW B w0 w' bs' rs'∧K v bs' rs' w':=by
 refine⟨fun v w'=>v=.slice (some ⟨w.heap.size,0,none⟩) 1 1∧w'=w.alloc (.cells #[z] e),fun a o' ho _ oF=>⟨_,_,Aw ho (oD oF) (uf oF) hu hi hz h1 hb,rfl,rfl⟩,?_⟩;rintro v w' ⟨rfl,rfl⟩;have M':=M.newAt (w':=w.alloc (.cells #[z] e)) ((Below.refl _ w).alloc (Nat.le_refl _) _) (Whole.new w e #[z]) (Nat.le_refl _) he;exact⟨_,_,M',h _ _ M'⟩
end Go.Proofs.YtdcofoaihmongaaGreat

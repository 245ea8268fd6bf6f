import Derived.JoinedOf
import Derived.ProofKit
import Derived.Shelf.SlSortCmp.NoneTotal
import Derived.Test.YtdcofoaihmongaaGreatChecked
import Derived.Test.YtdcofoaihmongaaGreatRows
import Derived.Test.YtdcofoaihmongaaGreatS5
open Go.RowKit renaming Below→atu
open List renaming getElem?_eq_some_iff→atm,getElem?_eq_getElem→atn,mem_of_getElem?→ato,length_append→atq,getElem?_append_left→atr
open Nat renaming le_trans→atp
open Option.some renaming inj→att
set_option maxRecDepth 100000
set_option maxHeartbeats 8000000
namespace Go.Proofs.YtdcofoaihmongaaGreat
open Go Go.RowKit
theorem LO{l:List ByteArray}{s:ByteArray}(h:hasB l s=false):∀ x∈l,x≠s:=fun x hx e=>by
 obtain⟨i,hi⟩:=List.getElem?_of_mem hx
 have:hasB l s=true:=by
  unfold hasB;rw[rT];exact⟨i,Nat.zero_le _,by have:=(atm.1 hi).1;omega,by rw[EA hi,e];simp⟩
 rw[h] at this;cases this
theorem Hh{l:List ByteArray}(h:bE l []=0):l.Nodup:=by
 unfold bE at h;rw[cH] at h;refine List.pairwise_iff_getElem.2 fun i j hi hj hij=>?_
 have h1:=h j (Nat.zero_le _) (by omega);rw[vN (atn hj)] at h1;split at h1
 ·split at h1
  ·cases h1
  ·rename_i h2;refine LO (by simpa using h2) _ (ato (i:=i) ?_);rw[List.getElem?_take,if_pos hij,atn hi]
 ·cases h1
theorem Qs{p:aA}(h:Jw p):(p.bools.map (·.name)).Nodup:=by
 have hc:=h.check;unfold mJ at hc;split at hc
 case isFalse hne=>exact absurd hc hne
 rw[jK] at hc;have ho:kg p=0:=hc _ (by simp);unfold kg at ho;split at ho
 ·cases ho
 split at ho
 ·rename_i hne;exact absurd ho hne
 rename_i hz;exact Hh (Decidable.not_not.1 hz)
structure j9 (p:aA):Prop where
 b5:p.bools.length≤5
 con:∀ e∈p.conds,(jT (bg p.bools e)=true↔∀ n,n<2^p.bools.length→nD p.bools.length n e=true)∧(yH (bg p.bools e)=true↔∀ n,n<2^p.bools.length→nD p.bools.length n e=false)
theorem Qu{p:aA}(h:Jw p)(hok:p.Ok):j9 p:=by
 obtain⟨tp,-⟩:=Bn h hok;have h5:p.bools.length≤5:=atp h.bools (by decide);refine⟨h5,fun e he=>Xo (Du h hok) (Qs h) h5 (tp.conds e he) ?_⟩;have:=h.small.conds e he;omega
theorem Wq{nB:Nat}{l m:List aq}{k:Int}{n:Nat}(h:-(l.length:Int)≤k∧k≤l.length):uV nB (l++m) k n=uV nB l k n:=by
 unfold uV;have e:((l++m).length:Int)=l.length+m.length:=by rw[atq];omega
 have c1:(0<k∧k≤((l++m).length:Int))↔(0<k∧k≤(l.length:Int)):=by omega
 have c2:(k<0∧0-((l++m).length:Int)≤k)↔(k<0∧0-(l.length:Int)≤k):=by omega
 by_cases h1:0<k∧k≤(l.length:Int)
 ·rw[if_pos h1,if_pos (c1.2 h1),atr (by omega)]
 ·rw[if_neg h1,if_neg fun h=>h1 (c1.1 h)];by_cases h2:k<0∧0-(l.length:Int)≤k
  ·rw[if_pos h2,if_pos (c2.2 h2),atr (by omega)]
  ·rw[if_neg h2,if_neg fun h=>h2 (c2.1 h)]
theorem pT(nB:Nat)(l:List aq)(n:Nat):uV nB l 0 n=true:=by
 unfold uV;rw[if_neg (by omega),if_neg (by omega)]
theorem tW{nB:Nat}{l:List aq}{i:Nat}{e:aq}(h:l[i]?=some e)(n:Nat):uV nB l ((i:Int)+1) n=nD nB n e:=by
 have:=(atm.1 h).1;unfold uV;rw[if_pos (by omega),show((i:Int)+1-1).toNat=i by omega,h]
theorem tX{nB:Nat}{l:List aq}{i:Nat}{e:aq}(h:l[i]?=some e)(n:Nat):uV nB l (0-((i:Int)+1)) n=!nD nB n e:=by
 have:=(atm.1 h).1;unfold uV;rw[if_neg (by omega),if_pos (by omega),show(0-(0-((i:Int)+1))-1).toNat=i by omega,h]
theorem ot{s s':qG}{k:Int}(h1:s'.sN k=s.sN k)(h2:s'.ev k=s.ev k)(h3:s'.nv k=s.nv k):cO s' k=cO s k:=by unfold cO;rw[h1,h2,h3]
theorem qI{α:Type}{f:Int→Option α}{k j:Int}{v:α}(h:j≠k):ez f k v j=f j:=if_neg h
theorem lP{α:Type}{f:Int→Option α}{k:Int}{v:α}:ez f k v k=some v:=if_pos rfl
theorem kf{α:Type}{f:Int→Option α}{k1 k2 j:Int}{v1 v2:α}(h1:j≠k1)(h2:j≠k2):ez (ez f k1 v1) k2 v2 j=f j:=by rw[qI h2,qI h1]
structure Jv (p:aA) (s:qG) (k:Int) (f:Nat→Bool):Prop where
 bd:-(s.kids.length:Int)≤(cO s k).1∧(cO s k).1≤s.kids.length
 val:∀ n,n<2^p.bools.length→f n=((cO s k).2&&uV p.bools.length s.kids (cO s k).1 n)
theorem Jv.more{p:aA}{s s':qG}{k:Int}{f:Nat→Bool}{m:List aq}(h:Jv p s k f)(hb:cO s' k=cO s k)(hk:s'.kids=s.kids++m):Jv p s' k f:=by
 refine⟨?_,fun n hn=>?_⟩
 ·rw[hb,hk,atq];have:=h.bd;omega
 ·rw[hb,hk,Wq h.bd];exact h.val n hn
structure XM (p:aA) (m:Nat) (s:qG):Prop where
 lo:∀ k:Int,k < -(m:Int)∨(m:Int)<k→s.sN k=none∧s.ev k=none∧s.nv k=none
 len:s.kids.length=s.seen.length
 tab:∀ (i:Nat) (x:Int) (e:aq),s.seen[i]?=some x→s.kids[i]?=some e→x=bJ (aI p.bools.length) p.bools.length e
 ok:∀ (j:Nat) (e:aq),j<m→p.conds[j]?=some e→(lN p ((j:Int)+1)).getD false=true→Jv p s ((j:Int)+1) (fun n=>nD p.bools.length n e)∧Jv p s (0-((j:Int)+1)) (fun n=>!nD p.bools.length n e)
theorem Iq{x y:Int}:∀ {l:List Int} {i:Nat} {k:Int},iI x y i l=k→k≠0→(∃ j:Nat,k=(i:Int)+j+1∧l[j]?=some x)∨(∃ j:Nat,k=0-((i:Int)+j+1)∧l[j]?=some y)
 | [],i,k,h,hk=>by rw[iI] at h;exact absurd h.symm hk
 | z::l,i,k,h,hk=>by
  rw[iI] at h;split at h
  ·rename_i e;exact .inl ⟨0,by omega,by rw[e];rfl⟩
  ·split at h
   ·rename_i e;exact .inr ⟨0,by omega,by rw[e];rfl⟩
   ·rcases Iq h hk with⟨j,h1,h2⟩|⟨j,h1,h2⟩
    ·exact .inl ⟨j+1,by omega,h2⟩
    ·exact .inr ⟨j+1,by omega,h2⟩
theorem XM.step{p:aA}(hH:j9 p){m:Nat}{s:qG}{e:aq}(h:XM p m s)(he:p.conds[m]?=some e):XM p (m+1) (iw p m e s):=by
 have hem:=ato he;have ads:=hH.con e hem;have ac_:∀ j:Nat,j<m→(j:Int)+1≠(m:Int)+1∧(j:Int)+1≠0-((m:Int)+1)∧0-((j:Int)+1)≠(m:Int)+1∧0-((j:Int)+1)≠0-((m:Int)+1):=fun j hj=>by omega
 have hmm:(m:Int)+1≠0-((m:Int)+1):=by omega
 have hl1:=h.lo ((m:Int)+1) (by omega);have hl2:=h.lo (0-((m:Int)+1)) (by omega);unfold iw;by_cases hc:(jT (bg p.bools e)||yH (bg p.bools e))=true
 ·rw[if_pos hc];refine⟨fun k hk=>?_,h.len,h.tab,fun j e' hj he' hu=>?_⟩
  ·have h0:=h.lo k (by omega);refine⟨h0.1,?_,?_⟩
   ·dsimp only;rw[kf (by omega) (by omega),h0.2.1]
   ·dsimp only;rw[kf (by omega) (by omega),h0.2.2]
  ·by_cases e0:j=m
   ·subst e0;obtain rfl:e=e':=att (he.symm.trans he')
    have hv:∀ n,n<2^p.bools.length→nD p.bools.length n e=jT (bg p.bools e):=fun n hn=>by
     cases hA:jT (bg p.bools e) with
     | true=>exact ads.1.1 hA n hn
     | false=>
      rw[hA,Bool.false_or] at hc;exact ads.2.1 hc n hn
    generalize jT (bg p.bools e)=A at *;constructor
    ·have eb:cO { s with ev:=ez (ez s.ev ((j:Int)+1) A) (0-((j:Int)+1)) (!A),nv:=ez (ez s.nv ((j:Int)+1) (!A)) (0-((j:Int)+1)) A } ((j:Int)+1)=(0,A):=by
      unfold cO;simp only[qI hmm,lP,hl1.1];cases A<;>rfl
     exact⟨by rw[eb];constructor<;>simp<;>omega,fun n hn=>by rw[eb,pT,Bool.and_true];exact hv n hn⟩
    ·have eb:cO { s with ev:=ez (ez s.ev ((j:Int)+1) A) (0-((j:Int)+1)) (!A),nv:=ez (ez s.nv ((j:Int)+1) (!A)) (0-((j:Int)+1)) A } (0-((j:Int)+1))=(0,!A):=by
      unfold cO;simp only[lP,hl2.1];cases A<;>rfl
     exact⟨by rw[eb];constructor<;>simp<;>omega,fun n hn=>by rw[eb,pT,Bool.and_true,hv n hn]⟩
   ·obtain⟨a1,a2,a3,a4⟩:=ac_ j (by omega);obtain⟨g1,g2⟩:=h.ok j e' (by omega) he' hu;exact⟨g1.more (m:=[]) (ot rfl (by dsimp only;exact kf a1 a2) (by dsimp only;exact kf a1 a2)) (List.append_nil _).symm,g2.more (m:=[]) (ot rfl (by dsimp only;exact kf a3 a4) (by dsimp only;exact kf a3 a4)) (List.append_nil _).symm⟩
 rw[if_neg hc];by_cases hu0:(lN p ((m:Int)+1)).getD false=false
 ·rw[if_pos hu0];refine⟨fun k hk=>h.lo k (by omega),h.len,h.tab,fun j e' hj he' hu=>?_⟩;by_cases e0:j=m
  ·subst e0;rw[hu0] at hu;cases hu
  ·exact h.ok j e' (by omega) he' hu
 rw[if_neg hu0];dsimp only
 have lo':∀ (k0:Int) (s':qG),s'.sN=s.sN→s'.ev=s.ev→s'.nv=s.nv→∀ k:Int,k < -((m+1:Nat):Int)∨((m+1:Nat):Int)<k→(eP m k0 s').sN k=none∧(eP m k0 s').ev k=none∧(eP m k0 s').nv k=none:=fun k0 s' e1 e2 e3 k hk=>by
  have h0:=h.lo k (by omega);refine⟨?_,by show s'.ev k=none;rw[e2];exact h0.2.1,by show s'.nv k=none;rw[e3];exact h0.2.2⟩;unfold eP;dsimp only;rw[kf (by omega) (by omega),e1,h0.1]
 have old':∀ (k0:Int) (s':qG),s'.sN=s.sN→s'.ev=s.ev→s'.nv=s.nv→∀ j:Nat,j<m→cO (eP m k0 s') ((j:Int)+1)=cO s ((j:Int)+1)∧cO (eP m k0 s') (0-((j:Int)+1))=cO s (0-((j:Int)+1)):=fun k0 s' e1 e2 e3 j hj=>by
  obtain⟨a1,a2,a3,a4⟩:=ac_ j hj;exact⟨ot (by unfold eP;dsimp only;rw[kf a1 a2,e1]) (congrFun e2 _) (congrFun e3 _),ot (by unfold eP;dsimp only;rw[kf a3 a4,e1]) (congrFun e2 _) (congrFun e3 _)⟩
 have new':∀ (k0:Int) (s':qG),s'.ev=s.ev→s'.nv=s.nv→cO (eP m k0 s') ((m:Int)+1)=(k0,true)∧cO (eP m k0 s') (0-((m:Int)+1))=(0-k0,true):=fun k0 s' e2 e3=>by
  constructor
  ·unfold cO;rw[show(eP m k0 s').ev ((m:Int)+1)=none from(congrFun e2 _).trans hl1.2.1,show(eP m k0 s').nv ((m:Int)+1)=none from(congrFun e3 _).trans hl1.2.2,show(eP m k0 s').sN ((m:Int)+1)=some k0 by unfold eP;dsimp only;rw[qI hmm,lP]];rfl
  ·unfold cO;rw[show(eP m k0 s').ev (0-((m:Int)+1))=none from(congrFun e2 _).trans hl2.2.1,show(eP m k0 s').nv (0-((m:Int)+1))=none from(congrFun e3 _).trans hl2.2.2,show(eP m k0 s').sN (0-((m:Int)+1))=some (0-k0) by unfold eP;dsimp only;rw[lP]];rfl
 by_cases hk:iI (bJ (aI p.bools.length) p.bools.length e) (notM (aI p.bools.length) (bJ (aI p.bools.length) p.bools.length e)) 0 s.seen=0
 ·rw[if_pos hk];obtain⟨n1,n2⟩:=new' ((s.seen.length:Int)+1) { s with seen:=s.seen++[bJ (aI p.bools.length) p.bools.length e],kids:=s.kids++[e] } rfl rfl;have hk1:(s.kids++[e])[s.seen.length]?=some e:=by rw[← h.len];simp
  refine⟨lo' _ _ rfl rfl rfl,by show(s.kids++[e]).length=(s.seen++[_]).length;rw[atq,atq,h.len];rfl,fun i x e' hx he'=>?_,fun j e' hj he' hu=>?_⟩
  ·replace hx:(s.seen++[bJ (aI p.bools.length) p.bools.length e])[i]?=some x:=hx;replace he':(s.kids++[e])[i]?=some e':=he';by_cases hi:i<s.seen.length
   ·rw[atr hi] at hx;rw[atr (by rw[h.len];exact hi)] at he';exact h.tab i x e' hx he'
   ·have hi2:i=s.seen.length:=by
     have:=(atm.1 hx).1;rw[atq,List.length_singleton] at this;omega
    subst hi2;rw[hk1] at he';obtain rfl:=att he';rw[List.getElem?_append_right (Nat.le_refl _),Nat.sub_self] at hx;exact(att hx).symm
  ·by_cases e0:j=m
   ·subst e0;obtain rfl:e=e':=att (he.symm.trans he');refine⟨⟨?_,fun n hn=>?_⟩,⟨?_,fun n hn=>?_⟩⟩
    ·rw[n1];show -((s.kids++[e]).length:Int)≤(s.seen.length:Int)+1∧(s.seen.length:Int)+1≤((s.kids++[e]).length:Int);rw[atq,h.len,List.length_singleton];omega
    ·rw[n1];exact(tW hk1 n).symm
    ·rw[n2];show -((s.kids++[e]).length:Int)≤0-((s.seen.length:Int)+1)∧0-((s.seen.length:Int)+1)≤((s.kids++[e]).length:Int);rw[atq,h.len,List.length_singleton];omega
    ·rw[n2];exact(tX hk1 n).symm
   ·obtain⟨g1,g2⟩:=h.ok j e' (by omega) he' hu;obtain⟨o1,o2⟩:=old' ((s.seen.length:Int)+1) { s with seen:=s.seen++[bJ (aI p.bools.length) p.bools.length e],kids:=s.kids++[e] } rfl rfl rfl j (by omega);exact⟨g1.more o1 rfl,g2.more o2 rfl⟩
 ·rw[if_neg hk];obtain⟨n1,n2⟩:=new' (iI (bJ (aI p.bools.length) p.bools.length e) (notM (aI p.bools.length) (bJ (aI p.bools.length) p.bools.length e)) 0 s.seen) s rfl rfl;have sp:=Iq rfl hk;generalize iI (bJ (aI p.bools.length) p.bools.length e) (notM (aI p.bools.length) (bJ (aI p.bools.length) p.bools.length e)) 0 s.seen=k at *;obtain⟨w1,i1⟩:=rQ hH.b5 e
  have hval:∃ (j:Nat) (e2:aq),s.kids[j]?=some e2∧((k=(j:Int)+1∧∀ n,n<2^p.bools.length→nD p.bools.length n e=nD p.bools.length n e2)∨(k=0-((j:Int)+1)∧∀ n,n<2^p.bools.length→nD p.bools.length n e=!nD p.bools.length n e2)):=by
   rcases sp with⟨j,h1,h2⟩|⟨j,h1,h2⟩
   ·have hj:=(atm.1 h2).1;obtain⟨e2,he2⟩:∃ e2,s.kids[j]?=some e2:=⟨_,atn (by rw[h.len];exact hj)⟩;refine⟨j,e2,he2,.inl ⟨by omega,fun n hn=>?_⟩⟩;have ht:=h.tab j _ e2 h2 he2;have hi:=i1 n;rw[ht,(rQ hH.b5 e2).2 n,decide_eq_true hn,Bool.true_and,Bool.true_and] at hi;exact hi.symm
   ·have hj:=(atm.1 h2).1;obtain⟨e2,he2⟩:∃ e2,s.kids[j]?=some e2:=⟨_,atn (by rw[h.len];exact hj)⟩;refine⟨j,e2,he2,.inr ⟨by omega,fun n hn=>?_⟩⟩;have ht:=h.tab j _ e2 h2 he2;have hi:=vY hH.b5 w1 n;rw[ht,(rQ hH.b5 e2).2 n,i1 n,decide_eq_true hn,Bool.true_and,Bool.true_and,Bool.true_and] at hi;rw[hi,Bool.not_not]
  obtain⟨j2,e2,he2,hv⟩:=hval;have hj2:=(atm.1 he2).1;refine⟨lo' _ _ rfl rfl rfl,h.len,h.tab,fun j e' hj he' hu=>?_⟩;by_cases e0:j=m
  ·subst e0;obtain rfl:e=e':=att (he.symm.trans he');refine⟨⟨?_,fun n hn=>?_⟩,⟨?_,fun n hn=>?_⟩⟩
   ·rw[n1];show -(s.kids.length:Int)≤k∧k≤(s.kids.length:Int);rcases hv with⟨a,-⟩|⟨a,-⟩<;>omega
   ·rw[n1];show _=uV p.bools.length s.kids k n;rcases hv with⟨rfl,a⟩|⟨rfl,a⟩
    ·rw[tW he2];exact a n hn
    ·rw[tX he2];exact a n hn
   ·rw[n2];show -(s.kids.length:Int)≤0-k∧0-k≤(s.kids.length:Int);rcases hv with⟨a,-⟩|⟨a,-⟩<;>omega
   ·rw[n2];show(!_)=uV p.bools.length s.kids (0-k) n;rcases hv with⟨rfl,a⟩|⟨rfl,a⟩
    ·rw[tX he2,a n hn]
    ·rw[show(0:Int)-(0-((j2:Int)+1))=(j2:Int)+1 by omega,tW he2,a n hn,Bool.not_not]
  ·obtain⟨g1,g2⟩:=h.ok j e' (by omega) he' hu;obtain⟨o1,o2⟩:=old' k s rfl rfl rfl j (by omega);exact⟨g1.more (m:=[]) o1 (List.append_nil _).symm,g2.more (m:=[]) o2 (List.append_nil _).symm⟩
theorem ad_{p:aA}(hH:j9 p):∀ m,m≤p.conds.length→XM p m (bN p m)
 | 0,_=>⟨fun _ _=>⟨rfl,rfl,rfl⟩,rfl,fun i x e h=>(by cases h),fun j e h=>absurd h (Nat.not_lt_zero j)⟩
 | m+1,hm=>by
  obtain⟨e,he⟩:∃ e,p.conds[m]?=some e:=⟨_,atn (by omega)⟩;rw[uF he];exact(ad_ hH m (by omega)).step hH he
end Go.Proofs.YtdcofoaihmongaaGreat
namespace Go.Proofs.YtdcofoaihmongaaGreat
open Go Go.RowKit Go.Shelf Go.Sort
theorem bP.len(x:bP):x.cells.length=7:=rfl
theorem bP.one(x:bP):∀ v∈x.cells,v.oneCell'=true:=fun v hv=>by simp[bP.cells] at hv;rcases hv with rfl|rfl|rfl|rfl|rfl|rfl|rfl<;>rfl
end Go.Proofs.YtdcofoaihmongaaGreat
namespace Go.Proofs.YtdcofoaihmongaaGreat
open Go Go.RowKit Go.Sort Go.WideMaps
theorem SC{w w':World}{base:Nat}{e:TypeId}{k n:Nat}{v:Value}{xs:List Value}(h:w.ownsRow base e k v n xs)(hb:∀ g,v.ownBlock=some g→w'.heap[g]?=w.heap[g]?):w'.ownsRow base e k v n xs:=
 ⟨h.1,h.2.imp id fun⟨g,cap,cur,hv,hg,hh,r⟩=>⟨g,cap,cur,hv,hg,(hb g (by rw[hv];rfl)).trans hh,r⟩⟩
theorem SE{w:World}{base:Nat}{e:TypeId}{k n:Nat}{v:Value}{xs:List Value}(h:w.ownsRow base e k v n xs){g:Nat}(hg:v.ownBlock=some g):base≤g∧∃ cur,w.heap[g]?=some (.cells cur e (0,0)):=by
 rcases h.2 with⟨rfl,_⟩|⟨g',cap,cur,rfl,hb,hh,_⟩
 ·simp[Value.ownBlock] at hg
 ·have e1:g'=g:=by simpa[Value.ownBlock] using hg
  subst e1;exact⟨hb,cur,hh⟩
theorem Below.NK{w w':World}{r B:Nat}(h:w.grownBy w' (some r))(hr:B≤r)(hB:B≤w.heap.size)(hs:w'.heap.size=w.heap.size):Below B w w':=
 ⟨h.os,h.tape,h.output,by omega,fun k hk=>h.block k (by omega) (fun e=>by cases e;omega)⟩
theorem C9(E:List (bW×bn))(p:bW×bn):sj (E++[p])=sj E++(if nz p then [mkE p.1 p.2] else []):=by
 unfold sj;rw[List.filter_append,List.map_append];congr 1;cases h:nz p<;>simp[h]
theorem G8(E:List (bW×bn)):(sj E).length≤E.length:=by unfold sj;rw[List.length_map];exact List.length_filter_le _ _
structure Q6 (w wr:World) (mb r:Nat) (D E:List (bW×bn)) (left:List (Value×Value)) (u:Value):Prop where
 perm:(D.map kY).Perm (left++E.map kY)
 row:wr.ownsRow w.heap.size 94 7 u (sj E).length ((sj E).flatMap bP.cells)
 rng:dQ wr Tryz.prog 113 mb r (D.map kY) left
 Oz:Below w.heap.size w wr
 mlt:mb<w.heap.size
 rle:w.heap.size≤r
structure F9 (w wr:World) (mb r:Nat) (D E:List (bW×bn)) (p:bW×bn) (left:List (Value×Value)) (u:Value):Prop where
 perm:(D.map kY).Perm (left++(E++[p]).map kY)
 row:wr.ownsRow w.heap.size 94 7 u (sj E).length ((sj E).flatMap bP.cells)
 rng:dQ wr Tryz.prog 113 mb r (D.map kY) left
 Oz:Below w.heap.size w wr
 mlt:mb<w.heap.size
 rle:w.heap.size≤r
theorem dQ.iter{P:Program}{k:TypeId}{w:World}{b r:Nat}{D left:List (Value×Value)}(h:dQ w P k b r D left):∃ x y z t,w.heap[r]?=some (.mapIter x y z t):=by
 obtain⟨es,clock,since,seen,c0,_,_,_,_,hr,_⟩:=h;exact⟨_,_,_,_,hr⟩
theorem Q6.small{w wr:World}{mb r:Nat}{D E:List (bW×bn)}{left:List (Value×Value)}{u:Value}(h:Q6 w wr mb r D E left u):(sj E).length≤D.length:=by
 have:=h.perm.length_eq;simp at this;have:=G8 E;omega
theorem F9.small{w wr:World}{mb r:Nat}{D E:List (bW×bn)}{p:bW×bn}{left:List (Value×Value)}{u:Value}(h:F9 w wr mb r D E p left u):(sj E).length+1≤D.length:=by
 have:=h.perm.length_eq;simp at this;have:=G8 E;omega
theorem Q6.next{w wr wn:World}{mb r:Nat}{D E:List (bW×bn)}{p:bW×bn}{left left':List (Value×Value)}{u:Value}(h:Q6 w wr mb r D E left u)(hp:left.Perm (kY p::left'))
 (hr:dQ wn Tryz.prog 113 mb r (D.map kY) left') (hg:wr.grownBy wn (some r)) (hs:wn.heap.size=wr.heap.size):F9 w wn mb r D E p left' u:=by
 refine⟨?_,SC h.row fun g hg'=>?_,hr,h.Oz.trans (Below.NK hg h.rle h.Oz.size hs),h.mlt,h.rle⟩
 ·refine h.perm.trans ((hp.append_right _).trans ?_);rw[List.map_append,List.map_singleton,← List.append_assoc];exact(List.perm_append_singleton _ _).symm
 ·obtain⟨_,cur,hh⟩:=SE h.row hg';refine hg.block g (Array.getElem?_eq_some_iff.1 hh).1 (fun e=>?_);cases e;obtain⟨x,y,z,t,hi⟩:=h.rng.iter;rw[hi] at hh;cases hh
theorem F9.own{w wn w6:World}{mb r:Nat}{D E:List (bW×bn)}{p:bW×bn}{left:List (Value×Value)}{u:Value}(h:F9 w wn mb r D E p left u)(hb:Below wn.heap.size wn w6):w6.ownsRow w.heap.size 94 7 u (sj E).length ((sj E).flatMap bP.cells):=gL hb h.row (Nat.le_refl _)
theorem F9.skip{w wn w6:World}{mb r:Nat}{D E:List (bW×bn)}{p:bW×bn}{left:List (Value×Value)}{u:Value}(h:F9 w wn mb r D E p left u)(hz:nz p=false)(hb:Below wn.heap.size wn w6):Q6 w w6 mb r D (E++[p]) left u:=
 ⟨h.perm,by rw[C9,hz];simpa using h.own hb,h.rng.kept (hb.block _ h.rng.map.lt) (hb.block _ h.rng.lt),h.Oz.trans (hb.mono h.Oz.size),h.mlt,h.rle⟩
theorem F9.more{w wn w6 w7:World}{mb r:Nat}{D E:List (bW×bn)}{p:bW×bn}{left:List (Value×Value)}{u u':Value}{o:Obj}(h:F9 w wn mb r D E p left u)(hz:nz p=true)(hb:Below wn.heap.size wn w6)
 (hown:w7.ownsRow w.heap.size 94 7 u' ((sj E).length+1) ((sj E).flatMap bP.cells++bP.cells (mkE p.1 p.2))) (hg:(w6.alloc o).grownBy w7 u.ownBlock):Q6 w w7 mb r D (E++[p]) left u':=by
 have hrow:=h.own hb;have hb1:=hb.alloc (atp (Nat.le_refl _) hb.size) o;have hR:=h.rng.kept (hb1.block _ h.rng.map.lt) (hb1.block _ h.rng.lt);have hbw:Below w.heap.size w (w6.alloc o):=h.Oz.trans (hb1.mono h.Oz.size)
 have hne:∀ g,u.ownBlock=some g→w.heap.size≤g∧g≠r:=fun g hg'=>by
  obtain⟨h1,cur,hh⟩:=SE (qN hrow o) hg';refine⟨h1,fun e=>?_⟩;subst e;obtain⟨x,y,z,t,hi⟩:=hR.iter;rw[hi] at hh;cases hh
 refine⟨h.perm,?_,hR.kept (hg.block _ hR.map.lt fun e=>?_) (hg.block _ hR.lt fun e=>(hne _ e.symm).2 rfl),hbw.grown hg (by have:=hb.size;have:=h.Oz.size;simp;omega) (fun q hq=>(hne q hq).1),h.mlt,h.rle⟩
 ·rw[C9,hz];simpa using hown
 ·have:=(hne _ e.symm).1;have:=h.mlt;omega
def kvs(l:List bP):List (bW×bn):=l.map fun e=>(e.key,e.Y8)
def aee(l:List bP):bW→bn:=accum (kvs l)
structure OO (w wr:World) (mb i:Nat) (l:List bP):Prop where
 map:lJ wr mb i (aee (l.take i))
 Oz:Below w.heap.size w wr
 new:w.heap.size≤mb
theorem OO.start(w w':World)(l:List bP)(mb:Nat)(hm:lJ w' mb 0 (fun _=>bn.zero))(hb:Below w.heap.size w w')(h:w.heap.size≤mb):OO w w' mb 0 l:=⟨by simpa[aee,kvs,QX] using hm,hb,h⟩
structure aj.Wf (r:aj):Prop where
 ok:r.Ok
 kind:iU r.kind
 cls:iU r.cls
 cond:iU r.cond
 perms:OL r.perms
def Sw(r:aj)(p:Nat×Nat):bW:=⟨p.1,p.2,r.cls,r.cond⟩
def pI(r:aj)(P:List (Nat×Nat)):List (bW×bn):=P.map fun p=>(Sw r p,CR r.kind r.perms)
def kvR(l:List aj):List (bW×bn):=l.flatMap fun r=>pI r r.pairs
theorem Tt{l:List aj}{i:Nat}{r:aj}(h:l[i]?=some r):kvR (l.take (i+1))=kvR (l.take i)++pI r r.pairs:=by
 unfold kvR;rw[bf h,List.flatMap_append,List.flatMap_singleton]
theorem SA{r:aj}{p:Nat×Nat}(h:p∈r.pairs):p.1<256∧p.2<256:=by
 unfold aj.pairs aj.eA at h;obtain⟨s,hs,hp⟩:=List.mem_flatMap.1 h;obtain⟨t,ht,rfl⟩:=List.mem_map.1 hp;simp[elems,eY] at hs ht;exact⟨hs.1,ht.1⟩
theorem aj.Wf.key{r:aj}(h:r.Wf){p:Nat×Nat}(hp:p∈r.pairs):(Sw r p).Ok:=by
 have:=SA hp;exact⟨⟨by show _≤(p.1:Int);omega,by show(p.1:Int)<_;omega⟩,⟨by show _≤(p.2:Int);omega,by show(p.2:Int)<_;omega⟩,h.cls,h.cond⟩
theorem aj.Wf.vec{r:aj}(h:r.Wf):(CR r.kind r.perms).Ok:=by
 have h0:OL 0:=⟨by decide,by decide⟩;unfold CR;split
 ·exact⟨h.perms,h0,h0⟩
 ·split
  ·exact⟨h0,h.perms,h0⟩
  ·split
   ·exact⟨h0,h0,h.perms⟩
   ·exact⟨h0,h0,h0⟩
theorem lJ.more{w:World}{mb n m:Nat}{f:bW→bn}(h:lJ w mb n f)(hm:n≤m):lJ w mb m f:=by
 obtain⟨D,h1,h2,h3,h4⟩:=h.ex;exact⟨D,h1,h2,h3,by omega⟩
theorem Mp{L M:List (bW×bn)}(hM:∀ p∈M,p.2=bn.zero)(hL:∀ k,(accum L k).Ok):accum (L++M)=accum L:=by
 induction M generalizing L with
 | nil=>simp
 | cons p M ih=>
  have e:L++p::M=(L++[p])++M:=by simp
  have h1:accum (L++[p])=accum L:=by
   rw[BW]
   funext x
   unfold Zc;split
   ·rename_i hx;subst hx;rw[hM p (by simp),bn.or_zero (hL _)]
   ·rfl
  rw[e,ih (fun q hq=>hM q (by simp[hq])) (by rw[h1];exact hL),h1]
theorem Mq(L:List (bW×bn))(k:bW)(v:bn):accum (L++[(k,v)])=fun x=>if x=k then (accum L k).or v else accum L x:=by rw[BW];rfl
theorem Xp{w:World}{b o:Nat}{u:Value}(h:w.cell? ⟨b,o,none⟩=some u):b<w.heap.size:=by
 obtain⟨c,e,fr,h1,-⟩:=cells_of_cell? h;exact(Array.getElem?_eq_some_iff.1 h1).1
structure Expand (w wr:World) (mb:Nat) (M:List (bW×bn)):Prop where
 map:lJ wr mb M.length (accum M)
 Oz:atu w.heap.size w wr
 new:w.heap.size≤mb
theorem Expand.keep{w wr w':World}{mb:Nat}{M:List (bW×bn)}(h:Expand w wr mb M)(hb:atu wr.heap.size wr w'):Expand w w' mb M:=
 ⟨h.map.kept (hb.block _ h.map.lt),h.Oz.trans (hb.mono h.Oz.size),h.new⟩
theorem Expand.skip{w wr w':World}{mb i:Nat}{l:List aj}{r:aj}(h:Expand w wr mb (kvR (l.take i)))(hr:l[i]?=some r)(hz:CR r.kind r.perms=bn.zero)(hb:atu wr.heap.size wr w'):Expand w w' mb (kvR (l.take (i+1))):=by
 obtain⟨h1,h2,h3⟩:=h.keep hb;refine⟨?_,h2,h3⟩;rw[Tt hr,Mp (fun p hp=>?_) (fun k=>h1.val k)]
 ·exact h1.more (by simp)
 ·obtain⟨q,-,rfl⟩:=List.mem_map.1 hp;exact hz
structure Vr (w wr:World) (mb rb vb:Nat) (r:aj) (V:bn) (pa:Option Addr) (pn pc:Nat) (L:List (bW×bn)) (j:Nat):Prop where
 exp:Expand w wr mb (L++pI r (r.pairs.take j))
 rule:Whole wr rb 56 #[.int .i64 r.kind,.int .u64 r.src.a,.int .u64 r.src.b,.int .u64 r.src.c,.int .u64 r.src.d,.int .u64 r.tgt.a,.int .u64 r.tgt.b,.int .u64 r.tgt.c,.int .u64 r.tgt.d,.bool r.self,.int .i64 r.cls,.int .u32 r.perms,.int .i64 r.cond]
 vec:Whole wr vb 107 #[.int .u32 V.allow,.int .u32 V.j8,.int .u32 V.dont]
 cell:∀ i,i<r.pairs.length→∃ b off,pa=some ⟨b,off,none⟩∧∀ j u,(iF r.pairs)[i*2+j]?=some u→wr.cell? ⟨b,off+i*2+j,none⟩=some u
 rne:rb≠mb
 vne:vb≠mb
 pne:∀ b off,pa=some ⟨b,off,none⟩→b≠mb
theorem Vr.step{w wq w6 wx w7:World}{mb rb vb m:Nat}{r:aj}{V:bn}{pa:Option Addr}{pn pc:Nat}{L:List (bW×bn)}{j:Nat}{y:Nat×Nat}{f:bW→bn}(h:Vr w wq mb rb vb r V pa pn pc L j)(hf:f=accum (L++pI r (r.pairs.take j))∧V=CR r.kind r.perms)(hm:m=(L++pI r (r.pairs.take j)).length)
 (hb:atu wq.heap.size wq w6) (hb2:atu w6.heap.size w6 wx) (hM:lJ w7 mb (m+1) (fun x=>if x=Sw r y then (f (Sw r y)).or V else f x)) (hg:wx.grownBy w7 (some mb)) (hs:w7.heap.size=wx.heap.size) (hy:r.pairs[j]?=some y):Vr w w7 mb rb vb r V pa pn pc L (j+1):=by
 obtain⟨rfl,rfl⟩:=hf;have zu:atu wq.heap.size wq wx:=hb.trans (hb2.mono hb.size)
 have e:L++pI r (r.pairs.take (j+1))=(L++pI r (r.pairs.take j))++[(Sw r y,CR r.kind r.perms)]:=by
  unfold pI;rw[bf hy,List.map_append,List.map_singleton,List.append_assoc]
 have k:=h.exp.keep zu;refine⟨⟨?_,?_,k.new⟩,?_,?_,?_,h.rne,h.vne,h.pne⟩
 ·rw[e,Mq,atq,List.length_singleton,← hm];exact hM
 ·exact k.Oz.trans (Below.NK hg k.new k.Oz.size hs)
 ·exact(Whole.under zu h.rule h.rule.lt).grown hg (fun e=>h.rne (by cases e;rfl))
 ·exact(Whole.under zu h.vec h.vec.lt).grown hg (fun e=>h.vne (by cases e;rfl))
 ·intro i hi;obtain⟨b,off,hpa,hc⟩:=h.cell i hi;refine⟨b,off,hpa,fun j u hu=>?_⟩;have h1:=cell_later zu (hc j u hu);have hlt:=Xp (hc j u hu);rw[← h1];exact World.cell?_of_block (hg.block b (by have:=zu.size;exact Nat.lt_of_lt_of_le hlt this) (fun e=>h.pne b off hpa (by cases e;rfl)))
end Go.Proofs.YtdcofoaihmongaaGreat
namespace Go.Proofs.YtdcofoaihmongaaGreat
open Go Go.RowKit
theorem aj.ny.wf{r:aj}(h:r.ny):r.Wf:=⟨⟨h.src,h.tgt⟩,h.kind,h.cls,h.cond,h.perms⟩
def GN(l:List aj)(kind cls:Int)(s t b:Nat):Prop:=∃ r∈l,r.kind=kind∧r.cls=cls∧(s,t)∈r.pairs∧ib r.perms b=true
def F5(l l':List aj):Prop:=∀ (kind cls:Int) (s t b:Nat),s<256→t<256→(GN l kind cls s t b↔GN l' kind cls s t b)
theorem F5.trans{a b c:List aj}(h:F5 a b)(k:F5 b c):F5 a c:=fun _ _ _ _ _ hs ht=>(h _ _ _ _ _ hs ht).trans (k _ _ _ _ _ hs ht)
structure CS0 (s:qG):Prop where
 sN:s.sN 0=none
 ev:s.ev 0=none
 nv:s.nv 0=none
theorem ab1{α:Type}{f:Int→Option α}{k:Int}{v:α}(h:f 0=none)(hk:k≠0):ez f k v 0=none:=by
 unfold ez;rw[if_neg fun e=>hk e.symm];exact h
theorem R3{α:Type}{f:Int→Option α}{i:Nat}{a b:α}(h:f 0=none):ez (ez f ((i:Int)+1) a) (0-((i:Int)+1)) b 0=none:=ab1 (ab1 h (by omega)) (by omega)
theorem Ox{i:Nat}{k:Int}{s:qG}(h:CS0 s):CS0 (eP i k s):=⟨(by show ez (ez s.sN ((i:Int)+1) k) (0-((i:Int)+1)) (0-k) 0=none;exact R3 h.sN),h.ev,h.nv⟩
theorem Xm(p:aA)(i:Nat)(e:aq){s:qG}(h:CS0 s):CS0 (iw p i e s):=by
 unfold iw;split
 ·exact⟨h.sN,(by dsimp only;exact R3 h.ev),(by dsimp only;exact R3 h.nv)⟩
 ·split
  ·exact h
  ·dsimp only;split
   ·exact Ox ⟨h.sN,h.ev,h.nv⟩
   ·exact Ox h
theorem I4(p:aA):∀ (l:List aq) (i:Nat) (s:qG),CS0 s→CS0 (ji p i l s)
 | [],_,_,h=>h
 | e::l,i,_,h=>I4 p l (i+1) _ (Xm p i e h)
theorem Vb(p:aA)(n:Nat):cO (bN p n) 0=(0,true):=by
 have h:CS0 (bN p n):=I4 p _ 0 cs0 ⟨rfl,rfl,rfl⟩;unfold cO;rw[h.ev,h.sN,h.nv];rfl
theorem zV{k:Int}:∀ (l:List aj) (f:Int→Option Bool),f k=some true→rG l f k=some true
 | [],_,h=>h
 | y::l,f,h=>by
  show rG l (ez f (jk y.cond) true) k=some true;refine zV l _ ?_;by_cases e:k=jk y.cond
  ·rw[e];exact lP
  ·rw[qI e];exact h
theorem CT{r:aj}:∀ {l:List aj} (f:Int→Option Bool),r∈l→rG l f (jk r.cond)=some true
 | y::l,f,h=>by
  show rG l (ez f (jk y.cond) true) (jk r.cond)=some true;rcases List.mem_cons.1 h with rfl|h
  ·exact zV l _ lP
  ·exact CT _ h
theorem rR{k:Int}:∀ (l:List bD) (f:Int→Option Bool),f k=some true→tu l f k=some true
 | [],_,h=>h
 | y::l,f,h=>by
  show tu l (ez f (jk y.cond) true) k=some true;refine rR l _ ?_;by_cases e:k=jk y.cond
  ·rw[e];exact lP
  ·rw[qI e];exact h
theorem CS{r:bD}:∀ {l:List bD} (f:Int→Option Bool),r∈l→tu l f (jk r.cond)=some true
 | y::l,f,h=>by
  show tu l (ez f (jk y.cond) true) (jk r.cond)=some true;rcases List.mem_cons.1 h with rfl|h
  ·exact rR l _ lP
  ·exact CS _ h
theorem vn{p:aA}{r:aj}(h:r∈p.rules):(lN p (jk r.cond)).getD false=true:=by
 unfold lN;rw[rR _ _ (CT _ h)];rfl
theorem vm{p:aA}{r:bD}(h:r∈p.trans):(lN p (jk r.cond)).getD false=true:=by
 unfold lN;rw[CS _ h];rfl
theorem jj{p:aA}(hH:j9 p){k:Int}(hb:-(p.conds.length:Int)≤k∧k≤p.conds.length)(hu:(lN p (jk k)).getD false=true):
 (-((bN p p.conds.length).kids.length:Int)≤(cO (bN p p.conds.length) k).1∧(cO (bN p p.conds.length) k).1≤(bN p p.conds.length).kids.length) ∧
 ∀ n,n<2^p.bools.length→uV p.bools.length p.conds k n=((cO (bN p p.conds.length) k).2&&uV p.bools.length (bN p p.conds.length).kids (cO (bN p p.conds.length) k).1 n):=by
 have hI:=ad_ hH p.conds.length (Nat.le_refl _);by_cases h0:k=0
 ·subst h0;rw[Vb];exact⟨⟨by simp,by simp⟩,fun n _=>by rw[pT,pT];rfl⟩
 obtain⟨j,hj⟩:∃ j:Nat,k=(j:Int)+1∨k=0-((j:Int)+1):=by
  rcases Int.lt_or_lt_of_ne h0 with h|h
  ·exact⟨(0-k-1).toNat,.inr (by omega)⟩
  ·exact⟨(k-1).toNat,.inl (by omega)⟩
 have hlt:j<p.conds.length:=by omega
 obtain⟨e,he⟩:∃ e,p.conds[j]?=some e:=⟨_,atn hlt⟩;have ha:jk k=(j:Int)+1:=by unfold jk;split<;>omega
 rw[ha] at hu;obtain⟨g1,g2⟩:=hI.ok j e hlt he hu;rcases hj with rfl|rfl
 ·exact⟨g1.bd,fun n hn=>by rw[tW he];exact g1.val n hn⟩
 ·exact⟨g2.bd,fun n hn=>by rw[tX he];exact g2.val n hn⟩
theorem fA.qw{p:aA}(h:fA p)(hH:j9 p):fA (aY p):=by
 refine⟨h.bools,fun r hr=>?_,fun r hr=>?_,fun e he=>h.conds e (qY e he),fun r hr=>?_,fun y hy=>?_⟩
 ·obtain⟨x,hx,rfl⟩:=DC hr;have:=h.rv x hx;exact⟨this.kind,this.cls,this.perms,this.pairs⟩
 ·obtain⟨x,hx,rfl⟩:=DC hr;intro h4;have hc:=h.four x hx h4;show(cO _ x.cond).1=0;rw[hc,Vb]
 ·obtain⟨x,hx,rfl⟩:=DC hr;exact(jj hH (h.lu x hx) (vn hx)).1
 ·obtain⟨x,hx,rfl⟩:=Ow hy;exact(jj hH (h.oF x hx) (vm hx)).1
theorem Io{T C:Nat}{on on':aj→Bool}{f:aj→Option aj}:∀ (l:List aj) (out:List Int),(∀ r∈l,(f r=none∧on r=false)∨∃ k,f r=some { r with cond:=k }∧on' { r with cond:=k }=on r)→eH T C on' out (l.filterMap f)=eH T C on out l
 | [],_,_=>rfl
 | r::l,out,h=>by
  have ih:=fun out=>Io (T:=T) (C:=C) l out fun x hx=>h x (List.mem_cons_of_mem _ hx)
  rw[List.filterMap_cons];rcases h r (List.mem_cons_self ..) with⟨h1,h2⟩|⟨k,h1,h2⟩
  ·rw[h1];show eH T C on' out (l.filterMap f)=eH T C on (if on r=true then _ else out) l;rw[ih,h2,if_neg (by decide)]
  ·rw[h1];show eH T C on' (if on' { r with cond:=k }=true then Al T C { r with cond:=k } out r.pairs else out) (l.filterMap f)=eH T C on (if on r=true then Al T C r out r.pairs else out) l;rw[ih,h2];rfl
theorem AB{p:aA}(h:fA p)(hH:j9 p):jY (aY p)=jY p:=by
 have h':=h.qw hH;unfold jY;show(List.range (2^p.bools.length)).map (Kw (aY p))=_;refine List.map_congr_left fun n hn=>?_
 rw[List.mem_range] at hn;rw[Ah h',Ah h];refine Io _ _ fun r hr=>?_
 have hv:=(jj hH (h.lu r hr) (vn hr)).2 n hn;unfold cR
 cases hb:(cO (bN p p.conds.length) r.cond).2 with
 | false=>
  rw[hb,Bool.false_and] at hv;exact .inl ⟨if_neg (by decide),hv⟩
 | true=>
  rw[hb,Bool.true_and] at hv;exact .inr ⟨_,if_pos rfl,hv.symm⟩
theorem Gw{p:aA}(h:fA p){k:Int}(hk:-(p.conds.length:Int)≤k∧k≤p.conds.length):zQ p k=(List.range (2^p.bools.length)).map fun i=>uV p.bools.length p.conds k i:=by
 unfold zQ;refine List.map_congr_left fun i _=>X2 h.conds hk
theorem wX{p:aA}(h:fA p)(hH:j9 p):zZ (aY p)=zZ p:=by
 have h':=h.qw hH;unfold zZ;show(p.trans.filterMap (cT (bN p p.conds.length))).filterMap (GJ (aY p))=_;rw[List.filterMap_filterMap];refine Ir _ fun y hy=>?_
 obtain⟨b1,b2⟩:=jj hH (h.oF y hy) (vm hy);unfold cT
 have hw:zQ p y.cond=(List.range (2^p.bools.length)).map fun i=>((cO (bN p p.conds.length) y.cond).2&&uV p.bools.length (bN p p.conds.length).kids (cO (bN p p.conds.length) y.cond).1 i):=by
  rw[Gw h (h.oF y hy)];exact List.map_congr_left fun i hi=>b2 i (List.mem_range.1 hi)
 cases hb:(cO (bN p p.conds.length) y.cond).2 with
 | false=>
  rw[if_neg (by decide)];unfold GJ;rw[hw,hb,if_neg]
  ·rfl
  ·simp
 | true=>
  rw[if_pos rfl];show GJ (aY p) _=_
  have hw2:zQ (aY p) (cO (bN p p.conds.length) y.cond).1=zQ p y.cond:=by
   rw[hw,hb,Gw h' (p:=aY p) b1];rfl
  unfold GJ;dsimp only;rw[hw2]
theorem j9.qw{p:aA}(h:j9 p):j9 (aY p):=⟨h.b5,fun e he=>h.con e (qY e he)⟩
theorem P6{a b c:aj}(h:aF a b=some c):c.kind=a.kind:=by
 unfold aF at h
 repeat' split at h
 all_goals first|cases h|skip
 all_goals rfl
theorem fA.rj{p:aA}(h:fA p):fA (gY p):=
 ⟨h.bools,(Ay (on:=fun _=>true) h.rv fun _ _ _=>rfl).1,qU (J:=aF) (Q:=fun r=>r.kind=4→r.cond=0) (fun a b c ha _ h=>fun h4=>by
  have hk:=P6 h;rw[nW h];exact ha (by rw[← hk];exact h4)) h.four,h.conds,qU (J:=aF) (Q:=fun r=>-(p.conds.length:Int)≤r.cond∧r.cond≤p.conds.length) (fun a b c ha _ h=>by rw[nW h];exact ha) h.lu,h.oF⟩
theorem PA{p:aA}(h:fA p)(hH:j9 p):jY (nN p)=jY p∧zZ (nN p)=zZ p∧fA (nN p):=by
 have h1:=h.qw hH;have H1:=hH.qw;have h2:=h1.wo (mD (aY p));have H2:j9 (yN (aY p) (mD (aY p))):=⟨H1.b5,H1.con⟩;have h3:=h2.rj;have H3:j9 (gY (yN (aY p) (mD (aY p)))):=⟨H2.b5,H2.con⟩;have m1:=AB h hH;have m2:jY (yN (aY p) (mD (aY p)))=jY (aY p):=(PW h1 (vI (aY p))).2 (tQ (Sp h1) _);have m3:=Ho h2.rv;have m4:=AB h3 H3;refine⟨m4.trans (m3.trans (m2.trans m1)),?_,h3.qw H3⟩;have t1:=wX h hH;have t4:=wX h3 H3;exact t4.trans t1
theorem Dy{B n:Nat}{st:List Bool}(hst:∀ a,a<B→n.testBit a=st.getD a false){e:aq}(h:iM B e):dg st e=nD B n e:=by
 induction h with
 | @bool a rel b ns s h0 h1=>
  rw[iy,mH];show iT st 1 a []=Cr B n 1 a []
  have hb:cQ B 1 a 0=false:=by
   have:¬ a<0:=by omega
   have h2:¬ (B:Int)≤a:=by omega
   simp[cQ,pR,this,h2]
  unfold iT Cr;rw[if_pos rfl,List.length_nil,hb,if_neg (by decide),if_pos rfl,hst _ (by omega)];unfold Vd;rw[decide_eq_true h0,Bool.true_and,List.getD_eq_getElem?_getD]
 | @not a rel b ns s k hk ih=>
  rw[iy,mH];show iT st 2 a [dg st k]=Cr B n 2 a [nD B n k];rw[ih];have hb:cQ B 2 a 1=false:=by simp[cQ,pR]
  unfold iT Cr;simp[hb]
 | @bin op a rel b ns s k l h3 h7 hk hl ihk ihl=>
  rw[iy,mH];show iT st op a [dg st k,dg st l]=Cr B n op a [nD B n k,nD B n l];rw[ihk,ihl]
  have hb:cQ B op a 2=false:=by
   have h1:¬ op=1:=by omega
   have h2:¬ op=2:=by omega
   simp[cQ,pR,h1,h2]
  unfold iT Cr;have e:op=3∨op=4∨op=5∨op=6∨op=7:=by omega
  generalize nD B n k=x;generalize nD B n l=y;rcases e with rfl|rfl|rfl|rfl|rfl<;>simp[hb]<;>cases x<;>cases y<;>rfl
theorem Vn{B n:Nat}{st:List Bool}(hst:∀ a,a<B→n.testBit a=st.getD a false){conds:List aq}(hc:∀ e∈conds,iM B e){k:Int}(hk:-(conds.length:Int)≤k∧k≤conds.length):uM conds st k=uV B conds k n:=by
 unfold uM;by_cases h0:k=0
 ·rw[if_pos h0,h0,pT]
 rw[if_neg h0];by_cases h1:0<k
 ·obtain⟨e,he⟩:∃ e,conds[(k-1).toNat]?=some e:=⟨_,atn (by omega)⟩;have:=tW (nB:=B) he n;rw[show((k-1).toNat:Int)+1=k by omega] at this;rw[if_pos h1,decide_eq_true hk.2,he,this,← Dy hst (hc e (ato he))];rfl
 ·obtain⟨e,he⟩:∃ e,conds[(0-k-1).toNat]?=some e:=⟨_,atn (by omega)⟩;have:=tX (nB:=B) he n;rw[show(0:Int)-(((0-k-1).toNat:Int)+1)=k by omega] at this;rw[if_neg h1,decide_eq_true (by omega),he,this,← Dy hst (hc e (ato he))];rfl
theorem Gz{p:aA}{st:List Bool}{kd:Int}{s t:dI}{cls:Int}:∀ (l:List aj) (v:Int),(∀ r∈l,nw r.perms)→nw v→nw (l.foldl (q7 p st kd s t cls) v)∧∀ k,ib (l.foldl (q7 p st kd s t cls) v) k=(ib v k||l.any fun r=>((decide (r.kind=kd)&&uM p.conds st r.cond&&nQ r s t cls)&&ib r.perms k))
 | [],v,_,hv=>⟨hv,fun k=>by simp⟩
 | r::l,v,hl,hv=>by
  have hr:=hl r (List.mem_cons_self ..);have hb:=hv
  have hw:nw (q7 p st kd s t cls v r):=by
   unfold q7;split
   ·exact mO .or _ _
   ·exact hv
  obtain⟨h1,h2⟩:=Gz l _ (fun x hx=>hl x (List.mem_cons_of_mem _ hx)) hw;refine⟨h1,fun k=>?_⟩;rw[List.foldl_cons,h2,List.any_cons,← Bool.or_assoc];congr 1;unfold q7
  cases hb:(decide (r.kind=kd)&&uM p.conds st r.cond&&nQ r s t cls) with
  | true=>rw[if_pos rfl,uh .or hv hr,Bool.true_and]
  | false=>rw[if_neg (by decide),Bool.false_and,Bool.or_false]
theorem mixed{a a' b b' C:Nat}(h:b<C)(h':b'<C)(e:a*C+b=a'*C+b'):a=a'∧b=b':=by
 have h1:(a*C+b)/C=a:=by rw[Nat.add_comm,Nat.add_mul_div_right _ _ (by omega),Nat.div_eq_of_lt h,Nat.zero_add]
 have h2:(a'*C+b')/C=a':=by rw[Nat.add_comm,Nat.add_mul_div_right _ _ (by omega),Nat.div_eq_of_lt h',Nat.zero_add]
 have ha:a=a':=by rw[← h1,e,h2]
 subst ha;exact⟨rfl,by omega⟩
def ixK(T C:Nat)(kd:Int)(s t c:Nat):Nat:=(((kd-1).toNat*T+s)*T+t)*C+c
theorem Tz{T C:Nat}{r:aj}(hr:RV T C r){kd:Int}(hk:1≤kd){s t c:Nat}(hs:s<T)(ht:t<T)(hc:c<C){q:Nat×Nat}(hq:q∈r.pairs):zm T C r q=ixK T C kd s t c↔r.kind=kd∧q=(s,t)∧r.cls=(c:Int):=by
 have hp:=hr.pairs q hq;have h1:=hr.kind;have h2:=hr.cls;constructor
 ·intro e;unfold zm ixK at e;obtain⟨e1,e2⟩:=mixed (by omega) hc e;obtain⟨e3,e4⟩:=mixed hp.2 ht e1;obtain⟨e5,e6⟩:=mixed hp.1 hs e3;exact⟨by omega,Prod.ext e6 e4,by omega⟩
 ·rintro⟨rfl,rfl,e3⟩;unfold zm ixK;rw[show r.cls.toNat=c by omega]
theorem Hp{r:aj}{s t:dI}{sn tn:Nat}(hs:s.typ=(sn:Int))(ht:t.typ=(tn:Int))(h1:sn<256)(h2:tn<256){cls:Int}:nQ r s t cls=true↔r.cls=cls∧(sn,tn)∈r.pairs:=by
 unfold nQ;rw[bI h1 h2,hs,ht]
 have hm:∀ (x:ay) (k:Nat),k<256→x.mem (k:Int)=x.has k:=fun x k hk=>by
  unfold ay.mem;rw[decide_eq_true ⟨by omega,by omega⟩,Bool.true_and,Int.toNat_natCast]
 rw[hm _ _ h1,hm _ _ h2,show decide ((sn:Int)=(tn:Int))=decide (sn=tn) from decide_eq_decide.2 (by omega)];simp only[Bool.and_eq_true,decide_eq_true_eq,and_assoc]
theorem CQ{p:aA}(hT:fA p)(hT2:p.types.length≤256){n:Nat}{st:List Bool}(hst:∀ a,a<p.bools.length→n.testBit a=st.getD a false){kd:Int}(hk:1≤kd){s t:dI}{sn tn cn:Nat}(hs:s.typ=(sn:Int))(ht:t.typ=(tn:Int))(h1:sn<p.types.length)(h2:tn<p.types.length)(h3:cn<p.classes.length):gI p st kd s t (cn:Int)=(Kw p n).getD (ixK p.types.length p.classes.length kd sn tn cn) 0:=by
 obtain⟨w1,i1⟩:=Gz (p:=p) (st:=st) (kd:=kd) (s:=s) (t:=t) (cls:=(cn:Int)) p.rules 0 (fun r hr=>(hT.rv r hr).perms) ⟨Int.le_refl _,by decide⟩;obtain⟨w2,i2⟩:=jf (T:=p.types.length) (C:=p.classes.length) (on:=fun r=>uV p.bools.length p.conds r.cond n) hT.rv;rw[Ah hT]
 have hw2:nw ((dF p.types.length p.classes.length (fun r=>uV p.bools.length p.conds r.cond n) p.rules).getD (ixK p.types.length p.classes.length kd sn tn cn) 0):=by
  rw[List.getD_eq_getElem?_getD]
  cases h:(dF p.types.length p.classes.length (fun r=>uV p.bools.length p.conds r.cond n) p.rules)[ixK p.types.length p.classes.length kd sn tn cn]? with
  | none=>exact⟨Int.le_refl _,by decide⟩
  | some x=>exact w2 x (ato h)
 refine AZ w1.1 hw2.1 fun k=>?_
 show ib (p.rules.foldl _ 0) k=_;rw[i1,i2,gj,Bool.false_or,Bool.eq_iff_iff,List.any_eq_true,List.any_eq_true];refine exists_congr fun r=>and_congr_right fun hr=>?_
 have H8:=hT.rv r hr;rw[Vn hst hT.conds (hT.lu r hr)];simp only[Bool.and_eq_true,decide_eq_true_eq,List.any_eq_true];rw[Hp hs ht (by omega) (by omega)];constructor
 ·rintro⟨⟨⟨a,b⟩,c,d⟩,e⟩;exact⟨⟨b,(sn,tn),d,(Tz H8 hk h1 h2 h3 d).2 ⟨a,rfl,c⟩⟩,e⟩
 ·rintro⟨⟨b,q,d,f⟩,e⟩;obtain⟨a,rfl,c⟩:=(Tz H8 hk h1 h2 h3 d).1 f;exact⟨⟨⟨a,b⟩,c,d⟩,e⟩
theorem VL{p:aA}(hT:fA p)(hH:j9 p)(hT2:p.types.length≤256)(st:List Bool){kd:Int}(hk:1≤kd){s t:dI}(h1:0≤s.typ∧s.typ<p.types.length)(h2:0≤t.typ∧t.typ<p.types.length){cn:Nat}(h3:cn<p.classes.length):gI (nN p) st kd s t (cn:Int)=gI p st kd s t (cn:Int):=by
 obtain⟨m1,-,hT'⟩:=PA hT hH;obtain⟨n,hn,hst⟩:=zB p.bools.length fun a=>st.getD a false
 have e1:=CQ hT hT2 hst hk (show s.typ=(s.typ.toNat:Int) by omega) (show t.typ=(t.typ.toNat:Int) by omega) (by omega) (by omega) h3;have e2:=CQ (p:=nN p) hT' hT2 hst hk (show s.typ=(s.typ.toNat:Int) by omega) (show t.typ=(t.typ.toNat:Int) by omega) (show _<p.types.length by omega) (show _<p.types.length by omega) h3;rw[e1,e2]
 have hr:Kw (nN p) n=Kw p n:=by
  have:=congrArg (fun l=>l[n]?) m1;unfold jY at this;simp only[List.getElem?_map] at this;rw[show(nN p).bools.length=p.bools.length from rfl,List.getElem?_range hn] at this;exact att this
 rw[hr];rfl
theorem U_:∀ x:List UInt8,Op.bytesLess x x=false
 | []=>rfl
 | a::x=>by
  rw[Op.bytesLess,U_ x];simp
def X_(s x:ByteArray):Bool:=Op.bytesLess s.toList x.toList
abbrev Asc (l:List ByteArray):Prop:=l.Pairwise fun x y=>X_ x y=true
theorem Asc.nodup{l:List ByteArray}(h:Asc l):l.Nodup:=h.imp fun {a b} hab e=>by
 subst e;unfold X_ at hab;rw[U_] at hab;cases hab
structure CkH (p:aA):Prop where
 hI:∀ b∈p.bools,jS b.name=true∧dG b.name
 hd:(p.bools.map (·.name)).Nodup
 b5:p.bools.length≤5
 c0:∀ e∈p.conds,cC p.bools.length e=0
theorem CkH.lv{p:aA}(h:CkH p){e:aq}(he:e∈p.conds):bq 13 e≤12:=by
 have:=h.c0 e he;unfold cC at this;split at this
 ·cases this
 ·omega
theorem CkH.cond{p:aA}(h:CkH p){e:aq}(he:e∈p.conds):iM p.bools.length e:=by
 have:=h.c0 e he;unfold cC at this;split at this
 ·cases this
 ·exact BD e this
theorem CkH.be{p:aA}(h:CkH p){e:aq}(he:e∈p.conds):g_ 12 (bg p.bools e)∧∀ s∈bw (bg p.bools e),s∈p.bools.map (·.name):=Av h.hI (h.cond he) 12 (h.lv he)
theorem CH.o{wb w:World}{p:aA}{v:Value}(h:CH wb p v w):Vo p v w:=by
 obtain⟨x0,n0,x1,n1,x2,n2,x3,n3,x4,n4,x5,n5,x6,n6,x7,n7,x8,n8,x9,n9,x10,n10,oM,n11,oL,n12,J5,n13,J4,n14,J3,n15,J2,n16,T,rfl,hT,hP⟩:=h;exact⟨_,_,_,_,_,_,_,_,_,_,_,_,_,_,_,_,_,rfl,hP _ _ hT⟩
theorem Vo.same{w:World}{p q:aA}{u v:Value}(h:Vo p u w)(k:Vo q v w):Calls Tryz.prog 23 #[u,v] w fun r w'=>r=.returned (.bool (jq p q))∧atu w.heap.size w w':=by
 obtain⟨_,_,_,_,_,_,_,_,_,_,_,_,_,_,_,_,_,rfl,hP⟩:=h;obtain⟨_,_,_,_,_,_,_,_,_,_,_,_,_,_,_,_,_,rfl,hQ⟩:=k;exact vC _ _ _ _ _ _ _ _ _ _ _ _ _ _ _ _ _ _ _ _ _ _ _ _ _ _ _ _ _ _ _ _ _ _ _ p q hP hQ
theorem CF.wo{p:aA}(h:CF p)(o:List Int):CF (yN p o):={ h with rules:=fun r hr=>h.rules r (rP r hr) }
theorem bh.one{w:World}{cs:List Value}{e:aq}(h:bh w cs e):∀ u∈cs,u.oneCell'=true:=by
 obtain⟨_,_,rfl,hn,hk⟩:=h.open;obtain⟨_,_,rfl,-⟩:=aH.get hn;obtain⟨_,_,rfl,-⟩:=ak.form hk (by decide);intro u hu;simp only[List.mem_cons,List.not_mem_nil,or_false] at hu;rcases hu with rfl|rfl|rfl|rfl|rfl|rfl|rfl|rfl|rfl|rfl<;>rfl
theorem CF.qw{p:aA}(h:CF p)(hT:fA (aY p))(hc:JE (aY p)):CF (aY p):=⟨h.bools,atp hc.conds (by decide),h.types,h.classes,fun r hr=>⟨hT.rv r hr,hc.ok.rules r hr⟩⟩
theorem Xz(x y b:Nat):rB (x|||y) b=rB x b|||rB y b:=Nat.and_or_distrib_right ..
theorem CM{x y A:ay}(h:x.within A=true)(k:y.within A=true):(x.or y).within A=true:=by
 unfold ay.within at *;rw[decide_eq_true_eq] at *
 have e:(x.or y).minus A=(x.minus A).or (y.minus A):=by
  unfold ay.minus ay.or;simp only[Xz]
 rw[e,h,k];rfl
theorem some_or{x y:ay}(h:cN x=true):cN (x.or y)=true:=by
 unfold cN at *;rw[Bool.not_eq_true',decide_eq_false_iff_not] at *;intro e;refine h ?_;obtain⟨a,b,c,d⟩:=x;obtain⟨a',b',c',d'⟩:=y;unfold ay.or ay.zero at e;simp only[ay.mk.injEq] at e;obtain⟨e1,e2,e3,e4⟩:=e;unfold ay.zero;rw[(Nat.or_eq_zero_iff.1 e1).1,(Nat.or_eq_zero_iff.1 e2).1,(Nat.or_eq_zero_iff.1 e3).1,(Nat.or_eq_zero_iff.1 e4).1]
theorem SF{x y:Int}(hx:nw x)(hy:nw y):∃ a b:Nat,x=(a:Int)∧y=(b:Int)∧bits .or .u32 x y=((a|||b:Nat):Int):=by
 obtain⟨a,rfl⟩:=Int.eq_ofNat_of_zero_le hx.1;obtain⟨b,rfl⟩:=Int.eq_ofNat_of_zero_le hy.1;refine⟨a,b,rfl,rfl,?_⟩;rw[xB,BitVec.ofInt_natCast,BitVec.ofInt_natCast,BitVec.toNat_or,BitVec.toNat_ofNat,BitVec.toNat_ofNat,Nat.mod_eq_of_lt (by have:=hx.2;omega),Nat.mod_eq_of_lt (by have:=hy.2;omega)]
structure RuR (nT:Nat) (cl:List iB) (r:aj):Prop where
 kind:¬ r.kind<1∧¬ 4<r.kind
 src:r.src.within (ay.all nT)=true
 tgt:r.tgt.within (ay.all nT)=true
 vec:eS cl r.cls r.perms=true
 Zl:cN r.src=true
 Zi:cN r.tgt=true∨r.self=true
 perms:r.perms≠0
 four:r.kind=4→r.cond=0
 w:nw r.perms
theorem Sl{nT nC:Nat}{cl:List iB}{r:aj}(hw:nw r.perms):xu nT nC cl r=0↔RuR nT cl r∧jL nC r.cond=true:=by
 unfold xu;constructor
 ·intro h;split at h
  ·cases h
  rename_i h1;split at h
  ·cases h
  rename_i h2;split at h
  ·cases h
  rename_i h3;split at h
  ·cases h
  rename_i h4;simp only[Bool.not_eq_true] at h3 h4;unfold nI at h3;unfold qL at h4;simp only[Bool.or_eq_false_iff,Bool.and_eq_false_iff,Bool.not_eq_false',decide_eq_false_iff_not] at h3 h4;obtain⟨⟨⟨a1,a2⟩,a3⟩,a4⟩:=h3;obtain⟨⟨⟨b1,b2⟩,b3⟩,b4⟩:=h4
  exact⟨⟨⟨h1,h2⟩,a1,a2,a3,b1,b2,b3,fun k=>by
   rcases b4 with b4|b4
   ·exact absurd k b4
   ·simpa using b4,hw⟩,a4⟩
 ·rintro⟨h,hc⟩
  have e1:nI (r.src.within (ay.all nT)) (r.tgt.within (ay.all nT)) (eS cl r.cls r.perms) (jL nC r.cond)=false:=by
   unfold nI;rw[h.src,h.tgt,h.vec,hc];rfl
  have e2:qL (cN r.src) (cN r.tgt) r=false:=by
   unfold qL;rw[h.Zl,decide_eq_false h.perms]
   have h1:(!cN r.tgt&&!r.self)=false:=by
    rcases h.Zi with h2|h2<;>rw[h2]
    ·rfl
    ·cases cN r.tgt<;>rfl
   have h2:(decide (r.kind=4)&&!(decide (r.cond=0)))=false:=by
    by_cases k:r.kind=4
    ·rw[h.four k];simp
    ·rw[decide_eq_false k];rfl
   rw[h1,h2];rfl
  rw[if_neg h.kind.1,if_neg h.kind.2,if_neg (by rw[e1];decide),if_neg (by rw[e2];decide)]
theorem Y9{cl:List iB}{c x y:Int}(hx:nw x)(hy:nw y)(h:eS cl c x=true)(k:eS cl c y=true):eS cl c (bits .or .u32 x y)=true:=by
 obtain⟨a,b,rfl,rfl,e⟩:=SF hx hy;rw[e];unfold eS at *
 cases hc:(if 0≤c then cl[c.toNat]? else none) with
 | none=>rw[hc] at h;cases h
 | some z=>
  rw[hc] at h k;dsimp only at h k ⊢;rw[Bool.or_eq_true,decide_eq_true_eq,decide_eq_true_eq] at *;rcases h with h|h
  ·exact .inl h
  rcases k with k|k
  ·exact .inl k
  refine .inr ?_
  have cv:∀ u:Nat,((u:Int)/2^z.perms.length=0↔u<2^z.perms.length):=fun u=>by
   rw[show((u:Int)/2^z.perms.length)=((u/2^z.perms.length:Nat):Int) by simp,Int.natCast_eq_zero,Nat.div_eq_zero_iff];have:=Nat.two_pow_pos z.perms.length;omega
  rw[cv] at h k ⊢;exact Nat.or_lt_two_pow h k
theorem Lr{nT:Nat}{cl:List iB}{a b c:aj}(ha:RuR nT cl a)(hb:RuR nT cl b)(h:aF a b=some c):RuR nT cl c:=by
 unfold aF at h;split at h
 ·cases h
 rename_i hne;simp only[Bool.not_eq_true,Bool.or_eq_false_iff,Bool.not_eq_false',decide_eq_true_eq] at hne;obtain⟨⟨⟨-,hcls⟩,-⟩,-⟩:=hne;split at h
 ·obtain rfl:=att h;refine { ha with vec:=Y9 ha.w hb.w ha.vec (by rw[hcls];exact hb.vec),perms:=?_,w:=mO .or _ _ };obtain⟨x,y,e1,e2,e3⟩:=SF ha.w hb.w;show bits .or .u32 a.perms b.perms≠0;rw[e3];intro e;have:x|||y=0:=by omega
  exact ha.perms (by rw[e1,(Nat.or_eq_zero_iff.1 this).1];rfl)
 ·split at h
  ·obtain rfl:=att h;exact { ha with tgt:=CM ha.tgt hb.tgt,Zi:=ha.Zi.imp some_or id }
  ·split at h
   ·obtain rfl:=att h;exact { ha with src:=CM ha.src hb.src,Zl:=some_or ha.Zl }
   ·cases h
theorem O5{nT nC nK nK':Nat}{y:bD}{k:Int}(h:tB nT nC nK y=0)(hk:jL nK' k=true):tB nT nC nK' { y with cond:=k }=0:=by
 unfold tB at *;dsimp only;rw[hk];by_cases c1:y.kind<1
 ·rw[if_pos c1] at h;cases h
 rw[if_neg c1] at h ⊢;by_cases c2:3<y.kind
 ·rw[if_pos c2] at h;cases h
 rw[if_neg c2] at h ⊢;by_cases c3:y.src.within (ay.all nT)=false
 ·rw[if_pos c3] at h;cases h
 rw[if_neg c3] at h ⊢;by_cases c4:y.tgt.within (ay.all nT)=false
 ·rw[if_pos c4] at h;cases h
 rw[if_neg c4] at h ⊢;by_cases c5:aX y.cls (nC:Int)=false
 ·rw[if_pos c5] at h;cases h
 rw[if_neg c5] at h ⊢;by_cases c6:aX y.res (nT:Int)=false
 ·rw[if_pos c6] at h;cases h
 rw[if_neg c6] at h ⊢;by_cases c7:jL nK y.cond=false
 ·rw[if_pos c7] at h;cases h
 rw[if_neg c7] at h;rw[if_neg (by decide)];exact h
theorem NV{f:bD→Option bD}(hf:∀ x y,f x=some y→y.kind=x.kind)(k:Int):∀ l:List bD,bA (l.filterMap f) k≤bA l k
 | []=>Nat.le_refl _
 | x::l=>by
  have ih:=NV hf k l;rw[List.filterMap_cons];unfold bA at *
  cases e:f x with
  | none=>
   rw[List.filter_cons];dsimp only;split
   ·rw[List.length_cons];omega
   ·exact ih
  | some y=>
   dsimp only;rw[List.filter_cons,List.filter_cons,hf x y e];split
   ·rw[List.length_cons,List.length_cons];omega
   ·exact ih
structure Rt (q:aA):Prop where
 sK:q.conds.length≤64
 conds:∀ e∈q.conds,cC q.bools.length e=0
 kQ:q.rules.length≤4096
 rules:∀ r∈q.rules,RuR q.types.length q.classes r∧jL q.conds.length r.cond=true
 trans:mq q=0
theorem Rt.fL{q:aA}(h:Rt q):Proofs.YtdcofoaihmongaaGreat.fL q=0:=by
 unfold Proofs.YtdcofoaihmongaaGreat.fL;have hl:=h.sK;have hl2:=h.kQ
 have h1:aG (j7 q) q.conds.length 0=0:=by
  rw[cH];intro i _ hi;unfold j7;rw[atn (by omega)];exact h.conds _ (List.getElem_mem _)
 rw[if_neg (by omega),if_pos h1,if_neg (by omega),cH];intro i _ hi;unfold tK;rw[atn (by omega)];have:=h.rules _ (List.getElem_mem (l:=q.rules) (n:=i) (by omega));exact(Sl this.1.w).2 this
theorem I6{n:Nat}{k:Int}(h:-(n:Int)≤k∧k≤n):jL n k=true:=by
 unfold jL;rw[decide_eq_true h.1,decide_eq_true h.2];rfl
theorem Rt.qw{p:aA}(h:Rt p)(hT:fA p)(hH:j9 p):Rt (aY p):=by
 have hkl:=L_ p p.conds.length;refine⟨atp ?_ h.sK,fun e he=>h.conds e (qY e he),atp (List.length_filterMap_le _ _) h.kQ,fun r hr=>?_,?_⟩
 ·show(bN p p.conds.length).kids.length≤_;omega
 ·obtain⟨x,hx,rfl⟩:=DC hr;obtain⟨hr1,-⟩:=h.rules x hx;exact⟨{ hr1 with four:=fun h4=>(by show(cO _ x.cond).1=0;rw[hr1.four h4,Vb]) },I6 (jj hH (hT.lu x hx) (vn hx)).1⟩
 ·have ht:=h.trans;unfold mq at ht ⊢;split at ht
  case isFalse=>cases ht
  rename_i hk
  have hf:∀ x y,cT (bN p p.conds.length) x=some y→y.kind=x.kind:=fun x y e=>by
   unfold cT at e;split at e
   ·obtain rfl:=att e;rfl
   ·cases e
  have kk:=fun k=>NV hf k p.trans
  rw[if_pos ⟨atp (kk 1) hk.1,atp (kk 2) hk.2.1,atp (kk 3) hk.2.2⟩,cH];rw[cH] at ht;intro i _ hi;obtain⟨y,hy⟩:∃ y,(aY p).trans[i]?=some y:=⟨_,atn (by omega)⟩;unfold rI;rw[hy];obtain⟨x,hx,rfl⟩:=Ow (ato hy);obtain⟨j,hj⟩:=List.getElem?_of_mem hx;have h0:=ht j (Nat.zero_le _) (by have:=(atm.1 hj).1;omega);unfold rI at h0;rw[hj] at h0;exact O5 h0 (I6 (jj hH (hT.oF x hx) (vm hx)).1)
theorem Rt.wo{p:aA}(h:Rt p)(o:List Int):Rt (yN p o):=⟨h.sK,h.conds,atp (DS _) h.kQ,fun r hr=>h.rules r (rP r hr),h.trans⟩
theorem Rt.rj{p:aA}(h:Rt p):Rt (gY p):=⟨h.sK,h.conds,atp (zh _ _) h.kQ,qU (J:=aF) (Q:=fun r=>RuR p.types.length p.classes r∧jL p.conds.length r.cond=true) (fun _ _ _ ha hb h=>⟨Lr ha.1 hb.1 h,by rw[nW h];exact ha.2⟩) h.rules,h.trans⟩
theorem SG(p:aA):nN p={ p with conds:=(nN p).conds,rules:=(nN p).rules,trans:=(nN p).trans }:=rfl
theorem Zs(x0 x1 x2 x4:Int)(x3:Bool)(w:World):(Op.equalIn 10000 78 (.agg #[.int .u32 x0,.int .u32 x1,.int .u32 x2,.bool x3,.int .i64 x4]) (.agg #[.int .u32 x0,.int .u32 x1,.int .u32 x2,.bool x3,.int .i64 x4])).run Tryz.prog w=.ok true w:=by
 rw[show(10000:Nat)=9998+2 from rfl,adT];simp
theorem QY(p:aA)(c:List aq)(r:List aj)(tr:List bD)(st:List Bool)(s t:dI)(cls:Int)(hv:dA p s=true→dA p t=true→0≤cls→cls<p.classes.length→∀ kd:Int,1≤kd→gI { p with conds:=c,rules:=r,trans:=tr } st kd s t cls=gI p st kd s t cls):jO { p with conds:=c,rules:=r,trans:=tr } st s t cls=jO p st s t cls:=by
 have e1:dA { p with conds:=c,rules:=r,trans:=tr } s=dA p s:=rfl;have e2:dA { p with conds:=c,rules:=r,trans:=tr } t=dA p t:=rfl;have e3:∀ y,uH { p with conds:=c,rules:=r,trans:=tr } s t cls y=uH p s t cls y:=fun _=>rfl
 have e4:n_ { p with conds:=c,rules:=r,trans:=tr } s t cls=n_ p s t cls:=rfl;unfold jO;rw[e1,e2,e4];by_cases h:(((decide (cls<0)||decide ((p.classes.length:Int)≤cls))||!dA p s)||!dA p t)=true
 ·rw[if_pos h,if_pos h]
 ·rw[if_neg h,if_neg h];have hh:=h;simp only[Bool.not_eq_true,Bool.or_eq_false_iff,decide_eq_false_iff_not,Bool.not_eq_false'] at hh;obtain⟨⟨⟨k1,k2⟩,k3⟩,k4⟩:=hh;have hk:=hv k3 k4 (by omega) (by omega);rw[hk 1 (by decide),hk 2 (by decide),hk 3 (by decide)];simp only[e3]
theorem XI{p:aA}(hT:fA p)(hH:j9 p)(hT2:p.types.length≤256)(st:List Bool)(s t:dI)(cls:Int):jO (nN p) st s t cls=jO p st s t cls:=by
 have e:=SG p
 have hv:dA p s=true→dA p t=true→0≤cls→cls<p.classes.length→∀ kd:Int,1≤kd→gI (nN p) st kd s t cls=gI p st kd s t cls:=fun h1 h2 h3 h4 kd hk=>by
  obtain⟨cn,rfl⟩:∃ cn:Nat,cls=(cn:Int):=⟨cls.toNat,by omega⟩;exact VL hT hH hT2 st hk (oR h1) (oR h2) (by omega)
 rw[e] at hv ⊢;exact QY p _ _ _ st s t cls hv
theorem IQ(w0:World)(c0 c1 c2 c3 c4 c5 c6 c7 c8 c9 aS aN aM aR aQ aP aO:Value)(p:aA)(hp:aJ w0 c0 c1 c2 c3 c4 c5 c6 c7 c8 c9 aS aN aM aR aQ aP aO p)(hop:p.Ok)(bv:Value)(st:List Bool)(hL:oG w0 bv st)(s t:dI)(hs:s.Ok)(ht:t.Ok)(cls:Int):Calls Tryz.prog 9 #[.agg #[c0,c1,c2,c3,c4,c5,c6,c7,c8,c9,aS,aN,aM,aR,aQ,aP,aO],.agg #[bv,.int .i64 s.user,.int .i64 s.role,.int .i64 s.typ,.int .i64 s.rng.low.aC,.int .u64 s.rng.low.cats,.int .i64 s.rng.high.aC,.int .u64 s.rng.high.cats,.int .i64 t.user,.int .i64 t.role,.int .i64 t.typ,.int .i64 t.rng.low.aC,.int .u64 t.rng.low.cats,.int .i64 t.rng.high.aC,.int .u64 t.rng.high.cats,.int .i64 cls]] w0 fun r w'=>r=.returned (.bool true)∧atu w0.heap.size w0 w':=by
 have mL:=hp;obtain⟨la,lk,rfl,-⟩:=SliceAt.form hL (by decide);obtain⟨_,_,_,_,_,_,_,_,_,_,_,_,_,_,_,_,_,_,_,_,_,_,_,_,_,_,_,_,_,_,_,_,_,_,rfl,rfl,rfl,rfl,rfl,rfl,rfl,rfl,rfl,rfl,rfl,rfl,rfl,rfl,rfl,rfl,rfl⟩:=hp.open;refine bX [] (fn:=Tryz.f9) Tryz.func9 rfl Tryz.ntmps9 rfl<|fun g1 w1 M1=>fun g2 w2 M2=>lb 1<|an rfl<|cg<|an (Xf _ _ _ _ _ _ _ _ _ _ _ _ _ _ _ _ _ _ p (mL.keep M2.below) hop) fun v w3 hR=>?_
 obtain⟨⟨b,rfl,hb⟩,hB⟩:=hR;have M3:=M2.keep hB;refine⟨_,_,M3,lb 0<|an (fun _=>rfl)<|an (fun h=>cl<|an (DF _) fun w M=>fun M=>⟨rfl,M.below⟩) fun h=>?_⟩;have fp:=hb (by cases b<;>simp_all);obtain⟨tp,sm⟩:=Bn fp hop;have zp:=fp.small.sizes;obtain⟨o1,o2,o3,o4⟩:=Xe fp hop;have hH:=Qu fp hop;have cq:JE (nN p):=Jf o4;have hT2:p.types.length≤256:=atp zp.types (by decide)
 have adr:qv p=0:=by
  have hc:=fp.check;unfold mJ at hc;split at hc
  case isFalse hne=>exact absurd hc hne
  rw[jK] at hc;exact hc _ (by simp)
 have hH1:=QC adr hop;have hH2:∀ c∈(nN p).cons,wO c.expr:=hH1;have hcR:∀ r∈p.rules,-1000000≤r.cond∧r.cond≤1000000:=o1.lu;refine lb 1<|an rfl<|cg<|an (tV _ _ _ _ _ _ _ _ _ _ _ _ _ _ _ _ _ _ p (mL.keep M3.below) o1 o2 o3 o4) fun v w6 hQ=>?_
 obtain⟨⟨x0,n0,x1,n1,x2,n2,x3,n3,x4,n4,x5,n5,x6,n6,x7,n7,x8,n8,x9,n9,x10,n10,oM,n11,oL,n12,J5,n13,J4,n14,J3,n15,J2,n16,T,rfl,hT,hQ⟩,N_⟩:=hQ;refine⟨_,_,M3.eB N_ hT,ei<|an q6 fun g3 w7 M7=>lb 0<|an ⟨rfl,rfl⟩ fun w8 M8=>?_⟩;refine dr (by kernel_rfl)<|lb 2<|an rfl<|lb 1<|an rfl<|lb 1<|an rfl<|lb 1<|an rfl<|lb 1<|an rfl<|cl<|an (fun w' hb' M'=>DG w' _ _ _ _ _ _ _ _ _ _ _ _ _ _ _ _ _ p (mL.keep M'.below) hop hcR hH1 _ st (hL.keep M'.below) s t hs ht cls)<|lb 0<|an rfl<|lb 1<|an rfl<|lb 1<|an rfl<|lb 1<|an rfl<|lb 1<|an rfl<|cl (v:=.agg #[.int .u32 (jO p st s t cls).1,.int .u32 (jO p st s t cls).2.1,.int .u32 (jO p st s t cls).2.2.1,.bool (jO p st s t cls).2.2.2,.int .i64 0])<|an (fun w' hb' M'=>by have h:=DG w' _ _ _ _ _ _ _ _ _ _ _ _ _ _ _ _ _ (nN p) (hQ _ _ M'.fM) cq.ok cq.lu hH2 _ st (hL.keep M'.below) s t hs ht cls;rw[XI tp hH hT2] at h;exact h)<|ei (x:=true)<|an ⟨ahs,fun w=>Zs _ _ _ _ _ w⟩<|cl<|an (fun _ w' hb' M'=>DF _)<|fun w9 hb9 M9=>fun M=>⟨rfl,M.below⟩
end Go.Proofs.YtdcofoaihmongaaGreat
namespace Go.Proofs.YtdcofoaihmongaaGreat
open Go
theorem dO{a b:Bool}(ha:a=true)(hb:b=true):(a&&b)=true:=by rw[ha,hb];rfl
theorem jp2:(mapsRowed Tryz.prog)=true:=by kernel_rfl
theorem jp6:((Tryz.prog.stops == []))=true:=by kernel_rfl
theorem jp8:((Tryz.prog.stopKnobs == []))=true:=by kernel_rfl
theorem afV:(Tryz.prog.stopsHeard)=true:=by kernel_rfl
theorem afU:(Tryz.prog.mayEnter)=true:=by kernel_rfl
end Go.Proofs.YtdcofoaihmongaaGreat

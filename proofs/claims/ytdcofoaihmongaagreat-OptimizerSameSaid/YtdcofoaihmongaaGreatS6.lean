import Derived.JoinedOf
import Derived.ProofKit
import Derived.Shelf.SlSortCmp.NoneTotal
import Derived.Test.YtdcofoaihmongaaGreatChecked
import Derived.Test.YtdcofoaihmongaaGreatRows
import Derived.Test.YtdcofoaihmongaaGreatS5
open Bool renaming and_eq_true→awT
open Go.RowKit renaming Below→awX
open List renaming mem_map→awG,mem_of_getElem?→awH,getElem?_eq_getElem→awI,length_map→awJ,length_append→awK,getElem?_eq_some_iff→awL,mem_singleton→awM,mem_cons_self→awN,mem_append→awO,getElem?_map→awQ,mem_cons→awU,getElem?_append_left→awV,getElem?_append_right→awW,take_length→awY,flatMap_append→awZ,map_append→aw0,mem_cons_of_mem→aw1
open Nat renaming zero_le→awP,le_trans→awR
open Option.some renaming inj→awS
set_option maxRecDepth 100000
set_option maxHeartbeats 8000000
namespace Go.Proofs.YtdcofoaihmongaaGreat
open Go Go.RowKit
def UH(o:List Nat):List Int:=o.map fun(k:Nat)=>(k:Int)
theorem Yj(o:List Nat)(k:Nat):(UH o).contains (k:Int)=o.contains k:=by
 rw[Bool.eq_iff_iff];unfold UH;simp only[List.contains_eq_mem,decide_eq_true_iff,awG];constructor
 ·rintro⟨a,h,e⟩;obtain rfl:a=k:=by omega
  exact h
 ·exact fun h=>⟨k,h,rfl⟩
theorem X4{α:Type}(l:List α)(o:List Nat):nH l (UH o) l.length=kg l o:=by
 unfold nH kg;congr 1
 funext k
 rw[Yj]
theorem aeF(p:aA)(o:List Nat):eZ (sO p (UH o))=kg (eZ p) o:=by
 unfold eZ;rw[VG];unfold sO;rw[X4]
theorem tF{p:aA}{o:List Int}:∀ r∈(sO p o).rules,r∈p.rules:=fun r hr=>by
 unfold sO nH at hr;obtain⟨k,-,h⟩:=List.mem_filterMap.1 hr;split at h
 ·cases h
 ·exact awH h
theorem fT.wo{p:aA}(h:fT p)(o:List Int):fT (sO p o):=⟨h.bools,fun r hr=>h.rv r (tF r hr),fun r hr=>h.four r (tF r hr),h.conds,fun r hr=>h.ny r (tF r hr),h.nw⟩
theorem Rx{p:aA}(h:fT p):OI (eZ p):=ML h.bools (conds:=p.conds) fun r hr=>(h.rv r hr).perms
theorem EO{p:aA}(h:fT p)(o:List Nat):fB (sO p (UH o))=fB p↔jK (kg (eZ p) o) (eZ p):=by
 rw[Vy (h.wo _) h rfl rfl rfl,aeF,AO ((Rx h).sub JW) (Rx h),AO (Rx h) ((Rx h).sub JW)];exact⟨fun⟨h1,h2⟩ kind cls s t k r hs ht=>⟨h1 kind cls s t k r hs ht,h2 kind cls s t k r hs ht⟩,fun H=>⟨fun kind cls s t k r hs ht=>(H kind cls s t k r hs ht).1,fun kind cls s t k r hs ht=>(H kind cls s t k r hs ht).2⟩⟩
def iD(p:aA):Nat→List Nat
 | 0=>[]
 | m+1=>if fB (sO p (UH (iD p m++[m])))=fB p then iD p m++[m] else iD p m
theorem Pw{p:aA}(h:fT p):∀ m,m≤p.rules.length→iD p m=fF (eZ p) m
 | 0,_=>rfl
 | m+1,hm=>by
  have ih:=Pw h m (by omega);obtain⟨x,hx⟩:∃ x,(eZ p)[m]?=some x:=⟨_,awI (by unfold eZ;rw[awJ];omega)⟩;unfold iD fF;rw[ih,hx];have h1:=U7 (Rx h) hx;have h2:=EO h (fF (eZ p) m++[m]);by_cases hc:iG x (iU (eZ p) (fF (eZ p) m) m)=true
  ·rw[if_pos (h2.2 (h1.1 hc))];exact(if_pos hc).symm
  ·rw[if_neg fun h3=>hc (h1.2 (h2.1 h3))];exact(if_neg hc).symm
theorem JB(p:aA):∀ m,(iD p m).length≤m
 | 0=>Nat.le_refl _
 | m+1=>by
  have:=JB p m;unfold iD;split
  ·rw[awK];simp;omega
  ·omega
theorem EP(f:Nat→Int):∀ n i,i<n→f i≤mo f n
 | n+1,i,h=>by
  by_cases e:i=n
  ·subst e;exact Int.le_max_right _ _
  ·exact Int.le_trans (EP f n i (by omega)) (Int.le_max_left _ _)
theorem RU(m:Nat)(e:ak):1≤bw (m+1) e:=by
 show 1≤mo (fun i=>match e.kids[i]? with|some k=>bw m k|none=>0) e.kids.length+1;have:=jS (fun i=>match e.kids[i]? with|some k=>bw m k|none=>0) e.kids.length;omega
theorem xT{m:Nat}{e k:ak}(hk:k∈e.kids):bw m k+1≤bw (m+1) e:=by
 obtain⟨i,hi⟩:=List.getElem?_of_mem hk;have hlt:=(awL.1 hi).1;have h:=EP (fun i=>match e.kids[i]? with|some k=>bw m k|none=>0) e.kids.length i hlt;show bw m k+1≤mo (fun i=>match e.kids[i]? with|some k=>bw m k|none=>0) e.kids.length+1;simp only[hi] at h;omega
theorem oF{bl:List dP}(hn:∀ b∈bl,iO b.name=true∧dw b.name){e:ak}(h:eA bl.length e):∀ (d:Nat),bw (d+1) e≤d→eV d (aI bl e)∧∀ s∈bf (aI bl e),s∈bl.map (·.name):=by
 induction h with
 | @bool a rel b ns s h0 h1=>
  intro d hd
  have hp:0<d:=by
   have:=RU d (.node 1 a rel b ns s []);omega
  obtain⟨d,rfl⟩:∃ k,d=k+1:=⟨d-1,by omega⟩;obtain⟨x,hx⟩:∃ x,bl[a.toNat]?=some x:=⟨_,awI (by omega)⟩;have hm:=awH hx
  have e:aI bl (.node 1 a rel b ns s [])=.node 1 0 0 0 [x.name] ay.zero []:=by
   rw[aI,if_pos (by unfold isNum;simp[h0,h1]),hx];rfl
  rw[e];refine⟨.name (hn x hm).1 (hn x hm).2,fun s hs=>?_⟩;rw[dR] at hs;simp only[ak.names,ak.kids,bF,List.append_nil,awM] at hs;subst hs;exact awG.2 ⟨x,hm,rfl⟩
 | @not a rel b ns s k hk ih=>
  intro d hd;have h1:=xT (m:=d) (e:=.node 2 a rel b ns s [k]) (k:=k) (awM.2 rfl);have h0:=(jU d k).1;obtain⟨d,rfl⟩:∃ k,d=k+1:=⟨d-1,by omega⟩;obtain⟨i1,i2⟩:=ih d (by omega)
  have e:aI bl (.node 2 a rel b ns s [k])=.node 2 0 0 0 [] ay.zero [aI bl k]:=by
   rw[aI,if_neg (by unfold isNum;simp),j9];rfl
  rw[e];refine⟨.not i1,fun s hs=>i2 s ?_⟩;rw[dR] at hs;simpa[ak.names,ak.kids,bF] using hs
 | @bin op a rel b ns s k l h3 h7 hk hl ihk ihl=>
  intro d hd;have h1:=xT (m:=d) (e:=.node op a rel b ns s [k,l]) (k:=k) (awN ..);have h2:=xT (m:=d) (e:=.node op a rel b ns s [k,l]) (k:=l) (by simp[ak.kids]);have h0:=(jU d k).1;obtain⟨d,rfl⟩:∃ k,d=k+1:=⟨d-1,by omega⟩;obtain⟨i1,i2⟩:=ihk d (by omega);obtain⟨j1,j2⟩:=ihl d (by omega)
  have e:aI bl (.node op a rel b ns s [k,l])=.node op 0 0 0 [] ay.zero [aI bl k,aI bl l]:=by
   rw[aI,if_neg (by unfold isNum;simp;omega),j9];rfl
  rw[e];refine⟨.bin h3 h7 i1 j1,fun s hs=>?_⟩;rw[dR] at hs;simp only[ak.names,ak.kids,bF,List.append_nil,List.nil_append,awO] at hs;exact hs.elim (i2 s) (j2 s)
theorem yE{p:aA}(h:Ad p)(hok:p.Ok):∀ b∈p.bools,iO b.name=true∧dw b.name:=by
 have hc:=h.check;unfold iP at hc;split at hc
 case isFalse hne=>exact absurd hc hne
 rw[fG] at hc;have ho:jQ p=0:=hc _ (by simp);unfold jQ at ho;split at ho
 ·cases ho
 split at ho
 ·rename_i hne;exact absurd ho hne
 rename_i hz;have hz:=Decidable.not_not.1 hz;unfold bM at hz;rw[cI] at hz;intro b hb;obtain⟨i,hi⟩:=List.getElem?_of_mem hb;have h1:=hz i (awP _) (by rw[awJ];have:=(awL.1 hi).1;omega);rw[xP (s:=b.name) (by rw[awQ,hi];rfl)] at h1;refine⟨?_,(hok.bools b hb).name⟩;split at h1
 ·assumption
 ·cases h1
theorem WO{p:aA}(h:Ad p)(hok:p.Ok):LJ p:=by
 obtain⟨tp,-⟩:=q7 h hok;have z:=h.small.sizes;have zc:=z.conds;refine⟨hok,ac3 h,awR h.bools (by decide),awR zc (by decide),fun y hy=>?_,fun y hy=>?_,fun e he=>?_,awR z.rules (by decide),awR z.trans (by decide)⟩
 ·have:=tp.ny y hy;omega
 ·have:=tp.nw y hy;omega
 ·have hl:=h.small.conds e he;obtain⟨h1,h2⟩:=oF (yE h hok) (tp.conds e he) 12 (by show bw 13 e≤12;omega);exact⟨12,Nat.le_refl _,h1,awR (EN h2) (by rw[awJ];exact awR h.bools (by decide))⟩
theorem Fk{sc:pZ}{l:List aj}{y:aj}(hy:y∈l.filterMap (cR sc)):∃ x∈l,y={ x with cond:=(bN sc x.cond).1 }:=by
 obtain⟨x,hx,e⟩:=List.mem_filterMap.1 hy;unfold cR at e;split at e
 ·exact⟨x,hx,(awS e).symm⟩
 ·cases e
theorem Qr{sc:pZ}{l:List bE}{y:bE}(hy:y∈l.filterMap (cT sc)):∃ x∈l,y={ x with cond:=(bN sc x.cond).1 }:=by
 obtain⟨x,hx,e⟩:=List.mem_filterMap.1 hy;unfold cT at e;split at e
 ·exact⟨x,hx,(awS e).symm⟩
 ·cases e
theorem vZ{p:aA}(h:LJ p):LJ (aR p):=by
 have hb:∀ k,-900≤(bN (bn p p.conds.length) k).1∧(bN (bn p p.conds.length) k).1≤900:=fun k=>ady h.conds
 have kl:(aR p).conds.length≤p.conds.length:=by
  have:=Dm p p.conds.length;show(bn p p.conds.length).kids.length≤_;omega
 have rl:(aR p).rules.length≤p.rules.length:=List.length_filterMap_le _ _;have tl:(aR p).trans.length≤p.trans.length:=List.length_filterMap_le _ _
 have i64:∀ k,iX (bN (bn p p.conds.length) k).1:=fun k=>by
  have:=hb k;constructor<;>omega
 refine⟨{ h.ok with conds:=fun e he=>h.ok.conds e (nu e he),ux:=awR kl h.ok.ux,rules:=fun y hy=>?_,lU:=awR rl h.ok.lU,trans:=fun y hy=>?_,UF:=awR tl h.ok.UF },{ h.sm with conds:=awR kl h.sm.conds,Qp:=fun e he=>h.sm.Qp e (nu e he),rules:=awR rl h.sm.rules,trans:=awR tl h.sm.trans },h.bools,awR kl h.conds,fun y hy=>?_,fun y hy=>?_,fun e he=>h.be e (nu e he),awR rl h.rules,awR tl h.trans⟩
 ·obtain⟨x,hx,rfl⟩:=Fk hy;exact { h.ok.rules x hx with cond:=i64 _ }
 ·obtain⟨x,hx,rfl⟩:=Qr hy;exact { h.ok.trans x hx with cond:=i64 _ }
 ·obtain⟨x,hx,rfl⟩:=Fk hy;have:=hb x.cond;exact⟨by dsimp only;omega,by dsimp only;omega⟩
 ·obtain⟨x,hx,rfl⟩:=Qr hy;have:=hb x.cond;exact⟨by dsimp only;omega,by dsimp only;omega⟩
theorem aa6{p:aA}(h:LJ p)(o:List Int):LJ (sO p o):=by
 have rl:(sO p o).rules.length≤p.rules.length:=tG _;exact⟨{ h.ok with rules:=fun y hy=>h.ok.rules y (tF y hy),lU:=awR rl h.ok.lU },{ h.sm with rules:=awR rl h.sm.rules },h.bools,h.conds,fun y hy=>h.ny y (tF y hy),h.nw,h.be,awR rl h.rules,h.trans⟩
theorem aa7{p:aA}(h:LJ p):LJ (fL p):=
 ⟨aeH h.ok,aeG h.sm,h.bools,h.conds,rY (J:=aC) (Q:=fun y=>-1000000≤y.cond∧y.cond≤1000000) (fun a b c ha _ h=>by rw[pN h];exact ha) h.ny,h.nw,h.be,awR (vw _ _) h.rules,h.trans⟩
theorem Zt{p:aA}(h:Ad p)(hok:p.Ok):LJ p∧RdH (aR p)∧RuH (sO (aR p) (iM (aR p)))∧LJ (fL (sO (aR p) (iM (aR p)))):=by
 have h1:=WO h hok;have h2:=vZ h1;have h3:=aa6 h2 (iM (aR p));have rl:(aR p).rules.length≤p.rules.length:=List.length_filterMap_le _ _;have rw':(sO (aR p) (iM (aR p))).rules.length≤(aR p).rules.length:=tG _;have zr:=h.small.sizes.rules;exact⟨h1,⟨h2.ok,h2.sm,h2.bools,awR h2.conds (by decide),by omega⟩,⟨h3.ok,h3.sm,by omega⟩,aa7 h3⟩
theorem qU{l:List ByteArray}{x:ByteArray}(hx:x∈l):l[mQ l x]?=some x:=by
 have h:=nj hx;rw[awI h];have h2:=List.findIdx_getElem (xs:=l) (p:=fun y=>decide (x=y)) (w:=h);exact congrArg some (of_decide_eq_true h2).symm
theorem CM{l:List ByteArray}(hd:l.Nodup){a:Nat}{x:ByteArray}(h:l[a]?=some x):mQ l x=a:=by
 have hx:=awH h;exact(List.getElem?_inj (nj hx) hd).1 ((qU hx).trans h.symm)
theorem wj:∀ (m:Nat) (f:Nat→Bool),∃ r,r<2^m∧∀ j,j<m→r.testBit j=f j
 | 0,_=>⟨0,by decide,fun j h=>absurd h (Nat.not_lt_zero j)⟩
 | m+1,f=>by
  obtain⟨r,h1,h2⟩:=wj m fun j=>f (j+1)
  refine⟨2*r+(f 0).toNat,?_,fun j hj=>?_⟩
  ·have:(f 0).toNat≤1:=Bool.toNat_le _;rw[Nat.pow_succ];omega
  ·cases j with
   | zero=>
    rw[Nat.testBit_zero];cases f 0<;>simp[Nat.add_mod]
   | succ j=>
    rw[Nat.testBit_succ,← h2 j (by omega)];congr 1;have:(f 0).toNat≤1:=Bool.toNat_le _;omega
theorem Mp{bl:List dP}{ns:List ByteArray}{n r:Nat}(hm:∀ a x,bl[a]?=some x→x.name∈ns→r.testBit (mQ ns x.name)=n.testBit a)(hr:r<64){c:ak}(h:eA bl.length c)(hs:∀ s∈bf (aI bl c),s∈ns):uH (fW ns (aI bl c))∧ib (fW ns (aI bl c)) r=jH bl.length n c:=by
 induction h with
 | @bool a rel b nm s h0 h1=>
  obtain⟨x,hx⟩:∃ x,bl[a.toNat]?=some x:=⟨_,awI (by omega)⟩
  have e:aI bl (.node 1 a rel b nm s [])=.node 1 0 0 0 [x.name] ay.zero []:=by
   rw[aI,if_pos (by unfold isNum;simp[h0,h1]),hx];rfl
  rw[e] at hs ⊢;have hin:x.name∈ns:=hs _ (by rw[dR];simp[ak.names]);rw[Jl rfl rfl];refine⟨sA _ _,?_⟩;rw[yh _ (fun k hk=>Dx hk) 64 (Nat.le_refl _),decide_eq_true hr,Bool.true_and,Int.toNat_natCast,hm _ _ hx hin,nV];show _=D9 bl.length n 1 a []
  have hb:dG bl.length 1 a 0=false:=by
   have:¬ a<0:=by omega
   have h2:¬ (bl.length:Int)≤a:=by omega
   simp[dG,qM,this,h2]
  unfold D9;rw[List.length_nil,hb,if_neg (by decide),if_pos rfl]
 | @not a rel b nm s k hk ih=>
  have e:aI bl (.node 2 a rel b nm s [k])=.node 2 0 0 0 [] ay.zero [aI bl k]:=by
   rw[aI,if_neg (by unfold isNum;simp),j9];rfl
  rw[e] at hs ⊢;obtain⟨w1,i1⟩:=ih fun s h=>hs s (fu (by simp[ak.kids]) h)
  rw[Pg (e:=.node 2 0 0 0 [] ay.zero [aI bl k]) (y:=aI bl k) (show(2:Int)≠1 by decide) rfl rfl];refine⟨dD _ _ _,?_⟩;rw[nV];show _=D9 bl.length n 2 a [jH bl.length n k];rw[kM .xor Bw w1,Gp,i1,decide_eq_true hr];have hb:dG bl.length 2 a 1=false:=by simp[dG,qM]
  unfold D9;simp[hb]
 | @bin op a rel b nm s k l h3 h7 hk hl ihk ihl=>
  have e:aI bl (.node op a rel b nm s [k,l])=.node op 0 0 0 [] ay.zero [aI bl k,aI bl l]:=by
   rw[aI,if_neg (by unfold isNum;simp;omega),j9];rfl
  rw[e] at hs ⊢;obtain⟨w1,i1⟩:=ihk fun s h=>hs s (fu (by simp[ak.kids]) h)
  obtain⟨w2,i2⟩:=ihl fun s h=>hs s (fu (k:=aI bl l) (by simp[ak.kids]) h)
  have n1:op≠1:=by omega
  have n2:op≠2:=by omega
  rw[Ph (e:=.node op 0 0 0 [] ay.zero [aI bl k,aI bl l]) (y:=aI bl k) (z:=aI bl l) n1 n2 rfl rfl,nV];show uH (LD op _ _)∧ib (LD op _ _) r=D9 bl.length n op a [jH bl.length n k,jH bl.length n l];have hb:dG bl.length op a 2=false:=by simp[dG,qM,n1,n2]
  unfold D9;rw[List.length_cons,List.length_cons,List.length_nil,hb,if_neg (show ¬ (false=true) by decide),if_neg n1,if_neg n2];unfold LD;by_cases e3:op=3
  ·rw[if_pos e3,if_pos e3];exact⟨dD _ _ _,by rw[kM .and w1 w2,i1,i2];rfl⟩
  rw[if_neg e3,if_neg e3];by_cases e4:op=4
  ·rw[if_pos e4,if_pos e4];exact⟨dD _ _ _,by rw[kM .or w1 w2,i1,i2];rfl⟩
  rw[if_neg e4,if_neg e4];by_cases e6:op=6
  ·rw[if_pos e6,if_pos e6];exact⟨dD _ _ _,by rw[kM .xor Bw (dD _ _ _),kM .xor w1 w2,Gp,i1,i2,decide_eq_true hr];simp⟩
  rw[if_neg e6,if_neg e6];exact⟨dD _ _ _,by rw[kM .xor w1 w2,i1,i2];rfl⟩
theorem G5{bl:List dP}(hI:∀ b∈bl,iO b.name=true∧dw b.name)(hd:(bl.map (·.name)).Nodup)(h5:bl.length≤5){c:ak}(hc:eA bl.length c)(hlv:bw 13 c≤12):
 (fS (aI bl c)=true↔∀ n,n<2^bl.length→jH bl.length n c=true)∧(oP (aI bl c)=true↔∀ n,n<2^bl.length→jH bl.length n c=false):=by
 have hsub:=(oF hI hc 12 hlv).2;have hle:=EN hsub;rw[awJ] at hle;have hmem:∀ s∈bf (aI bl c),s∈cQ (aI bl c):=fun s hs=>(pJ _ s).2 hs
 unfold fS oP;generalize hns:cQ (aI bl c)=ns at *;have hl5:ns.length≤5:=by omega
 have h64:∀ r,r<2^ns.length→r<64:=fun r hr=>by
  have:2^ns.length≤2^5:=Nat.pow_le_pow_right (by decide) hl5;omega
 have fwd:∀ n,n<2^bl.length→∃ r,r<2^ns.length∧ib (fW ns (aI bl c)) r=jH bl.length n c:=fun n hn=>by
  obtain⟨r,h1,h2⟩:=wj ns.length fun j=>match ns[j]? with|some s=>n.testBit (mQ (bl.map (·.name)) s)|none=>false
  refine⟨r,h1,(Mp (fun a x hx hin=>?_) (h64 r h1) hc hmem).2⟩;rw[h2 _ (nj hin),qU hin];dsimp only;rw[CM hd (a:=a) (by rw[awQ,hx];rfl)]
 have bwd:∀ r,r<2^ns.length→∃ n,n<2^bl.length∧ib (fW ns (aI bl c)) r=jH bl.length n c:=fun r hr=>by
  obtain⟨n,h1,h2⟩:=wj bl.length fun a=>match bl[a]? with|some x=>r.testBit (mQ ns x.name)|none=>false
  refine⟨n,h1,(Mp (fun a x hx hin=>?_) (h64 r hr) hc hmem).2⟩;rw[h2 a (awL.1 hx).1,hx]
 have hw:uH (fW ns (aI bl c)):=(Mp (n:=0) (r:=0) (fun a x hx hin=>by simp) (by decide) hc hmem).1
 have hib:∀ r,ib (bits .and .u64 (fW ns (aI bl c)) (aG ns.length)) r=(ib (fW ns (aI bl c)) r&&decide (r<2^ns.length)):=fun r=>by
  rw[kM .and hw (Af hl5),vH]
 constructor
 ·rw[decide_eq_true_eq];constructor
  ·intro e n hn;obtain⟨r,h1,h2⟩:=fwd n hn;have:=hib r;rw[e,vH,decide_eq_true h1,Bool.and_true,h2] at this;exact this.symm
  ·intro H;refine yg (dD _ _ _).1 (Af hl5).1 fun r=>?_
   rw[hib,vH];by_cases hr:r<2^ns.length
   ·obtain⟨n,h1,h2⟩:=bwd r hr;rw[h2,H n h1,Bool.true_and]
   ·rw[decide_eq_false hr,Bool.and_false]
 ·rw[decide_eq_true_eq,Gn (dD _ _ _).1];constructor
  ·intro e n hn;obtain⟨r,h1,h2⟩:=fwd n hn;have:=hib r;rw[e,decide_eq_true h1,Bool.and_true,h2] at this;exact this.symm
  ·intro H r;rw[hib];by_cases hr:r<2^ns.length
   ·obtain⟨n,h1,h2⟩:=bwd r hr;rw[h2,H n h1,Bool.false_and]
   ·rw[decide_eq_false hr,Bool.and_false]
theorem Xr:∀ x:List UInt8,Op.bytesLess x x=false
 | []=>rfl
 | a::x=>by
  rw[Op.bytesLess,Xr x];simp
theorem Lb:∀ x y z:List UInt8,Op.bytesLess x y=true→Op.bytesLess y z=true→Op.bytesLess x z=true
 | [],[],_,h,_=>by cases h
 | [],_::_,[],_,h=>by cases h
 | [],_::_,_::_,_,_=>rfl
 | _::_,[],_,h,_=>by cases h
 | _::_,_::_,[],_,h=>by cases h
 | a::x,b::y,c::z,h1,h2=>by
  have ih:=Lb x y z;rw[Op.bytesLess] at h1 h2 ⊢;simp only[Bool.or_eq_true,awT,decide_eq_true_eq,beq_iff_eq,UInt8.lt_iff_toNat_lt,← UInt8.toNat_inj] at h1 h2 ⊢;rcases h1 with h1|⟨h1,h3⟩<;>rcases h2 with h2|⟨h2,h4⟩
  ·exact .inl (by omega)
  ·exact .inl (by omega)
  ·exact .inl (by omega)
  ·exact .inr ⟨by omega,ih h3 h4⟩
theorem Xq:∀ x y:List UInt8,Op.bytesLess x y=false→(x == y)=false→Op.bytesLess y x=true
 | [],[],_,h=>by cases h
 | [],_::_,h,_=>by cases h
 | _::_,[],_,_=>rfl
 | a::x,b::y,h1,h2=>by
  have ih:=Xq x y;rw[Op.bytesLess] at h1 ⊢;simp only[Bool.or_eq_false_iff,Bool.and_eq_false_iff,decide_eq_false_iff_not,beq_eq_false_iff_ne,ne_eq,List.cons.injEq,not_and,Bool.or_eq_true,awT,decide_eq_true_eq,beq_iff_eq,UInt8.lt_iff_toNat_lt,← UInt8.toNat_inj] at h1 h2 ih ⊢;by_cases e:a.toNat=b.toNat
  ·exact .inr ⟨e.symm,ih (h1.2.resolve_left fun h=>h e) (h2 e)⟩
  ·exact .inl (by omega)
def mq(s x:ByteArray):Bool:=Op.bytesLess s.toList x.toList
def pO(s:ByteArray):Bool→List ByteArray→List ByteArray
 | done,[]=>if done=true then [] else [s]
 | done,x::l=>(if (!done&&mq s x)=true then [s] else [])++x::pO s (done||(mq s x||s.toList == x.toList)) l
abbrev Z1 (l:List ByteArray):Prop:=l.Pairwise fun x y=>mq x y=true
theorem Z1.nodup{l:List ByteArray}(h:Z1 l):l.Nodup:=h.imp fun {a b} hab e=>by
 subst e;unfold mq at hab;rw[Xr] at hab;cases hab
theorem sw(s:ByteArray):∀ l,pO s true l=l
 | []=>rfl
 | x::l=>by
  rw[pO,Bool.true_or,sw s l];rfl
theorem BK{x y:ByteArray}(h:(x.toList == y.toList)=true):x=y:=by
 have h:x.toList=y.toList:=by simpa using h
 rw[ByteArray.toList_eq,ByteArray.toList_eq] at h;exact ByteArray.ext (Array.toList_inj.1 h)
theorem J9(s:ByteArray):∀ {l:List ByteArray},Z1 l→Z1 (pO s false l)∧∀ t,t∈pO s false l↔t=s∨t∈l
 | [],_=>⟨List.pairwise_singleton ..,fun t=>by rw[pO];simp⟩
 | x::l,h=>by
  obtain⟨h1,h2⟩:=List.pairwise_cons.1 h;rw[pO]
  cases hl:mq s x with
  | true=>
   simp only[Bool.not_false,Bool.true_and,if_true,Bool.false_or,Bool.true_or,sw];refine⟨List.pairwise_cons.2 ⟨fun y hy=>?_,h⟩,fun t=>by simp⟩;rcases awU.1 hy with rfl|hy
   ·exact hl
   ·exact Lb _ _ _ hl (h1 y hy)
  | false=>
   cases he:(s.toList == x.toList) with
   | true=>
    obtain rfl:=BK he;simp only[Bool.not_false,Bool.true_and,Bool.or_true,sw];exact⟨h,fun t=>by simp⟩
   | false=>
    obtain⟨i1,i2⟩:=J9 s h2;simp only[Bool.not_false,Bool.true_and,Bool.or_false];refine⟨List.pairwise_cons.2 ⟨fun y hy=>?_,i1⟩,fun t=>?_⟩
    ·rcases(i2 y).1 hy with rfl|hy
     ·exact Xq _ _ hl he
     ·exact h1 y hy
    ·show t∈x::pO s false l↔_;rw[awU,i2,awU];exact⟨fun h=>by rcases h with h|h|h<;>simp[h],fun h=>by rcases h with h|h|h<;>simp[h]⟩
theorem J_(s:ByteArray):∀ (d:Bool) (l:List ByteArray),(pO s d l).length≤l.length+1
 | d,[]=>by rw[pO];split<;>simp
 | d,x::l=>by
  have h1:=J_ s (d||(mq s x||s.toList == x.toList)) l;rw[pO,awK,List.length_cons,List.length_cons];by_cases hc:(!d&&mq s x)=true
  ·rw[if_pos hc]
   have:(d||(mq s x||s.toList == x.toList))=true:=by
    rw[awT] at hc;rw[hc.2];simp
   rw[this,sw];simp;omega
  ·rw[if_neg hc];simp;omega
def mE(s:ByteArray)(l:List ByteArray):Nat→List ByteArray×Bool
 | 0=>([],false)
 | m+1=>match l[m]? with
  | some x=>((mE s l m).1++(if (!(mE s l m).2&&mq s x)=true then [s] else [])++[x],(mE s l m).2||(mq s x||s.toList == x.toList))
  | none=>mE s l m
theorem NR(s:ByteArray){l:List ByteArray}:∀ m,m≤l.length→pO s false l=(mE s l m).1++pO s (mE s l m).2 (l.drop m)
 | 0,_=>rfl
 | m+1,hm=>by
  have hx:=awI (l:=l) (i:=m) (by omega);rw[NR s m (by omega),List.drop_eq_getElem_cons (by omega:m<l.length),pO,mE,hx];simp only[List.append_assoc,List.cons_append,List.nil_append]
theorem VZ(s:ByteArray)(l:List ByteArray)(m:Nat)(hm:m≤l.length):(mE s l m).1.length≤l.length+1:=by
 have h:=congrArg List.length (NR s m hm);rw[awK] at h;have:=J_ s false l;omega
mutual
def bZ:ak→List ByteArray→List ByteArray
 | .node op _ _ _ names _ kids,l=>if op=1 then pO (names.headD ⟨#[]⟩) false l else oL kids l
def oL:List ak→List ByteArray→List ByteArray
 | [],l=>l
 | k::r,l=>oL r (bZ k l)
end
theorem P_(e:ak)(l:List ByteArray):bZ e l=if e.op=1 then pO (e.names.headD ⟨#[]⟩) false l else oL e.kids l:=by cases e;rw[bZ];rfl
theorem E2:∀ (ks:List ak) (k:ak) (l:List ByteArray),oL (ks++[k]) l=bZ k (oL ks l)
 | [],k,l=>by rw[List.nil_append,oL,oL,oL]
 | a::ks,k,l=>by rw[List.cons_append,oL,oL,E2 ks k]
theorem CX{ks:List ak}{m:Nat}{k:ak}(h:ks[m]?=some k)(l:List ByteArray):oL (ks.take (m+1)) l=bZ k (oL (ks.take m) l):=by
 rw[bp h,E2]
theorem jh{d:Nat}{e:ak}(h:eV d e):∀ {l:List ByteArray},Z1 l→Z1 (bZ e l)∧∀ t,t∈bZ e l↔t∈bf e∨t∈l:=by
 induction h with
 | @name d s hi hs=>
  intro l hl;rw[bZ,if_pos rfl];obtain⟨h1,h2⟩:=J9 s hl;exact⟨h1,fun t=>by rw[show([s]:List ByteArray).headD ⟨#[]⟩=s from rfl,h2,dR];simp[ak.names,ak.kids,bF]⟩
 | @not d k hk ih=>
  intro l hl;rw[bZ,if_neg (by decide),oL,oL];obtain⟨h1,h2⟩:=ih hl;exact⟨h1,fun t=>by rw[h2,dR (.node 2 0 0 0 [] ay.zero [k])];simp[ak.names,ak.kids,bF]⟩
 | @bin d op k r h3 h7 hk hr ihk ihr=>
  intro l hl;rw[bZ,if_neg (by omega),oL,oL,oL];obtain⟨h1,h2⟩:=ihk hl;obtain⟨h3',h4⟩:=ihr h1
  exact⟨h3',fun t=>by
   rw[h4,h2,dR (.node op 0 0 0 [] ay.zero [k,r])];simp only[ak.names,ak.kids,bF,List.nil_append,List.append_nil,awO];exact⟨fun h=>by rcases h with h|h|h<;>simp[h],fun h=>by rcases h with(h|h)|h<;>simp[h]⟩⟩
def lQ(bl:List dP)(op:Int)(names:List ByteArray)(vs:List Bool):Bool:=
 if op=1 then ((bl[mQ (bl.map (·.name)) (names.headD ⟨#[]⟩)]?).map (·.val)).getD false else if op=2 then !(vs.getD 0 false) else if op=3 then vs.getD 0 false&&vs.getD 1 false else if op=4 then vs.getD 0 false||vs.getD 1 false else if op=6 then vs.getD 0 false == vs.getD 1 false else vs.getD 0 false != vs.getD 1 false
mutual
def cA(bl:List dP):ak→Bool
 | .node op _ _ _ names _ kids=>lQ bl op names (wU bl kids)
def wU(bl:List dP):List ak→List Bool
 | []=>[]
 | k::l=>cA bl k::wU bl l
end
theorem om(bl:List dP)(e:ak):cA bl e=lQ bl e.op e.names (wU bl e.kids):=by cases e;rw[cA];rfl
theorem tH(bl:List dP):∀ (l:List ak) (i:Nat) {y:ak},l[i]?=some y→(wU bl l).getD i false=cA bl y
 | [],_,_,h=>by simp at h
 | k::l,0,y,h=>by
  obtain rfl:k=y:=by simpa using h
  rw[wU];rfl
 | k::l,i+1,y,h=>by
  rw[wU];exact tH bl l i (by simpa using h)
def JN(ns:List ByteArray)(r m:Nat):List dP:=(List.range m).filterMap fun i=>(ns[i]?).map fun s=>(⟨s,r.testBit i⟩:dP)
def iN(ns:List ByteArray)(r:Nat):List dP:=JN ns r ns.length
theorem xO{ns:List ByteArray}{r m:Nat}{s:ByteArray}(h:ns[m]?=some s):JN ns r (m+1)=JN ns r m++[⟨s,r.testBit m⟩]:=by
 unfold JN;rw[List.range_succ,List.filterMap_append,List.filterMap_cons,h];rfl
theorem oG{ns:List ByteArray}{r:Nat}:∀ m,m≤ns.length→(JN ns r m).length=m
 | 0,_=>rfl
 | m+1,h=>by
  rw[xO (awI (by omega)),awK,oG m (by omega)];rfl
theorem Gb{ns:List ByteArray}{r i:Nat}{s:ByteArray}(hi:ns[i]?=some s):∀ m,m≤ns.length→i<m→(JN ns r m)[i]?=some ⟨s,r.testBit i⟩
 | m+1,h,hlt=>by
  rw[xO (awI (by omega))];by_cases e:i<m
  ·rw[awV (by rw[oG m (by omega)];exact e)];exact Gb hi m (by omega) e
  ·obtain rfl:i=m:=by omega
   rw[awW (by rw[oG i (by omega)];exact Nat.le_refl _),oG i (by omega),Nat.sub_self];have:=(awI (by omega:i<ns.length)).symm.trans hi;rw[awS this];rfl
theorem lZ(ns:List ByteArray)(r:Nat):(iN ns r).map (·.name)=ns:=by
 refine List.ext_getElem? fun i=>?_
 rw[awQ];by_cases hi:i<ns.length
 ·rw[awI hi,iN,Gb (awI hi) _ (Nat.le_refl _) hi];rfl
 ·have h1:(iN ns r)[i]?=none:=List.getElem?_eq_none (by
   have:=oG (ns:=ns) (r:=r) ns.length (Nat.le_refl _);show(JN ns r ns.length).length≤i;omega)
  have h2:ns[i]?=none:=List.getElem?_eq_none (by omega);rw[h1,h2];rfl
theorem Jd{bl:List dP}{ns:List ByteArray}{n r:Nat}(hm:∀ a x,bl[a]?=some x→x.name∈ns→r.testBit (mQ ns x.name)=n.testBit a){c:ak}(h:eA bl.length c)(hs:∀ s∈bf (aI bl c),s∈ns):cA (iN ns r) (aI bl c)=jH bl.length n c:=by
 induction h with
 | @bool a rel b nm s h0 h1=>
  obtain⟨x,hx⟩:∃ x,bl[a.toNat]?=some x:=⟨_,awI (by omega)⟩
  have e:aI bl (.node 1 a rel b nm s [])=.node 1 0 0 0 [x.name] ay.zero []:=by
   rw[aI,if_pos (by unfold isNum;simp[h0,h1]),hx];rfl
  rw[e] at hs ⊢;have hin:x.name∈ns:=hs _ (by rw[dR];simp[ak.names]);rw[nV];show _=D9 bl.length n 1 a []
  have hb:dG bl.length 1 a 0=false:=by
   have:¬ a<0:=by omega
   have h2:¬ (bl.length:Int)≤a:=by omega
   simp[dG,qM,this,h2]
  unfold D9;rw[List.length_nil,hb,if_neg (by decide),if_pos rfl,om];show lQ _ 1 [x.name] _=_;unfold lQ;rw[if_pos rfl,lZ,show([x.name]:List ByteArray).headD ⟨#[]⟩=x.name from rfl,iN,Gb (qU hin) _ (Nat.le_refl _) (nj hin),hm _ _ hx hin];rfl
 | @not a rel b nm s k hk ih=>
  have e:aI bl (.node 2 a rel b nm s [k])=.node 2 0 0 0 [] ay.zero [aI bl k]:=by
   rw[aI,if_neg (by unfold isNum;simp),j9];rfl
  rw[e] at hs ⊢;have i1:=ih fun s h=>hs s (fu (by simp[ak.kids]) h)
  rw[nV,om];show lQ _ 2 [] [cA _ (aI bl k)]=D9 bl.length n 2 a [jH bl.length n k];have hb:dG bl.length 2 a 1=false:=by simp[dG,qM]
  rw[i1];unfold D9 lQ;simp[hb]
 | @bin op a rel b nm s k l h3 h7 hk hl ihk ihl=>
  have e:aI bl (.node op a rel b nm s [k,l])=.node op 0 0 0 [] ay.zero [aI bl k,aI bl l]:=by
   rw[aI,if_neg (by unfold isNum;simp;omega),j9];rfl
  rw[e] at hs ⊢;have i1:=ihk fun s h=>hs s (fu (by simp[ak.kids]) h)
  have i2:=ihl fun s h=>hs s (fu (k:=aI bl l) (by simp[ak.kids]) h)
  have n1:op≠1:=by omega
  have n2:op≠2:=by omega
  rw[nV,om];show lQ _ op [] [cA _ (aI bl k),cA _ (aI bl l)]=D9 bl.length n op a [jH bl.length n k,jH bl.length n l];have hb:dG bl.length op a 2=false:=by simp[dG,qM,n1,n2]
  rw[i1,i2];generalize jH bl.length n k=x;generalize jH bl.length n l=y;unfold D9 lQ;have e5:op=3∨op=4∨op=5∨op=6∨op=7:=by omega
  rcases e5 with rfl|rfl|rfl|rfl|rfl<;>simp[hb]<;>cases x<;>cases y<;>rfl
theorem R9{s:ByteArray}{l:List ByteArray}{m:Nat}{x:ByteArray}(h:l[m]?=some x):mE s l (m+1)=((mE s l m).1++(if (!(mE s l m).2&&mq s x)=true then [s] else [])++[x],(mE s l m).2||(mq s x||s.toList == x.toList)):=by
 rw[mE,h]
theorem V0(s:ByteArray)(l:List ByteArray):pO s false l=(mE s l l.length).1++(if (mE s l l.length).2=true then [] else [s]):=by
 rw[NR s l.length (Nat.le_refl _),List.drop_length,pO]
theorem NQ(w0:World)(v:Value)(l:List ByteArray)(s:ByteArray)(h0:aF w0 v l)(hl:l.length≤100000):Calls Tryz.prog 274 #[v,.string s] w0 fun r w'=>∃ u,r=.returned u∧(aF w' u (pO s false l)∧awX w0.heap.size w0 w'):=by
 obtain⟨la,lk,rfl,hk,hm,hcell⟩:=aF.open h0;refine bP [] (fn:=Tryz.f274) Tryz.func274 rfl Tryz.ntmps274 rfl<|lq (ι:=Nat×Value) (fun(m,u)=>[(5,u),(6,.bool (mE s l m).2),(7,.int .i64 (m:Int))]) (fun(m,u)=>[⟨u,9,1,(mE s l m).1.length,(mE s l m).1.flatMap aT⟩]) (fun(m,u) _=>m≤l.length) (fun(m,u)=>l.length-m) (0,.slice none 0 0) (an ⟨⟨rfl,rfl,rfl,trivial⟩,fun M=>⟨M.bB 9 1,awP _⟩⟩ ?_);rintro⟨m,u⟩ w M hm;have hb:=VZ s l m hm;refine an (fun h=>?_) fun h=>?_
 ·have hlt:m<l.length:=by simp at h;omega
  obtain⟨x,hx⟩:∃ x,l[m]?=some x:=⟨_,awI hlt⟩;obtain⟨b,o,e,hc⟩:=SliceAt.elt h0 (fun _=>rfl) (by decide) hx hlt;have hn:=R9 (s:=s) hx;refine ia<|an (fun _=>⟨e,rfl,hlt⟩)<|lc (x:=.string x)<|an (fun _=>bY M.below hc 0 _ rfl)<|an (fun h2=>?_) fun h2=>?_
  ·have h2:(!(mE s l m).2&&mq s x)=true:=h2;rw[if_pos h2] at hn;exact fun g w1 M1=>ap 0 id rfl (M1.slice 0 rfl rfl rfl (by simp[maxLen])) ⟨by unfold maxLen;omega,by omega⟩ fun v2 w2 M2=>ia<|an (fun _=>⟨e,rfl,hlt⟩)<|lc (x:=.string x)<|an (fun _=>bY M2.below hc 0 _ rfl)<|ia<|an ⟨e,rfl,hlt⟩<|lc (x:=.string x)<|an (bY M2.below hc 0 _ rfl)<|fun g3 w3 M3=>ap 0 id rfl (M3.slice 0 rfl rfl rfl (by simp[maxLen])) ⟨by unfold maxLen;omega,by omega⟩ fun v4 w4 M4=>an (by omega)<|bk (m+1,v4) ⟨rfl,by dsimp only;rw[hn];rfl,rfl,trivial⟩ (fun M=>⟨(M.only (.cons _ (.cons _ (.refl _))) (.refl _)).cast rfl (by dsimp only;rw[hn];simp[aT]),by omega⟩) (by dsimp only;omega)
  ·have h2:¬ (!(mE s l m).2&&mq s x)=true:=by
    have h3:(!(mE s l m).2&&mq s x)=false:=h2;rw[h3];decide
   rw[if_neg h2] at hn;exact ia<|an (fun _=>⟨e,rfl,hlt⟩)<|lc (x:=.string x)<|an (fun _=>bY M.below hc 0 _ rfl)<|ia<|an ⟨e,rfl,hlt⟩<|lc (x:=.string x)<|an (bY M.below hc 0 _ rfl)<|fun g3 w3 M3=>ap 0 id rfl (M3.slice 0 rfl rfl rfl (by simp[maxLen])) ⟨by unfold maxLen;omega,by omega⟩ fun v4 w4 M4=>an (by omega)<|bk (m+1,v4) ⟨rfl,by dsimp only;rw[hn];rfl,rfl,trivial⟩ (fun M=>⟨(M.only (.cons _ (.refl _)) (.refl _)).cast rfl (by dsimp only;rw[hn];simp[aT]),by omega⟩) (by dsimp only;omega)
 ·obtain rfl:m=l.length:=by simp at h;omega
  have he:=V0 s l;refine an (fun h2=>?_) fun h2=>?_
  ·have h2:(mE s l l.length).2=false:=by simpa using h2
   rw[h2,if_neg (by decide)] at he;exact fun g w1 M1=>ap 0 id rfl (M1.slice 0 rfl rfl rfl (by simp[maxLen])) ⟨by unfold maxLen;omega,by omega⟩ fun v2 w2 M2 M=>⟨_,rfl,gE (M2.r 0 rfl) (by rw[he,awK];rfl) (by rw[he];simp[aT]),M.below⟩
  ·have h2:(mE s l l.length).2=true:=by simpa using h2
   rw[h2,if_pos rfl,List.append_nil] at he;exact fun M'=>⟨_,rfl,gE (M.r 0 rfl) (by rw[he]) (by rw[he]),M.below⟩
theorem Io{l NS:List ByteArray}(h:Z1 l)(hs:∀ t∈l,t∈NS):l.length≤NS.length:=List.Nodup.length_le_of_subset h.nodup hs
theorem mF{NS:List ByteArray}(Sm:NS.length≤1000):∀ (e:ak) (w0:World) (cs:List Value) (d:Nat) (v:Value) (l:List ByteArray),aZ w0 cs e→eV d e→aF w0 v l→Z1 l→(∀ t∈l,t∈NS)→(∀ t∈bf e,t∈NS)→Calls Tryz.prog 234 #[.agg cs.toArray,v] w0 fun r w'=>∃ u,r=.returned u∧(aF w' u (bZ e l)∧awX w0.heap.size w0 w'):=by
 refine ak.ind fun e ih=>?_
 intro w0 cs d v l hE hB hS hA hl hn;have hb:=hB.facts;have hE0:=hE;obtain⟨_,_,rfl,hnn,hkk⟩:=hE0.open;obtain⟨_,_,rfl,-,hng⟩:=aF.get hnn;obtain⟨_,_,rfl,-,hkm,-⟩:=aq.form hkk (by decide);refine bP [] (fn:=Tryz.f234) Tryz.func234 rfl Tryz.ntmps234 rfl<|fun g1 w1 M1=>lb 0<|an rfl<|an (fun h=>?_) fun h=>?_
 ·have h1:e.op=1:=by simpa using h
  obtain⟨sn,AR,-⟩:=hb.nm (hb.op1.2 h1);obtain⟨b,o,e1,hc⟩:=hng 0 sn (by rw[AR];rfl);have hle:=Io hA hl;refine lb 0<|an rfl<|ia (i:=0)<|an ⟨e1,rfl,by rw[AR];exact Nat.zero_lt_one⟩<|lc (x:=.string sn)<|an (cell_later M1.below hc)<|cg<|an (NQ _ v l sn (hS.keep M1.below) (by omega)) fun u w2 ⟨hS2,hb2⟩=>⟨_,_,M1.keep hb2,fun M=>⟨_,rfl,?_,M.below⟩⟩
  rw[P_,if_pos h1,AR];exact hS2
 ·have h1:e.op≠1:=by simpa using h
  refine lr (ι:=Nat×Value) (fun(m,u)=>[(1,u),(5,.int .i64 (m:Int))]) (fun(m,u) w=>m≤e.kids.length∧aF w u (oL (e.kids.take m) l)∧Z1 (oL (e.kids.take m) l)∧∀ t∈oL (e.kids.take m) l,t∈NS) (fun(m,u)=>e.kids.length-m) (0,v) (an ⟨⟨rfl,rfl,trivial⟩,fun M=>⟨M,awP _,hS.keep M.below,hA,hl⟩⟩ ?_);rintro⟨m,u⟩ w M ⟨hm,hS1,hA1,hl1⟩;refine lb 0<|an rfl<|an (fun h=>?_) fun h=>?_
  ·have hlt:m<e.kids.length:=by simp at h;omega
   obtain⟨y,hy⟩:∃ y,e.kids[m]?=some y:=⟨_,awI hlt⟩;have qV:=awH hy;obtain⟨b,o,_,e1,sy,hc⟩:=aq.elt hkk (by decide) hy;obtain⟨_,_,rfl,-⟩:=sy.open;obtain⟨c,-,hBk⟩:=hb.kid y qV;have hny:∀ t∈bf y,t∈NS:=fun t ht=>hn t (fu qV ht)
   have hg:=jh hBk hA1;refine lb 0<|an rfl<|ia<|an ⟨e1,rfl,hlt⟩<|lc<|an (bY M.below hc)<|cg<|an (ih y qV _ _ c u _ (sy.keep M.below) hBk hS1 hA1 hl1 hny) fun u2 w2 ⟨hS2,hb2⟩=>⟨_,_,M.keep hb2,an (by omega)<|bk (m+1,u2) ⟨rfl,rfl,trivial⟩ (fun M=>⟨M.only (.refl _) (.refl _),by omega,by rw[CX hy];exact hS2,by rw[CX hy];exact hg.1,by rw[CX hy];exact fun t ht=>((hg.2 t).1 ht).elim (hny t) (hl1 t)⟩) (by dsimp only;omega)⟩
  ·obtain rfl:m=e.kids.length:=by simp at h;omega
   rw[awY] at hS1;exact fun M'=>⟨_,rfl,by rw[P_,if_neg h1];exact hS1,M.below⟩
theorem Ci(w0:World)(op:Int):Calls Tryz.prog 275 #[.int .i64 op] w0 (fun(r:Ending) (w':World)=>r=.returned (.int .i64 (uF op))∧awX w0.heap.size w0 w'):=by
 refine bP [] (fn:=Tryz.f275) Tryz.func275 rfl Tryz.ntmps275 rfl<|an (fun a1=>fun M=>⟨ri ?_,M.below⟩) fun a1=>an (fun a2=>fun M=>⟨ri ?_,M.below⟩) fun a2=>an (fun a3=>fun M=>⟨ri ?_,M.below⟩) fun a3=>fun M=>⟨ri ?_,M.below⟩
 ·have:op=1:=by simpa using a1
  subst this;rfl
 ·have:op=2:=by simpa using a2
  subst this;rfl
 ·have:op=3∨op=4∨op=5∨op=6∨op=7:=by
   simp only[Bool.or_eq_true,decide_eq_true_eq] at a3;omega
  rcases this with rfl|rfl|rfl|rfl|rfl<;>rfl
 ·have:op≠1∧op≠2∧op≠3∧op≠4∧op≠5∧op≠6∧op≠7:=by
   simp only[Bool.or_eq_false_iff,decide_eq_false_iff_not] at a1 a2 a3;omega
  unfold uF;simp[this]
theorem KU:∀ (e:ak) (w0:World) (cs:List Value) (d lv:Nat),aZ w0 cs e→eV d e→lv+d≤13→Calls Tryz.prog 235 #[.agg cs.toArray,.int .i64 (lv:Int)] w0 (fun(r:Ending) (w':World)=>r=.returned (.int .i64 0)∧awX w0.heap.size w0 w'):=by
 refine ak.ind fun e ih=>?_
 intro w0 cs d lv hE hB hlv;have hb:=hB.facts;have hko:=hb.kids;have hpos:=hb.pos;have hE0:=hE;obtain⟨_,_,rfl,hnn,hkk⟩:=hE0.open;obtain⟨_,_,rfl,-,hng⟩:=aF.get hnn;obtain⟨_,_,rfl,-,hkm,-⟩:=aq.form hkk (by decide);refine bP [] (fn:=Tryz.f235) Tryz.func235 rfl Tryz.ntmps235 rfl<|fun g1 w1 M1=>an (fun h=>absurd h (by simp;omega)) fun h=>lb 0<|an rfl<|cl<|an (Ci _ e.op) fun w2 M2=>?_
 refine lb 0<|an (fun _=>rfl)<|lb 0<|an (fun _=>rfl)<|lb 0<|an (fun _=>rfl)<|lb 0<|an (fun _=>rfl)<|ei (x:=.agg #[.int .u64 0,.int .u64 0,.int .u64 0,.int .u64 0])<|an (fun _=>bd (by kernel_rfl))<|ei (x:=decide (e.set=ay.zero))<|an (fun _=>⟨rA,fun w=>oM e.set ay.zero w⟩)<|lb 0<|an (fun _=>rfl)<|?_;have hnl:uF e.op=0→e.names.length=1:=fun hz=>by obtain⟨sn,AR,-⟩:=hb.nm hz;rw[AR];rfl
 have hnz:uF e.op≠0→e.names.length=0:=fun hz=>by rw[hb.nn hz];rfl
 refine an (fun h=>?_) fun h=>?_
 ·exfalso;simp[hb.a,hb.b,hb.rel,hb.set] at h;omega
 refine lb 0<|an (fun _=>rfl)<|lb 0<|an (fun _=>rfl)<|an (fun h=>?_) fun h=>?_
 ·exfalso;by_cases hz:uF e.op=0
  ·simp[hz,hnl hz] at h
  ·simp[hz,hnz hz] at h
 have hd:∀ {q:Prop} [Decidable q],decide q=true→q:=fun h=>of_decide_eq_true h
 obtain⟨sn,AR⟩:∃ sn,uF e.op=0→e.names=[sn]∧iO sn=true∧dw sn:=by
  by_cases hz:uF e.op=0
  ·obtain⟨sn,h3⟩:=hb.nm hz;exact⟨sn,fun _=>h3⟩
  ·exact⟨ByteArray.empty,fun h=>absurd h hz⟩
 obtain⟨b,o,hc⟩:∃ (b o:Nat),uF e.op=0→_=some (⟨b,o,none⟩:Addr)∧w0.cell? ⟨b,o+0,none⟩=some (.string sn):=by
  by_cases hz:uF e.op=0
  ·obtain⟨b,o,h3⟩:=hng 0 sn (by rw[(AR hz).1];rfl);exact⟨b,o,fun _=>h3⟩
  ·exact⟨0,0,fun h=>absurd h hz⟩
 refine lb 0<|an (fun _=>rfl)<|ia (i:=0)<|an (fun h3=>⟨(hc (hd h3)).1,rfl,by rw[hnl (hd h3)];exact Nat.zero_lt_one⟩)<|lc (x:=.string sn)<|an (fun h3=>cell_later M2.below (hc (hd h3)).2)<|cl (v:=.bool true)<|an (fun h3=>(EW _ sn (AR (hd h3)).2.2).mono fun _ _ ⟨x1,x2⟩=>⟨by rw[x1,(AR (hd h3)).2.1],x2▸.refl _ _⟩) fun w3 M3=>?_
 refine an (fun h=>by simp at h) fun h=>lr (ι:=Nat) (fun m=>[(6,.int .i64 (m:Int))]) (fun m _=>m≤e.kids.length) (fun m=>e.kids.length-m) 0 (an ⟨⟨rfl,trivial⟩,fun M=>⟨M,awP _⟩⟩ ?_)
 intro m w M hm;refine lb 0<|an rfl<|an (fun h=>?_) fun h M=>⟨rfl,M.below⟩
 have hlt:m<e.kids.length:=by simp at h;omega
 obtain⟨y,hy⟩:∃ y,e.kids[m]?=some y:=⟨_,awI hlt⟩;have qV:=awH hy;obtain⟨b,o,_,e1,sy,hc⟩:=aq.elt hkk (by decide) hy;obtain⟨_,_,rfl,-⟩:=sy.open;obtain⟨c,rfl,hBk⟩:=hb.kid y qV;refine lb 0<|an rfl<|ia<|an ⟨e1,rfl,hlt⟩<|lc<|an (bY M.below hc)<|an (by omega)<|cl<|an (ih y qV _ _ c (lv+1) (sy.keep M.below) hBk (by omega)) fun w5 M5=>?_
 exact an (fun h=>by simp at h) fun _=>an (by omega)<|bk (m+1) ⟨rfl,trivial⟩ (fun M=>⟨M.only (.refl _) (.refl _),by omega⟩) (by dsimp only;omega)
theorem nG(e:ak)(w0:World)(cs:List Value)(d:Nat)(hE:aZ w0 cs e)(hB:eV d e)(hd:d≤12):Calls Tryz.prog 177 #[.agg cs.toArray] w0 (fun(r:Ending) (w':World)=>r=.returned (.int .i64 0)∧awX w0.heap.size w0 w'):=by
 have hE0:=hE;obtain⟨_,_,rfl,hnn,hkk⟩:=hE0.open;exact bP [] (fn:=Tryz.f177) Tryz.func177 rfl Tryz.ntmps177 rfl<|fun g1 w1 M1=>lb 0<|an rfl<|cl<|an (KU e _ _ d 1 (hE.keep M1.below) hB (by omega)) fun w2 M2=>fun M=>⟨rfl,M.below⟩
theorem JR{NS:List ByteArray}(Sm:NS.length≤1000)(e:ak)(w0:World)(cs:List Value)(d:Nat)(hE:aZ w0 cs e)(hB:eV d e)(hd:d≤12)(hn:∀ t∈bf e,t∈NS):Calls Tryz.prog 176 #[.agg cs.toArray] w0 (fun(r:Ending) (w':World)=>∃ u,r=.returned u∧(aF w' u (bZ e [])∧awX w0.heap.size w0 w')):=by
 have hE0:=hE;obtain⟨_,_,rfl,hnn,hkk⟩:=hE0.open;refine bP [] (fn:=Tryz.f176) Tryz.func176 rfl Tryz.ntmps176 rfl<|fun g1 w1 M1=>lb 0<|an rfl<|cl<|an (nG e _ _ d (hE.keep M1.below) hB hd) fun w2 M2=>?_
 exact an (fun h=>by simp at h) fun _=>lb 0<|an rfl<|cg<|an (mF Sm e _ _ d _ [] (hE.keep M2.below) hB (SliceAt.nil _ _) List.Pairwise.nil (fun t ht=>by cases ht) hn) fun u w3 ⟨hS,hb⟩=>⟨_,_,M2.keep hb,fun M=>⟨_,rfl,hS,M.below⟩⟩
abbrev yS (w:World) (v:Value) (bl:List dP):Prop:=SliceAt w v 2 bl.length (bl.flatMap dP.cells)
theorem Og(w0:World)(v:Value)(bl:List dP)(s:ByteArray)(h0:yS w0 v bl)(hs:s∈bl.map (·.name)):Calls Tryz.prog 236 #[v,.string s] w0 (fun(r:Ending) (w':World)=>r=.returned (.int .i64 (mQ (bl.map (·.name)) s:Int))∧awX w0.heap.size w0 w'):=by
 have hi:=nj hs;have hg:=qU hs;rw[awJ] at hi;obtain⟨_,_,rfl,-,hmm,-⟩:=SliceAt.form h0 (by decide);refine bP [] (fn:=Tryz.f236) Tryz.func236 rfl Tryz.ntmps236 rfl<|lr (ι:=Nat) (fun m=>[(5,.int .i64 (m:Int))]) (fun m _=>m≤mQ (bl.map (·.name)) s) (fun m=>bl.length-m) 0 (an ⟨⟨rfl,trivial⟩,fun M=>⟨M,awP _⟩⟩ ?_);intro m w M hm;have hlt:m<bl.length:=by omega
 refine an (fun h=>?_) fun h=>absurd h (by simp;omega)
 obtain⟨y,hy⟩:∃ y,bl[m]?=some y:=⟨_,awI hlt⟩;obtain⟨b,o,e1,hc⟩:=SliceAt.elt h0 (fun _=>rfl) (by decide) hy hlt;refine ia<|an ⟨e1,rfl,hlt⟩<|lc (x:=.string y.name)<|an (bY M.below hc 0 _ rfl)<|an (fun h2=>fun M=>⟨ri ?_,M.below⟩) fun h2=>an (by omega)<|bk (m+1) ⟨rfl,trivial⟩ (fun M=>⟨M,?_⟩) (by dsimp only;omega)
 ·have h2:y.name=s:=BK (by simpa using h2);rcases Nat.lt_or_eq_of_le hm with h3|h3
  ·exfalso;unfold mQ at h3;have:=List.not_of_lt_findIdx h3;have hq:(bl.map (·.name))[m]?=some y.name:=by rw[awQ,hy];rfl
   obtain⟨_,hq⟩:=awL.1 hq;rw[hq,h2] at this;simp at this
  ·rw[h3]
 ·have h2:y.name≠s:=fun e=>by rw[e] at h2;simp at h2
  have:m≠mQ (bl.map (·.name)) s:=fun e=>by
   rw[← e,awQ,hy] at hg;exact h2 (awS hg)
  show m+1≤_;omega
theorem mU(bl:List dP):∀ (e:ak) (w0:World) (cs:List Value) (d:Nat),aZ w0 cs e→eV d e→∀ v:Value,yS w0 v bl→(∀ s∈bf e,s∈bl.map (·.name))→Calls Tryz.prog 178 #[.agg cs.toArray,v] w0 (fun(r:Ending) (w':World)=>r=.returned (.bool (cA bl e))∧awX w0.heap.size w0 w'):=by
 refine ak.ind fun e ih=>?_
 intro w0 cs d hE hB v hL hns;have hb:=hB.facts;have hE0:=hE;obtain⟨_,_,rfl,hnn,hkk⟩:=hE0.open;obtain⟨_,_,rfl,-,hng⟩:=aF.get hnn;obtain⟨_,_,rfl,-,hkm,-⟩:=aq.form hkk (by decide);obtain⟨_,_,rfl,-⟩:=SliceAt.form hL (by decide);refine bP [] (fn:=Tryz.f178) Tryz.func178 rfl Tryz.ntmps178 rfl<|fun g1 w1 M1=>lb 0<|an rfl<|an (fun h=>?_) fun h=>?_
 ·have h1:e.op=1:=by simpa using h
  obtain⟨sn,AR,-⟩:=hb.nm (hb.op1.2 h1);have iY:sn∈bl.map (·.name):=hns sn (by rw[dR,AR];exact List.mem_append_left _ (awM.2 rfl));have XP:=nj iY;rw[awJ] at XP;obtain⟨b,o,e1,hc⟩:=hng 0 sn (by rw[AR];rfl);obtain⟨y,hy⟩:∃ y,bl[mQ (bl.map (·.name)) sn]?=some y:=⟨_,awI XP⟩;obtain⟨b2,o2,e2,hc2⟩:=SliceAt.elt hL (fun _=>rfl) (by decide) hy XP;refine lb 0<|an rfl<|ia (i:=0)<|an ⟨e1,rfl,by rw[AR];exact Nat.zero_lt_one⟩<|lc (x:=.string sn)<|an (cell_later M1.below hc)<|cl<|an (Og _ _ bl sn (SliceAt.keep hL M1.below) iY) fun w2 M2=>ia<|an ⟨e2,rfl,XP⟩<|lc (x:=.bool y.val)<|an (bY M2.below hc2 1 _ rfl)<|fun M=>⟨?_,M.below⟩
  have:cA bl e=y.val:=by
   rw[om,lQ,if_pos h1,AR];show((bl[mQ (bl.map (·.name)) sn]?).map (·.val)).getD false=_;rw[hy];rfl
  rw[this];rfl
 have h1:e.op≠1:=by simpa using h
 have Wi:=hb.aar h1;obtain⟨y,hy⟩:∃ y,e.kids[0]?=some y:=⟨_,awI Wi⟩;have qV:=awH hy;obtain⟨b,o,_,e1,sy,hc⟩:=aq.elt hkk (by decide) hy;obtain⟨nv',kv',rfl,-⟩:=sy.open;obtain⟨dy,-,hBy⟩:=hb.kid y qV;have hv0:=tH bl e.kids 0 hy;refine lb 0<|an rfl<|ia (i:=0)<|an ⟨e1,rfl,Wi⟩<|lc<|an (bY M1.below hc)<|cl<|an (ih y qV _ _ dy (sy.keep M1.below) hBy _ (SliceAt.keep hL M1.below) (fun t ht=>hns t (fu qV ht))) fun w3 M3=>lb 0<|an rfl<|an (fun h2=>fun M=>⟨?_,M.below⟩) fun h2=>?_
 ·have h2:e.op=2:=by simpa using h2
  have hV:cA bl e=!cA bl y:=by rw[om bl e,lQ,if_neg h1,if_pos h2,hv0]
  rw[hV];rfl
 have h2:e.op≠2:=by simpa using h2
 have hlz:=yT.aaq hB h1 h2;obtain⟨z,hz⟩:∃ z,e.kids[1]?=some z:=⟨_,awI hlz⟩;have hzm:=awH hz;obtain⟨bz,oz,_,e2,hEz,hcz⟩:=aq.elt hkk (by decide) hz;obtain⟨nvz,kvz,rfl,-⟩:=hEz.open;obtain⟨dz,-,hBz⟩:=hb.kid z hzm;have hv1:=tH bl e.kids 1 hz
 have hV:cA bl e=if e.op=3 then cA bl y&&cA bl z else if e.op=4 then cA bl y||cA bl z else if e.op=6 then cA bl y == cA bl z else cA bl y != cA bl z:=by
  rw[om,lQ,if_neg h1,if_neg h2,hv0,hv1]
 rw[hV];clear hV hv0 hv1;refine lb 0<|an rfl<|ia (i:=1)<|an ⟨e2,rfl,hlz⟩<|lc<|an (bY M3.below hcz)<|cl<|an (ih z hzm _ _ dz (hEz.keep M3.below) hBz _ (SliceAt.keep hL M3.below) (fun t ht=>hns t (fu hzm ht))) fun w5 M5=>?_
 generalize cA bl y=p;generalize cA bl z=q;refine lb 0<|an rfl<|an (fun h3 M=>⟨?_,M.below⟩) fun h3=>lb 0<|an rfl<|an (fun h4 M=>⟨?_,M.below⟩) fun h4=>lb 0<|an rfl<|an (fun h6 M=>⟨?_,M.below⟩) fun h6 M=>⟨?_,M.below⟩
 all_goals simp only[decide_eq_true_eq,decide_eq_false_iff_not] at *
 ·rw[if_pos h3];rfl
 ·rw[if_neg h3,if_pos h4];rfl
 ·rw[if_neg h3,if_neg h4,if_pos h6];cases p<;>cases q<;>rfl
 ·rw[if_neg h3,if_neg h4,if_neg h6];cases p<;>cases q<;>rfl
theorem adv(r m:Nat):decide ((((r/2^m)%2:Nat):Int)=1)=r.testBit m:=by
 rw[Nat.testBit_eq_decide_div_mod_eq];exact decide_eq_decide.2 (by omega)
theorem lY(w0:World)(v:Value)(ns:List ByteArray)(r:Nat)(h0:aF w0 v ns)(hl:ns.length≤60):Calls Tryz.prog 179 #[v,.int .i64 (r:Int)] w0 (fun(x:Ending) (w':World)=>∃ u,x=.returned u∧(yS w' u (iN ns r)∧awX w0.heap.size w0 w')):=by
 obtain⟨_,_,rfl,-⟩:=aF.open h0;refine bP [] (fn:=Tryz.f179) Tryz.func179 rfl Tryz.ntmps179 rfl<|lq (ι:=Nat×Value) (fun(m,u)=>[(5,u),(6,.int .i64 (m:Int))]) (fun(m,u)=>[⟨u,197,2,m,(JN ns r m).flatMap dP.cells⟩]) (fun(m,u) _=>m≤ns.length) (fun(m,u)=>ns.length-m) (0,.slice none 0 0) (an ⟨⟨rfl,rfl,trivial⟩,fun M=>⟨M.bB 197 2,awP _⟩⟩ ?_);rintro⟨m,u⟩ w M hm;refine an (fun h=>?_) fun h M=>?_
 ·have hlt:m<ns.length:=by simp at h;omega
  obtain⟨x,hx⟩:∃ x,ns[m]?=some x:=⟨_,awI hlt⟩;obtain⟨b,o,e,hc⟩:=SliceAt.elt h0 (fun _=>rfl) (by decide) hx hlt;have hq:((r:Int)/2^m)=((r/2^m:Nat):Int):=by simp
  refine ia<|an ⟨e,rfl,hlt⟩<|lc (x:=.string x)<|an (bY M.below hc 0 _ rfl)<|ei<|an (fun a w o ho hv=>GX ho (dU hv) u3 Yf (by omega))<|ei (x:=.int .i64 ((r/2^m:Nat):Int))<|an (fun a w o ho hv=>?_)<|ei<|an (QA _)<|ei (x:=.agg #[.string x,.bool (decide ((((r/2^m)%2:Nat):Int)=1))])<|an (bd (by kernel_rfl)) fun g2 w3 M=>ap 0 id rfl (M.slice 0 rfl (k:=2) (n:=1) rfl rfl (by simp[maxLen])) ⟨by unfold maxLen;omega,by omega⟩ fun v2 w4 M=>an (by omega) (bk (m+1,v2) ⟨rfl,rfl,trivial⟩ (fun M=>⟨(M.only (.cons _ (.refl _)) (.refl _)).cast rfl (by dsimp only;rw[xO hx,awZ,adv];rfl),by omega⟩) (by dsimp only;omega))
  have:=Qj (P:=Tryz.prog) (w:=w) ho (dU hv) (fE hv) (by omega) (by simp[IntKind.bits];omega);rw[this,← hq];rfl
 ·obtain rfl:m=ns.length:=by simp at h;omega
  refine⟨_,rfl,?_,M.below⟩;have hR:=M.r 0 rfl;have hlen:(iN ns r).length=ns.length:=oG _ (Nat.le_refl _);show SliceAt _ _ 2 (iN ns r).length _;rw[hlen]
  exact SliceAt.bq hR fun u hu=>by
   obtain⟨x,-,hx⟩:=List.mem_flatMap.1 hu;simp[dP.cells] at hx;rcases hx with rfl|rfl<;>rfl
theorem KL{bl:List dP}(hd:(bl.map (·.name)).Nodup)(ns:List ByteArray)(n:Nat):∃ r,r<2^ns.length∧∀ c,eA bl.length c→(∀ s∈bf (aI bl c),s∈ns)→cA (iN ns r) (aI bl c)=jH bl.length n c:=by
 obtain⟨r,h1,h2⟩:=wj ns.length fun j=>match ns[j]? with|some s=>n.testBit (mQ (bl.map (·.name)) s)|none=>false
 refine⟨r,h1,fun c hc hs=>Jd (fun a x hx hin=>?_) hc hs⟩;rw[h2 _ (nj hin),qU hin];dsimp only;rw[CM hd (a:=a) (by rw[awQ,hx];rfl)]
theorem Dp{bl:List dP}(ns:List ByteArray)(r:Nat):∃ n,n<2^bl.length∧∀ c,eA bl.length c→(∀ s∈bf (aI bl c),s∈ns)→cA (iN ns r) (aI bl c)=jH bl.length n c:=by
 obtain⟨n,h1,h2⟩:=wj bl.length fun a=>match bl[a]? with|some x=>r.testBit (mQ ns x.name)|none=>false
 refine⟨n,h1,fun c hc hs=>Jd (fun a x hx hin=>?_) hc hs⟩;rw[h2 a (awL.1 hx).1,hx]
def SH(a b:ak):Bool:=decide (∀ r,r<2^(bZ b (bZ a [])).length→cA (iN (bZ b (bZ a [])) r) a=cA (iN (bZ b (bZ a [])) r) b)
def Fc(e:ak):Bool:=decide (∀ r,r<2^(bZ e []).length→cA (iN (bZ e []) r) e=cA (iN (bZ e []) 0) e)
theorem W_{bl:List dP}(hI:∀ b∈bl,iO b.name=true∧dw b.name)(hd:(bl.map (·.name)).Nodup){c c':ak}(hc:eA bl.length c)(hc':eA bl.length c')(hl:bw 13 c≤12)(hl':bw 13 c'≤12):SH (aI bl c) (aI bl c')=true↔∀ n,n<2^bl.length→jH bl.length n c=jH bl.length n c':=by
 have b1:=(oF hI hc 12 hl).1;have b2:=(oF hI hc' 12 hl').1;obtain⟨a1,m1⟩:=jh b1 (l:=[]) List.Pairwise.nil;obtain⟨-,m2⟩:=jh b2 a1;have s1:∀ s∈bf (aI bl c),s∈bZ (aI bl c') (bZ (aI bl c) []):=fun s hs=>(m2 s).2 (.inr ((m1 s).2 (.inl hs)))
 have s2:∀ s∈bf (aI bl c'),s∈bZ (aI bl c') (bZ (aI bl c) []):=fun s hs=>(m2 s).2 (.inl hs)
 unfold SH;rw[decide_eq_true_eq];generalize bZ (aI bl c') (bZ (aI bl c) [])=ns at *;constructor
 ·intro H n hn;obtain⟨r,h1,h2⟩:=KL hd ns n;rw[← h2 c hc s1,← h2 c' hc' s2];exact H r h1
 ·intro H r hr;obtain⟨n,h1,h2⟩:=Dp (bl:=bl) ns r;rw[h2 c hc s1,h2 c' hc' s2];exact H n h1
theorem Xn{bl:List dP}(hI:∀ b∈bl,iO b.name=true∧dw b.name)(hd:(bl.map (·.name)).Nodup)(h5:bl.length≤5){c:ak}(hc:eA bl.length c)(hl:bw 13 c≤12):Fc (aI bl c)=(fS (aI bl c)||oP (aI bl c))∧(Fc (aI bl c)&&cA (iN (bZ (aI bl c) []) 0) (aI bl c))=fS (aI bl c):=by
 obtain⟨hA,hN⟩:=G5 hI hd h5 hc hl;have b1:=(oF hI hc 12 hl).1;obtain⟨-,m1⟩:=jh b1 (l:=[]) List.Pairwise.nil;have s1:∀ s∈bf (aI bl c),s∈bZ (aI bl c) []:=fun s hs=>(m1 s).2 (.inl hs)
 unfold Fc;generalize bZ (aI bl c) []=ns at *;obtain⟨n0,hn0,e0⟩:=Dp (bl:=bl) ns 0;have e0:=e0 c hc s1
 have key:(∀ r,r<2^ns.length→cA (iN ns r) (aI bl c)=cA (iN ns 0) (aI bl c))↔∀ n,n<2^bl.length→jH bl.length n c=cA (iN ns 0) (aI bl c):=by
  constructor
  ·intro H n hn;obtain⟨r,h1,h2⟩:=KL hd ns n;rw[← h2 c hc s1];exact H r h1
  ·intro H r hr;obtain⟨n,h1,h2⟩:=Dp (bl:=bl) ns r;rw[h2 c hc s1];exact H n h1
 generalize cA (iN ns 0) (aI bl c)=v at *
 cases hk:decide (∀ r,r<2^ns.length→cA (iN ns r) (aI bl c)=v) with
 | true=>
  have H:=key.1 (of_decide_eq_true hk)
  cases v with
  | true=>
   rw[hA.2 H];exact⟨rfl,rfl⟩
  | false=>
   rw[hN.2 H,Bool.or_true];refine⟨rfl,?_⟩
   cases h:fS (aI bl c) with
   | false=>rfl
   | true=>have:=hA.1 h n0 hn0;rw[← e0] at this;cases this
 | false=>
  have H:=fun h=>of_decide_eq_false hk (key.2 h)
  have n1:fS (aI bl c)=false:=by
   cases h:fS (aI bl c) with
   | false=>rfl
   | true=>
    have h2:=hA.1 h;obtain rfl:v=true:=e0.trans (h2 n0 hn0);exact absurd h2 H
  have n2:oP (aI bl c)=false:=by
   cases h:oP (aI bl c) with
   | false=>rfl
   | true=>
    have h2:=hN.1 h;obtain rfl:v=false:=e0.trans (h2 n0 hn0);exact absurd h2 H
  rw[n1,n2];exact⟨rfl,rfl⟩
theorem tV(l:List ByteArray):eG (fun u w=>aF w u l):=fun _ _ _ h hb=>h.keep hb
theorem CD(l:List dP):eG (fun u w=>yS w u l):=fun _ _ _ h hb=>SliceAt.keep h hb
theorem FV{n:Nat}(hn:n≤10):IntKind.i64.wrap (1*2^(n:Int).toNat)=((2^n:Nat):Int):=by
 have Sh:=Q0 n hn;rw[Int.toNat_natCast,Int.one_mul,wrap_i64]
 ·simp
 ·have e:(2:Int)^n=((2^n:Nat):Int):=by simp
  rw[e];have h0:(0:Int)≤((2^n:Nat):Int):=Int.natCast_nonneg _;generalize 2^n=q at *;constructor<;>omega
theorem Ky{NS:List ByteArray}(Sm:NS.length≤5)(x y:ak)(w0:World)(cs cs':List Value){d d':Nat}(hE:aZ w0 cs x)(hE':aZ w0 cs' y)(hB:eV d x)(hB':eV d' y)(hn:∀ t∈bf x,t∈NS)(hn':∀ t∈bf y,t∈NS):Calls Tryz.prog 238 #[.agg cs.toArray,.agg cs'.toArray] w0 (fun(r:Ending) (w':World)=>r=.returned (.bool (SH x y))∧awX w0.heap.size w0 w'):=by
 obtain⟨a1,m1⟩:=jh hB (l:=[]) List.Pairwise.nil;obtain⟨a2,m2⟩:=jh hB' a1;have CP:∀ t∈bZ x [],t∈NS:=fun t ht=>((m1 t).1 ht).elim (hn t) (fun h=>by cases h)
 have V_:∀ t∈bZ y (bZ x []),t∈NS:=fun t ht=>((m2 t).1 ht).elim (hn' t) (CP t)
 have hl5:(bZ y (bZ x [])).length≤5:=awR (Io a2 V_) Sm;have s1:∀ s∈bf x,s∈bZ y (bZ x []):=fun s hs=>(m2 s).2 (.inr ((m1 s).2 (.inl hs)))
 have s2:∀ s∈bf y,s∈bZ y (bZ x []):=fun s hs=>(m2 s).2 (.inl hs)
 have hE0:=hE;obtain⟨_,_,rfl,-⟩:=hE0.open;have hE0:=hE';obtain⟨_,_,rfl,-⟩:=hE0.open;have Sh:=Q0 _ (show(bZ y (bZ x [])).length≤10 by omega);refine bP [] (fn:=Tryz.f238) Tryz.func238 rfl Tryz.ntmps238 rfl<|fun g1 w1 M1=>fun g2 w2 M2=>dr (by kernel_rfl)<|lb 0<|an rfl<|lb 1<|an rfl<|cr (fun u w=>aF w u (bZ x []))<|an (tV _)<|an (fun w' hb' M'=>mF (NS:=NS) (by omega) x _ _ d _ [] (hE.keep M'.below) hB (SliceAt.nil _ _) List.Pairwise.nil (fun t ht=>by cases ht) hn)<|cv (fun u w=>aF w u (bZ y (bZ x [])))<|an (tV _)<|an (fun u _ w' hb' M' hR=>mF (NS:=NS) (by omega) y _ _ d' u _ (hE'.keep M'.below) hB' hR a1 CP hn')<|mva (R:=fun u w=>aF w u (bZ y (bZ x []))) (tV _)<|fun s w3 hS pQ M3=>?_
 obtain⟨sa,sc,rfl,-⟩:=aF.open hS;have he:SH x y=decide (∀ r,r<2^(bZ y (bZ x [])).length→cA (iN (bZ y (bZ x [])) r) x=cA (iN (bZ y (bZ x [])) r) y):=rfl;generalize bZ y (bZ x [])=ns at *;refine lr (ι:=Nat) (fun m=>[(6,.int .i64 (m:Int))]) (fun m w=>m≤2^ns.length∧aF w (.slice sa ns.length sc) ns∧∀ r,r<m→cA (iN ns r) x=cA (iN ns r) y) (fun m=>2^ns.length-m) 0 (an ⟨⟨rfl,trivial⟩,fun M=>⟨M,awP _,hS,fun r h=>absurd h (Nat.not_lt_zero r)⟩⟩ ?_);intro m w M ⟨hm,hSw,hI⟩;refine ei<|an (fun a w o ho hv=>GX ho (dU hv) u3 Yf (by omega))<|ei (x:=.int .i64 ((2^ns.length:Nat):Int))<|an (fun a w o ho hv=>?_)<|an (fun h=>?_) fun h M=>⟨?_,M.below⟩
 ·have:=ku (P:=Tryz.prog) (w:=w) ho (dU hv) (fE hv) (by omega) (by simp[IntKind.bits];omega);rw[this,FV (by omega)]
 ·have hlt:m<2^ns.length:=by simp only[decide_eq_true_eq] at h;omega
  refine cg<|an (lY _ _ ns m hSw (by omega)) fun u w4 ⟨hB4,hb4⟩=>⟨_,_,M.keep hb4,?_⟩
  refine dr (by kernel_rfl)<|lb 1<|an rfl<|cl<|an (fun w' hb' M'=>mU _ x _ _ d (hE.keep M'.below) hB _ (SliceAt.keep hB4 hb') (by rw[lZ];exact s1))<|lb 0<|an rfl<|cl<|an (fun w' hb' M'=>mU _ y _ _ d' (hE'.keep M'.below) hB' _ (SliceAt.keep hB4 hb') (by rw[lZ];exact s2))<|fun w5 CU M5=>?_
  refine an (fun h2 M=>⟨?_,M.below⟩) fun h2=>an (by omega)<|bk (m+1) ⟨rfl,trivial⟩ (fun M=>⟨M,by omega,(hSw.keep hb4).keep CU,fun r hr=>?_⟩) (by dsimp only;omega)
  ·rw[he,decide_eq_false (fun H=>by have:=H m hlt;rw[this] at h2;simp at h2)];rfl
  ·by_cases e:r=m
   ·subst e;simpa using h2
   ·exact hI r (by omega)
 ·rw[he,decide_eq_true (fun r hr=>hI r (by simp only[decide_eq_false_iff_not] at h;omega))];rfl
theorem Lq{NS:List ByteArray}(Sm:NS.length≤5)(x y:ak)(w0:World)(cs cs':List Value){d d':Nat}(hE:aZ w0 cs x)(hE':aZ w0 cs' y)(hB:eV d x)(hB':eV d' y)(hd:d≤12)(hd':d'≤12)(hn:∀ t∈bf x,t∈NS)(hn':∀ t∈bf y,t∈NS):Calls Tryz.prog 181 #[.agg cs.toArray,.agg cs'.toArray] w0 (fun(r:Ending) (w':World)=>r=.returned (.tuple #[.bool (SH x y),.int .i64 0])∧awX w0.heap.size w0 w'):=by
 obtain⟨a1,m1⟩:=jh hB (l:=[]) List.Pairwise.nil;obtain⟨a2,m2⟩:=jh hB' a1;have CP:∀ t∈bZ x [],t∈NS:=fun t ht=>((m1 t).1 ht).elim (hn t) (fun h=>by cases h)
 have V_:∀ t∈bZ y (bZ x []),t∈NS:=fun t ht=>((m2 t).1 ht).elim (hn' t) (CP t)
 have hl5:(bZ y (bZ x [])).length≤5:=awR (Io a2 V_) Sm;have hE0:=hE;obtain⟨_,_,rfl,-⟩:=hE0.open;have hE0:=hE';obtain⟨_,_,rfl,-⟩:=hE0.open;refine bP [] (fn:=Tryz.f181) Tryz.func181 rfl Tryz.ntmps181 rfl<|fun g1 w1 M1=>fun g2 w2 M2=>lb 1<|an rfl<|cl<|an (nG x _ _ d (hE.keep M2.below) hB hd) fun w3 M3=>an (fun h=>by simp at h) fun _=>lb 0<|an rfl<|cl<|an (nG y _ _ d' (hE'.keep M3.below) hB' hd') fun w4 M4=>an (fun h=>by simp at h) fun _=>?_
 refine sp [0,1] (.step 2 (.step 3 (.step 4 (.step 5 .done)))) [0,1] (by kernel_rfl)<|lb 1<|an rfl<|lb 0<|an rfl<|fun w5 CU M5=>cg<|an (mF (NS:=NS) (by omega) x _ _ d _ [] (hE.keep M5.below) hB (SliceAt.nil _ _) List.Pairwise.nil (fun t ht=>by cases ht) hn) fun u w6 ⟨hS6,LH⟩=>⟨_,_,M5.keep LH,an rfl<|cg<|an (mF (NS:=NS) (by omega) y _ _ d' u _ (hE'.keep (M5.keep LH).below) hB' hS6 a1 CP hn') fun u2 w7 ⟨hS7,XR⟩=>⟨_,_,(M5.keep LH).keep XR,?_⟩⟩
 obtain⟨sa,sc,rfl,-⟩:=aF.open hS7;have M7:=(M5.keep LH).keep XR;refine an rfl<|an rfl<|an rfl<|an (fun h=>?_) fun h=>?_
 ·exfalso;simp only[decide_eq_true_eq] at h;omega
 ·exact lb 1<|an rfl<|lb 0<|an rfl<|cl<|an (Ky Sm x y _ _ _ (hE.keep M7.below) (hE'.keep M7.below) hB hB' hn hn') fun w8 M8=>fun M=>⟨rfl,M.below⟩
theorem DN{NS:List ByteArray}(Sm:NS.length≤5)(x:ak)(w0:World)(cs:List Value){d:Nat}(hE:aZ w0 cs x)(hB:eV d x)(hd:d≤12)(hn:∀ t∈bf x,t∈NS):Calls Tryz.prog 89 #[.agg cs.toArray] w0 (fun(r:Ending) (w':World)=>r=.returned (.tuple #[.bool (Fc x&&cA (iN (bZ x []) 0) x),.bool (Fc x)])∧awX w0.heap.size w0 w'):=by
 obtain⟨a1,m1⟩:=jh hB (l:=[]) List.Pairwise.nil;have CP:∀ t∈bZ x [],t∈NS:=fun t ht=>((m1 t).1 ht).elim (hn t) (fun h=>by cases h)
 have hl5:(bZ x []).length≤5:=awR (Io a1 CP) Sm;have s1:∀ s∈bf x,s∈bZ x []:=fun s hs=>(m1 s).2 (.inl hs)
 have hE0:=hE;obtain⟨_,_,rfl,-⟩:=hE0.open;have Sh:=Q0 _ (show(bZ x []).length≤10 by omega);refine bP [] (fn:=Tryz.f89) Tryz.func89 rfl Tryz.ntmps89 rfl<|fun g1 w1 M1=>lb 0<|an rfl<|cg<|an (JR (NS:=NS) (by omega) x _ _ d (hE.keep M1.below) hB hd hn) fun s w2 ⟨hS,hb2⟩=>⟨_,_,M1.keep hb2,?_⟩
 obtain⟨sa,sc,rfl,-⟩:=aF.open hS;have M2:=M1.keep hb2;have he:Fc x=decide (∀ r,r<2^(bZ x []).length→cA (iN (bZ x []) r) x=cA (iN (bZ x []) 0) x):=rfl;generalize bZ x []=ns at *;refine lb 0<|an rfl<|cg (R:=fun v w'=>v=.int .i64 0∧awX w2.heap.size w2 w')<|an ((nG x _ _ d (hE.keep M2.below) hB hd).mono fun _ _ ⟨h1,h2⟩=>⟨_,h1,rfl,h2⟩) fun v w3 ⟨hv,pQ⟩=>⟨_,_,M2.keep pQ,?_⟩
 subst hv;have M3:=M2.keep pQ;have hS3:=hS.keep pQ;refine an (fun h=>?_) fun h=>?_
 ·exfalso;simp at h;omega
 refine dr (by kernel_rfl)<|lb 0<|an rfl<|cr (fun u w=>yS w u (iN ns 0))<|an (CD _)<|an (fun w' hb' M'=>lY _ _ ns 0 (hS3.keep hb') (by omega))<|cu<|an (fun u _ w' hb' M' hR=>mU _ x _ _ d (hE.keep M'.below) hB _ hR (by rw[lZ];exact s1))<|fun w4 hb4 M4=>?_
 have hS4:=hS3.keep hb4;generalize hv0:cA (iN ns 0) x=v0 at *;refine lr (ι:=Nat) (fun m=>[(6,.int .i64 (m:Int))]) (fun m w=>(1≤m∧(m≤2^ns.length∨m=1))∧aF w (.slice sa ns.length sc) ns∧∀ r,1≤r→r<m→cA (iN ns r) x=v0) (fun m=>2^ns.length-m) 1 (an ⟨⟨rfl,trivial⟩,fun M=>⟨M,⟨Nat.le_refl _,.inr rfl⟩,hS4,fun r h1 h2=>absurd h1 (by omega)⟩⟩ ?_);intro m w M ⟨hm,hSw,hI⟩;refine ei<|an (fun a w o ho hv=>GX ho (dU hv) u3 Yf (by omega))<|ei (x:=.int .i64 ((2^ns.length:Nat):Int))<|an (fun a w o ho hv=>?_)<|an (fun h=>?_) fun h M=>⟨?_,M.below⟩
 ·have:=ku (P:=Tryz.prog) (w:=w) ho (dU hv) (fE hv) (by omega) (by simp[IntKind.bits];omega);rw[this,FV (by omega)]
 ·have hlt:m<2^ns.length:=by simp only[decide_eq_true_eq] at h;omega
  refine dr (by kernel_rfl)<|lb 0<|an rfl<|cr (fun u w=>yS w u (iN ns m))<|an (CD _)<|an (fun w' hb' M'=>lY _ _ ns m (hSw.keep hb') (by omega))<|cu<|an (fun u _ w' hb' M' hR=>mU _ x _ _ d (hE.keep M'.below) hB _ hR (by rw[lZ];exact s1))<|fun w5 CU M5=>?_
  refine an (fun h2 M=>⟨?_,M.below⟩) fun h2=>an (by omega)<|bk (m+1) ⟨rfl,trivial⟩ (fun M=>⟨M,⟨by omega,.inl (by omega)⟩,hSw.keep CU,fun r h1 hr=>?_⟩) (by dsimp only;omega)
  ·rw[he,decide_eq_false (fun H=>by have:=H m hlt;rw[this] at h2;simp at h2)];rfl
  ·by_cases e:r=m
   ·subst e;simpa using h2
   ·exact hI r h1 (by omega)
 ·rw[he,decide_eq_true (fun r hr=>by
   by_cases e:r=0
   ·subst e;exact hv0
   ·exact hI r (by omega) (by simp only[decide_eq_false_iff_not] at h;omega))];rfl
theorem N9{l:List ByteArray}{s:ByteArray}(h:hasB l s=false):∀ x∈l,x≠s:=fun x hx e=>by
 obtain⟨i,hi⟩:=List.getElem?_of_mem hx
 have:hasB l s=true:=by
  unfold hasB;rw[tL];exact⟨i,awP _,by have:=(awL.1 hi).1;omega,by rw[Gs hi,e];simp⟩
 rw[h] at this;cases this
theorem JQ{l:List ByteArray}(h:bM l []=0):l.Nodup:=by
 unfold bM at h;rw[cI] at h;refine List.pairwise_iff_getElem.2 fun i j hi hj hij=>?_
 have h1:=h j (awP _) (by omega);rw[xP (awI hj)] at h1;split at h1
 ·split at h1
  ·cases h1
  ·rename_i h2;refine N9 (by simpa using h2) _ (awH (i:=i) ?_);rw[List.getElem?_take,if_pos hij,awI hi]
 ·cases h1
theorem E4{p:aA}(h:Ad p):(p.bools.map (·.name)).Nodup:=by
 have hc:=h.check;unfold iP at hc;split at hc
 case isFalse hne=>exact absurd hc hne
 rw[fG] at hc;have ho:jQ p=0:=hc _ (by simp);unfold jQ at ho;split at ho
 ·cases ho
 split at ho
 ·rename_i hne;exact absurd ho hne
 rename_i hz;exact JQ (Decidable.not_not.1 hz)
structure jo (p:aA):Prop where
 b5:p.bools.length≤5
 con:∀ e∈p.conds,(fS (aI p.bools e)=true↔∀ n,n<2^p.bools.length→jH p.bools.length n e=true)∧(oP (aI p.bools e)=true↔∀ n,n<2^p.bools.length→jH p.bools.length n e=false)
theorem yD{p:aA}(h:Ad p)(hok:p.Ok):jo p:=by
 obtain⟨tp,-⟩:=q7 h hok;have h5:p.bools.length≤5:=awR h.bools (by decide);refine⟨h5,fun e he=>G5 (yE h hok) (E4 h) h5 (tp.conds e he) ?_⟩;have:=h.small.conds e he;omega
theorem YM{nB:Nat}{l m:List ak}{k:Int}{n:Nat}(h:-(l.length:Int)≤k∧k≤l.length):Aw nB (l++m) k n=Aw nB l k n:=by
 unfold Aw;have e:((l++m).length:Int)=l.length+m.length:=by rw[awK];omega
 have c1:(0<k∧k≤((l++m).length:Int))↔(0<k∧k≤(l.length:Int)):=by omega
 have c2:(k<0∧0-((l++m).length:Int)≤k)↔(k<0∧0-(l.length:Int)≤k):=by omega
 by_cases h1:0<k∧k≤(l.length:Int)
 ·rw[if_pos h1,if_pos (c1.2 h1),awV (by omega)]
 ·rw[if_neg h1,if_neg fun h=>h1 (c1.1 h)];by_cases h2:k<0∧0-(l.length:Int)≤k
  ·rw[if_pos h2,if_pos (c2.2 h2),awV (by omega)]
  ·rw[if_neg h2,if_neg fun h=>h2 (c2.1 h)]
theorem vv(nB:Nat)(l:List ak)(n:Nat):Aw nB l 0 n=true:=by
 unfold Aw;rw[if_neg (by omega),if_neg (by omega)]
theorem Au{nB:Nat}{l:List ak}{i:Nat}{e:ak}(h:l[i]?=some e)(n:Nat):Aw nB l ((i:Int)+1) n=jH nB n e:=by
 have:=(awL.1 h).1;unfold Aw;rw[if_pos (by omega),show((i:Int)+1-1).toNat=i by omega,h]
theorem Av{nB:Nat}{l:List ak}{i:Nat}{e:ak}(h:l[i]?=some e)(n:Nat):Aw nB l (0-((i:Int)+1)) n=!jH nB n e:=by
 have:=(awL.1 h).1;unfold Aw;rw[if_neg (by omega),if_pos (by omega),show(0-(0-((i:Int)+1))-1).toNat=i by omega,h]
theorem iQ{s s':pZ}{k:Int}(h1:s'.rI k=s.rI k)(h2:s'.ev k=s.ev k)(h3:s'.nv k=s.nv k):bN s' k=bN s k:=by unfold bN;rw[h1,h2,h3]
theorem jP{α:Type}{f:Int→Option α}{k j:Int}{v:α}(h:j≠k):ef f k v j=f j:=if_neg h
theorem gu{α:Type}{f:Int→Option α}{k:Int}{v:α}:ef f k v k=some v:=if_pos rfl
theorem gT{α:Type}{f:Int→Option α}{k1 k2 j:Int}{v1 v2:α}(h1:j≠k1)(h2:j≠k2):ef (ef f k1 v1) k2 v2 j=f j:=by rw[jP h2,jP h1]
structure Lp (p:aA) (s:pZ) (k:Int) (f:Nat→Bool):Prop where
 bd:-(s.kids.length:Int)≤(bN s k).1∧(bN s k).1≤s.kids.length
 val:∀ n,n<2^p.bools.length→f n=((bN s k).2&&Aw p.bools.length s.kids (bN s k).1 n)
theorem Lp.more{p:aA}{s s':pZ}{k:Int}{f:Nat→Bool}{m:List ak}(h:Lp p s k f)(hb:bN s' k=bN s k)(hk:s'.kids=s.kids++m):Lp p s' k f:=by
 refine⟨?_,fun n hn=>?_⟩
 ·rw[hb,hk,awK];have:=h.bd;omega
 ·rw[hb,hk,YM h.bd];exact h.val n hn
structure Z0 (p:aA) (m:Nat) (s:pZ):Prop where
 lo:∀ k:Int,k < -(m:Int)∨(m:Int)<k→s.rI k=none∧s.ev k=none∧s.nv k=none
 len:s.kids.length=s.seen.length
 tab:∀ (i:Nat) (x:Int) (e:ak),s.seen[i]?=some x→s.kids[i]?=some e→x=bJ (aG p.bools.length) p.bools.length e
 ok:∀ (j:Nat) (e:ak),j<m→p.conds[j]?=some e→(iu p ((j:Int)+1)).getD false=true→Lp p s ((j:Int)+1) (fun n=>jH p.bools.length n e)∧Lp p s (0-((j:Int)+1)) (fun n=>!jH p.bools.length n e)
theorem CY{x y:Int}:∀ {l:List Int} {i:Nat} {k:Int},f_ x y i l=k→k≠0→(∃ j:Nat,k=(i:Int)+j+1∧l[j]?=some x)∨(∃ j:Nat,k=0-((i:Int)+j+1)∧l[j]?=some y)
 | [],i,k,h,hk=>by rw[f_] at h;exact absurd h.symm hk
 | z::l,i,k,h,hk=>by
  rw[f_] at h;split at h
  ·rename_i e;exact .inl ⟨0,by omega,by rw[e];rfl⟩
  ·split at h
   ·rename_i e;exact .inr ⟨0,by omega,by rw[e];rfl⟩
   ·rcases CY h hk with⟨j,h1,h2⟩|⟨j,h1,h2⟩
    ·exact .inl ⟨j+1,by omega,h2⟩
    ·exact .inr ⟨j+1,by omega,h2⟩
theorem Z0.step{p:aA}(hH:jo p){m:Nat}{s:pZ}{e:ak}(h:Z0 p m s)(he:p.conds[m]?=some e):Z0 p (m+1) (eU p m e s):=by
 have hem:=awH he;have afS:=hH.con e hem;have afA:∀ j:Nat,j<m→(j:Int)+1≠(m:Int)+1∧(j:Int)+1≠0-((m:Int)+1)∧0-((j:Int)+1)≠(m:Int)+1∧0-((j:Int)+1)≠0-((m:Int)+1):=fun j hj=>by omega
 have hmm:(m:Int)+1≠0-((m:Int)+1):=by omega
 have hl1:=h.lo ((m:Int)+1) (by omega);have hl2:=h.lo (0-((m:Int)+1)) (by omega);unfold eU;by_cases hc:(fS (aI p.bools e)||oP (aI p.bools e))=true
 ·rw[if_pos hc];refine⟨fun k hk=>?_,h.len,h.tab,fun j e' hj he' hu=>?_⟩
  ·have h0:=h.lo k (by omega);refine⟨h0.1,?_,?_⟩
   ·dsimp only;rw[gT (by omega) (by omega),h0.2.1]
   ·dsimp only;rw[gT (by omega) (by omega),h0.2.2]
  ·by_cases e0:j=m
   ·subst e0;obtain rfl:e=e':=awS (he.symm.trans he')
    have hv:∀ n,n<2^p.bools.length→jH p.bools.length n e=fS (aI p.bools e):=fun n hn=>by
     cases hA:fS (aI p.bools e) with
     | true=>exact afS.1.1 hA n hn
     | false=>
      rw[hA,Bool.false_or] at hc;exact afS.2.1 hc n hn
    generalize fS (aI p.bools e)=A at *;constructor
    ·have eb:bN { s with ev:=ef (ef s.ev ((j:Int)+1) A) (0-((j:Int)+1)) (!A),nv:=ef (ef s.nv ((j:Int)+1) (!A)) (0-((j:Int)+1)) A } ((j:Int)+1)=(0,A):=by
      unfold bN;simp only[jP hmm,gu,hl1.1];cases A<;>rfl
     exact⟨by rw[eb];constructor<;>simp<;>omega,fun n hn=>by rw[eb,vv,Bool.and_true];exact hv n hn⟩
    ·have eb:bN { s with ev:=ef (ef s.ev ((j:Int)+1) A) (0-((j:Int)+1)) (!A),nv:=ef (ef s.nv ((j:Int)+1) (!A)) (0-((j:Int)+1)) A } (0-((j:Int)+1))=(0,!A):=by
      unfold bN;simp only[gu,hl2.1];cases A<;>rfl
     exact⟨by rw[eb];constructor<;>simp<;>omega,fun n hn=>by rw[eb,vv,Bool.and_true,hv n hn]⟩
   ·obtain⟨a1,a2,a3,a4⟩:=afA j (by omega);obtain⟨g1,g2⟩:=h.ok j e' (by omega) he' hu;exact⟨g1.more (m:=[]) (iQ rfl (by dsimp only;exact gT a1 a2) (by dsimp only;exact gT a1 a2)) (List.append_nil _).symm,g2.more (m:=[]) (iQ rfl (by dsimp only;exact gT a3 a4) (by dsimp only;exact gT a3 a4)) (List.append_nil _).symm⟩
 rw[if_neg hc];by_cases hu0:(iu p ((m:Int)+1)).getD false=false
 ·rw[if_pos hu0];refine⟨fun k hk=>h.lo k (by omega),h.len,h.tab,fun j e' hj he' hu=>?_⟩;by_cases e0:j=m
  ·subst e0;rw[hu0] at hu;cases hu
  ·exact h.ok j e' (by omega) he' hu
 rw[if_neg hu0];dsimp only
 have lo':∀ (k0:Int) (s':pZ),s'.rI=s.rI→s'.ev=s.ev→s'.nv=s.nv→∀ k:Int,k < -((m+1:Nat):Int)∨((m+1:Nat):Int)<k→(dh m k0 s').rI k=none∧(dh m k0 s').ev k=none∧(dh m k0 s').nv k=none:=fun k0 s' e1 e2 e3 k hk=>by
  have h0:=h.lo k (by omega);refine⟨?_,by show s'.ev k=none;rw[e2];exact h0.2.1,by show s'.nv k=none;rw[e3];exact h0.2.2⟩;unfold dh;dsimp only;rw[gT (by omega) (by omega),e1,h0.1]
 have old':∀ (k0:Int) (s':pZ),s'.rI=s.rI→s'.ev=s.ev→s'.nv=s.nv→∀ j:Nat,j<m→bN (dh m k0 s') ((j:Int)+1)=bN s ((j:Int)+1)∧bN (dh m k0 s') (0-((j:Int)+1))=bN s (0-((j:Int)+1)):=fun k0 s' e1 e2 e3 j hj=>by
  obtain⟨a1,a2,a3,a4⟩:=afA j hj;exact⟨iQ (by unfold dh;dsimp only;rw[gT a1 a2,e1]) (congrFun e2 _) (congrFun e3 _),iQ (by unfold dh;dsimp only;rw[gT a3 a4,e1]) (congrFun e2 _) (congrFun e3 _)⟩
 have new':∀ (k0:Int) (s':pZ),s'.ev=s.ev→s'.nv=s.nv→bN (dh m k0 s') ((m:Int)+1)=(k0,true)∧bN (dh m k0 s') (0-((m:Int)+1))=(0-k0,true):=fun k0 s' e2 e3=>by
  constructor
  ·unfold bN;rw[show(dh m k0 s').ev ((m:Int)+1)=none from(congrFun e2 _).trans hl1.2.1,show(dh m k0 s').nv ((m:Int)+1)=none from(congrFun e3 _).trans hl1.2.2,show(dh m k0 s').rI ((m:Int)+1)=some k0 by unfold dh;dsimp only;rw[jP hmm,gu]];rfl
  ·unfold bN;rw[show(dh m k0 s').ev (0-((m:Int)+1))=none from(congrFun e2 _).trans hl2.2.1,show(dh m k0 s').nv (0-((m:Int)+1))=none from(congrFun e3 _).trans hl2.2.2,show(dh m k0 s').rI (0-((m:Int)+1))=some (0-k0) by unfold dh;dsimp only;rw[gu]];rfl
 by_cases hk:f_ (bJ (aG p.bools.length) p.bools.length e) (notM (aG p.bools.length) (bJ (aG p.bools.length) p.bools.length e)) 0 s.seen=0
 ·rw[if_pos hk];obtain⟨n1,n2⟩:=new' ((s.seen.length:Int)+1) { s with seen:=s.seen++[bJ (aG p.bools.length) p.bools.length e],kids:=s.kids++[e] } rfl rfl;have hk1:(s.kids++[e])[s.seen.length]?=some e:=by rw[← h.len];simp
  refine⟨lo' _ _ rfl rfl rfl,by show(s.kids++[e]).length=(s.seen++[_]).length;rw[awK,awK,h.len];rfl,fun i x e' hx he'=>?_,fun j e' hj he' hu=>?_⟩
  ·replace hx:(s.seen++[bJ (aG p.bools.length) p.bools.length e])[i]?=some x:=hx;replace he':(s.kids++[e])[i]?=some e':=he';by_cases hi:i<s.seen.length
   ·rw[awV hi] at hx;rw[awV (by rw[h.len];exact hi)] at he';exact h.tab i x e' hx he'
   ·have hi2:i=s.seen.length:=by
     have:=(awL.1 hx).1;rw[awK,List.length_singleton] at this;omega
    subst hi2;rw[hk1] at he';obtain rfl:=awS he';rw[awW (Nat.le_refl _),Nat.sub_self] at hx;exact(awS hx).symm
  ·by_cases e0:j=m
   ·subst e0;obtain rfl:e=e':=awS (he.symm.trans he');refine⟨⟨?_,fun n hn=>?_⟩,⟨?_,fun n hn=>?_⟩⟩
    ·rw[n1];show -((s.kids++[e]).length:Int)≤(s.seen.length:Int)+1∧(s.seen.length:Int)+1≤((s.kids++[e]).length:Int);rw[awK,h.len,List.length_singleton];omega
    ·rw[n1];exact(Au hk1 n).symm
    ·rw[n2];show -((s.kids++[e]).length:Int)≤0-((s.seen.length:Int)+1)∧0-((s.seen.length:Int)+1)≤((s.kids++[e]).length:Int);rw[awK,h.len,List.length_singleton];omega
    ·rw[n2];exact(Av hk1 n).symm
   ·obtain⟨g1,g2⟩:=h.ok j e' (by omega) he' hu;obtain⟨o1,o2⟩:=old' ((s.seen.length:Int)+1) { s with seen:=s.seen++[bJ (aG p.bools.length) p.bools.length e],kids:=s.kids++[e] } rfl rfl rfl j (by omega);exact⟨g1.more o1 rfl,g2.more o2 rfl⟩
 ·rw[if_neg hk];obtain⟨n1,n2⟩:=new' (f_ (bJ (aG p.bools.length) p.bools.length e) (notM (aG p.bools.length) (bJ (aG p.bools.length) p.bools.length e)) 0 s.seen) s rfl rfl;have sp:=CY rfl hk;generalize f_ (bJ (aG p.bools.length) p.bools.length e) (notM (aG p.bools.length) (bJ (aG p.bools.length) p.bools.length e)) 0 s.seen=k at *;obtain⟨w1,i1⟩:=lN hH.b5 e
  have hval:∃ (j:Nat) (e2:ak),s.kids[j]?=some e2∧((k=(j:Int)+1∧∀ n,n<2^p.bools.length→jH p.bools.length n e=jH p.bools.length n e2)∨(k=0-((j:Int)+1)∧∀ n,n<2^p.bools.length→jH p.bools.length n e=!jH p.bools.length n e2)):=by
   rcases sp with⟨j,h1,h2⟩|⟨j,h1,h2⟩
   ·have hj:=(awL.1 h2).1;obtain⟨e2,he2⟩:∃ e2,s.kids[j]?=some e2:=⟨_,awI (by rw[h.len];exact hj)⟩;refine⟨j,e2,he2,.inl ⟨by omega,fun n hn=>?_⟩⟩;have ht:=h.tab j _ e2 h2 he2;have hi:=i1 n;rw[ht,(lN hH.b5 e2).2 n,decide_eq_true hn,Bool.true_and,Bool.true_and] at hi;exact hi.symm
   ·have hj:=(awL.1 h2).1;obtain⟨e2,he2⟩:∃ e2,s.kids[j]?=some e2:=⟨_,awI (by rw[h.len];exact hj)⟩;refine⟨j,e2,he2,.inr ⟨by omega,fun n hn=>?_⟩⟩;have ht:=h.tab j _ e2 h2 he2;have hi:=tZ hH.b5 w1 n;rw[ht,(lN hH.b5 e2).2 n,i1 n,decide_eq_true hn,Bool.true_and,Bool.true_and,Bool.true_and] at hi;rw[hi,Bool.not_not]
  obtain⟨j2,e2,he2,hv⟩:=hval;have hj2:=(awL.1 he2).1;refine⟨lo' _ _ rfl rfl rfl,h.len,h.tab,fun j e' hj he' hu=>?_⟩;by_cases e0:j=m
  ·subst e0;obtain rfl:e=e':=awS (he.symm.trans he');refine⟨⟨?_,fun n hn=>?_⟩,⟨?_,fun n hn=>?_⟩⟩
   ·rw[n1];show -(s.kids.length:Int)≤k∧k≤(s.kids.length:Int);rcases hv with⟨a,-⟩|⟨a,-⟩<;>omega
   ·rw[n1];show _=Aw p.bools.length s.kids k n;rcases hv with⟨rfl,a⟩|⟨rfl,a⟩
    ·rw[Au he2];exact a n hn
    ·rw[Av he2];exact a n hn
   ·rw[n2];show -(s.kids.length:Int)≤0-k∧0-k≤(s.kids.length:Int);rcases hv with⟨a,-⟩|⟨a,-⟩<;>omega
   ·rw[n2];show(!_)=Aw p.bools.length s.kids (0-k) n;rcases hv with⟨rfl,a⟩|⟨rfl,a⟩
    ·rw[Av he2,a n hn]
    ·rw[show(0:Int)-(0-((j2:Int)+1))=(j2:Int)+1 by omega,Au he2,a n hn,Bool.not_not]
  ·obtain⟨g1,g2⟩:=h.ok j e' (by omega) he' hu;obtain⟨o1,o2⟩:=old' k s rfl rfl rfl j (by omega);exact⟨g1.more (m:=[]) o1 (List.append_nil _).symm,g2.more (m:=[]) o2 (List.append_nil _).symm⟩
theorem adu{p:aA}(hH:jo p):∀ m,m≤p.conds.length→Z0 p m (bn p m)
 | 0,_=>⟨fun _ _=>⟨rfl,rfl,rfl⟩,rfl,fun i x e h=>(by cases h),fun j e h=>absurd h (Nat.not_lt_zero j)⟩
 | m+1,hm=>by
  obtain⟨e,he⟩:∃ e,p.conds[m]?=some e:=⟨_,awI (by omega)⟩;rw[kW he];exact(adu hH m (by omega)).step hH he
end Go.Proofs.YtdcofoaihmongaaGreat
namespace Go.Proofs.YtdcofoaihmongaaGreat
open Go Go.RowKit Go.Shelf Go.Sort
theorem bX.len(x:bX):x.cells.length=7:=rfl
theorem bX.one(x:bX):∀ v∈x.cells,v.oneCell'=true:=fun v hv=>by simp[bX.cells] at hv;rcases hv with rfl|rfl|rfl|rfl|rfl|rfl|rfl<;>rfl
end Go.Proofs.YtdcofoaihmongaaGreat
namespace Go.Proofs.YtdcofoaihmongaaGreat
open Go Go.RowKit Go.Sort Go.WideMaps
theorem Vf{w w':World}{base:Nat}{e:TypeId}{k n:Nat}{v:Value}{xs:List Value}(h:w.ownsRow base e k v n xs)(hb:∀ g,v.ownBlock=some g→w'.heap[g]?=w.heap[g]?):w'.ownsRow base e k v n xs:=
 ⟨h.1,h.2.imp id fun⟨g,cap,cur,hv,hg,hh,r⟩=>⟨g,cap,cur,hv,hg,(hb g (by rw[hv];rfl)).trans hh,r⟩⟩
theorem Vg{w:World}{base:Nat}{e:TypeId}{k n:Nat}{v:Value}{xs:List Value}(h:w.ownsRow base e k v n xs){g:Nat}(hg:v.ownBlock=some g):base≤g∧∃ cur,w.heap[g]?=some (.cells cur e (0,0)):=by
 rcases h.2 with⟨rfl,_⟩|⟨g',cap,cur,rfl,hb,hh,_⟩
 ·simp[Value.ownBlock] at hg
 ·have e1:g'=g:=by simpa[Value.ownBlock] using hg
  subst e1;exact⟨hb,cur,hh⟩
theorem Below.PL{w w':World}{r B:Nat}(h:w.grownBy w' (some r))(hr:B≤r)(hB:B≤w.heap.size)(hs:w'.heap.size=w.heap.size):Below B w w':=
 ⟨h.os,h.tape,h.output,by omega,fun k hk=>h.block k (by omega) (fun e=>by cases e;omega)⟩
theorem EK(E:List (cH×bA))(p:cH×bA):tR (E++[p])=tR E++(if nz p then [mkE p.1 p.2] else []):=by
 unfold tR;rw[List.filter_append,aw0];congr 1;cases h:nz p<;>simp[h]
theorem JH(E:List (cH×bA)):(tR E).length≤E.length:=by unfold tR;rw[awJ];exact List.length_filter_le _ _
structure Tv (w wr:World) (mb r:Nat) (D E:List (cH×bA)) (left:List (Value×Value)) (u:Value):Prop where
 perm:(D.map mD).Perm (left++E.map mD)
 row:wr.ownsRow w.heap.size 94 7 u (tR E).length ((tR E).flatMap bX.cells)
 rng:d_ wr Tryz.prog 113 mb r (D.map mD) left
 Qv:Below w.heap.size w wr
 mlt:mb<w.heap.size
 rle:w.heap.size≤r
structure IG (w wr:World) (mb r:Nat) (D E:List (cH×bA)) (p:cH×bA) (left:List (Value×Value)) (u:Value):Prop where
 perm:(D.map mD).Perm (left++(E++[p]).map mD)
 row:wr.ownsRow w.heap.size 94 7 u (tR E).length ((tR E).flatMap bX.cells)
 rng:d_ wr Tryz.prog 113 mb r (D.map mD) left
 Qv:Below w.heap.size w wr
 mlt:mb<w.heap.size
 rle:w.heap.size≤r
theorem d_.iter{P:Program}{k:TypeId}{w:World}{b r:Nat}{D left:List (Value×Value)}(h:d_ w P k b r D left):∃ x y z t,w.heap[r]?=some (.mapIter x y z t):=by
 obtain⟨es,clock,since,seen,c0,_,_,_,_,hr,_⟩:=h;exact⟨_,_,_,_,hr⟩
theorem Tv.small{w wr:World}{mb r:Nat}{D E:List (cH×bA)}{left:List (Value×Value)}{u:Value}(h:Tv w wr mb r D E left u):(tR E).length≤D.length:=by
 have:=h.perm.length_eq;simp at this;have:=JH E;omega
theorem IG.small{w wr:World}{mb r:Nat}{D E:List (cH×bA)}{p:cH×bA}{left:List (Value×Value)}{u:Value}(h:IG w wr mb r D E p left u):(tR E).length+1≤D.length:=by
 have:=h.perm.length_eq;simp at this;have:=JH E;omega
theorem Tv.next{w wr wn:World}{mb r:Nat}{D E:List (cH×bA)}{p:cH×bA}{left left':List (Value×Value)}{u:Value}(h:Tv w wr mb r D E left u)(hp:left.Perm (mD p::left'))
 (hr:d_ wn Tryz.prog 113 mb r (D.map mD) left') (hg:wr.grownBy wn (some r)) (hs:wn.heap.size=wr.heap.size):IG w wn mb r D E p left' u:=by
 refine⟨?_,Vf h.row fun g hg'=>?_,hr,h.Qv.trans (Below.PL hg h.rle h.Qv.size hs),h.mlt,h.rle⟩
 ·refine h.perm.trans ((hp.append_right _).trans ?_);rw[aw0,List.map_singleton,← List.append_assoc];exact(List.perm_append_singleton _ _).symm
 ·obtain⟨_,cur,hh⟩:=Vg h.row hg';refine hg.block g (Array.getElem?_eq_some_iff.1 hh).1 (fun e=>?_);cases e;obtain⟨x,y,z,t,hi⟩:=h.rng.iter;rw[hi] at hh;cases hh
theorem IG.own{w wn w6:World}{mb r:Nat}{D E:List (cH×bA)}{p:cH×bA}{left:List (Value×Value)}{u:Value}(h:IG w wn mb r D E p left u)(hb:Below wn.heap.size wn w6):w6.ownsRow w.heap.size 94 7 u (tR E).length ((tR E).flatMap bX.cells):=gH hb h.row (Nat.le_refl _)
theorem IG.skip{w wn w6:World}{mb r:Nat}{D E:List (cH×bA)}{p:cH×bA}{left:List (Value×Value)}{u:Value}(h:IG w wn mb r D E p left u)(hz:nz p=false)(hb:Below wn.heap.size wn w6):Tv w w6 mb r D (E++[p]) left u:=
 ⟨h.perm,by rw[EK,hz];simpa using h.own hb,h.rng.kept (hb.block _ h.rng.map.lt) (hb.block _ h.rng.lt),h.Qv.trans (hb.mono h.Qv.size),h.mlt,h.rle⟩
theorem IG.more{w wn w6 w7:World}{mb r:Nat}{D E:List (cH×bA)}{p:cH×bA}{left:List (Value×Value)}{u u':Value}{o:Obj}(h:IG w wn mb r D E p left u)(hz:nz p=true)(hb:Below wn.heap.size wn w6)
 (hown:w7.ownsRow w.heap.size 94 7 u' ((tR E).length+1) ((tR E).flatMap bX.cells++bX.cells (mkE p.1 p.2))) (hg:(w6.alloc o).grownBy w7 u.ownBlock):Tv w w7 mb r D (E++[p]) left u':=by
 have hrow:=h.own hb;have hb1:=hb.alloc (awR (Nat.le_refl _) hb.size) o;have hR:=h.rng.kept (hb1.block _ h.rng.map.lt) (hb1.block _ h.rng.lt);have hbw:Below w.heap.size w (w6.alloc o):=h.Qv.trans (hb1.mono h.Qv.size)
 have hne:∀ g,u.ownBlock=some g→w.heap.size≤g∧g≠r:=fun g hg'=>by
  obtain⟨h1,cur,hh⟩:=Vg (rU hrow o) hg';refine⟨h1,fun e=>?_⟩;subst e;obtain⟨x,y,z,t,hi⟩:=hR.iter;rw[hi] at hh;cases hh
 refine⟨h.perm,?_,hR.kept (hg.block _ hR.map.lt fun e=>?_) (hg.block _ hR.lt fun e=>(hne _ e.symm).2 rfl),hbw.grown hg (by have:=hb.size;have:=h.Qv.size;simp;omega) (fun q hq=>(hne q hq).1),h.mlt,h.rle⟩
 ·rw[EK,hz];simpa using hown
 ·have:=(hne _ e.symm).1;have:=h.mlt;omega
def kvs(l:List bX):List (cH×bA):=l.map fun e=>(e.key,e.abu)
def agH(l:List bX):cH→bA:=accum (kvs l)
structure QH (w wr:World) (mb i:Nat) (l:List bX):Prop where
 map:mS wr mb i (agH (l.take i))
 Qv:Below w.heap.size w wr
 new:w.heap.size≤mb
theorem QH.start(w w':World)(l:List bX)(mb:Nat)(hm:mS w' mb 0 (fun _=>bA.zero))(hb:Below w.heap.size w w')(h:w.heap.size≤mb):QH w w' mb 0 l:=⟨by simpa[agH,kvs,Tp] using hm,hb,h⟩
structure aj.Wf (r:aj):Prop where
 ok:r.Ok
 kind:iX r.kind
 cls:iX r.cls
 cond:iX r.cond
 perms:QF r.perms
def Va(r:aj)(p:Nat×Nat):cH:=⟨p.1,p.2,r.cls,r.cond⟩
def qH(r:aj)(P:List (Nat×Nat)):List (cH×bA):=P.map fun p=>(Va r p,Eu r.kind r.perms)
def kvR(l:List aj):List (cH×bA):=l.flatMap fun r=>qH r r.pairs
theorem VN{l:List aj}{i:Nat}{r:aj}(h:l[i]?=some r):kvR (l.take (i+1))=kvR (l.take i)++qH r r.pairs:=by
 unfold kvR;rw[bp h,awZ,List.flatMap_singleton]
theorem Ve{r:aj}{p:Nat×Nat}(h:p∈r.pairs):p.1<256∧p.2<256:=by
 unfold aj.pairs aj.cO at h;obtain⟨s,hs,hp⟩:=List.mem_flatMap.1 h;obtain⟨t,ht,rfl⟩:=awG.1 hp;simp[elems,cE] at hs ht;exact⟨hs.1,ht.1⟩
theorem aj.Wf.key{r:aj}(h:r.Wf){p:Nat×Nat}(hp:p∈r.pairs):(Va r p).Ok:=by
 have:=Ve hp;exact⟨⟨by show _≤(p.1:Int);omega,by show(p.1:Int)<_;omega⟩,⟨by show _≤(p.2:Int);omega,by show(p.2:Int)<_;omega⟩,h.cls,h.cond⟩
theorem aj.Wf.vec{r:aj}(h:r.Wf):(Eu r.kind r.perms).Ok:=by
 have h0:QF 0:=⟨by decide,by decide⟩;unfold Eu;split
 ·exact⟨h.perms,h0,h0⟩
 ·split
  ·exact⟨h0,h.perms,h0⟩
  ·split
   ·exact⟨h0,h0,h.perms⟩
   ·exact⟨h0,h0,h0⟩
theorem mS.more{w:World}{mb n m:Nat}{f:cH→bA}(h:mS w mb n f)(hm:n≤m):mS w mb m f:=by
 obtain⟨D,h1,h2,h3,h4⟩:=h.ex;exact⟨D,h1,h2,h3,by omega⟩
theorem OA{L M:List (cH×bA)}(hM:∀ p∈M,p.2=bA.zero)(hL:∀ k,(accum L k).Ok):accum (L++M)=accum L:=by
 induction M generalizing L with
 | nil=>simp
 | cons p M ih=>
  have e:L++p::M=(L++[p])++M:=by simp
  have h1:accum (L++[p])=accum L:=by
   rw[DI]
   funext x
   unfold aby;split
   ·rename_i hx;subst hx;rw[hM p (by simp),bA.or_zero (hL _)]
   ·rfl
  rw[e,ih (fun q hq=>hM q (by simp[hq])) (by rw[h1];exact hL),h1]
theorem OB(L:List (cH×bA))(k:cH)(v:bA):accum (L++[(k,v)])=fun x=>if x=k then (accum L k).or v else accum L x:=by rw[DI];rfl
theorem ZF{w:World}{b o:Nat}{u:Value}(h:w.cell? ⟨b,o,none⟩=some u):b<w.heap.size:=by
 obtain⟨c,e,fr,h1,-⟩:=cells_of_cell? h;exact(Array.getElem?_eq_some_iff.1 h1).1
structure Expand (w wr:World) (mb:Nat) (M:List (cH×bA)):Prop where
 map:mS wr mb M.length (accum M)
 Qv:awX w.heap.size w wr
 new:w.heap.size≤mb
theorem Expand.keep{w wr w':World}{mb:Nat}{M:List (cH×bA)}(h:Expand w wr mb M)(hb:awX wr.heap.size wr w'):Expand w w' mb M:=
 ⟨h.map.kept (hb.block _ h.map.lt),h.Qv.trans (hb.mono h.Qv.size),h.new⟩
theorem Expand.skip{w wr w':World}{mb i:Nat}{l:List aj}{r:aj}(h:Expand w wr mb (kvR (l.take i)))(hr:l[i]?=some r)(hz:Eu r.kind r.perms=bA.zero)(hb:awX wr.heap.size wr w'):Expand w w' mb (kvR (l.take (i+1))):=by
 obtain⟨h1,h2,h3⟩:=h.keep hb;refine⟨?_,h2,h3⟩;rw[VN hr,OA (fun p hp=>?_) (fun k=>h1.val k)]
 ·exact h1.more (by simp)
 ·obtain⟨q,-,rfl⟩:=awG.1 hp;exact hz
structure XL (w wr:World) (mb rb vb:Nat) (r:aj) (V:bA) (pa:Option Addr) (pn pc:Nat) (L:List (cH×bA)) (j:Nat):Prop where
 exp:Expand w wr mb (L++qH r (r.pairs.take j))
 rule:Whole wr rb 56 #[.int .i64 r.kind,.int .u64 r.src.a,.int .u64 r.src.b,.int .u64 r.src.c,.int .u64 r.src.d,.int .u64 r.tgt.a,.int .u64 r.tgt.b,.int .u64 r.tgt.c,.int .u64 r.tgt.d,.bool r.self,.int .i64 r.cls,.int .u32 r.perms,.int .i64 r.cond]
 vec:Whole wr vb 107 #[.int .u32 V.allow,.int .u32 V.kR,.int .u32 V.dont]
 cell:∀ i,i<r.pairs.length→∃ b off,pa=some ⟨b,off,none⟩∧∀ j u,(fZ r.pairs)[i*2+j]?=some u→wr.cell? ⟨b,off+i*2+j,none⟩=some u
 rne:rb≠mb
 vne:vb≠mb
 pne:∀ b off,pa=some ⟨b,off,none⟩→b≠mb
theorem XL.step{w wq w6 wx w7:World}{mb rb vb m:Nat}{r:aj}{V:bA}{pa:Option Addr}{pn pc:Nat}{L:List (cH×bA)}{j:Nat}{y:Nat×Nat}{f:cH→bA}(h:XL w wq mb rb vb r V pa pn pc L j)(hf:f=accum (L++qH r (r.pairs.take j))∧V=Eu r.kind r.perms)(hm:m=(L++qH r (r.pairs.take j)).length)
 (hb:awX wq.heap.size wq w6) (hb2:awX w6.heap.size w6 wx) (hM:mS w7 mb (m+1) (fun x=>if x=Va r y then (f (Va r y)).or V else f x)) (hg:wx.grownBy w7 (some mb)) (hs:w7.heap.size=wx.heap.size) (hy:r.pairs[j]?=some y):XL w w7 mb rb vb r V pa pn pc L (j+1):=by
 obtain⟨rfl,rfl⟩:=hf;have pQ:awX wq.heap.size wq wx:=hb.trans (hb2.mono hb.size)
 have e:L++qH r (r.pairs.take (j+1))=(L++qH r (r.pairs.take j))++[(Va r y,Eu r.kind r.perms)]:=by
  unfold qH;rw[bp hy,aw0,List.map_singleton,List.append_assoc]
 have k:=h.exp.keep pQ;refine⟨⟨?_,?_,k.new⟩,?_,?_,?_,h.rne,h.vne,h.pne⟩
 ·rw[e,OB,awK,List.length_singleton,← hm];exact hM
 ·exact k.Qv.trans (Below.PL hg k.new k.Qv.size hs)
 ·exact(Whole.under pQ h.rule h.rule.lt).grown hg (fun e=>h.rne (by cases e;rfl))
 ·exact(Whole.under pQ h.vec h.vec.lt).grown hg (fun e=>h.vne (by cases e;rfl))
 ·intro i hi;obtain⟨b,off,hpa,hc⟩:=h.cell i hi;refine⟨b,off,hpa,fun j u hu=>?_⟩;have h1:=cell_later pQ (hc j u hu);have hlt:=ZF (hc j u hu);rw[← h1];exact World.cell?_of_block (hg.block b (by have:=pQ.size;exact Nat.lt_of_lt_of_le hlt this) (fun e=>h.pne b off hpa (by cases e;rfl)))
end Go.Proofs.YtdcofoaihmongaaGreat
namespace Go.Proofs.YtdcofoaihmongaaGreat
open Go Go.RowKit
theorem aj.oU.wf{r:aj}(h:r.oU):r.Wf:=⟨⟨h.src,h.tgt⟩,h.kind,h.cls,h.cond,h.perms⟩
def GN(l:List aj)(kind cls:Int)(s t b:Nat):Prop:=∃ r∈l,r.kind=kind∧r.cls=cls∧(s,t)∈r.pairs∧ib r.perms b=true
def Iz(l l':List aj):Prop:=∀ (kind cls:Int) (s t b:Nat),s<256→t<256→(GN l kind cls s t b↔GN l' kind cls s t b)
theorem Iz.trans{a b c:List aj}(h:Iz a b)(k:Iz b c):Iz a c:=fun _ _ _ _ _ hs ht=>(h _ _ _ _ _ hs ht).trans (k _ _ _ _ _ hs ht)
structure CS0 (s:pZ):Prop where
 rI:s.rI 0=none
 ev:s.ev 0=none
 nv:s.nv 0=none
theorem aes{α:Type}{f:Int→Option α}{k:Int}{v:α}(h:f 0=none)(hk:k≠0):ef f k v 0=none:=by
 unfold ef;rw[if_neg fun e=>hk e.symm];exact h
theorem UA{α:Type}{f:Int→Option α}{i:Nat}{a b:α}(h:f 0=none):ef (ef f ((i:Int)+1) a) (0-((i:Int)+1)) b 0=none:=aes (aes h (by omega)) (by omega)
theorem Qs{i:Nat}{k:Int}{s:pZ}(h:CS0 s):CS0 (dh i k s):=⟨(by show ef (ef s.rI ((i:Int)+1) k) (0-((i:Int)+1)) (0-k) 0=none;exact UA h.rI),h.ev,h.nv⟩
theorem ZC(p:aA)(i:Nat)(e:ak){s:pZ}(h:CS0 s):CS0 (eU p i e s):=by
 unfold eU;split
 ·exact⟨h.rI,(by dsimp only;exact UA h.ev),(by dsimp only;exact UA h.nv)⟩
 ·split
  ·exact h
  ·dsimp only;split
   ·exact Qs ⟨h.rI,h.ev,h.nv⟩
   ·exact Qs h
theorem KI(p:aA):∀ (l:List ak) (i:Nat) (s:pZ),CS0 s→CS0 (jI p i l s)
 | [],_,_,h=>h
 | e::l,i,_,h=>KI p l (i+1) _ (ZC p i e h)
theorem Qw(p:aA)(n:Nat):bN (bn p n) 0=(0,true):=by
 have h:CS0 (bn p n):=KI p _ 0 cs0 ⟨rfl,rfl,rfl⟩;unfold bN;rw[h.ev,h.rI,h.nv];rfl
theorem BH{k:Int}:∀ (l:List aj) (f:Int→Option Bool),f k=some true→mV l f k=some true
 | [],_,h=>h
 | y::l,f,h=>by
  show mV l (ef f (eS y.cond) true) k=some true;refine BH l _ ?_;by_cases e:k=eS y.cond
  ·rw[e];exact gu
  ·rw[jP e];exact h
theorem Ew{r:aj}:∀ {l:List aj} (f:Int→Option Bool),r∈l→mV l f (eS r.cond)=some true
 | y::l,f,h=>by
  show mV l (ef f (eS y.cond) true) (eS r.cond)=some true;rcases awU.1 h with rfl|h
  ·exact BH l _ gu
  ·exact Ew _ h
theorem tK{k:Int}:∀ (l:List bE) (f:Int→Option Bool),f k=some true→oq l f k=some true
 | [],_,h=>h
 | y::l,f,h=>by
  show oq l (ef f (eS y.cond) true) k=some true;refine tK l _ ?_;by_cases e:k=eS y.cond
  ·rw[e];exact gu
  ·rw[jP e];exact h
theorem Ev{r:bE}:∀ {l:List bE} (f:Int→Option Bool),r∈l→oq l f (eS r.cond)=some true
 | y::l,f,h=>by
  show oq l (ef f (eS y.cond) true) (eS r.cond)=some true;rcases awU.1 h with rfl|h
  ·exact tK l _ gu
  ·exact Ev _ h
theorem wW{p:aA}{r:aj}(h:r∈p.rules):(iu p (eS r.cond)).getD false=true:=by
 unfold iu;rw[tK _ _ (Ew _ h)];rfl
theorem wV{p:aA}{r:bE}(h:r∈p.trans):(iu p (eS r.cond)).getD false=true:=by
 unfold iu;rw[Ev _ h];rfl
theorem jJ{p:aA}(hH:jo p){k:Int}(hb:-(p.conds.length:Int)≤k∧k≤p.conds.length)(hu:(iu p (eS k)).getD false=true):
 (-((bn p p.conds.length).kids.length:Int)≤(bN (bn p p.conds.length) k).1∧(bN (bn p p.conds.length) k).1≤(bn p p.conds.length).kids.length) ∧
 ∀ n,n<2^p.bools.length→Aw p.bools.length p.conds k n=((bN (bn p p.conds.length) k).2&&Aw p.bools.length (bn p p.conds.length).kids (bN (bn p p.conds.length) k).1 n):=by
 have hI:=adu hH p.conds.length (Nat.le_refl _);by_cases h0:k=0
 ·subst h0;rw[Qw];exact⟨⟨by simp,by simp⟩,fun n _=>by rw[vv,vv];rfl⟩
 obtain⟨j,hj⟩:∃ j:Nat,k=(j:Int)+1∨k=0-((j:Int)+1):=by
  rcases Int.lt_or_lt_of_ne h0 with h|h
  ·exact⟨(0-k-1).toNat,.inr (by omega)⟩
  ·exact⟨(k-1).toNat,.inl (by omega)⟩
 have hlt:j<p.conds.length:=by omega
 obtain⟨e,he⟩:∃ e,p.conds[j]?=some e:=⟨_,awI hlt⟩;have ha:eS k=(j:Int)+1:=by unfold eS;split<;>omega
 rw[ha] at hu;obtain⟨g1,g2⟩:=hI.ok j e hlt he hu;rcases hj with rfl|rfl
 ·exact⟨g1.bd,fun n hn=>by rw[Au he];exact g1.val n hn⟩
 ·exact⟨g2.bd,fun n hn=>by rw[Av he];exact g2.val n hn⟩
theorem fT.fC{p:aA}(h:fT p)(hH:jo p):fT (aR p):=by
 refine⟨h.bools,fun r hr=>?_,fun r hr=>?_,fun e he=>h.conds e (nu e he),fun r hr=>?_,fun y hy=>?_⟩
 ·obtain⟨x,hx,rfl⟩:=Fk hr;have:=h.rv x hx;exact⟨this.kind,this.cls,this.perms,this.pairs⟩
 ·obtain⟨x,hx,rfl⟩:=Fk hr;intro h4;have hc:=h.four x hx h4;show(bN _ x.cond).1=0;rw[hc,Qw]
 ·obtain⟨x,hx,rfl⟩:=Fk hr;exact(jJ hH (h.ny x hx) (wW hx)).1
 ·obtain⟨x,hx,rfl⟩:=Qr hy;exact(jJ hH (h.nw x hx) (wV hx)).1
theorem Kq{T C:Nat}{on on':aj→Bool}{f:aj→Option aj}:∀ (l:List aj) (out:List Int),(∀ r∈l,(f r=none∧on r=false)∨∃ k,f r=some { r with cond:=k }∧on' { r with cond:=k }=on r)→dV T C on' out (l.filterMap f)=dV T C on out l
 | [],_,_=>rfl
 | r::l,out,h=>by
  have ih:=fun out=>Kq (T:=T) (C:=C) l out fun x hx=>h x (aw1 _ hx)
  rw[List.filterMap_cons];rcases h r (awN ..) with⟨h1,h2⟩|⟨k,h1,h2⟩
  ·rw[h1];show dV T C on' out (l.filterMap f)=dV T C on (if on r=true then _ else out) l;rw[ih,h2,if_neg (by decide)]
  ·rw[h1];show dV T C on' (if on' { r with cond:=k }=true then oD T C { r with cond:=k } out r.pairs else out) (l.filterMap f)=dV T C on (if on r=true then oD T C r out r.pairs else out) l;rw[ih,h2];rfl
theorem Cw{p:aA}(h:fT p)(hH:jo p):fB (aR p)=fB p:=by
 have h':=h.fC hH;unfold fB;show(List.range (2^p.bools.length)).map (Ca (aR p))=_;refine List.map_congr_left fun n hn=>?_
 rw[List.mem_range] at hn;rw[FZ h',FZ h];refine Kq _ _ fun r hr=>?_
 have hv:=(jJ hH (h.ny r hr) (wW hr)).2 n hn;unfold cR
 cases hb:(bN (bn p p.conds.length) r.cond).2 with
 | false=>
  rw[hb,Bool.false_and] at hv;exact .inl ⟨if_neg (by decide),hv⟩
 | true=>
  rw[hb,Bool.true_and] at hv;exact .inr ⟨_,if_pos rfl,hv.symm⟩
theorem Ja{p:aA}(h:fT p){k:Int}(hk:-(p.conds.length:Int)≤k∧k≤p.conds.length):iZ p k=(List.range (2^p.bools.length)).map fun i=>Aw p.bools.length p.conds k i:=by
 unfold iZ;refine List.map_congr_left fun i _=>aah h.conds hk
theorem ze{p:aA}(h:fT p)(hH:jo p):gD (aR p)=gD p:=by
 have h':=h.fC hH;unfold gD;show(p.trans.filterMap (cT (bn p p.conds.length))).filterMap (qB (aR p))=_;rw[List.filterMap_filterMap];refine Ku _ fun y hy=>?_
 obtain⟨b1,b2⟩:=jJ hH (h.nw y hy) (wV hy);unfold cT
 have hw:iZ p y.cond=(List.range (2^p.bools.length)).map fun i=>((bN (bn p p.conds.length) y.cond).2&&Aw p.bools.length (bn p p.conds.length).kids (bN (bn p p.conds.length) y.cond).1 i):=by
  rw[Ja h (h.nw y hy)];exact List.map_congr_left fun i hi=>b2 i (List.mem_range.1 hi)
 cases hb:(bN (bn p p.conds.length) y.cond).2 with
 | false=>
  rw[if_neg (by decide)];unfold qB;rw[hw,hb,if_neg]
  ·rfl
  ·simp
 | true=>
  rw[if_pos rfl];show qB (aR p) _=_
  have hw2:iZ (aR p) (bN (bn p p.conds.length) y.cond).1=iZ p y.cond:=by
   rw[hw,hb,Ja h' (p:=aR p) b1];rfl
  unfold qB;dsimp only;rw[hw2]
theorem jo.fC{p:aA}(h:jo p):jo (aR p):=⟨h.b5,fun e he=>h.con e (nu e he)⟩
theorem R5{a b c:aj}(h:aC a b=some c):c.kind=a.kind:=by
 unfold aC at h
 repeat' split at h
 all_goals first|cases h|skip
 all_goals rfl
theorem fT.rj{p:aA}(h:fT p):fT (fL p):=
 ⟨h.bools,(Cr (on:=fun _=>true) h.rv fun _ _ _=>rfl).1,rY (J:=aC) (Q:=fun r=>r.kind=4→r.cond=0) (fun a b c ha _ h=>fun h4=>by
  have hk:=R5 h;rw[pN h];exact ha (by rw[← hk];exact h4)) h.four,h.conds,rY (J:=aC) (Q:=fun r=>-(p.conds.length:Int)≤r.cond∧r.cond≤p.conds.length) (fun a b c ha _ h=>by rw[pN h];exact ha) h.ny,h.nw⟩
theorem RF{p:aA}(h:fT p)(hH:jo p):fB (jx p)=fB p∧gD (jx p)=gD p∧fT (jx p):=by
 have h1:=h.fC hH;have H1:=hH.fC;have h2:=h1.wo (iM (aR p));have H2:jo (sO (aR p) (iM (aR p))):=⟨H1.b5,H1.con⟩;have h3:=h2.rj;have H3:jo (fL (sO (aR p) (iM (aR p)))):=⟨H2.b5,H2.con⟩;have m1:=Cw h hH;have m2:fB (sO (aR p) (iM (aR p)))=fB (aR p):=(EO h1 (vf (aR p))).2 (oB (Rx h1) _);have m3:=JU h2.rv;have m4:=Cw h3 H3;refine⟨m4.trans (m3.trans (m2.trans m1)),?_,h3.fC H3⟩;have t1:=ze h hH;have t4:=ze h3 H3;exact t4.trans t1
theorem Rk{p:aA}(h:fT p)(hH:jo p):UZ p (jx p)=true:=by
 obtain⟨h1,h2,-⟩:=RF h hH;unfold UZ;rw[show mJ (jx p)=mJ p from rfl,h1,h2,uU];simp
structure QJ (p:aA):Prop where
 hI:∀ b∈p.bools,iO b.name=true∧dw b.name
 hd:(p.bools.map (·.name)).Nodup
 b5:p.bools.length≤5
 c0:∀ e∈p.conds,cF p.bools.length e=0
theorem QJ.lv{p:aA}(h:QJ p){e:ak}(he:e∈p.conds):bw 13 e≤12:=by
 have:=h.c0 e he;unfold cF at this;split at this
 ·cases this
 ·omega
theorem QJ.cond{p:aA}(h:QJ p){e:ak}(he:e∈p.conds):eA p.bools.length e:=by
 have:=h.c0 e he;unfold cF at this;split at this
 ·cases this
 ·exact Dq e this
theorem QJ.be{p:aA}(h:QJ p){e:ak}(he:e∈p.conds):eV 12 (aI p.bools e)∧∀ s∈bf (aI p.bools e),s∈p.bools.map (·.name):=oF h.hI (h.cond he) 12 (h.lv he)
theorem QJ.aa5{p:aA}(h:QJ p):jo p:=⟨h.b5,fun _ he=>G5 h.hI h.hd h.b5 (h.cond he) (h.lv he)⟩
theorem WM{p:aA}(h:Ad p)(hok:p.Ok):QJ p:=by
 refine⟨yE h hok,E4 h,awR h.bools (by decide),fun e he=>?_⟩;have hc:=h.check;unfold iP at hc;split at hc
 case isFalse hne=>exact absurd hc hne
 rw[fG] at hc;have hr:eB p=0:=hc _ (by simp);unfold eB at hr;split at hr
 ·cases hr
 split at hr
 case isFalse _ hne=>exact absurd hr hne
 rename_i _ qX;rw[cI] at qX;obtain⟨i,hi⟩:=List.getElem?_of_mem he;have:=qX i (awP _) (by have:=(awL.1 hi).1;omega);unfold kA at this;rw[hi] at this;exact this
theorem SS{n:Nat}{e:ak}(h:eA n e):∀ k∈e.kids,eA n k:=by
 cases h with
 | bool _ _=>exact fun _ h=>by cases h
 | not h=>exact fun k hk=>by rw[awM.1 hk];exact h
 | bin _ _ h1 h2=>
  intro k hk;rcases awU.1 hk with rfl|hk
  ·exact h1
  ·rw[awM.1 hk];exact h2
theorem Xm{n:Nat}{e:ak}(h:eA n e):e.op=1→0≤e.a∧e.a<n:=by
 cases h with
 | bool h0 h1=>exact fun _=>⟨h0,h1⟩
 | not h=>exact fun h=>absurd (show(2:Int)=1 from h) (by decide)
 | @bin op _ _ _ _ _ _ _ h1 h2 _ _=>exact fun h=>by have h3:op=1:=h;omega
theorem SQ{n:Nat}{e:ak}(h:eA n e):e.kids.length≤2:=by
 cases h with
 | bool _ _=>exact awP _
 | not h=>exact Nat.le_succ _
 | bin _ _ _ _=>exact Nat.le_refl _
theorem I5(p:aA):∀ (e:ak) (w0:World) (cs:List Value),aZ w0 cs e→eA p.bools.length e→∀ (c0 c1 c2 c3 c4 c5 c6 c7 c8 c9 aQ aL aK aP aO aN aM:Value),aJ w0 c0 c1 c2 c3 c4 c5 c6 c7 c8 c9 aQ aL aK aP aO aN aM p→Calls Tryz.prog 237 #[.agg cs.toArray,.agg #[c0,c1,c2,c3,c4,c5,c6,c7,c8,c9,aQ,aL,aK,aP,aO,aN,aM]] w0 (fun(r:Ending) (w':World)=>∃ v,r=.returned v∧(wD w0 (aI p.bools e) v w'∧awX w0.heap.size w0 w')):=by
 refine ak.ind fun e ih=>?_
 intro w0 cs hE hC c0 c1 c2 c3 c4 c5 c6 c7 c8 c9 aQ aL aK aP aO aN aM hp;have hkl:=SQ hC;obtain⟨nv,kv,rfl,D7,hkv⟩:=hE.open;obtain⟨_,_,rfl,-⟩:=aF.get D7;obtain⟨_,_,rfl,-,hkm,-⟩:=aq.form hkv (by decide);obtain⟨_,_,_,_,_,_,_,_,_,_,_,_,_,_,_,_,_,_,_,_,_,_,_,_,_,_,_,_,_,_,_,_,_,_,rfl,rfl,rfl,rfl,rfl,rfl,rfl,rfl,rfl,rfl,rfl,rfl,rfl,rfl,rfl,rfl,rfl⟩:=hp.open;refine bP [] (fn:=Tryz.f237) Tryz.func237 rfl Tryz.ntmps237 rfl<|fun g1 w1 M1=>fun g2 w2 M2=>ei<|an sE fun g3 w3 M3=>lb 2<|an rfl<|an (fun h=>?_) fun h=>?_
 ·have h1:e.op=1:=by simpa using h
  obtain⟨h2,h3⟩:=Xm hC h1;obtain⟨y,hy⟩:∃ y,p.bools[e.a.toNat]?=some y:=⟨_,awI (by omega)⟩;obtain⟨b,o,e1,hc⟩:=SliceAt.elt hp.bools (fun _=>rfl) (by decide) hy (by omega);rw[PN h1 (k:=e.a.toNat) (by omega) (by omega) hy];exact sp [0,1,2,3,4,5,6,7,8] (.step 9 (.step 10 (.last 11))) [0,1] (by kernel_rfl)<|lb 0<|an rfl<|lb 1<|an rfl<|lb 0<|an rfl<|ia<|an ⟨e1,(Int.toNat_of_nonneg h2).symm,by omega⟩<|lc (x:=.string y.name)<|an (fun u hu=>bY hu hc 0 _ rfl)<|fun w hb M=>fun g w M=>an rfl<|ei (x:=.agg #[.int .i64 e.op,.int .i64 0,.int .i64 0,.int .i64 0,.slice (some ⟨g,0,none⟩) 1 1,.int .u64 0,.int .u64 0,.int .u64 0,.int .u64 0,.slice none 0 0])<|an (bd (by kernel_rfl))<|an rfl<|lb 1<|an ⟨rfl,rfl⟩ fun w M=>ei (x:=1)<|an rfl fun M=>⟨_,rfl,⟨_,_,_,_,[⟨.slice none 0 0,89,10,0,[]⟩,⟨.slice (some ⟨g,0,none⟩) 1 1,9,1,1,[.string y.name]⟩],rfl,bV.node (es:=[]) rfl rfl (aw1 _ (awM.2 rfl)) (awN ..) rfl (by simp) (by simp),((M.Dv 1 1 (by simp[maxLen]) rfl).bB 89 10).bC⟩,M.below⟩
 have h1:e.op≠1:=by simpa using h
 rw[Vm (fun h'=>h1 h'.1)];refine lb 2<|an rfl<|ei (x:=.agg #[.int .i64 e.op,.int .i64 0,.int .i64 0,.int .i64 0,.slice none 0 0,.int .u64 0,.int .u64 0,.int .u64 0,.int .u64 0,.slice none 0 0])<|an (bd (by kernel_rfl))<|ei<|an sE fun g5 w5 M5=>lb 0<|an ⟨rfl,rfl⟩ fun w6 M6=>?_
 refine lp (ι:=Nat×Value×List (List Value)×List Rw) (fun(m,u,es,T)=>[(6,.int .i64 (m:Int))]) (fun(m,u,es,T)=>(g5,89,#[.int .i64 e.op,.int .i64 0,.int .i64 0,.int .i64 0,.slice none 0 0,.int .u64 0,.int .u64 0,.int .u64 0,.int .u64 0,u])::_) (fun(m,u,es,T)=>⟨u,89,10,m,es.flatten⟩::⟨.slice none 0 0,9,1,0,[]⟩::T) (fun(m,u,es,T) _=>m≤e.kids.length∧es.length=m∧(∀ x∈es,x.length=10)∧∀ (i:Nat) x y,es[i]?=some x→(e.kids.map (aI p.bools))[i]?=some y→bV T x y) (fun(m,u,es,T)=>e.kids.length-m) (0,.slice none 0 0,[],[]) (an ⟨⟨rfl,trivial⟩,fun M=>⟨(M.bB 9 1).bB 89 10,awP _,rfl,(fun _ h=>by cases h),fun i x y h=>by simp at h⟩⟩ ?_);rintro⟨m,u,es,T⟩ w M ⟨hm,hl,he,hR⟩;refine lb 3<|an rfl<|an (fun h=>?_) fun h=>?_
 ·have hlt:m<e.kids.length:=by simp at h;omega
  obtain⟨y,hy⟩:∃ y,e.kids[m]?=some y:=⟨_,awI hlt⟩;have qV:=awH hy;obtain⟨b,o,_,e1,sy,hc⟩:=aq.elt hkv (by decide) hy;obtain⟨_,_,rfl,hn',hk'⟩:=sy.open;obtain⟨_,_,rfl,-⟩:=aF.get hn';obtain⟨_,_,rfl,-⟩:=aq.form hk' (by decide);refine sp [0,1,2,3,4,5,6,7,11] (.step 8 (.step 9 (.step 10 (.last 12)))) [0,1,3] (by kernel_rfl)<|lb 2<|an rfl<|lb 0<|an rfl<|ia<|an ⟨e1,rfl,hlt⟩<|lc<|an (fun u hu=>bY hu hc)<|lb 1<|an rfl<|fun w9 P8 M9=>cg<|an (ih y qV _ _ (sy.keep M9.below) (SS hC y qV) _ _ _ _ _ _ _ _ _ _ _ _ _ _ _ _ _ (hp.keep M9.below)) fun v qq ⟨⟨na,nc,ka,kc,T9,hv,E1,Gt⟩,z_⟩=>⟨_,_,M9.bQ z_ Gt,?_⟩
  subst hv;exact an rfl<|fun g7 zS M11=>an rfl<|Ej 0 id rfl (M11.slice 0 rfl (k:=10) (n:=1) rfl rfl (by simp[maxLen])) ⟨by unfold maxLen;omega,by omega⟩ fun va vc DZ Bn=>an rfl<|lb 1<|an ⟨rfl,rfl⟩ fun Jb wz=>an (by omega)<|bk (m+1,.slice va (m+1) vc,es++[[.int .i64 (aI p.bools y).op,.int .i64 (aI p.bools y).a,.int .i64 (aI p.bools y).rel,.int .i64 (aI p.bools y).b,.slice na (aI p.bools y).names.length nc,.int .u64 (aI p.bools y).set.a,.int .u64 (aI p.bools y).set.b,.int .u64 (aI p.bools y).set.c,.int .u64 (aI p.bools y).set.d,.slice ka (aI p.bools y).kids.length kc]],T++T9) ⟨rfl,trivial⟩ (fun M=>⟨(M.only (.cons _ (.refl _)) (.refl _)).cast rfl (by dsimp only;rw[← fN];rfl),by omega,by rw[awK,hl];rfl,jf he rfl,rS (R:=bV) (fun _ _ _ _ hs h=>bV.mono hs h) hl hR (Vn hy) (fun r hr=>awO.2 (.inl hr)) (E1.mono fun r hr=>awO.2 (.inr hr))⟩) (by dsimp only;omega)
 obtain rfl:m=e.kids.length:=by simp at h;omega
 obtain⟨x1,y1,rfl⟩:=M.form 0 rfl;refine lb 0<|an rfl<|lb 1<|an ⟨rfl,rfl⟩ fun w M=>ei (x:=1)<|an rfl fun M=>⟨_,rfl,⟨none,0,x1,y1,_,(by rw[show(ak.node e.op 0 0 0 [] ay.zero (e.kids.map (aI p.bools))).kids.length=e.kids.length from awJ ..];rfl),?_,M.bC⟩,M.below⟩
 rw[show(ak.node e.op 0 0 0 [] ay.zero (e.kids.map (aI p.bools))).kids.length=e.kids.length from awJ ..];exact bV.node (names:=[]) (set:=ay.zero) (es:=es) rfl rfl (aw1 _ (awN ..)) (by rw[awJ];exact awN ..) (by rw[awJ];exact hl) he fun i x y h1 h2=>(hR i x y h1 h2).mono fun r hr=>aw1 _ (aw1 _ hr)
theorem FT(p:aA)(e:ak)(w0:World)(cs:List Value)(hE:aZ w0 cs e)(h0:cF p.bools.length e=0)(hC:eA p.bools.length e)(c0 c1 c2 c3 c4 c5 c6 c7 c8 c9 aQ aL aK aP aO aN aM:Value)(hp:aJ w0 c0 c1 c2 c3 c4 c5 c6 c7 c8 c9 aQ aL aK aP aO aN aM p):Calls Tryz.prog 180 #[.agg cs.toArray,.agg #[c0,c1,c2,c3,c4,c5,c6,c7,c8,c9,aQ,aL,aK,aP,aO,aN,aM]] w0 (fun(r:Ending) (w':World)=>∃ v,r=.returned v∧(wD w0 (aI p.bools e) v w'∧awX w0.heap.size w0 w')):=by
 have hE0:=hE;obtain⟨nv,kv,rfl,D7,hkv⟩:=hE0.open;obtain⟨_,_,rfl,-⟩:=aF.get D7;obtain⟨_,_,rfl,-,hkm,-⟩:=aq.form hkv (by decide);have uG:=hp;obtain⟨_,_,_,_,_,_,_,_,_,_,_,_,_,_,_,_,_,_,_,_,_,_,_,_,_,_,_,_,_,_,_,_,_,_,rfl,rfl,rfl,rfl,rfl,rfl,rfl,rfl,rfl,rfl,rfl,rfl,rfl,rfl,rfl,rfl,rfl⟩:=hp.open;have hcall:=fun w hb=>tD e w _ _ _ _ _ _ _ _ _ _ _ _ _ _ _ _ _ _ p (uG.keep (w':=w) hb) (hE.keep hb)
 rw[h0] at hcall;refine bP [] (fn:=Tryz.f180) Tryz.func180 rfl Tryz.ntmps180 rfl<|fun g1 w1 M1=>fun g2 w2 M2=>ei<|an sE fun g3 w3 M3=>lb 1<|an rfl<|lb 2<|an rfl<|cl<|an (hcall _ M3.below) fun w4 M4=>an (fun h=>by simp at h) fun _=>lb 2<|an rfl<|lb 1<|an rfl<|cg<|an (I5 p e _ _ (hE.keep M4.below) hC _ _ _ _ _ _ _ _ _ _ _ _ _ _ _ _ _ (uG.keep M4.below)) fun v w5 ⟨⟨na,nc,ka,kc,T9,hv,E1,Gt⟩,CU⟩=>⟨_,_,M4.bQ CU Gt,?_⟩
 subst hv;exact lb 0<|an ⟨rfl,rfl⟩ fun w M=>ei (x:=0)<|an rfl fun M=>⟨_,rfl,⟨_,_,_,_,T9,rfl,E1,M.bC⟩,M.below⟩
theorem qQ{p:aA}(hk:QJ p){e:ak}(he:e∈p.conds)(w0:World)(cs:List Value)(hE:aZ w0 cs e)(c0 c1 c2 c3 c4 c5 c6 c7 c8 c9 aQ aL aK aP aO aN aM:Value)(hp:aJ w0 c0 c1 c2 c3 c4 c5 c6 c7 c8 c9 aQ aL aK aP aO aN aM p):Calls Tryz.prog 90 #[.agg #[c0,c1,c2,c3,c4,c5,c6,c7,c8,c9,aQ,aL,aK,aP,aO,aN,aM],.agg cs.toArray] w0 (fun(r:Ending) (w':World)=>∃ v,r=.returned v∧(wD w0 (aI p.bools e) v w'∧awX w0.heap.size w0 w')):=by
 have hE0:=hE;obtain⟨nv,kv,rfl,D7,hkv⟩:=hE0.open;obtain⟨_,_,rfl,-⟩:=aF.get D7;obtain⟨_,_,rfl,-,hkm,-⟩:=aq.form hkv (by decide);have uG:=hp;obtain⟨_,_,_,_,_,_,_,_,_,_,_,_,_,_,_,_,_,_,_,_,_,_,_,_,_,_,_,_,_,_,_,_,_,_,rfl,rfl,rfl,rfl,rfl,rfl,rfl,rfl,rfl,rfl,rfl,rfl,rfl,rfl,rfl,rfl,rfl⟩:=hp.open;refine bP [] (fn:=Tryz.f90) Tryz.func90 rfl Tryz.ntmps90 rfl<|fun g1 w1 M1=>fun g2 w2 M2=>ei<|an sE fun g3 w3 M3=>lb 1<|an rfl<|lb 2<|an rfl<|cg<|an (FT p e _ _ (hE.keep M3.below) (hk.c0 e he) (hk.cond he) _ _ _ _ _ _ _ _ _ _ _ _ _ _ _ _ _ (uG.keep M3.below)) fun v w5 ⟨⟨na,nc,ka,kc,T9,hv,E1,Gt⟩,CU⟩=>⟨_,_,M3.bQ CU Gt,?_⟩
 subst hv;exact lb 0<|an ⟨rfl,rfl⟩ fun w M=>ei (x:=0)<|an rfl fun M=>⟨_,rfl,⟨_,_,_,_,T9,rfl,E1,M.bC⟩,M.below⟩
theorem Uq{B:Nat}(hB:B≤5)(a b:ak):bJ (aG B) B a=bJ (aG B) B b↔∀ n,n<2^B→jH B n a=jH B n b:=by
 obtain⟨wa,ia⟩:=lN hB a;obtain⟨wb,ib'⟩:=lN hB b;constructor
 ·intro h n hn;have h1:=ia n;rw[h,ib' n,decide_eq_true hn,Bool.true_and,Bool.true_and] at h1;exact h1.symm
 ·intro h;refine yg wa.1 wb.1 fun r=>?_
  rw[ia,ib'];by_cases hr:r<2^B
  ·rw[h r hr]
  ·rw[decide_eq_false hr,Bool.false_and,Bool.false_and]
theorem Uo{B:Nat}(hB:B≤5)(a b:ak):bJ (aG B) B a=notM (aG B) (bJ (aG B) B b)↔∀ n,n<2^B→jH B n a=!jH B n b:=by
 obtain⟨wa,ia⟩:=lN hB a;obtain⟨wb,ib'⟩:=lN hB b;have hn:=tZ hB wb;constructor
 ·intro h n hlt;have h1:=ia n;rw[h,hn n,ib' n,decide_eq_true hlt,Bool.true_and,Bool.true_and,Bool.true_and] at h1;exact h1.symm
 ·intro h;refine yg wa.1 (dD _ _ _).1 fun r=>?_
  rw[ia,hn,ib'];by_cases hr:r<2^B
  ·rw[h r hr,decide_eq_true hr];simp
  ·rw[decide_eq_false hr,Bool.false_and,Bool.false_and]
theorem ZB(B i:Nat):Aa B (oH B i)=oH B i:=by
 unfold Aa
 conv=>rhs;unfold oH
 refine List.map_congr_left fun k hk=>?_
 have hk:=List.mem_range.1 hk;have h2:=Xj (n:=B) (i:=i) (a:=(k:Int)) (by omega) (by omega);rw[← show(k:Int).toNat=k from Int.toNat_natCast k];unfold XZ oH;rw[awQ,List.getElem?_range (by omega)];simp
theorem O5{n i:Nat}{e:ak}(h:eA n e):gB (oH n i) e=jH n i e:=by rw[← Uz h,ZB]
theorem Ch{p:aA}(hk:QJ p){x y:ak}(hx:x∈p.conds)(hy:y∈p.conds)(w0:World)(cs cs':List Value)(hE:aZ w0 cs x)(hE':aZ w0 cs' y)(c0 c1 c2 c3 c4 c5 c6 c7 c8 c9 aQ aL aK aP aO aN aM:Value)(hp:aJ w0 c0 c1 c2 c3 c4 c5 c6 c7 c8 c9 aQ aL aK aP aO aN aM p):Calls Tryz.prog 182 #[.agg #[c0,c1,c2,c3,c4,c5,c6,c7,c8,c9,aQ,aL,aK,aP,aO,aN,aM],.agg cs.toArray,.agg cs'.toArray] w0 (fun(r:Ending) (w':World)=>r=.returned (.bool (decide (bJ (aG p.bools.length) p.bools.length x=notM (aG p.bools.length) (bJ (aG p.bools.length) p.bools.length y))))∧awX w0.heap.size w0 w'):=by
 have CU:=hk.b5;rw[decide_eq_decide.2 (Uo CU x y)];have hcx:=hk.cond hx;have hcy:=hk.cond hy;have hE0:=hE;obtain⟨_,_,rfl,-⟩:=hE0.open;have hE0:=hE';obtain⟨_,_,rfl,-⟩:=hE0.open;have uG:=hp;obtain⟨_,_,_,_,_,_,_,_,_,_,_,_,_,_,_,_,_,_,_,_,_,_,_,_,_,_,_,_,_,_,_,_,_,_,rfl,rfl,rfl,rfl,rfl,rfl,rfl,rfl,rfl,rfl,rfl,rfl,rfl,rfl,rfl,rfl,rfl⟩:=hp.open;have Sh:=Q0 _ (show p.bools.length≤10 by omega);refine bP [] (fn:=Tryz.f182) Tryz.func182 rfl Tryz.ntmps182 rfl<|fun g1 w1 M1=>fun g2 w2 M2=>fun g3 w3 M3=>lr (ι:=Nat) (fun m=>[(7,.int .i64 (m:Int))]) (fun m _=>m≤2^p.bools.length∧∀ n,n<m→jH p.bools.length n x=!jH p.bools.length n y) (fun m=>2^p.bools.length-m) 0 (an ⟨⟨rfl,trivial⟩,fun M=>⟨M,awP _,fun n h=>absurd h (Nat.not_lt_zero n)⟩⟩ ?_)
 intro m w M ⟨hm,hI⟩;refine lb 2<|an rfl<|ei (x:=.int .i64 ((2^p.bools.length:Nat):Int))<|an (fun a w o ho hv=>?_)<|an (fun h=>?_) fun h M=>⟨?_,M.below⟩
 ·have:=ku (P:=Tryz.prog) (w:=w) ho (dU hv) (fE hv) (by omega) (by simp[IntKind.bits];omega);rw[this,FV (by omega)]
 ·have hlt:m<2^p.bools.length:=by simp only[decide_eq_true_eq] at h;omega
  refine lb 2<|an rfl<|cg<|an (Cn _ _ _ _ _ _ _ _ _ _ _ _ _ _ _ _ _ _ p m (uG.keep M.below) (by omega)) fun u w4 ⟨hS4,hb4⟩=>⟨_,_,M.keep hb4,?_⟩
  refine dr (by kernel_rfl)<|lb 1<|an rfl<|cl<|an (fun w' hb' M'=>qu x _ _ _ _ (hE.keep M'.below) (hS4.keep hb'))<|lb 0<|an rfl<|cl<|an (fun w' hb' M'=>qu y _ _ _ _ (hE'.keep M'.below) (hS4.keep hb'))<|fun w5 apU M5=>?_
  rw[O5 hcx,O5 hcy];refine an (fun h2 M=>⟨?_,M.below⟩) fun h2=>an (by omega)<|bk (m+1) ⟨rfl,trivial⟩ (fun M=>⟨M,by omega,fun n hn=>?_⟩) (by dsimp only;omega)
  ·rw[decide_eq_false (fun H=>by have:=H m hlt;rw[this] at h2;cases hv:jH p.bools.length m y<;>simp[hv] at h2)];rfl
  ·by_cases e:n=m
   ·subst e;cases h3:jH p.bools.length n x<;>cases h4:jH p.bools.length n y<;>simp[h3,h4] at h2 ⊢
   ·exact hI n (by omega)
 ·rw[decide_eq_true (fun n hn=>hI n (by simp only[decide_eq_false_iff_not] at h;omega))];rfl
theorem BG{k:Int}:∀ (l:List aj) (f:Int→Option Bool),((mV l f k).getD false=true↔(f k).getD false=true∨∃ r∈l,eS r.cond=k)
 | [],f=>by simp[mV]
 | y::l,f=>by
  have ih:=BG (k:=k) l (ef f (eS y.cond) true);rw[show mV (y::l) f=mV l (ef f (eS y.cond) true) from rfl,ih];by_cases e:k=eS y.cond
  ·rw[e,gu];simp
  ·rw[jP e];have e':¬ eS y.cond=k:=fun h=>e h.symm
   simp[e']
theorem BF{k:Int}:∀ (l:List bE) (f:Int→Option Bool),((oq l f k).getD false=true↔(f k).getD false=true∨∃ r∈l,eS r.cond=k)
 | [],f=>by simp[oq]
 | y::l,f=>by
  have ih:=BF (k:=k) l (ef f (eS y.cond) true);rw[show oq (y::l) f=oq l (ef f (eS y.cond) true) from rfl,ih];by_cases e:k=eS y.cond
  ·rw[e,gu];simp
  ·rw[jP e];have e':¬ eS y.cond=k:=fun h=>e h.symm
   simp[e']
theorem BD{p:aA}{k:Int}:(iu p k).getD false=true↔(∃ r∈p.rules,eS r.cond=k)∨∃ t∈p.trans,eS t.cond=k:=by
 unfold iu;rw[BF,BG];simp
theorem wu{c:Int}{i:Nat}:eS c=(i:Int)+1↔c=(i:Int)+1∨c=0-((i:Int)+1):=by
 unfold eS;split<;>omega
theorem Mi(w0:World)(c0 c1 c2 c3 c4 c5 c6 c7 c8 c9 aQ aL aK aP aO aN aM:Value)(p:aA)(hp:aJ w0 c0 c1 c2 c3 c4 c5 c6 c7 c8 c9 aQ aL aK aP aO aN aM p)(i:Nat)(hi:i≤100000)(hcR:∀ r∈p.rules,-1000000≤r.cond∧r.cond≤1000000)(hcT:∀ r∈p.trans,-1000000≤r.cond∧r.cond≤1000000):Calls Tryz.prog 91 #[.agg #[c0,c1,c2,c3,c4,c5,c6,c7,c8,c9,aQ,aL,aK,aP,aO,aN,aM],.int .i64 (i:Int)] w0 (fun(r:Ending) (w':World)=>r=.returned (.bool ((iu p ((i:Int)+1)).getD false))∧awX w0.heap.size w0 w'):=by
 have uG:=hp;obtain⟨_,_,-,-,hmR,-⟩:=SliceAt.form uG.rules (by decide);obtain⟨_,_,-,-,hmT,-⟩:=SliceAt.form uG.trans (by decide);obtain⟨_,_,_,_,_,_,_,_,_,_,_,_,_,_,_,_,_,_,_,_,_,_,_,_,_,_,_,_,_,_,_,_,_,_,rfl,rfl,rfl,rfl,rfl,rfl,rfl,rfl,rfl,rfl,rfl,rfl,rfl,rfl,rfl,rfl,rfl⟩:=hp.open;refine bP [] (fn:=Tryz.f91) Tryz.func91 rfl Tryz.ntmps91 rfl<|fun g1 w1 M1=>lr (ι:=Nat) (fun m=>[(5,.int .i64 (m:Int))]) (fun m _=>m≤p.rules.length∧∀ j r,j<m→p.rules[j]?=some r→eS r.cond≠(i:Int)+1) (fun m=>p.rules.length-m) 0 (an ⟨⟨rfl,trivial⟩,fun M=>⟨M,awP _,fun j r h=>absurd h (Nat.not_lt_zero j)⟩⟩ ?_)
 intro m w M ⟨hm,hI⟩;refine lb 0<|an rfl<|an (fun h=>?_) fun h=>?_
 ·have hlt:m<p.rules.length:=by simp at h;omega
  obtain⟨y,hy⟩:∃ y,p.rules[m]?=some y:=⟨_,awI hlt⟩;obtain⟨b,o,e,hc⟩:=SliceAt.elt uG.rules (fun _=>rfl) (by decide) hy hlt;have qV:=awH hy;have hcy:=hcR y qV;refine lb 0<|an rfl<|ia<|an ⟨e,rfl,hlt⟩<|lc (x:=.int .i64 y.cond)<|an (bY M.below hc 12 _ rfl)<|an (by omega)<|lb 0<|an (fun _=>rfl)<|ia<|an (fun _=>⟨e,rfl,hlt⟩)<|lc (x:=.int .i64 y.cond)<|an (fun _=>bY M.below hc 12 _ rfl)<|an (fun _=>by omega)<|an (fun _=>by omega)<|an (fun h2 M=>⟨rb ?_,M.below⟩) fun h2=>an (by omega)<|bk (m+1) ⟨rfl,trivial⟩ (fun M=>⟨M,by omega,fun j r h3 h4=>?_⟩) (by dsimp only;omega)
  ·exact BD.2 (.inl ⟨y,qV,(wu (i:=i)).2 (by simp only[Bool.or_eq_true,decide_eq_true_eq] at h2;omega)⟩)
  ·by_cases ej:j=m
   ·subst ej;obtain rfl:y=r:=awS (hy.symm.trans h4);rw[Ne,wu];simp only[Bool.or_eq_false_iff,decide_eq_false_iff_not] at h2;omega
   ·exact hI j r (by omega) h4
 obtain rfl:m=p.rules.length:=by simp at h;omega
 refine lr (ι:=Nat) (fun m=>[(6,.int .i64 (m:Int))]) (fun m _=>m≤p.trans.length∧∀ j r,j<m→p.trans[j]?=some r→eS r.cond≠(i:Int)+1) (fun m=>p.trans.length-m) 0 (an ⟨⟨rfl,trivial⟩,fun M=>⟨M,awP _,fun j r h=>absurd h (Nat.not_lt_zero j)⟩⟩ ?_);intro m w M ⟨hm,hI2⟩;refine lb 0<|an rfl<|an (fun h=>?_) fun h=>?_
 ·have hlt:m<p.trans.length:=by simp at h;omega
  obtain⟨y,hy⟩:∃ y,p.trans[m]?=some y:=⟨_,awI hlt⟩;obtain⟨b,o,e,hc⟩:=SliceAt.elt uG.trans (fun _=>rfl) (by decide) hy hlt;have qV:=awH hy;have hcy:=hcT y qV;refine lb 0<|an rfl<|ia<|an ⟨e,rfl,hlt⟩<|lc (x:=.int .i64 y.cond)<|an (bY M.below hc 12 _ rfl)<|an (by omega)<|lb 0<|an (fun _=>rfl)<|ia<|an (fun _=>⟨e,rfl,hlt⟩)<|lc (x:=.int .i64 y.cond)<|an (fun _=>bY M.below hc 12 _ rfl)<|an (fun _=>by omega)<|an (fun _=>by omega)<|an (fun h2 M=>⟨rb ?_,M.below⟩) fun h2=>an (by omega)<|bk (m+1) ⟨rfl,trivial⟩ (fun M=>⟨M,by omega,fun j r h3 h4=>?_⟩) (by dsimp only;omega)
  ·exact BD.2 (.inr ⟨y,qV,(wu (i:=i)).2 (by simp only[Bool.or_eq_true,decide_eq_true_eq] at h2;omega)⟩)
  ·by_cases ej:j=m
   ·subst ej;obtain rfl:y=r:=awS (hy.symm.trans h4);rw[Ne,wu];simp only[Bool.or_eq_false_iff,decide_eq_false_iff_not] at h2;omega
   ·exact hI2 j r (by omega) h4
 obtain rfl:m=p.trans.length:=by simp at h;omega
 refine fun M=>⟨rb ?_,M.below⟩
 symm
 cases hu:(iu p ((i:Int)+1)).getD false with
 | false=>rfl
 | true=>
  exfalso;rcases BD.1 hu with⟨r,hr,h1⟩|⟨r,hr,h1⟩
  ·obtain⟨j,hj⟩:=List.getElem?_of_mem hr;exact hI j r (awL.1 hj).1 hj h1
  ·obtain⟨j,hj⟩:=List.getElem?_of_mem hr;exact hI2 j r (awL.1 hj).1 hj h1
abbrev II:=Bool×Bool×Int
def aaR(f:II):List Value:=[.bool f.1,.bool f.2.1,.int .i64 f.2.2]
def YF(f:II):Int×Bool:=if f.1=true then (0,f.2.1) else (f.2.2,true)
def YS(f:II):Int×Bool:=if f.1=true then (0,!f.2.1) else (0-f.2.2,true)
def XY(L:List II)(k:Int):Int×Bool:=
 if k=0 then (0,true) else if k<0 then ((L[(0-k-1).toNat]?).map YS).getD (0,true) else ((L[(k-1).toNat]?).map YF).getD (0,true)
abbrev dQ (p:aA) (e:ak):Int:=bJ (aG p.bools.length) p.bools.length e
def vN(p:aA)(m:Nat)(e:ak)(s:pZ):II:=
 if (fS (aI p.bools e)||oP (aI p.bools e))=true then (true,fS (aI p.bools e),0)
 else if (iu p ((m:Int)+1)).getD false=false then (false,false,0)
 else if f_ (dQ p e) (notM (aG p.bools.length) (dQ p e)) 0 s.seen=0 then (false,false,(s.seen.length:Int)+1) else (false,false,f_ (dQ p e) (notM (aG p.bools.length) (dQ p e)) 0 s.seen)
def jF(p:aA):Nat→List II
 | 0=>[]
 | m+1=>match p.conds[m]? with
  | some e=>jF p m++[vN p m e (bn p m)]
  | none=>jF p m
theorem jE{p:aA}{m:Nat}{e:ak}(he:p.conds[m]?=some e):jF p (m+1)=jF p m++[vN p m e (bn p m)]:=by rw[jF,he]
theorem E8{p:aA}{m:Nat}{e:ak}{s:pZ}{k:Int}(h1:k≠(m:Int)+1)(h2:k≠0-((m:Int)+1)):bN (eU p m e s) k=bN s k:=by
 unfold eU;split
 ·exact iQ rfl (by dsimp only;exact gT h1 h2) (by dsimp only;exact gT h1 h2)
 ·split
  ·rfl
  ·dsimp only;split
   ·exact iQ (by unfold dh;dsimp only;exact gT h1 h2) rfl rfl
   ·exact iQ (by unfold dh;dsimp only;exact gT h1 h2) rfl rfl
theorem J6{m:Nat}{s:pZ}{k0:Int}(hl1:s.ev ((m:Int)+1)=none∧s.nv ((m:Int)+1)=none)(hl2:s.ev (0-((m:Int)+1))=none∧s.nv (0-((m:Int)+1))=none):bN (dh m k0 s) ((m:Int)+1)=(k0,true)∧bN (dh m k0 s) (0-((m:Int)+1))=(0-k0,true):=by
 have hmm:(m:Int)+1≠0-((m:Int)+1):=by omega
 constructor
 ·unfold bN;rw[show(dh m k0 s).ev ((m:Int)+1)=none from hl1.1,show(dh m k0 s).nv ((m:Int)+1)=none from hl1.2,show(dh m k0 s).rI ((m:Int)+1)=some k0 by unfold dh;dsimp only;rw[jP hmm,gu]];rfl
 ·unfold bN;rw[show(dh m k0 s).ev (0-((m:Int)+1))=none from hl2.1,show(dh m k0 s).nv (0-((m:Int)+1))=none from hl2.2,show(dh m k0 s).rI (0-((m:Int)+1))=some (0-k0) by unfold dh;dsimp only;rw[gu]];rfl
theorem SN{p:aA}{m:Nat}{e:ak}{s:pZ}(hl1:s.rI ((m:Int)+1)=none∧s.ev ((m:Int)+1)=none∧s.nv ((m:Int)+1)=none)(hl2:s.rI (0-((m:Int)+1))=none∧s.ev (0-((m:Int)+1))=none∧s.nv (0-((m:Int)+1))=none):bN (eU p m e s) ((m:Int)+1)=YF (vN p m e s)∧bN (eU p m e s) (0-((m:Int)+1))=YS (vN p m e s):=by
 have hmm:(m:Int)+1≠0-((m:Int)+1):=by omega
 unfold eU vN;by_cases hc:(fS (aI p.bools e)||oP (aI p.bools e))=true
 ·rw[if_pos hc,if_pos hc];generalize fS (aI p.bools e)=A;constructor
  ·unfold bN;simp only[jP hmm,gu,hl1.1];cases A<;>rfl
  ·unfold bN;simp only[gu,hl2.1];cases A<;>rfl
 rw[if_neg hc,if_neg hc];by_cases hu:(iu p ((m:Int)+1)).getD false=false
 ·rw[if_pos hu,if_pos hu];constructor
  ·unfold bN;rw[hl1.1,hl1.2.1,hl1.2.2];rfl
  ·unfold bN;rw[hl2.1,hl2.2.1,hl2.2.2];rfl
 rw[if_neg hu,if_neg hu];dsimp only;by_cases hk:f_ (dQ p e) (notM (aG p.bools.length) (dQ p e)) 0 s.seen=0
 ·rw[if_pos hk,if_pos hk];exact J6 (s:={ s with seen:=s.seen++[dQ p e],kids:=s.kids++[e] }) hl1.2 hl2.2
 ·rw[if_neg hk,if_neg hk];exact J6 hl1.2 hl2.2
theorem ac5{p:aA}(hH:jo p):∀ m,m≤p.conds.length→(jF p m).length=m∧∀ (j:Nat) (f:II),(jF p m)[j]?=some f→bN (bn p m) ((j:Int)+1)=YF f∧bN (bn p m) (0-((j:Int)+1))=YS f
 | 0,_=>⟨rfl,fun j f h=>by simp[jF] at h⟩
 | m+1,hm=>by
  obtain⟨e,he⟩:∃ e,p.conds[m]?=some e:=⟨_,awI (by omega)⟩;obtain⟨i1,i2⟩:=ac5 hH m (by omega);have lo:=(adu hH m (by omega)).lo;refine⟨by rw[jE he,awK,i1];rfl,fun j f hj=>?_⟩;rw[jE he] at hj;rw[kW he];by_cases hjm:j<m
  ·rw[awV (by omega)] at hj;obtain⟨b1,b2⟩:=i2 j f hj;rw[E8 (by omega) (by omega),E8 (by omega) (by omega)];exact⟨b1,b2⟩
  ·have hj2:j=m:=by
    have:=(awL.1 hj).1;rw[awK,i1,List.length_singleton] at this;omega
   subst hj2;rw[awW (by omega),i1,Nat.sub_self] at hj;obtain rfl:=awS hj;exact SN (lo _ (by omega)) (lo _ (by omega))
theorem adx{p:aA}(hH:jo p){k:Int}(hk:-(p.conds.length:Int)≤k∧k≤p.conds.length):XY (jF p p.conds.length) k=bN (bn p p.conds.length) k:=by
 obtain⟨i1,i2⟩:=ac5 hH p.conds.length (Nat.le_refl _);unfold XY;by_cases h0:k=0
 ·rw[if_pos h0,h0,Qw]
 rw[if_neg h0];by_cases h1:k<0
 ·rw[if_pos h1];obtain⟨f,hf⟩:∃ f,(jF p p.conds.length)[(0-k-1).toNat]?=some f:=⟨_,awI (by omega)⟩;rw[hf];have:=(i2 _ f hf).2;rw[show(0:Int)-(((0-k-1).toNat:Int)+1)=k by omega] at this;exact this.symm
 ·rw[if_neg h1];obtain⟨f,hf⟩:∃ f,(jF p p.conds.length)[(k-1).toNat]?=some f:=⟨_,awI (by omega)⟩;rw[hf];have:=(i2 _ f hf).1;rw[show((k-1).toNat:Int)+1=k by omega] at this;exact this.symm
theorem G2{p:aA}:∀ m,m≤p.conds.length→(bn p m).seen=(bn p m).kids.map (dQ p)
 | 0,_=>rfl
 | m+1,hm=>by
  obtain⟨e,he⟩:∃ e,p.conds[m]?=some e:=⟨_,awI (by omega)⟩;have ih:=G2 (p:=p) m (by omega);rw[kW he];unfold eU;split
  ·exact ih
  ·split
   ·exact ih
   ·dsimp only;split
    ·show(bn p m).seen++[_]=((bn p m).kids++[e]).map (dQ p);rw[ih,aw0];rfl
    ·exact ih
theorem Qe{p:aA}(h:p.conds.length≤1000):∀ m,m≤p.conds.length→(bn p m).kids.length≤m∧∀ f∈jF p m,-2000≤f.2.2∧f.2.2≤2000
 | 0,_=>⟨Nat.le_refl _,fun f hf=>by cases hf⟩
 | m+1,hm=>by
  obtain⟨e,he⟩:∃ e,p.conds[m]?=some e:=⟨_,awI (by omega)⟩;obtain⟨i1,i2⟩:=Qe h m (by omega);have hs:(bn p m).seen.length=(bn p m).kids.length:=by rw[G2 m (by omega),awJ]
  constructor
  ·rw[kW he];unfold eU;split
   ·exact Nat.le_succ_of_le i1
   ·split
    ·exact Nat.le_succ_of_le i1
    ·dsimp only;split
     ·show((bn p m).kids++[e]).length≤m+1;rw[awK];exact Nat.succ_le_succ i1
     ·exact Nat.le_succ_of_le i1
  ·intro f hf;rw[jE he,awO,awM] at hf;rcases hf with hf|rfl
   ·exact i2 f hf
   ·unfold vN;split
    ·exact⟨show(-2000:Int)≤0 by decide,show(0:Int)≤2000 by decide⟩
    ·split
     ·exact⟨show(-2000:Int)≤0 by decide,show(0:Int)≤2000 by decide⟩
     ·split
      ·exact⟨by dsimp only;omega,by dsimp only;omega⟩
      ·rename_i hk;have:=CY (x:=dQ p e) (y:=notM (aG p.bools.length) (dQ p e)) (l:=(bn p m).seen) (i:=0) rfl hk;rcases this with⟨j,h1,h2⟩|⟨j,h1,h2⟩
       all_goals
        have:=(awL.1 h2).1;exact⟨by dsimp only;omega,by dsimp only;omega⟩
theorem tB(w0:World)(v:Value)(L:List II)(h0:SliceAt w0 v 3 L.length (L.flatMap aaR))(hL:∀ f∈L,-2000≤f.2.2∧f.2.2≤2000)(hl:L.length≤1000)(k:Int)(hk:-(L.length:Int)≤k∧k≤L.length):Calls Tryz.prog 93 #[v,.int .i64 k] w0 (fun(r:Ending) (w':World)=>r=.returned (.tuple #[.int .i64 (XY L k).1,.bool (XY L k).2])∧awX w0.heap.size w0 w'):=by
 obtain⟨_,_,rfl,-⟩:=SliceAt.form h0 (by decide);refine bP [] (fn:=Tryz.f93) Tryz.func93 rfl Tryz.ntmps93 rfl<|an (fun h M=>⟨?_,M.below⟩) fun h=>an (fun h1=>?_) fun h1=>?_
 ·have h:k=0:=by simpa using h
  unfold XY;rw[if_pos h];rfl
 all_goals
  simp only[decide_eq_true_eq,decide_eq_false_iff_not] at h h1
 ·obtain⟨f,hf⟩:∃ f,L[(0-k-1).toNat]?=some f:=⟨_,awI (by omega)⟩;have hb:=hL f (awH hf);obtain⟨b,o,e,hc⟩:=SliceAt.elt h0 (fun _=>rfl) (by decide) hf (by omega)
  have hM:XY L k=YS f:=by
   unfold XY;rw[if_neg h,if_pos h1,hf];rfl
  rw[hM];obtain⟨x,y,z⟩:=f;refine an (by omega)<|an (by omega)<|ia (i:=(0-k-1).toNat)<|an ⟨e,by omega,by omega⟩<|lc<|an (bY (awX.refl _ _) hc)<|ei<|an T5 fun g1 w1 M1=>lb 0<|an ⟨rfl,rfl⟩ fun w2 M2=>lb 0<|an rfl<|an (fun h2=>?_) fun h2=>?_
  ·have h2:x=true:=h2;subst h2;exact dr (by kernel_rfl)<|lb 0<|an rfl<|fun w hb M=>fun M=>⟨by cases y<;>rfl,M.below⟩
  ·have h2:x=false:=h2;subst h2;exact lb 0<|an rfl<|an (by dsimp only at hb ⊢;omega)<|fun M=>⟨congrArg (fun q:Int=>Ending.returned (.tuple #[.int .i64 q,.bool true])) (show -1*z=0-z by omega),M.below⟩
 ·obtain⟨f,hf⟩:∃ f,L[(k-1).toNat]?=some f:=⟨_,awI (by omega)⟩;have hb:=hL f (awH hf);obtain⟨b,o,e,hc⟩:=SliceAt.elt h0 (fun _=>rfl) (by decide) hf (by omega)
  have hM:XY L k=YF f:=by
   unfold XY;rw[if_neg h,if_neg h1,hf];rfl
  rw[hM];obtain⟨x,y,z⟩:=f;refine an (by omega)<|ia (i:=(k-1).toNat)<|an ⟨e,by omega,by omega⟩<|lc<|an (bY (awX.refl _ _) hc)<|ei<|an T5 fun g1 w1 M1=>lb 0<|an ⟨rfl,rfl⟩ fun w2 M2=>lb 0<|an rfl<|an (fun h2=>?_) fun h2=>?_
  ·have h2:x=true:=h2;subst h2;exact dr (by kernel_rfl)<|lb 0<|an rfl<|fun w hb M=>fun M=>⟨by cases y<;>rfl,M.below⟩
  ·have h2:x=false:=h2;subst h2;exact lb 0<|an rfl<|an (by dsimp only at hb ⊢;omega)<|fun M=>⟨congrArg (fun q:Int=>Ending.returned (.tuple #[.int .i64 q,.bool true])) (show 1*z=z by omega),M.below⟩
theorem NI{p:aA}(hk:QJ p){e:ak}(he:e∈p.conds)(w0:World)(cs:List Value)(hE:aZ w0 cs e)(c0 c1 c2 c3 c4 c5 c6 c7 c8 c9 aQ aL aK aP aO aN aM:Value)(hp:aJ w0 c0 c1 c2 c3 c4 c5 c6 c7 c8 c9 aQ aL aK aP aO aN aM p)(kids:List ak)(afH:∀ k∈kids,k∈p.conds)(kv:Value)(hkv:aq 10 (aZ w0) w0 kv kids)(hkl:kids.length≤1000):Calls Tryz.prog 92 #[.agg #[c0,c1,c2,c3,c4,c5,c6,c7,c8,c9,aQ,aL,aK,aP,aO,aN,aM],kv,.agg cs.toArray] w0 (fun(r:Ending) (w':World)=>r=.returned (.int .i64 (f_ (dQ p e) (notM (aG p.bools.length) (dQ p e)) 0 (kids.map (dQ p))))∧awX w0.heap.size w0 w'):=by
 have CU:=hk.b5;have Sm:(p.bools.map (·.name)).length≤5:=by rw[awJ];exact CU
 obtain⟨hBe,hne⟩:=hk.be he;have hE0:=hE;obtain⟨_,_,rfl,-⟩:=hE0.open;obtain⟨_,_,rfl,-⟩:=aq.form hkv (by decide);have uG:=hp;obtain⟨_,_,_,_,_,_,_,_,_,_,_,_,_,_,_,_,_,_,_,_,_,_,_,_,_,_,_,_,_,_,_,_,_,_,rfl,rfl,rfl,rfl,rfl,rfl,rfl,rfl,rfl,rfl,rfl,rfl,rfl,rfl,rfl,rfl,rfl⟩:=hp.open;refine bP [] (fn:=Tryz.f92) Tryz.func92 rfl Tryz.ntmps92 rfl<|fun g1 w1 M1=>fun g2 w2 M2=>lb 1<|an rfl<|lb 0<|an rfl<|cg<|an (qQ hk he _ _ (hE.keep M2.below) _ _ _ _ _ _ _ _ _ _ _ _ _ _ _ _ _ (uG.keep M2.below)) fun v w3 ⟨⟨na,nc,ka,kc,T9,hv,E1,Gt⟩,pQ⟩=>⟨_,_,M2.bQ pQ Gt,?_⟩
 subst hv;refine ei<|an sE fun g3 w4 M4=>lb 0<|an ⟨rfl,rfl⟩ fun w5 M5=>lr (ι:=Nat) (fun m=>[(8,.int .i64 (m:Int))]) (fun m _=>m≤kids.length∧f_ (dQ p e) (notM (aG p.bools.length) (dQ p e)) 0 (kids.map (dQ p))=f_ (dQ p e) (notM (aG p.bools.length) (dQ p e)) m ((kids.map (dQ p)).drop m)) (fun m=>kids.length-m) 0 (an ⟨⟨rfl,trivial⟩,fun M=>⟨M,awP _,rfl⟩⟩ ?_)
 intro m w M ⟨hm,hI⟩;refine an (fun h=>?_) fun h M'=>⟨ri (hI.trans (Qb (by rw[awJ];simp at h;omega))),M.below⟩
 have hlt:m<kids.length:=by simp at h;omega
 obtain⟨y,hy⟩:∃ y,kids[m]?=some y:=⟨_,awI hlt⟩;have V7:=afH y (awH hy);obtain⟨hBy,hny⟩:=hk.be V7;obtain⟨b,o,_,e1,sy,hc⟩:=aq.elt hkv (by decide) hy;obtain⟨nvy,kvy,rfl,hn',hk'⟩:=sy.open;obtain⟨_,_,rfl,-⟩:=aF.get hn';obtain⟨_,_,rfl,-⟩:=aq.form hk' (by decide);have hw:(kids.map (dQ p))[m]?=some (dQ p y):=by rw[awQ,hy];rfl
 have heq:SH (aI p.bools y) (aI p.bools e)=decide (dQ p y=dQ p e):=by
  rw[decide_eq_decide.2 (Uq CU y e),eq_comm,Bool.eq_iff_iff,decide_eq_true_eq];exact(W_ hk.hI hk.hd (hk.cond V7) (hk.cond he) (hk.lv V7) (hk.lv he)).symm
 have hcall:=fun w' cs cs' h1 h2=>Lq Sm (aI p.bools y) (aI p.bools e) w' cs cs' h1 h2 hBy hBe (Nat.le_refl _) (Nat.le_refl _) hny hne
 rw[heq] at hcall;refine spk [(7,28,.tuple #[.bool (decide (dQ p y=dQ p e)),.int .i64 0])] [0,1,2,3,4,6,8,9,10] (.step 5 (.step 7 (.step 11 (.step 12 .done)))) [0,2] (by rfl) (by kernel_rfl)<|lb 0<|an rfl<|ia<|an ⟨e1,rfl,hlt⟩<|lc<|an (fun u hb=>bY hb hc)<|lb 1<|an rfl<|fun w6 LH M6=>cg<|an (qQ hk V7 _ _ (sy.keep M6.below) _ _ _ _ _ _ _ _ _ _ _ _ _ _ _ _ _ (uG.keep M6.below)) fun v w7 ⟨⟨na2,nc2,ka2,kc2,T7,hv,hT7,hR7⟩,XR⟩=>⟨_,_,M6.keep XR,?_⟩
 subst hv;have M7:=M6.keep XR;refine an rfl<|cl<|an (hcall _ _ _ (bV.at_ hR7 hT7) (bV.at_ M7.bC E1)) fun w8 M8=>an rfl<|an rfl<|an rfl<|an rfl<|?_
 refine an (fun h1=>an (by omega) fun M=>⟨ri (hI.trans (aaP hw (by simpa using h1))),M.below⟩) fun h1=>?_
 have h1:dQ p y≠dQ p e:=by simpa using h1
 refine dr (by kernel_rfl)<|lb 2<|an rfl<|ia<|an ⟨e1,rfl,hlt⟩<|lc<|an (bY M8.below hc)<|lb 1<|an rfl<|cl<|an (fun w' hb' M'=>Ch hk V7 he _ _ _ (sy.keep M'.below) (hE.keep M'.below) _ _ _ _ _ _ _ _ _ _ _ _ _ _ _ _ _ (uG.keep M'.below))<|fun w9 P8 M9=>?_
 refine an (fun h2=>an (by omega)<|an (by omega) fun M=>⟨ri (by rw[hI,aaQ hw h1 (by simpa using h2)];omega),M.below⟩) fun h2=>?_
 exact an (by omega)<|bk (m+1) ⟨rfl,trivial⟩ (fun M=>⟨M,by omega,hI.trans (Kt hw h1 (by simpa using h2))⟩) (by dsimp only;omega)
theorem En.o{wb w:World}{p:aA}{v:Value}(h:En wb p v w):Em p v w:=by
 obtain⟨x0,n0,x1,n1,x2,n2,x3,n3,x4,n4,x5,n5,x6,n6,x7,n7,x8,n8,x9,n9,x10,n10,qh,n11,qg,n12,Lz,n13,Lx,n14,Lw,n15,Lv,n16,T,rfl,hT,hP⟩:=h;exact⟨_,_,_,_,_,_,_,_,_,_,_,_,_,_,_,_,_,rfl,hP _ _ hT⟩
theorem Em.same{w:World}{p q:aA}{u v:Value}(h:Em p u w)(k:Em q v w):Calls Tryz.prog 23 #[u,v] w fun r w'=>r=.returned (.bool (gU p q))∧awX w.heap.size w w':=by
 obtain⟨_,_,_,_,_,_,_,_,_,_,_,_,_,_,_,_,_,rfl,hP⟩:=h;obtain⟨_,_,_,_,_,_,_,_,_,_,_,_,_,_,_,_,_,rfl,hQ⟩:=k;exact oA _ _ _ _ _ _ _ _ _ _ _ _ _ _ _ _ _ _ _ _ _ _ _ _ _ _ _ _ _ _ _ _ _ _ _ p q hP hQ
theorem pW.wo{p:aA}(h:pW p)(o:List Int):pW (sO p o):={ h with rules:=fun r hr=>h.rules r (tF r hr) }
def ahR:Tr:=.alt (.step 1 (.alt (.step 3 (.step 5 (.step 6 (.step 7 (.step 8 (.step 10 .done)))))) (.step 5 (.step 3 (.step 6 (.step 7 (.step 8 (.step 10 .done)))))))) (.step 5 (.step 1 (.step 3 (.step 6 (.step 7 (.step 8 (.step 10 .done)))))))
theorem UG(o:List Nat):(UH o).flatMap anyI=ints o:=by
 unfold UH ints
 induction o with
 | nil=>rfl
 | cons a l ih=>rw[List.map_cons,List.flatMap_cons,ih];rfl
theorem Rz(w0:World)(c0 c1 c2 c3 c4 c5 c6 c7 c8 c9 aQ aL aK aP aO aN aM:Value)(p:aA)(hp:aJ w0 c0 c1 c2 c3 c4 c5 c6 c7 c8 c9 aQ aL aK aP aO aN aM p)(hS:pW p)(hsR:p.rules.length≤900):Calls Tryz.prog 29 #[.agg #[c0,c1,c2,c3,c4,c5,c6,c7,c8,c9,aQ,aL,aK,aP,aO,aN,aM]] w0 (fun(r:Ending) (w':World)=>∃ v,r=.returned v∧(w'.ownsRow w0.heap.size 3 1 v (iD p p.rules.length).length (ints (iD p p.rules.length))∧awX w0.heap.size w0 w')):=by
 obtain⟨_,_,_,_,_,_,_,_,_,_,_,_,_,_,_,_,_,_,_,_,_,_,_,_,_,_,_,_,_,_,_,_,_,_,rfl,rfl,rfl,rfl,rfl,rfl,rfl,rfl,rfl,rfl,rfl,rfl,rfl,rfl,rfl,rfl,rfl⟩:=hp.open;refine ahL [] [3] (fn:=Tryz.f29) Tryz.func29 rfl Tryz.ntmps29 rfl<|fun g1 w1 M1=>lb 0<|an rfl<|cg<|an (jR _ _ _ _ _ _ _ _ _ _ _ _ _ _ _ _ _ _ p (hp.keep M1.below) hS) fun um w2 ⟨ajz,hb2⟩=>⟨_,_,M1.keep hb2,?_⟩
 have hp2:=hp.keep (M1.keep hb2).below;have hc:=I_ ((M1.keep hb2).b 0 rfl);have h9:=hc 9 _ rfl;clear M1;refine lq (ι:=Nat×Value) (fun(m,u)=>[(3,u),(5,.int .i64 (m:Int))]) (fun(m,u)=>[⟨u,3,1,(iD p m).length,ints (iD p m)⟩]) (fun(m,u) w=>m≤p.rules.length) (fun(m,u)=>p.rules.length-m) (0,.slice none 0 0) (an ⟨⟨rfl,rfl,trivial⟩,fun M=>⟨M.bB 3 1,awP _⟩⟩ ?_);rintro⟨m,u⟩ w M hm;refine lc<|an (cell_later M.below h9)<|an (fun h=>?_) fun h=>?_
 ·have hlt:m<p.rules.length:=by simp at h;omega
  have hl:=JB p m;obtain⟨ua,uc,rfl⟩:=M.form 0 rfl;have hrow:∀ w' bs rs,aV w2.heap.size w2 w' bs (⟨.slice ua (iD p m).length uc,3,1,(iD p m).length,ints (iD p m)⟩::rs)→SliceAt w' (.slice ua (iD p m).length uc) 1 (iD p m).length (ints (iD p m)):=fun _ _ _ M=>SliceAt.bq (M.r 0 rfl) (vC _)
  have hbd:0+(iD p m).length≤maxLen∧(0+(iD p m).length)*8≤140737488355328:=⟨by unfold maxLen;omega,by omega⟩
  refine sp [0,2,4,9] ahR [] (by kernel_rfl)<|lc<|an (fun u hb=>bY hb hc)<|fun w3 pQ M3=>an
   (fun g2 w4 M4=>an rfl<|an
    (ap 0 (fun M=>M.vQ (k:=1)) rfl (hrow _ _ _ M4) hbd fun va w5 M5=>an rfl<|fun g4 w6 M6=>an rfl<|?_)
    (fun g4 w5 M5=>an rfl<|ap 0 (fun M=>(aV.swap M).vQ (k:=1)) rfl (hrow _ _ _ M5) hbd fun va w6 M6=>an rfl<|?_))
   (fun g4 w4 M4=>an rfl<|fun g2 w5 M5=>an rfl<|ap 0 (fun M=>M.vQ (k:=1)) rfl (hrow _ _ _ M5) hbd fun va w6 M6=>an rfl<|?_)
  all_goals
   refine Ej 0 id rfl (M6.slice 0 rfl (k:=1) (n:=1) rfl rfl (by simp[maxLen])) ⟨by unfold maxLen;omega,by omega⟩ fun va2 vc2 w7 M7=>an rfl<|cg<|an (DY w7 _ _ _ _ _ _ _ _ _ _ _ _ _ _ _ _ _ p (hp2.keep M7.below) (by omega) _ (UH (iD p m++[m])) ?_) fun vq w8 hQ=>?_
   ·rw[UG,show(UH (iD p m++[m])).length=0+(iD p m).length+1 by simp[UH],← su];exact SliceAt.bq (M7.r 0 rfl) (by have:=vC (iD p m++[m]);rw[← su] at this;exact this)
   ·obtain⟨⟨d0,d1,d2,d3,d4,d5,d6,d7,d8,d9,Bc,Bb,Ba,A_,A9,A8,AZ,rfl,hq⟩,Wq⟩:=hQ;refine⟨_,_,M7.keep Wq,an rfl<|cg<|an (jR _ _ _ _ _ _ _ _ _ _ _ _ _ _ _ _ _ _ _ hq (hS.wo _)) fun um2 w9 hM2=>?_⟩;obtain⟨hM2,P8⟩:=hM2;refine⟨_,_,(M7.keep Wq).keep P8,an rfl<|cl<|an (mW _ _ _ _ _ hM2 (ajz.keep ((M7.keep Wq).keep P8).below)) fun qq jZ=>an rfl<|an (fun hd=>?_) fun hd=>?_⟩
    ·have e1:iD p (m+1)=iD p m++[m]:=by rw[iD,if_pos (of_decide_eq_true hd)]
     exact fun g6 zS M11=>Ej 1 id rfl (M11.slice 0 rfl (k:=1) (n:=1) rfl rfl (by simp[maxLen])) ⟨by unfold maxLen;omega,by omega⟩ fun xa xc DZ Bn=>an (by omega)<|bk (m+1,.slice xa ((iD p m).length+1) xc) ⟨rfl,rfl,trivial⟩ (fun M=>⟨(M.only (List.nil_sublist _) (.cons _ (.refl _))).cast rfl (by dsimp only;rw[e1,← su,awK];rfl),by dsimp only;omega⟩) (by dsimp only;omega)
    ·have e1:iD p (m+1)=iD p m:=by rw[iD,if_neg (of_decide_eq_false hd)]
     exact an (by omega)<|bk (m+1,.slice ua (iD p m).length uc) ⟨rfl,rfl,trivial⟩ (fun M=>⟨(M.only (List.nil_sublist _) (.cons _ (.refl _))).cast rfl (by dsimp only;rw[e1]),by dsimp only;omega⟩) (by dsimp only;omega)
 ·obtain rfl:m=p.rules.length:=by simp at h;omega
  exact fun M=>⟨_,rfl,M.r 0 rfl,M.below⟩
theorem aZ.one{w:World}{cs:List Value}{e:ak}(h:aZ w cs e):∀ u∈cs,u.oneCell'=true:=by
 obtain⟨_,_,rfl,hn,hk⟩:=h.open;obtain⟨_,_,rfl,-⟩:=aF.get hn;obtain⟨_,_,rfl,-⟩:=aq.form hk (by decide);intro u hu;simp only[awU,List.not_mem_nil,or_false] at hu;rcases hu with rfl|rfl|rfl|rfl|rfl|rfl|rfl|rfl|rfl|rfl<;>rfl
theorem Da{u:World}{B:Nat}{kv:Value}{K:List ak}{es:List (List Value)}(ho:u.ownsRow B 89 10 kv K.length es.flatten)(hl:es.length=K.length)(hE:∀ (i:Nat) x y,es[i]?=some x→K[i]?=some y→aZ u x y):SliceAt u kv 10 K.length es.flatten:=SliceAt.bq ho fun v hv=>by
 obtain⟨x,hx,hvx⟩:=List.mem_flatten.1 hv;obtain⟨i,hi⟩:=List.getElem?_of_mem hx;obtain⟨y,hy⟩:∃ y,K[i]?=some y:=⟨_,awI (by rw[← hl];exact(awL.1 hi).1)⟩;exact(hE i x y hi hy).one v hvx
theorem SC{R:List Value→ak→Prop}{K:List ak}{es:List (List Value)}{x:List Value}{y:ak}(hl:es.length=K.length)(hE:∀ (i:Nat) x y,es[i]?=some x→K[i]?=some y→R x y)(h:R x y):∀ (i:Nat) x' y',(es++[x])[i]?=some x'→(K++[y])[i]?=some y'→R x' y':=fun i x' y' h1 h2=>by
 by_cases hi:i<es.length
 ·rw[awV hi] at h1;rw[awV (by omega)] at h2;exact hE i x' y' h1 h2
 ·have hi2:i=es.length:=by
   have:=(awL.1 h1).1;rw[awK,List.length_singleton] at this;omega
  subst hi2;rw[awW (Nat.le_refl _),Nat.sub_self] at h1;rw[awW (by omega),hl,Nat.sub_self] at h2;obtain rfl:=awS h1;obtain rfl:=awS h2;exact h
theorem MI{p:aA}{m:Nat}{e:ak}(he:p.conds[m]?=some e):(bn p (m+1)).kids=if (fS (aI p.bools e)||oP (aI p.bools e))=true then (bn p m).kids else if (iu p ((m:Int)+1)).getD false=false then (bn p m).kids else if f_ (dQ p e) (notM (aG p.bools.length) (dQ p e)) 0 (bn p m).seen=0 then (bn p m).kids++[e] else (bn p m).kids:=by
 rw[kW he];unfold eU;split
 ·rfl
 ·split
  ·rfl
  ·dsimp only;split<;>rfl
theorem E_(S:World→Prop)(w0:World)(c0 c1 c2 c3 c4 c5 c6 c7 c8 c9 aQ aL aK aP aO aN aM:Value)(p:aA)(hS:XF S c0 c1 c2 c3 c4 c5 c6 c7 c8 c9 aQ aL aK aP aO aN aM p)(h0:S w0)(hk:QJ p)(hcl:p.conds.length≤900)(hrl:p.rules.length≤100000)(Y9:p.trans.length≤100000)(hcR:∀ r∈p.rules,-(p.conds.length:Int)≤r.cond∧r.cond≤p.conds.length)(hcT:∀ r∈p.trans,-(p.conds.length:Int)≤r.cond∧r.cond≤p.conds.length):Calls Tryz.prog 35 #[.agg #[c0,c1,c2,c3,c4,c5,c6,c7,c8,c9,aQ,aL,aK,aP,aO,aN,aM]] w0 (fun(r:Ending) (w':World)=>∃ v,r=.returned v∧(XG S w0 (aR p) v w'∧awX w0.heap.size w0 w')):=by
 obtain⟨ec,vJ,he2,hKS⟩:=hS;have hp:=(hKS w0 h0).1;have hrw:aq 10 (fun x y=>∃ j:Nat,ec[j]?=some x∧p.conds[j]?=some y) w0 c8 p.conds:=⟨ec,vJ,he2,(hKS w0 h0).2.1,fun i x y a b=>⟨i,a,b⟩⟩;have hEc:∀ u,S u→∀ x y,(∃ j:Nat,ec[j]?=some x∧p.conds[j]?=some y)→aZ u x y:=fun u hu x y ⟨j,a,b⟩=>(hKS u hu).2.2 j x y a b
 have CU:=hk.b5;have Sm:(p.bools.map (·.name)).length≤5:=by rw[awJ];exact CU
 have ajj:∀ r∈p.rules,-1000000≤r.cond∧r.cond≤1000000:=fun r hr=>by have:=hcR r hr;omega
 have aji:∀ r∈p.trans,-1000000≤r.cond∧r.cond≤1000000:=fun r hr=>by have:=hcT r hr;omega
 have uG:=hp;obtain⟨a0,a1,a2,a3,a4,a5,a6,a7,a8,a9,TV,OG,a12,XE,OE,OD,OC,k0,k1,k2,k3,k4,k5,k6,k7,k8,k9,k10,k11,k12,k13,k14,k15,k16,rfl,rfl,rfl,rfl,rfl,rfl,rfl,rfl,rfl,rfl,rfl,rfl,rfl,rfl,rfl,rfl,rfl⟩:=hp.open;refine bP [] (fn:=Tryz.f35) Tryz.func35 rfl Tryz.ntmps35 rfl<|fun g1 w1 M1=>ei<|an kE fun g2 w2 M2=>lb 1<|an rfl<|ei<|an kE fun g3 w3 M3=>lb 0<|an ⟨rfl,rfl⟩ fun w4 M4=>lb 0<|an ⟨rfl,rfl⟩ fun w5 M5=>lb 0<|an ⟨rfl,rfl⟩ fun w6 M6=>lb 0<|an ⟨rfl,rfl⟩ fun w7 M7=>?_
 refine lp (ι:=Nat×Value×Value×List ak×List (List Value)×List II) (fun(m,kv,fv,K,es,F)=>[(4,fv),(5,.int .i64 (m:Int))]) (fun(m,kv,fv,K,es,F)=>(g3,39,#[.slice a0 p.classes.length k0,.slice a1 p.types.length k1,.slice a2 p.attrs.length k2,.slice a3 p.roles.length k3,.slice a4 p.users.length k4,.slice a5 p.bools.length k5,.slice a6 p.aW.length k6,.slice a7 p.cats.length k7,kv,.slice none 0 0,.slice none 0 0,.slice OG p.aS.length k11,.slice a12 p.ranges.length k12,.slice XE p.cons.length k13,.slice OE p.bL.length k14,.slice OD p.files.length k15,.slice OC p.asserts.length k16])::_) (fun(m,kv,fv,K,es,F)=>[⟨kv,89,10,K.length,es.flatten⟩,⟨fv,165,3,F.length,F.flatMap aaR⟩]) (fun(m,kv,fv,K,es,F) _=>m≤p.conds.length∧K=(bn p m).kids∧F=jF p m∧es.length=K.length∧(∀ x∈es,x.length=10)∧∀ (i:Nat) x y,es[i]?=some x→K[i]?=some y→∃ j:Nat,ec[j]?=some x∧p.conds[j]?=some y) (fun(m,kv,fv,K,es,F)=>p.conds.length-m) (0,.slice none 0 0,.slice none 0 0,[],[],[]) (an ⟨⟨rfl,rfl,trivial⟩,fun M=>⟨(M.bB 165 3).bB 89 10,awP _,rfl,rfl,rfl,(fun _ h=>by cases h),fun i x y h=>by simp at h⟩⟩ ?_);rintro⟨m,kv,fv,K,es,F⟩ w M ⟨hm,hK,hF,CS,vI,Sj⟩;obtain⟨hKb,hFb⟩:=Qe (p:=p) (by omega) m hm;rw[← hK] at hKb;have hFl:F.length=m:=by rw[hF];exact(ac5 hk.aa5 m hm).1
 refine lb 2<|an rfl<|an (fun h=>?_) fun h=>?_
 ·have hlt:m<p.conds.length:=by simp at h;omega
  obtain⟨y,hy⟩:∃ y,p.conds[m]?=some y:=⟨_,awI hlt⟩;have V7:=awH hy;obtain⟨hBy,hny⟩:=hk.be V7;obtain⟨b,o,_,e1,hxy,hc⟩:=aq.elt hrw (by decide) hy;have sy:=hEc w0 h0 _ _ hxy;obtain⟨nvy,kvy,rfl,hn',hk'⟩:=sy.open;obtain⟨_,_,rfl,-⟩:=aF.get hn';obtain⟨_,_,rfl,-⟩:=aq.form hk' (by decide);have acw:∀ k∈K,k∈p.conds:=fun k hkk=>nu k (by rw[hK] at hkk;exact hkk)
  have afs:(bn p m).seen=K.map (dQ p):=by rw[hK];exact G2 m hm
  have Sg:=MI hy;obtain⟨f0,hf0⟩:∃ f,vN p m y (bn p m)=f:=⟨_,rfl⟩;have hfm:=hf0;unfold vN at hfm;rw[afs] at Sg hfm;rw[awJ] at hfm;rw[← hK] at Sg;obtain⟨hcA,hcB⟩:=Xn hk.hI hk.hd CU (hk.cond V7) (hk.lv V7);have hcall:=fun w' cs h1=>DN Sm (aI p.bools y) w' cs h1 hBy (Nat.le_refl _) hny
  rw[hcB,hcA] at hcall;have hcs:fS (aI p.bools y)=true→(fS (aI p.bools y)||oP (aI p.bools y))=true:=fun h=>by rw[h];rfl
  generalize fS (aI p.bools y)=A at *;generalize (A||oP (aI p.bools y))=C at *;have aiG:=fun w' (hb:awX w0.heap.size w0 w')=>Mi w' _ _ _ _ _ _ _ _ _ _ _ _ _ _ _ _ _ p (uG.keep hb) m (by omega) ajj aji
  generalize (iu p ((m:Int)+1)).getD false=U at *;refine ei (x:=.agg #[.bool false,.bool false,.int .i64 0])<|an (bd (by kernel_rfl))<|ei<|an T5 fun g4 w8 M8=>lb 0<|an ⟨rfl,rfl⟩ fun w9 M9=>?_
  refine spk [(7,35,.tuple #[.bool A,.bool C])] [0,1,2,3,4,5,8,9,10,11,13] (.step 6 (.step 7 (.step 12 (.step 14 .done)))) [0] (by rfl) (by kernel_rfl)<|lb 0<|an rfl<|lb 0<|an rfl<|ia<|an ⟨e1,rfl,hlt⟩<|lc<|an (fun u hb=>bY hb hc)<|fun qq z_ jZ=>cg<|an (qQ hk V7 _ _ (sy.keep jZ.below) _ _ _ _ _ _ _ _ _ _ _ _ _ _ _ _ _ (uG.keep jZ.below)) fun v zS ⟨⟨na2,nc2,ka2,kc2,T7,hv,hT7,hR7⟩,yp⟩=>⟨_,_,jZ.keep yp,?_⟩
  subst hv;have M11:=jZ.keep yp;refine an rfl<|cl<|an (hcall _ _ (bV.at_ hR7 hT7)) fun DZ Bn=>an rfl<|an rfl<|lb 0<|an ⟨rfl,rfl⟩ fun Jb wz=>an rfl<|lb 0<|an ⟨rfl,rfl⟩ fun Uv IL=>an rfl<|?_
  clear M8 M9 jZ M11 Bn wz;refine lb 0<|an rfl<|lb 3<|an (fun _=>rfl)<|cl<|an (fun _=>aiG _ IL.below) fun O4 Fp=>?_
  refine an (fun h2=>?_) fun h2=>?_
  ·obtain⟨hC0,hU0⟩:C=false∧U=true:=by simpa using h2
   subst hC0 hU0;have hA0:A=false:=by cases A with|false=>rfl|true=>exact absurd (hcs rfl) (by decide)
   subst hA0;rw[if_neg (by decide),if_neg (by decide)] at Sg hfm;refine dr (by kernel_rfl)<|lb 3<|an rfl<|lb 1<|an rfl<|lb 3<|an rfl<|ia<|an ⟨e1,rfl,hlt⟩<|lc<|an (bY Fp.below hc)<|cl<|an (fun w' hb' M'=>NI hk V7 _ _ (sy.keep M'.below) _ _ _ _ _ _ _ _ _ _ _ _ _ _ _ _ _ (uG.keep M'.below) K acw kv ⟨es,CS,vI,Da (M'.r 0 rfl) CS fun i x y a b=>(hEc w0 h0 x y (Sj i x y a b)).keep M'.below,fun i x y a b=>(hEc w0 h0 x y (Sj i x y a b)).keep M'.below⟩ (by omega))<|fun X8 acG LI=>lb 0<|an ⟨rfl,rfl⟩ fun X7 XI=>?_
   generalize f_ (dQ p y) (notM (aG p.bools.length) (dQ p y)) 0 (K.map (dQ p))=kn at *;refine lb 0<|an rfl<|an (fun h3=>?_) fun h3=>?_
   ·have h3:kn=0:=by simpa using h3
    subst h3;rw[if_pos rfl] at Sg hfm;refine dr (by kernel_rfl)<|lb 1<|an rfl<|lb 3<|an rfl<|ia<|an ⟨e1,rfl,hlt⟩<|lc<|an (bY XI.below hc)<|.inl<|fun g5 w18 afX XH=>Ej 0 id rfl (XH.slice 0 rfl (k:=10) (n:=1) rfl rfl (by simp[maxLen])) ⟨by unfold maxLen;omega,by omega⟩ fun va vc w19 ZX=>?_
    exact lb 2<|an ⟨rfl,rfl⟩ fun w20 M20=>lb 2<|an rfl<|lb 1<|an ⟨rfl,rfl⟩ fun w21 M21=>lb 1<|an rfl<|fun g7 w22 M22=>ap 1 id rfl (M22.slice 0 rfl (k:=3) (n:=1) rfl rfl (by simp[maxLen])) ⟨by unfold maxLen;omega,by omega⟩ fun vb w23 M23=>an (by omega)<|bk (m+1,.slice va (K.length+1) vc,vb,K++[y],es++[_],F++[(false,false,(K.length:Int)+1)]) ⟨rfl,rfl,trivial⟩ (fun M=>⟨(M.only (.cons _ (.cons _ (.cons _ (.refl _)))) (.refl _)).cast rfl (by dsimp only;rw[← fN,awZ,awK,awK];rfl),by omega,Sg.symm,by rw[jE hy,hf0,← hfm,hF],by rw[awK,awK,CS];rfl,jf vI rfl,SC CS Sj hxy⟩) (by dsimp only;omega)
   ·have h3:kn≠0:=by simpa using h3
    rw[if_neg h3] at Sg hfm;exact lb 0<|an rfl<|fun g7 w22 M22=>ap 1 id rfl (M22.slice 0 rfl (k:=3) (n:=1) rfl rfl (by simp[maxLen])) ⟨by unfold maxLen;omega,by omega⟩ fun vb w23 M23=>an (by omega)<|bk (m+1,kv,vb,K,es,F++[(false,false,kn)]) ⟨rfl,rfl,trivial⟩ (fun M=>⟨(M.only (.cons _ (.cons _ (.refl _))) (.refl _)).cast rfl (by dsimp only;rw[awZ,awK];rfl),by omega,Sg.symm,by rw[jE hy,hf0,← hfm,hF],CS,vI,Sj⟩) (by dsimp only;omega)
  ·have hf:vN p m y (bn p m)=(C,A,0)∧(bn p (m+1)).kids=K:=by
    cases C with
    | true=>
     rw[if_pos rfl] at Sg hfm;exact⟨hf0.trans hfm.symm,Sg⟩
    | false=>
     have hU0:U=false:=by simpa using h2
     subst hU0;have hA0:A=false:=by cases A with|false=>rfl|true=>exact absurd (hcs rfl) (by decide)
     subst hA0;rw[if_neg (by decide),if_pos rfl] at Sg hfm;exact⟨hf0.trans hfm.symm,Sg⟩
   exact lb 0<|an rfl<|fun g7 w22 M22=>ap 1 id rfl (M22.slice 0 rfl (k:=3) (n:=1) rfl rfl (by simp[maxLen])) ⟨by unfold maxLen;omega,by omega⟩ fun vb w23 M23=>an (by omega)<|bk (m+1,kv,vb,K,es,F++[(C,A,0)]) ⟨rfl,rfl,trivial⟩ (fun M=>⟨(M.only (.cons _ (.cons _ (.refl _))) (.refl _)).cast rfl (by dsimp only;rw[awZ,awK];rfl),by omega,hf.2.symm,by rw[jE hy,hf.1,hF],CS,vI,Sj⟩) (by dsimp only;omega)
 obtain rfl:m=p.conds.length:=by simp at h;omega
 have hbf:∀ k:Int,-(p.conds.length:Int)≤k∧k≤p.conds.length→XY F k=bN (bn p p.conds.length) k:=fun k hk2=>by rw[hF];exact adx hk.aa5 hk2
 have agb:∀ f∈F,-2000≤f.2.2∧f.2.2≤2000:=by rw[hF];exact hFb
 have hres:aR p=KN p (bn p p.conds.length):=rfl;obtain⟨xa8,xc8,rfl⟩:=M.form 0 rfl;obtain⟨xaf,xcf,rfl⟩:=M.form 1 rfl;rw[hres];clear hF hFb h hres M1 M2 M3 M4 M5 M6 M7;generalize bn p p.conds.length=sc at *;subst hK;refine lp (ι:=Nat×Value×List aj) (fun(m,v,L)=>[(7,.int .i64 (m:Int))]) (fun(m,v,L)=>(g3,39,#[.slice a0 p.classes.length k0,.slice a1 p.types.length k1,.slice a2 p.attrs.length k2,.slice a3 p.roles.length k3,.slice a4 p.users.length k4,.slice a5 p.bools.length k5,.slice a6 p.aW.length k6,.slice a7 p.cats.length k7,.slice xa8 sc.kids.length xc8,v,.slice none 0 0,.slice OG p.aS.length k11,.slice a12 p.ranges.length k12,.slice XE p.cons.length k13,.slice OE p.bL.length k14,.slice OD p.files.length k15,.slice OC p.asserts.length k16])::_) (fun(m,v,L)=>⟨v,56,13,L.length,L.flatMap aj.cells⟩::_) (fun(m,v,L) _=>m≤p.rules.length∧L=(p.rules.take m).filterMap (cR sc)) (fun(m,v,L)=>p.rules.length-m) (0,.slice none 0 0,[]) (an ⟨⟨rfl,trivial⟩,fun M=>⟨M.bB 56 13,awP _,rfl⟩⟩ ?_);clear M;rintro⟨m,v,L⟩ w M ⟨hm,hL⟩;refine lb 2<|an rfl<|an (fun h=>?_) fun h=>?_
 ·have hlt:m<p.rules.length:=by simp at h;omega
  obtain⟨y,hy⟩:∃ y,p.rules[m]?=some y:=⟨_,awI hlt⟩;obtain⟨b,o,e,hc⟩:=SliceAt.elt uG.rules (fun _=>rfl) (by decide) hy hlt;have hcb:=hcR y (awH hy);have hfl:=Gz (f:=cR sc) p.rules m;rw[← hL] at hfl;refine lb 2<|an rfl<|ia<|an ⟨e,rfl,hlt⟩<|lc (x:=.int .i64 y.cond)<|an (bY M.below hc 12 _ rfl)<|cl<|an (tB _ _ F (SliceAt.bq (M.r 2 rfl) (dA fun _=>rfl)) agb (by omega) y.cond (by rw[hFl];exact hcb)) fun w2 M2=>?_
  rw[hbf _ hcb];exact an (fun hb2=>lb 2<|an rfl<|ia<|an ⟨e,rfl,hlt⟩<|lc<|an (bY M2.below hc)<|ei<|an mP fun g5 w3 M3=>lb 0<|an ⟨rfl,rfl⟩ fun w4 M4=>lb 0<|an ⟨rfl,rfl⟩ fun w5 M5=>lb 1<|an rfl<|lb 0<|an rfl<|fun g6 w6 M6=>Ej 0 id rfl (M6.slice 0 rfl (k:=13) (n:=1) rfl rfl (by simp[maxLen])) ⟨by unfold maxLen;omega,by omega⟩ fun va vc w7 M7=>lb 2<|an ⟨rfl,rfl⟩ fun w8 M8=>an (by omega)<|bk (m+1,.slice va (L.length+1) vc,L++[{ y with cond:=(bN sc y.cond).1 }]) ⟨rfl,trivial⟩ (fun M=>⟨(M.only (.cons _ (.cons _ (.refl _))) (.refl _)).cast rfl (by dsimp only;rw[awK,awZ];rfl),by omega,by rw[Gy hy (show cR sc y=some { y with cond:=(bN sc y.cond).1 } by unfold cR;rw[if_pos hb2]),hL]⟩) (by dsimp only;omega)) fun hb2=>an (by omega)<|bk (m+1,v,L) ⟨rfl,trivial⟩ (fun M=>⟨M.only (.refl _) (.refl _),by omega,by rw[Qc hy (show cR sc y=none by unfold cR;rw[if_neg (by rw[hb2];decide)]),hL]⟩) (by dsimp only;omega)
 obtain rfl:m=p.rules.length:=by simp at h;omega
 rw[awY] at hL;subst hL;obtain⟨xa9,xc9,rfl⟩:=M.form 0 rfl;clear h hm;refine lp (ι:=Nat×Value×List bE) (fun(m,v,L)=>[(11,.int .i64 (m:Int))]) (fun(m,v,L)=>(g3,39,#[.slice a0 p.classes.length k0,.slice a1 p.types.length k1,.slice a2 p.attrs.length k2,.slice a3 p.roles.length k3,.slice a4 p.users.length k4,.slice a5 p.bools.length k5,.slice a6 p.aW.length k6,.slice a7 p.cats.length k7,.slice xa8 sc.kids.length xc8,.slice xa9 (p.rules.filterMap (cR sc)).length xc9,v,.slice OG p.aS.length k11,.slice a12 p.ranges.length k12,.slice XE p.cons.length k13,.slice OE p.bL.length k14,.slice OD p.files.length k15,.slice OC p.asserts.length k16])::_) (fun(m,v,L)=>⟨v,84,13,L.length,L.flatMap bE.cells⟩::_) (fun(m,v,L) _=>m≤p.trans.length∧L=(p.trans.take m).filterMap (cT sc)) (fun(m,v,L)=>p.trans.length-m) (0,.slice none 0 0,[]) (an ⟨⟨rfl,trivial⟩,fun M=>⟨M.bB 84 13,awP _,rfl⟩⟩ ?_);clear M;rintro⟨m,v,L⟩ w M ⟨hm,hL⟩;refine lb 2<|an rfl<|an (fun h=>?_) fun h=>?_
 ·have hlt:m<p.trans.length:=by simp at h;omega
  obtain⟨y,hy⟩:∃ y,p.trans[m]?=some y:=⟨_,awI hlt⟩;obtain⟨b,o,e,hc⟩:=SliceAt.elt uG.trans (fun _=>rfl) (by decide) hy hlt;have hcb:=hcT y (awH hy);have hfl:=Gz (f:=cT sc) p.trans m;rw[← hL] at hfl;refine lb 2<|an rfl<|ia<|an ⟨e,rfl,hlt⟩<|lc (x:=.int .i64 y.cond)<|an (bY M.below hc 12 _ rfl)<|cl<|an (tB _ _ F (SliceAt.bq (M.r 3 rfl) (dA fun _=>rfl)) agb (by omega) y.cond (by rw[hFl];exact hcb)) fun w2 M2=>?_
  rw[hbf _ hcb];exact an (fun hb2=>lb 2<|an rfl<|ia<|an ⟨e,rfl,hlt⟩<|lc<|an (bY M2.below hc)<|ei<|an LK fun g5 w3 M3=>lb 0<|an ⟨rfl,rfl⟩ fun w4 M4=>lb 0<|an ⟨rfl,rfl⟩ fun w5 M5=>lb 1<|an rfl<|lb 0<|an rfl<|fun g6 w6 M6=>Ej 0 id rfl (M6.slice 0 rfl (k:=13) (n:=1) rfl rfl (by simp[maxLen])) ⟨by unfold maxLen;omega,by omega⟩ fun va vc w7 M7=>lb 2<|an ⟨rfl,rfl⟩ fun w8 M8=>an (by omega)<|bk (m+1,.slice va (L.length+1) vc,L++[{ y with cond:=(bN sc y.cond).1 }]) ⟨rfl,trivial⟩ (fun M=>⟨(M.only (.cons _ (.cons _ (.refl _))) (.refl _)).cast rfl (by dsimp only;rw[awK,awZ];rfl),by omega,by rw[Gy hy (show cT sc y=some { y with cond:=(bN sc y.cond).1 } by unfold cT;rw[if_pos hb2]),hL]⟩) (by dsimp only;omega)) fun hb2=>an (by omega)<|bk (m+1,v,L) ⟨rfl,trivial⟩ (fun M=>⟨M.only (.refl _) (.refl _),by omega,by rw[Qc hy (show cT sc y=none by unfold cT;rw[if_neg (by rw[hb2];decide)]),hL]⟩) (by dsimp only;omega)
 obtain rfl:m=p.trans.length:=by simp at h;omega
 rw[awY] at hL;subst hL;obtain⟨ahH,ahG,rfl⟩:=M.form 0 rfl
 exact lb 0<|an rfl<|lb 1<|an ⟨rfl,rfl⟩ fun w M=>ei (x:=1)<|an rfl fun M=>⟨_,rfl,⟨_,_,_,_,_,_,_,_,_,_,_,_,_,_,_,_,_,_,rfl,M.bC,es,CS,vI,fun u ⟨hu,B,hT⟩=>by
  have hEs:∀ (i:Nat) x y,es[i]?=some x→sc.kids[i]?=some y→aZ u x y:=fun i x y a b=>hEc u hu x y (Sj i x y a b)
  have hsl:=Da (hT.1 _ (awH (i:=2) rfl)) CS hEs;exact⟨{ (hKS u hu).1 with conds:=⟨es,CS,vI,hsl,hEs⟩,rules:=SliceAt.bq (hT.1 _ (awH (i:=1) rfl)) (dA fun _=>rfl),trans:=SliceAt.bq (hT.1 _ (awH (i:=0) rfl)) (dA fun _=>rfl) },hsl,hEs⟩⟩,M.below⟩
theorem pW.fC{p:aA}(h:pW p)(hT:fT (aR p))(hc:LJ (aR p)):pW (aR p):=⟨h.bools,awR hc.conds (by decide),h.types,h.classes,fun r hr=>⟨hT.rv r hr,hc.ok.rules r hr⟩⟩
theorem ZO(x y b:Nat):sK (x|||y) b=sK x b|||sK y b:=Nat.and_or_distrib_right ..
theorem Ep{x y A:ay}(h:x.within A=true)(k:y.within A=true):(x.or y).within A=true:=by
 unfold ay.within at *;rw[decide_eq_true_eq] at *
 have e:(x.or y).minus A=(x.minus A).or (y.minus A):=by
  unfold ay.minus ay.or;simp only[ZO]
 rw[e,h,k];rfl
theorem some_or{x y:ay}(h:dF x=true):dF (x.or y)=true:=by
 unfold dF at *;rw[Bool.not_eq_true',decide_eq_false_iff_not] at *;intro e;refine h ?_;obtain⟨a,b,c,d⟩:=x;obtain⟨a',b',c',d'⟩:=y;unfold ay.or ay.zero at e;simp only[ay.mk.injEq] at e;obtain⟨e1,e2,e3,e4⟩:=e;unfold ay.zero;rw[(Nat.or_eq_zero_iff.1 e1).1,(Nat.or_eq_zero_iff.1 e2).1,(Nat.or_eq_zero_iff.1 e3).1,(Nat.or_eq_zero_iff.1 e4).1]
theorem Vh{x y:Int}(hx:qj x)(hy:qj y):∃ a b:Nat,x=(a:Int)∧y=(b:Int)∧bits .or .u32 x y=((a|||b:Nat):Int):=by
 obtain⟨a,rfl⟩:=Int.eq_ofNat_of_zero_le hx.1;obtain⟨b,rfl⟩:=Int.eq_ofNat_of_zero_le hy.1;refine⟨a,b,rfl,rfl,?_⟩;rw[zo,BitVec.ofInt_natCast,BitVec.ofInt_natCast,BitVec.toNat_or,BitVec.toNat_ofNat,BitVec.toNat_ofNat,Nat.mod_eq_of_lt (by have:=hx.2;omega),Nat.mod_eq_of_lt (by have:=hy.2;omega)]
structure RuR (nT:Nat) (cl:List jL) (r:aj):Prop where
 kind:¬ r.kind<1∧¬ 4<r.kind
 src:r.src.within (ay.all nT)=true
 tgt:r.tgt.within (ay.all nT)=true
 vec:fH cl r.cls r.perms=true
 abH:dF r.src=true
 abE:dF r.tgt=true∨r.self=true
 perms:r.perms≠0
 four:r.kind=4→r.cond=0
 w:qj r.perms
theorem JA{nT nC:Nat}{cl:List jL}{r:aj}(hw:qj r.perms):zm nT nC cl r=0↔RuR nT cl r∧kB nC r.cond=true:=by
 unfold zm;constructor
 ·intro h;split at h
  ·cases h
  rename_i h1;split at h
  ·cases h
  rename_i h2;split at h
  ·cases h
  rename_i h3;split at h
  ·cases h
  rename_i h4;simp only[Bool.not_eq_true] at h3 h4;unfold pF at h3;unfold rR at h4;simp only[Bool.or_eq_false_iff,Bool.and_eq_false_iff,Bool.not_eq_false',decide_eq_false_iff_not] at h3 h4;obtain⟨⟨⟨a1,a2⟩,a3⟩,a4⟩:=h3;obtain⟨⟨⟨b1,b2⟩,b3⟩,b4⟩:=h4
  exact⟨⟨⟨h1,h2⟩,a1,a2,a3,b1,b2,b3,fun k=>by
   rcases b4 with b4|b4
   ·exact absurd k b4
   ·simpa using b4,hw⟩,a4⟩
 ·rintro⟨h,hc⟩
  have e1:pF (r.src.within (ay.all nT)) (r.tgt.within (ay.all nT)) (fH cl r.cls r.perms) (kB nC r.cond)=false:=by
   unfold pF;rw[h.src,h.tgt,h.vec,hc];rfl
  have e2:rR (dF r.src) (dF r.tgt) r=false:=by
   unfold rR;rw[h.abH,decide_eq_false h.perms]
   have h1:(!dF r.tgt&&!r.self)=false:=by
    rcases h.abE with h2|h2<;>rw[h2]
    ·rfl
    ·cases dF r.tgt<;>rfl
   have h2:(decide (r.kind=4)&&!(decide (r.cond=0)))=false:=by
    by_cases k:r.kind=4
    ·rw[h.four k];simp
    ·rw[decide_eq_false k];rfl
   rw[h1,h2];rfl
  rw[if_neg h.kind.1,if_neg h.kind.2,if_neg (by rw[e1];decide),if_neg (by rw[e2];decide)]
theorem abv{cl:List jL}{c x y:Int}(hx:qj x)(hy:qj y)(h:fH cl c x=true)(k:fH cl c y=true):fH cl c (bits .or .u32 x y)=true:=by
 obtain⟨a,b,rfl,rfl,e⟩:=Vh hx hy;rw[e];unfold fH at *
 cases hc:(if 0≤c then cl[c.toNat]? else none) with
 | none=>rw[hc] at h;cases h
 | some z=>
  rw[hc] at h k;dsimp only at h k ⊢;rw[Bool.or_eq_true,decide_eq_true_eq,decide_eq_true_eq] at *;rcases h with h|h
  ·exact .inl h
  rcases k with k|k
  ·exact .inl k
  refine .inr ?_
  have cv:∀ u:Nat,((u:Int)/2^z.perms.length=0↔u<2^z.perms.length):=fun u=>by
   rw[show((u:Int)/2^z.perms.length)=((u/2^z.perms.length:Nat):Int) by simp,Int.natCast_eq_zero,Nat.div_eq_zero_iff];have:=Nat.two_pow_pos z.perms.length;omega
  rw[cv] at h k ⊢;exact Nat.or_lt_two_pow h k
theorem NK{nT:Nat}{cl:List jL}{a b c:aj}(ha:RuR nT cl a)(hb:RuR nT cl b)(h:aC a b=some c):RuR nT cl c:=by
 unfold aC at h;split at h
 ·cases h
 rename_i hne;simp only[Bool.not_eq_true,Bool.or_eq_false_iff,Bool.not_eq_false',decide_eq_true_eq] at hne;obtain⟨⟨⟨-,hcls⟩,-⟩,-⟩:=hne;split at h
 ·obtain rfl:=awS h;refine { ha with vec:=abv ha.w hb.w ha.vec (by rw[hcls];exact hb.vec),perms:=?_,w:=qp .or _ _ };obtain⟨x,y,e1,e2,e3⟩:=Vh ha.w hb.w;show bits .or .u32 a.perms b.perms≠0;rw[e3];intro e;have:x|||y=0:=by omega
  exact ha.perms (by rw[e1,(Nat.or_eq_zero_iff.1 this).1];rfl)
 ·split at h
  ·obtain rfl:=awS h;exact { ha with tgt:=Ep ha.tgt hb.tgt,abE:=ha.abE.imp some_or id }
  ·split at h
   ·obtain rfl:=awS h;exact { ha with src:=Ep ha.src hb.src,abH:=some_or ha.abH }
   ·cases h
theorem QZ{nT nC nK nK':Nat}{y:bE}{k:Int}(h:uO nT nC nK y=0)(hk:kB nK' k=true):uO nT nC nK' { y with cond:=k }=0:=by
 unfold uO at *;dsimp only;rw[hk];by_cases c1:y.kind<1
 ·rw[if_pos c1] at h;cases h
 rw[if_neg c1] at h ⊢;by_cases c2:3<y.kind
 ·rw[if_pos c2] at h;cases h
 rw[if_neg c2] at h ⊢;by_cases c3:y.src.within (ay.all nT)=false
 ·rw[if_pos c3] at h;cases h
 rw[if_neg c3] at h ⊢;by_cases c4:y.tgt.within (ay.all nT)=false
 ·rw[if_pos c4] at h;cases h
 rw[if_neg c4] at h ⊢;by_cases c5:bh y.cls (nC:Int)=false
 ·rw[if_pos c5] at h;cases h
 rw[if_neg c5] at h ⊢;by_cases c6:bh y.res (nT:Int)=false
 ·rw[if_pos c6] at h;cases h
 rw[if_neg c6] at h ⊢;by_cases c7:kB nK y.cond=false
 ·rw[if_pos c7] at h;cases h
 rw[if_neg c7] at h;rw[if_neg (by decide)];exact h
theorem PY{f:bE→Option bE}(hf:∀ x y,f x=some y→y.kind=x.kind)(k:Int):∀ l:List bE,bG (l.filterMap f) k≤bG l k
 | []=>Nat.le_refl _
 | x::l=>by
  have ih:=PY hf k l;rw[List.filterMap_cons];unfold bG at *
  cases e:f x with
  | none=>
   rw[List.filter_cons];dsimp only;split
   ·rw[List.length_cons];omega
   ·exact ih
  | some y=>
   dsimp only;rw[List.filter_cons,List.filter_cons,hf x y e];split
   ·rw[List.length_cons,List.length_cons];omega
   ·exact ih
structure Rt (q:aA):Prop where
 ux:q.conds.length≤64
 conds:∀ e∈q.conds,cF q.bools.length e=0
 lU:q.rules.length≤4096
 rules:∀ r∈q.rules,RuR q.types.length q.classes r∧kB q.conds.length r.cond=true
 trans:lT q=0
theorem ac4{p:aA}(h:Ad p)(hok:p.Ok):Rt p:=by
 have ck:=WM h hok;have hc:=h.check;unfold iP at hc;split at hc
 case isFalse hne=>exact absurd hc hne
 rw[fG] at hc;have hr:eB p=0:=hc _ (by simp);have ht:lT p=0:=hc _ (by simp);unfold eB at hr;split at hr
 ·cases hr
 rename_i hl;split at hr
 case isFalse _ hne=>exact absurd hr hne
 split at hr
 ·cases hr
 rename_i hl2;rw[cI] at hr;refine⟨by omega,ck.c0,by omega,fun r hr'=>?_,ht⟩;obtain⟨i,hi⟩:=List.getElem?_of_mem hr';have:=hr i (awP _) (by have:=(awL.1 hi).1;omega);unfold sZ at this;rw[hi] at this;exact(JA (hok.rules r hr').perms).1 this
theorem Rt.eB{q:aA}(h:Rt q):Proofs.YtdcofoaihmongaaGreat.eB q=0:=by
 unfold Proofs.YtdcofoaihmongaaGreat.eB;have hl:=h.ux;have hl2:=h.lU
 have h1:aH (kA q) q.conds.length 0=0:=by
  rw[cI];intro i _ hi;unfold kA;rw[awI (by omega)];exact h.conds _ (List.getElem_mem _)
 rw[if_neg (by omega),if_pos h1,if_neg (by omega),cI];intro i _ hi;unfold sZ;rw[awI (by omega)];have:=h.rules _ (List.getElem_mem (l:=q.rules) (n:=i) (by omega));exact(JA this.1.w).2 this
theorem KO{n:Nat}{k:Int}(h:-(n:Int)≤k∧k≤n):kB n k=true:=by
 unfold kB;rw[decide_eq_true h.1,decide_eq_true h.2];rfl
theorem Rt.fC{p:aA}(h:Rt p)(hT:fT p)(hH:jo p):Rt (aR p):=by
 have hkl:=Dm p p.conds.length;refine⟨awR ?_ h.ux,fun e he=>h.conds e (nu e he),awR (List.length_filterMap_le _ _) h.lU,fun r hr=>?_,?_⟩
 ·show(bn p p.conds.length).kids.length≤_;omega
 ·obtain⟨x,hx,rfl⟩:=Fk hr;obtain⟨hr1,-⟩:=h.rules x hx;exact⟨{ hr1 with four:=fun h4=>(by show(bN _ x.cond).1=0;rw[hr1.four h4,Qw]) },KO (jJ hH (hT.ny x hx) (wW hx)).1⟩
 ·have ht:=h.trans;unfold lT at ht ⊢;split at ht
  case isFalse=>cases ht
  rename_i hk
  have hf:∀ x y,cT (bn p p.conds.length) x=some y→y.kind=x.kind:=fun x y e=>by
   unfold cT at e;split at e
   ·obtain rfl:=awS e;rfl
   ·cases e
  have kk:=fun k=>PY hf k p.trans
  rw[if_pos ⟨awR (kk 1) hk.1,awR (kk 2) hk.2.1,awR (kk 3) hk.2.2⟩,cI];rw[cI] at ht;intro i _ hi;obtain⟨y,hy⟩:∃ y,(aR p).trans[i]?=some y:=⟨_,awI (by omega)⟩;unfold sU;rw[hy];obtain⟨x,hx,rfl⟩:=Qr (awH hy);obtain⟨j,hj⟩:=List.getElem?_of_mem hx;have h0:=ht j (awP _) (by have:=(awL.1 hj).1;omega);unfold sU at h0;rw[hj] at h0;exact QZ h0 (KO (jJ hH (hT.nw x hx) (wV hx)).1)
theorem Rt.wo{p:aA}(h:Rt p)(o:List Int):Rt (sO p o):=⟨h.ux,h.conds,awR (tG _) h.lU,fun r hr=>h.rules r (tF r hr),h.trans⟩
theorem Rt.rj{p:aA}(h:Rt p):Rt (fL p):=⟨h.ux,h.conds,awR (vw _ _) h.lU,rY (J:=aC) (Q:=fun r=>RuR p.types.length p.classes r∧kB p.conds.length r.cond=true) (fun _ _ _ ha hb h=>⟨NK ha.1 hb.1 h,by rw[pN h];exact ha.2⟩) h.rules,h.trans⟩
theorem Rt.opt{p:aA}(h:Rt p)(hT:fT p)(hH:jo p):Rt (jx p):=by
 have h1:=hT.fC hH;have H1:=hH.fC;have h2:=h1.wo (iM (aR p));exact((((h.fC hT hH).wo _).rj).fC h2.rj ⟨H1.b5,H1.con⟩)
theorem KT(p:aA)(c:List ak)(r:List aj)(t:List bE)(hc:iP p=0)(R:Rt { p with conds:=c,rules:=r,trans:=t }):iP { p with conds:=c,rules:=r,trans:=t }=0:=by
 unfold iP at hc ⊢;split at hc
 case isFalse hne=>exact absurd hc hne
 rename_i h3;rw[fG] at hc;have e3:nQ [jl { p with conds:=c,rules:=r,trans:=t },pq { p with conds:=c,rules:=r,trans:=t },pG { p with conds:=c,rules:=r,trans:=t }]=0:=h3;rw[if_pos e3,fG];intro x hx;simp only[awU,List.not_mem_nil,or_false] at hx;rcases hx with rfl|rfl|rfl|rfl|rfl|rfl|rfl|rfl
 ·exact hc (tI p) (by simp)
 ·exact hc (jQ p) (by simp)
 ·exact R.eB
 ·exact R.trans
 ·exact hc (eF p) (by simp)
 ·exact hc (vW p) (by simp)
 ·exact hc (jg p) (by simp)
 ·exact hc (oT p) (by simp)
theorem Vi(p:aA):jx p={ p with conds:=(jx p).conds,rules:=(jx p).rules,trans:=(jx p).trans }:=rfl
theorem S7{p:aA}(h:Ad p)(hok:p.Ok):iP (jx p)=0:=by
 obtain⟨tp,-⟩:=q7 h hok;have R:=(ac4 h hok).opt tp (yD h hok);rw[Vi] at R ⊢;exact KT p _ _ _ h.check R
theorem Ce(w0:World)(c0 c1 c2 c3 c4 c5 c6 c7 c8 c9 aQ aL aK aP aO aN aM:Value)(p:aA)(hp:aJ w0 c0 c1 c2 c3 c4 c5 c6 c7 c8 c9 aQ aL aK aP aO aN aM p)(fp:Ad p)(hop:p.Ok):Calls Tryz.prog 24 #[.agg #[c0,c1,c2,c3,c4,c5,c6,c7,c8,c9,aQ,aL,aK,aP,aO,aN,aM]] w0 (fun(r:Ending) (w':World)=>∃ v,r=.returned v∧(Em (jx p) v w'∧awX w0.heap.size w0 w')):=by
 obtain⟨tp,sp0⟩:=q7 fp hop;have zp:=fp.small.sizes;have cd:=WO fp hop;have ck:=WM fp hop;have hH:=yD fp hop;have t1:=tp.fC hH;have c1:=vZ cd;have s1:=sp0.fC t1 c1;have H1:=hH.fC;have t2:=t1.wo (iM (aR p));have c2:=aa6 c1 (iM (aR p));have t3:=t2.rj;have c3:=aa7 c2;have k3:QJ (fL (sO (aR p) (iM (aR p)))):=⟨ck.hI,ck.hd,ck.b5,fun e he=>ck.c0 e (nu e he)⟩;have hl1:(aR p).rules.length≤p.rules.length:=List.length_filterMap_le _ _;have hl2:(sO (aR p) (iM (aR p))).rules.length≤(aR p).rules.length:=tG _;have zr:=zp.rules;have eR:iD (aR p) (aR p).rules.length=vf (aR p):=Pw t1 _ (Nat.le_refl _);have hpS:=hp.aeO;obtain⟨_,_,_,_,_,_,_,_,_,_,_,_,_,_,_,_,_,_,_,_,_,_,_,_,_,_,_,_,_,_,_,_,_,_,rfl,rfl,rfl,rfl,rfl,rfl,rfl,rfl,rfl,rfl,rfl,rfl,rfl,rfl,rfl,rfl,rfl⟩:=hp.open;refine bP [] (fn:=Tryz.f24) Tryz.func24 rfl Tryz.ntmps24 rfl<|fun g1 w1 M1=>ei<|an kE fun g2 w2 M2=>lb 1<|an rfl<|cg<|an (E_ _ w2 _ _ _ _ _ _ _ _ _ _ _ _ _ _ _ _ _ p hpS M2.below ck cd.conds cd.rules cd.trans tp.ny tp.nw) fun v w3 ⟨⟨x0,x1,x2,x3,x4,x5,x6,x7,x8,x9,x10,qh,qg,Lz,Lx,Lw,Lv,T1,hv,hT1,hS1⟩,pQ⟩=>⟨_,_,M2.bQ pQ hT1,?_⟩
 subst hv;have M3:=M2.bQ pQ hT1;have ajt:=hS1;obtain⟨_,-,-,jq⟩:=ajt;have hq1:=(jq w3 ⟨M3.below,_,hT1⟩).1;obtain⟨_,_,_,_,_,_,_,_,_,_,_,_,_,_,_,_,_,_,_,_,_,_,_,_,_,_,_,_,_,_,_,_,_,_,rfl,rfl,rfl,rfl,rfl,rfl,rfl,rfl,rfl,rfl,rfl,rfl,rfl,rfl,rfl,rfl,rfl⟩:=hq1.open;refine ei<|an kE fun g3 w4 M4=>lb 0<|an ⟨rfl,rfl⟩ fun w5 M5=>?_
 refine sp [0,1] (.step 2 (.step 3 (.step 4 (.last 5)))) [2] (by kernel_rfl)<|lb 0<|an rfl<|lb 0<|an rfl<|fun w6 LH M6=>cg<|an (Rz _ _ _ _ _ _ _ _ _ _ _ _ _ _ _ _ _ _ (aR p) (jq _ ⟨M6.below,_,M6.bC⟩).1 s1 (by omega)) fun v w7 ⟨hr7,XR⟩=>⟨_,_,M6.keep XR,?_⟩
 rw[eR] at hr7;have M7:=M6.keep XR;refine an rfl<|cg<|an (yX _ _ _ _ _ _ _ _ _ _ _ _ _ _ _ _ _ _ _ (aR p) hS1 ⟨M7.below,_,M7.bC⟩ (by omega) _ (iM (aR p)) (EF hr7)) fun v w8 ⟨⟨y0,y1,y2,y3,y4,y5,y6,y7,y8,y9,uI,DS,DR,y13,y14,y15,y16,T2,hv,hT2,hS2⟩,Wq⟩=>⟨_,_,M7.bQ Wq hT2,?_⟩
 subst hv;have M8:=M7.bQ Wq hT2;refine an rfl<|cg<|an (Rp _ _ _ _ _ _ _ _ _ _ _ _ _ _ _ _ _ _ _ (sO (aR p) (iM (aR p))) hS2 ⟨⟨M8.below,_,M8.bC.left⟩,_,M8.bC.right⟩ c2.ok (by omega)) fun v w9 ⟨⟨z0,z1,z2,z3,z4,z5,z6,z7,z8,z9,z10,z11,z12,z13,z14,z15,z16,T3,hv,hT3,hS3⟩,P8⟩=>⟨_,_,M8.bQ P8 hT3,?_⟩
 subst hv;have M9:=M8.bQ P8 hT3;have ajs:=hS3;obtain⟨_,-,-,pR⟩:=ajs;have hq3:=(pR w9 ⟨⟨⟨M9.below,_,M9.bC.left.left⟩,_,M9.bC.left.right⟩,_,M9.bC.right⟩).1;obtain⟨_,_,_,_,_,_,_,_,_,_,_,_,_,_,_,_,_,_,_,_,_,_,_,_,_,_,_,_,_,_,_,_,_,_,rfl,rfl,rfl,rfl,rfl,rfl,rfl,rfl,rfl,rfl,rfl,rfl,rfl,rfl,rfl,rfl,rfl⟩:=hq3.open;refine an rfl<|lb 0<|an ⟨rfl,rfl⟩ fun qq jZ=>lb 0<|an rfl<|cg<|an (E_ _ qq _ _ _ _ _ _ _ _ _ _ _ _ _ _ _ _ _ _ hS3 ⟨⟨⟨jZ.below,_,jZ.bC.left.left⟩,_,jZ.bC.left.right⟩,_,jZ.bC.right⟩ k3 c3.conds c3.rules c3.trans t3.ny t3.nw) fun v zS ⟨⟨u0,u1,u2,u3,u4,u5,u6,u7,u8,u9,u10,u11,u12,u13,u14,u15,u16,T4,hv,hT4,hS4⟩,yp⟩=>⟨_,_,jZ.bQ yp hT4,?_⟩
 subst hv;have M11:=jZ.bQ yp hT4;obtain⟨_,-,-,p9⟩:=hS4;have hq4:=(p9 zS ⟨⟨⟨⟨M11.below,_,M11.bC.left.left.left⟩,_,M11.bC.left.left.right⟩,_,M11.bC.left.right⟩,_,M11.bC.right⟩).1;obtain⟨_,_,_,_,_,_,_,_,_,_,_,_,_,_,_,_,_,_,_,_,_,_,_,_,_,_,_,_,_,_,_,_,_,_,rfl,rfl,rfl,rfl,rfl,rfl,rfl,rfl,rfl,rfl,rfl,rfl,rfl,rfl,rfl,rfl,rfl⟩:=hq4.open;exact lb 1<|an ⟨rfl,rfl⟩ fun DZ Bn=>ei (x:=1)<|an rfl fun M=>⟨_,rfl,⟨_,_,_,_,_,_,_,_,_,_,_,_,_,_,_,_,_,rfl,(p9 _ ⟨⟨⟨⟨M.below,_,M.bC.left.left.left⟩,_,M.bC.left.left.right⟩,_,M.bC.left.right⟩,_,M.bC.right⟩).1⟩,M.below⟩
theorem UW(w0:World)(c0 c1 c2 c3 c4 c5 c6 c7 c8 c9 aQ aL aK aP aO aN aM:Value)(p:aA)(hp:aJ w0 c0 c1 c2 c3 c4 c5 c6 c7 c8 c9 aQ aL aK aP aO aN aM p)(hop:p.Ok):Calls Tryz.prog 4 #[.agg #[c0,c1,c2,c3,c4,c5,c6,c7,c8,c9,aQ,aL,aK,aP,aO,aN,aM]] w0 fun r w'=>r=.returned (.bool true)∧awX w0.heap.size w0 w':=by
 have uG:=hp;obtain⟨_,_,_,_,_,_,_,_,_,_,_,_,_,_,_,_,_,_,_,_,_,_,_,_,_,_,_,_,_,_,_,_,_,_,rfl,rfl,rfl,rfl,rfl,rfl,rfl,rfl,rfl,rfl,rfl,rfl,rfl,rfl,rfl,rfl,rfl⟩:=hp.open;refine bP [] (fn:=Tryz.f4) Tryz.func4 rfl Tryz.ntmps4 rfl<|fun g1 w1 M1=>lb 0<|an rfl<|cg<|an (Zu _ _ _ _ _ _ _ _ _ _ _ _ _ _ _ _ _ _ p (uG.keep M1.below) hop) fun v w2 hR=>?_
 obtain⟨⟨b,rfl,hb⟩,hB⟩:=hR;have M2:=M1.keep hB;refine⟨_,_,M2,an (fun h=>cl<|an (Fm _) fun w M=>fun M=>⟨rfl,M.below⟩) fun h=>?_⟩;have fp:=hb (by cases b<;>simp_all);obtain⟨tp,sm⟩:=q7 fp hop;have zp:=fp.small.sizes;obtain⟨o1,o2,o3,o4⟩:=Zt fp hop;have hH:=yD fp hop;have t1:=tp.fC hH;have H1:=hH.fC;have t3:=(t1.wo (iM (aR p))).rj;have cq:LJ (jx p):=vZ o4;have sq:pW (jx p):=pW.fC (((sm.fC t1 (vZ o1)).wo _).rj) (t3.fC ⟨H1.b5,H1.con⟩) cq;have hS:=Rk tp hH;have hC:=S7 fp hop;have lr1:(jx p).rules.length≤p.rules.length:=awR (List.length_filterMap_le _ _) (awR (vw _ _) (awR (tG _) (List.length_filterMap_le _ _)));have lt1:(jx p).trans.length≤p.trans.length:=awR (List.length_filterMap_le _ _) (List.length_filterMap_le _ _)
 have lc1:(jx p).conds.length≤p.conds.length:=by
  have h1:=Dm p p.conds.length;have h2:=Dm (fL (sO (aR p) (iM (aR p)))) (aR p).conds.length;have e1:(aR p).conds.length=(bn p p.conds.length).kids.length:=rfl;have e2:(jx p).conds.length=(bn (fL (sO (aR p) (iM (aR p)))) (aR p).conds.length).kids.length:=rfl;omega
 refine lb 0<|an rfl<|cg<|an (vu _ _ _ _ _ _ _ _ _ _ _ _ _ _ _ _ _ _ p (uG.keep M2.below) o1 o2 o3 o4) fun v w6 hQ=>?_
 obtain⟨⟨x0,n0,x1,n1,x2,n2,x3,n3,x4,n4,x5,n5,x6,n6,x7,n7,x8,n8,x9,n9,x10,n10,qh,n11,qg,n12,Lz,n13,Lx,n14,Lw,n15,Lv,n16,T,rfl,hT,hQ⟩,LH⟩:=hQ;refine⟨_,_,M2.bQ LH hT,ei<|an kE fun g2 w7 M7=>lb 0<|an ⟨rfl,rfl⟩ fun w8 M8=>?_⟩;refine dr (by kernel_rfl)<|lb 0<|an rfl<|lb 1<|an rfl<|cr (Em (jx p))<|an (Nx _)<|an (fun w' hb' M'=>Ce w' _ _ _ _ _ _ _ _ _ _ _ _ _ _ _ _ _ p (uG.keep M'.below) fp hop)<|cu<|an (fun u _ w' hb' M' hR=>Em.same ⟨_,_,_,_,_,_,_,_,_,_,_,_,_,_,_,_,_,rfl,hQ _ _ M'.bC⟩ hR)<|lb 1<|an (fun _=>rfl)<|lb 0<|an (fun _=>rfl)<|cl<|an (fun _ w' hb' M'=>Mz w' _ _ _ _ _ _ _ _ _ _ _ _ _ _ _ _ _ _ _ _ _ _ _ _ _ _ _ _ _ _ _ _ _ _ p (jx p) (uG.keep M'.below) (hQ _ _ M'.bC) sm sq (awR zp.trans (by decide)) (awR lt1 (awR zp.trans (by decide))) (fun y hy=>(hop.trans y hy).cond) (fun y hy=>(cq.ok.trans y hy).cond))<|lb 0<|an (fun _=>rfl)<|cl<|an (fun _ w' hb' M'=>Fe w' _ _ _ _ _ _ _ _ _ _ _ _ _ _ _ _ _ (jx p) (hQ _ _ M'.bC) cq.ok ⟨fp.small.few.types,fp.small.few.oW⟩)<|lb 0<|an (fun _=>rfl)<|lb 1<|an (fun _=>rfl)<|lb 0<|an (fun _=>rfl)<|lb 1<|an (fun _=>rfl)<|lb 0<|an (fun _=>rfl)<|lb 1<|an (fun _=>rfl)<|cl<|an (fun _ w' hb' M'=>Fm _)<|fun w9 P8 M9=>fun M=>⟨?_,M.below⟩
 rw[uU,hS,hC,decide_eq_true (show((jx p).rules.length:Int)≤p.rules.length by omega),decide_eq_true (show((jx p).conds.length:Int)≤p.conds.length by omega),decide_eq_true (show((jx p).trans.length:Int)≤p.trans.length by omega)];rfl
end Go.Proofs.YtdcofoaihmongaaGreat
namespace Go.Proofs.YtdcofoaihmongaaGreat
open Go
theorem dY{a b:Bool}(ha:a=true)(hb:b=true):(a&&b)=true:=by rw[ha,hb];rfl
theorem jp2:(mapsRowed Tryz.prog)=true:=by kernel_rfl
theorem jp6:((Tryz.prog.stops == []))=true:=by kernel_rfl
theorem jp8:((Tryz.prog.stopKnobs == []))=true:=by kernel_rfl
theorem aiv:(Tryz.prog.stopsHeard)=true:=by kernel_rfl
theorem aiu:(Tryz.prog.mayEnter)=true:=by kernel_rfl
end Go.Proofs.YtdcofoaihmongaaGreat

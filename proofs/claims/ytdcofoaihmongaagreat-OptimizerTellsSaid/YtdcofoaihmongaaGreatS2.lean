import Derived.Laws.BitsAllLaws
import Derived.Test.YtdcofoaihmongaaGreatS1
open Array renaming getD_eq_getD_getElem?→as0
open Bool renaming and_eq_true→asO
open Go renaming wp_cond_split→asZ,wpList_nil→as1,wp_seq_k→as2,cell_later→as4
open Go.Lib renaming hid→as3
open Go.RowKit renaming Below→asW
open List renaming mem_cons→asM,mem_cons_of_mem→asN,all_eq_true→asP,length_take→asQ,getElem?_map→asR,getElem?_eq_some_iff→asT,getElem?_eq_getElem→asU,mem_of_getElem?→asV,mem_cons_self→asX
open Nat renaming zero_le→asL,eq_of_beq_eq_true→asY
open Option.some renaming inj→asS
set_option maxRecDepth 100000
set_option maxHeartbeats 8000000
namespace Go.Proofs.YtdcofoaihmongaaGreat
open Go Go.RowKit
def slK:Nat→List Oper→(List Nat→Prop)→Prop
 | 0,_,f=>f []
 | k+1,o::r,f=>(match o.dst with|some d=>slK k r fun s=>f (d::s)|none=>False)
 | _+1,[],_=>False
theorem JZ:∀ {k:Nat} {L:List Oper} {f:List Nat→Prop},slK k L f→k≤L.length∧(L.take k).map (fun o=>o.dst)=(gX k L).map some∧f (gX k L)
 | 0,_,_,h=>⟨asL _,by simp[gX],by simpa[gX,slK] using h⟩
 | k+1,o::r,f,h=>by
  unfold slK at h;split at h
  ·rename_i d hd;obtain⟨h1,h2,h3⟩:=JZ h;have e:gX (k+1) (o::r)=d::gX k r:=by simp[gX,hd]
   rw[e];exact⟨by simpa using h1,by simp[hd,h2],h3⟩
  ·exact h.elim
 | _+1,[],_,h=>h.elim
def vr(B:Nat)(w0:World)(N:Nat)(L:List Oper)(l:Slots)(bs:List Bx)(rs:List Rw)(w:World)(K:Slots→List Bx→List Rw→World→Prop):Prop:=
 aec N L (dkN false [] L)=true∧slK (dkN false [] L) L fun ds=>UE ds l fun l'=>vd B w0 N l' bs rs w (vF B w0 N l' bs rs w K) (dkN false [] L) L 0 [] none [] false
section
variable {B:Nat} {w0 w:World} {N:Nat} {l:Slots} {bs:List Bx} {rs:List Rw} {K:Slots→List Bx→List Rw→World→Prop} {Q:Exit→Act→World→Prop} {a:Act} {id:Nat} {L:List Oper}
theorem PO{m:List fP}{n:Nat}(h:jm m n){d j:Nat}(hj:j<n)(hu:∀ e∈m,e.j≠j){v:Value}:jm (⟨d,j,[],true,v⟩::m) n:=by
 have key:∀ x,(∃ e∈m,e.j=x.1)→(Cond (⟨d,j,[],true,v⟩::m) x↔Cond m x):=fun x ⟨e',h4,h5⟩=>by
  constructor
  ·rintro⟨e,he,h1,h2,h3⟩;rcases asM.1 he with rfl|he
   ·exact absurd (h5.trans h1.symm) (hu e' h4)
   ·exact⟨e,he,h1,h2,h3⟩
  ·rintro⟨e,he,h1⟩;exact⟨e,asN _ he,h1⟩
 refine⟨?_,?_,?_,?_⟩
 ·intro e he;rcases asM.1 he with rfl|he
  ·exact hj
  ·exact h.lt e he
 ·intro e he e' he' hjj;rcases asM.1 he with rfl|he<;>rcases asM.1 he' with rfl|he'
  ·rfl
  ·exact absurd hjj.symm (hu e' he')
  ·exact absurd hjj (hu e he)
  ·exact h.uniq e he e' he' hjj
 ·intro e he x hx;rcases asM.1 he with rfl|he
  ·cases hx
  ·obtain⟨e',h1,h2⟩:=h.pm e he x hx;exact⟨e',asN _ h1,h2⟩
 ·intro e he;rcases asM.1 he with rfl|he
  ·simp
  ·rw[h.tv e he];exact⟨fun h' x hx=>(key x (h.pm e he x hx)).2 (h' x hx),fun h' x hx=>(key x (h.pm e he x hx)).1 (h' x hx)⟩
theorem abJ(F:Fs a N l)(M:bg B w0 w bs rs)(h:vr B w0 N L l bs rs w K)(next:∀ a l' bs' rs' w',Fs a N l'→bg B w0 w' bs' rs'→K l' bs' rs' w'→Q .normal a w'):(Code.region id L.toArray true).wp Tryz.prog Q a w:=by
 obtain⟨hok,h⟩:=h;obtain⟨hkl,hsl,h⟩:=JZ h;obtain⟨l',h,hlk⟩:=Ar h;generalize dkN false [] L=k at hok hkl hsl h hlk;generalize gi:gX k L=slots at hsl h hlk;unfold aec at hok;simp only[asO,decide_eq_true_eq,asP,gi] at hok;obtain⟨eM,htail,rP,jR,hbd,hnd⟩:=hok
 have hlen:slots.length=k:=by
  have:=congrArg List.length hsl;simp only[List.length_map,asQ] at this;omega
 have hat:∀ (i:Nat) (o:Oper),(L.take k)[i]?=some o→slots[i]?=o.dst:=fun i o hi=>by
  have h1:=congrArg (fun x=>x[i]?) hsl;simp only[asR,hi,Option.map_some] at h1
  cases hs:slots[i]? with
  | none=>rw[hs] at h1;cases h1
  | some s=>rw[hs] at h1;exact(asS h1).symm
 have qJ:∀ (i s:Nat),slots[i]?=some s→(L.toArray[i]?).bind (fun o=>o.dst)=some s:=fun i s hs=>by
  have hi:i<k:=hlen▸(asT.1 hs).1;have hiL:i<L.length:=Nat.lt_of_lt_of_le hi hkl;have h1:(L.take k)[i]?=some L[i]:=by rw[List.getElem?_take,if_pos hi,asU hiL]
  have h2:=hat i _ h1;rw[hs] at h2;simp[hiL,← h2]
 have hl':∀ q v,look q l'=some v→slots.contains q=false∧look q l=some v:=fun q v hq=>by
  rw[hlk] at hq
  cases hm:jr q slots with
  | true=>rw[hm] at hq;cases hq
  | false=>
   rw[hm] at hq;refine⟨?_,hq⟩
   cases hc:slots.contains q with
   | false=>rfl
   | true=>
    have:q∈slots:=by simpa using hc
    rw[mW.2 this] at hm;cases hm
 have F0:Fs a N l':=⟨F.fr,fun q v hq=>F.at_ q v (hl' q v hq).2⟩
 obtain⟨G,m,al,rel,us,hla,XS,hst,hF,hv⟩:=Xc (ops:=L.toArray) M hnd qJ (fun q v hq=>(hl' q v hq).1) F0 (gp:=[]) h ⟨⟨.nil 0,rfl,by simp⟩,(fun _ h=>by cases h),(fun _ _ i h=>absurd h (Nat.not_lt_zero i)),(fun _ h=>by cases h),.nil⟩
  (fun i o hi=>⟨jR o (asV hi),by rw[Nat.zero_add];exact hat i o hi⟩) hkl trivial
 rw[List.nil_append] at hla hst hF;rw[Nat.zero_add] at hF hv;refine oJ k slots G (asW w.heap.size w) (by kernel_rfl) eM htail hsl hnd (by simpa using hbd) (by rw[XS,hlen]) F.fr (Below.refl _ _).drew (fun _ _ h hb=>h.trans (hb.mono h.size)) hla ?_ ?_
 ·exact hst
 ·intro a' w' D;have hgood:∀ (i s:Nat) (g:Good),slots[i]?=some s→G[i]?=some g→∃ v,At a' s v∧g v w':=fun i s g hs hg=>D.done i rfl s g hs hg
  have I0:Inv L.toArray a' N l' m k:=by
   refine⟨D.fr,hF.D.L,fun e he=>qJ _ _ (hF.D.at_ e he).1,fun e he=>?_,fun q v _ hq=>D.rest q v (hl' q v hq).1 (F0.at_ q v hq)⟩;obtain⟨v,h1,rfl⟩:=hgood _ _ _ (hF.D.at_ e he).1 (hF.D.at_ e he).2;exact h1
  have hrest:∀ i o,(L.drop k)[i]?=some o→L.toArray[k+i]?=some o:=fun i o hi=>by simpa using hi
  have hput:∀ {m':List fP} {d j:Nat} {v:Value},Inv L.toArray a' N l' m' k→j<k→(∀ e∈m',e.j≠j)→slots[j]?=some d→At a' d v→Inv L.toArray a' N l' (⟨d,j,[],true,v⟩::m') k:=by
   intro m' d j v I0 c4 c5 c1 h1;refine⟨I0.fr,PO I0.L c4 c5,?_,?_,?_⟩
   ·intro e he;rcases asM.1 he with rfl|he
    ·exact qJ _ _ c1
    ·exact I0.dst e he
   ·intro e he;rcases asM.1 he with rfl|he
    ·exact h1
    ·exact I0.at_ e he
   ·intro q u hq hl;exact I0.base q u (fun e he=>hq e (asN _ he)) hl
  have hfin:∀ {rel':List kC} {m':List fP} {P:Option (World→Prop)} {f:List fP→Option (World→Prop)→Prop},Inv L.toArray a' N l' m' k→(∀ A∈rel',A.j<k∧slots[A.j]?=some A.d∧(∀ e∈m',e.j≠A.j)∧(∀ C,al=some C→C.j≠A.j)∧∃ u,At a' A.d u∧A.R u w')→(rel'.map (·.j)).Nodup→(∀ C,al=some C→∀ e∈m',e.j≠C.j)→(∀ p,P=some p→p w')→YL rel' m' P f →
   ∃ m'' P',f m'' P'∧(∀ p,P'=some p→p w')∧Inv L.toArray a' N l' m'' k∧∀ C,al=some C→∀ e∈m'',e.j≠C.j:=by
   intro rel'
   induction rel' with
   | nil=>intro m' P f I _ _ hC hP h;exact⟨m',P,h,hP,I,hC⟩
   | cons A r ih=>
    intro m' P f I hA hn hC hP h;obtain⟨d,j,R⟩:=A;obtain⟨hfr,h⟩:=bH h;obtain⟨b4,b1,b5,b6,u,k1,k2⟩:=hA _ (asX ..);rw[List.map_cons,List.nodup_cons] at hn;refine ih (hput I b4 b5 b1 k1) (fun A' hA'=>?_) hn.2 (fun C hC' e he=>?_) (fun p hp=>?_) (h u)
    ·obtain⟨c4,c1,c5,c6,c7⟩:=hA A' (asN _ hA');refine⟨c4,c1,fun e he=>?_,c6,c7⟩;rcases asM.1 he with rfl|he
     ·exact fun e=>hn.1 (List.mem_map.2 ⟨A',hA',e.symm⟩)
     ·exact c5 e he
    ·rcases asM.1 he with rfl|he
     ·exact fun e=>b6 C hC' e.symm
     ·exact hC C hC' e he
    ·cases P with
     | none=>obtain rfl:=asS hp;exact k2
     | some q=>obtain rfl:=asS hp;exact⟨k2,hP q rfl⟩
  obtain⟨m',P',k1,k2,I1,hC⟩:=hfin I0 (fun A hA=>by
   obtain⟨b1,b2,b4,b5,b6⟩:=hF.Ke A hA;exact⟨b4,b1,b5,b6,hgood _ _ _ b1 b2⟩) hF.vC (fun C hC e he=>(hF.al_ C hC).2.2.2.2 e he) (fun _ h=>by cases h) hv
  cases al with
  | none=>exact Dr hrest I1 (M.keep D.inv) (tN (k1 w') k2 D.inv (M.keep D.inv)) next
  | some A=>
   obtain⟨d,j,ty,cs,s⟩:=A;obtain⟨c1,c2,c3,c4,c5⟩:=hF.al_ _ rfl;obtain⟨hfr,k1⟩:=bH k1;obtain⟨v,h1,g,rfl,h2,h3⟩:=hgood _ _ _ c1 c2;have M':=M.newAt D.inv h2 h3 c3;exact Dr hrest (hput I1 c4 (hC _ rfl) c1 h1) M' (tN (k1 g w') k2 D.inv M') next
end
def kP:List Oper→Nat
 | _::y::z::u::v::r=>kP (y::z::u::v::r)+1
 | _=>0
def vp(B:Nat)(w0:World)(N:Nat)(L:List Oper)(l:Slots)(bs:List Bx)(rs:List Rw)(w:World)(K:Slots→List Bx→List Rw→World→Prop):Prop:=
 ab8 N L (kP L)=true∧slK (kP L+2) L fun ds=>UE ds l fun l'=>vd B w0 N l' bs rs w (vP B w0 N l' bs rs w K) (kP L) L 0 [] none [] false
section
variable {B:Nat} {w0 w:World} {N:Nat} {l:Slots} {bs:List Bx} {rs:List Rw} {K:Slots→List Bx→List Rw→World→Prop} {Q:Exit→Act→World→Prop} {a:Act} {id:Nat} {L:List Oper}
theorem Hf{P:Program}{ops:Array Oper}{I:(Nat→Bool)→Act→World→Prop}{l:List Oper}
 (h:∀ (i:Nat) (o:Oper),l[i]?=some o→∀ (Lf:Nat→Bool) (b:Act) (u:World) (Q':Exit→Act→World→Prop),I Lf b u→Lf i=false→(∀ e∈o.after.toList,Region.binds .any e=true→Lf e.on=true)→(∀ b u,I (upd Lf i) b u→Q' .normal b u)→wpList P ops Q' [o] b u) :
 ∀ (r:List Oper) (m:Nat),(∀ i o,r[i]?=some o→l[m+i]?=some o)→jl P ops I m r:=by
 intro r
 induction r with
 | nil=>intro m _;trivial
 | cons o r ih=>
  intro m hr;refine⟨h m o (hr 0 o rfl),ih (m+1) fun i o' ho'=>?_⟩;have:=hr (i+1) o' (by simpa using ho')
  rwa [show m+1+i=m+(i+1) by omega]
theorem abK(F:Fs a N l)(M:bg B w0 w bs rs)(h:vp B w0 N L l bs rs w K)(next:∀ a l' bs' rs' w',Fs a N l'→bg B w0 w' bs' rs'→K l' bs' rs' w'→Q .normal a w'):(Code.region id L.toArray true).wp Tryz.prog Q a w:=by
 obtain⟨hok,h⟩:=h;obtain⟨hkl,hsl,h⟩:=JZ h;obtain⟨l',h,hlk⟩:=Ar h;generalize kP L=k at hok hkl hsl h hlk;generalize gi:gX (k+2) L=slots at hsl h hlk;unfold ab8 at hok;simp only[asO,decide_eq_true_eq,asP,gi] at hok;obtain⟨eM,rP,jR,hbd,hnd,hlen,hgd,Nd⟩:=hok
 have XC:slots.length=k+2:=by
  have:=congrArg List.length hsl;simp only[List.length_map,asQ] at this;omega
 have SS:∀ (i:Nat) (o:Oper),i<k+2→L[i]?=some o→slots[i]?=o.dst:=fun i o hi ho=>by
  have h1:=congrArg (fun x=>x[i]?) hsl;simp only[asR,List.getElem?_take,if_pos hi,ho,Option.map_some] at h1
  cases hs:slots[i]? with
  | none=>rw[hs] at h1;cases h1
  | some s=>rw[hs] at h1;exact(asS h1).symm
 have qJ:∀ (i s:Nat),slots[i]?=some s→(L.toArray[i]?).bind (fun o=>o.dst)=some s:=fun i s hs=>by
  have hi:i<k+2:=XC▸(asT.1 hs).1;have hiL:i<L.length:=by omega
  have h2:=SS i _ hi (asU hiL);rw[hs] at h2;simp[hiL,← h2]
 have hl':∀ q v,look q l'=some v→slots.contains q=false∧look q l=some v:=fun q v hq=>by
  rw[hlk] at hq
  cases hm:jr q slots with
  | true=>rw[hm] at hq;cases hq
  | false=>
   rw[hm] at hq;refine⟨?_,hq⟩
   cases hc:slots.contains q with
   | false=>rfl
   | true=>
    have:q∈slots:=by simpa using hc
    rw[mW.2 this] at hm;cases hm
 have F0:Fs a N l':=⟨F.fr,fun q v hq=>F.at_ q v (hl' q v hq).2⟩
 obtain⟨G,m,al,rel,us,hla,XS,hst,hF,hv⟩:=Xc (ops:=L.toArray) M hnd qJ (fun q v hq=>(hl' q v hq).1) F0 (gp:=[]) h ⟨⟨.nil 0,rfl,by simp⟩,(fun _ h=>by cases h),(fun _ _ i h=>absurd h (Nat.not_lt_zero i)),(fun _ h=>by cases h),.nil⟩
  (fun i o hi=>⟨jR o (asV hi),by
   have hik:i<k:=by have:=(asT.1 hi).1;rw[asQ] at this;omega
   rw[Nat.zero_add];exact SS i o (by omega) (by rw[List.getElem?_take,if_pos hik] at hi;exact hi)⟩) (by omega) trivial
 rw[List.nil_append] at hla hst hF;rw[Nat.zero_add] at hF hv;replace hv:vP B w0 N l' bs rs w K (L.drop k) k m al rel us:=hv;unfold vP at hv;split at hv
 case h_2=>exact hv.elim
 rename_i a1 a2 s1 s2 XH;split at hv
 case h_2=>exact hv.elim
 rename_i yC yB t1 x1 y1 t2 x2 y2 p1 p2 p3 p4;obtain⟨d1,q1,b1,b1',hv⟩:=iu hv;obtain⟨d2,q2,b2,b2',hv⟩:=iu hv;obtain⟨hx1,hv⟩:=bH hv;obtain⟨hx2,hv⟩:=bH hv;obtain rfl:=asY hx1;obtain rfl:=asY hx2;split at hv
 case h_2=>exact hv.elim
 rename_i q3 q4;obtain⟨z1,z2,⟨hz1,hz2⟩,hv⟩:=hv;obtain⟨u1,r1,hv⟩:=cq hv;obtain⟨u2,r2,hv⟩:=cq hv;obtain⟨D1,hD1,hv⟩:=jH hv;obtain⟨D2,hD2,hv⟩:=jH hv;obtain⟨t9,hv⟩:=bH hv;obtain⟨t9',hv⟩:=bH hv;obtain⟨n1,hv⟩:=iz hv;obtain⟨n2,hv⟩:=iz hv;obtain⟨n3,hv⟩:=iz hv;obtain⟨n4,⟨c1,c2⟩,hv⟩:=iz hv;have at_:∀ i o,(L.drop k)[i]?=some o→L[k+i]?=some o:=fun i o hi=>by simpa using hi
 rw[XH] at at_ hgd;have e1:=at_ 0 a1 rfl;have e2:=at_ 1 a2 rfl;have e3:=at_ 2 s1 rfl;have e4:=at_ 3 s2 rfl;have g1:a1.guard=none:=by have:=hgd a1 (by simp);simpa[pOp] using this
 have g2:a2.guard=none:=by have:=hgd a2 (by simp);simpa[pOp] using this
 have g3:s1.guard=none:=by have:=hgd s1 (by simp);simpa[pOp] using this
 have g4:s2.guard=none:=by have:=hgd s2 (by simp);simpa[pOp] using this
 have hd2:L.drop (k+2)=[s1,s2]:=by rw[← List.drop_drop,XH];rfl
 rw[hd2] at Nd
 have V_:∀ g∈G,∃ v,g=bL v:=fun g hg=>by
  obtain⟨i,hi⟩:=List.getElem?_of_mem hg;obtain⟨e,he,rfl⟩:=hF.cov rfl rfl i (XS▸(asT.1 hi).1);have:=(hF.D.at_ e he).2;rw[hi] at this;exact⟨_,asS this⟩
 have Vm:slots[k]?=some x1:=by rw[SS k a1 (by omega) e1,q1]
 have Vl:slots[k+1]?=some x2:=by rw[SS (k+1) a2 (by omega) e2,q2]
 have ev:∀ {y:Operand} {u:Value} {s:Oper},Db l' m [] y u→s∈[s1,s2]→y∈ij s.op→∀ (b:Act) (u':World) (Lf:Nat→Bool),PI L k slots G N a w x1 x2 yC yB z1.cells z2.cells (bh u1).toArray (bh u2).toArray Lf b u'→(∀ e∈s.after.toList,Region.binds .any e=true→Lf e.on=true)→b.eval y=u:=by
  intro y u s MZ hs hy b u' Lf I hdp
  cases y with
  | tmp q=>
   rcases MZ with⟨e,he,rfl,rfl,hsub⟩|⟨h1,h2⟩
   ·have ht:e.t=true:=(hF.D.L.tv e he).2 fun y hy=>absurd (yF hsub y hy) (by simp)
    obtain⟨f1,f2⟩:=hF.D.at_ e he;obtain⟨gr,f3,f4⟩:=Ey (Nd s hs) hnd f1 hy;obtain⟨v,f5,rfl⟩:=I.done e.j (hF.D.L.lt e he) (hdp _ f3 f4) _ _ f1 f2;exact(f5.on ht).ev
   ·exact(I.rest q u (hl' q u h2).1 (F0.at_ q u h2)).ev
  | const c=>exact MZ
  | global=>exact MZ.elim
  | func f=>exact MZ
 refine fK (by kernel_rfl) eM (PI L k slots G N a w x1 x2 yC yB z1.cells z2.cells (bh u1).toArray (bh u2).toArray) ?_ (Hf (Km hlen hnd XC (fun s hs=>by simpa using hbd s hs) XS V_ hst eM SS e1 e2 e3 e4 p1 p2 p3 p4 g1 g2 g3 g4 q1 q2 q3 q4 hz1 hz2 hD1 hD2 n1 n2 n3 n4 c1 c2
  (fun b u Lf I hdp=>⟨ev r1 (by simp) (by rw[p3];simp[ij]) b u Lf I hdp,by obtain⟨gr,f3,f4⟩:=Ey (Nd s1 (by simp)) hnd Vm (by rw[p3];simp[ij]);exact hdp _ f3 f4⟩)
  (fun b u Lf I hdp=>⟨ev r2 (by simp) (by rw[p4];simp[ij]) b u Lf I hdp,by obtain⟨gr,f3,f4⟩:=Ey (Nd s2 (by simp)) hnd Vl (by rw[p4];simp[ij]);exact hdp _ f3 f4⟩)) L 0 (fun i o ho=>by simpa using ho)) ?_
 ·exact⟨F.fr,(Below.refl _ _).drew,(fun _ _ h=>by cases h),fun _ _ _ h=>h,(fun h=>by cases h),(fun h=>by cases h),(fun h=>by cases h),(fun h=>by cases h),fun h=>by cases h⟩
 ·intro Lf a' w' I hall;obtain⟨v1,f1,f2,f3⟩:=I.one (hall _ (by omega));obtain⟨v2,f4,f5,f6⟩:=I.two (hall _ (by omega));rw[if_pos (hall _ (by omega))] at f3 f6;have hne:v1≠v2:=fun e=>I.ne (hall _ (by omega)) (hall _ (by omega)) v1 f1 (e▸f4)
  have M':bg B w0 w' ((v1,yC,(bh u1).toArray)::(v2,yB,(bh u2).toArray)::bs) rs:=M.DX I.inv (b1:=(v1,yC,(bh u1).toArray)) (b2:=(v2,yB,(bh u2).toArray)) (.inl ⟨t9,f3⟩) f2 (.inl ⟨t9',f6⟩) f5 hne
  have I0:Inv L.toArray a' N l' m k:=by
   refine⟨I.fr,hF.D.L,fun e he=>qJ _ _ (hF.D.at_ e he).1,fun e he=>?_,fun q v _ hq=>I.rest q v (hl' q v hq).1 (F0.at_ q v hq)⟩;obtain⟨v,h1,rfl⟩:=I.done e.j (hF.D.L.lt e he) (hall _ (by have:=hF.D.L.lt e he;omega)) _ _ (hF.D.at_ e he).1 (hF.D.at_ e he).2;exact h1
  obtain⟨l'',k1,F'⟩:=I0.fsK (hv v1 v2 w' I.inv M');exact next _ _ _ _ _ ((F'.add f4).add f1) M' k1
end
abbrev KK:=Exit→Slots→List Bx→List Rw→World→Prop
def doK:List Oper→List Nat→(List Nat→Prop)→Prop
 | [],acc,f=>f acc
 | o::r,acc,f=>(match o.dst with|some d=>doK r (d::acc) f|none=>doK r acc f)
theorem TW{f:List Nat→Prop}:∀ {L:List Oper} {acc:List Nat},doK L acc f→∃ ds,f ds
 | [],acc,h=>⟨acc,h⟩
 | o::r,acc,h=>by
  unfold doK at h;split at h<;>exact TW h
def WA:Code→List Nat→(List Nat→Prop)→Prop
 | .region _ ops _,acc,f=>doK ops.toList acc f
 | .seq a b,acc,f=>WA a acc fun acc=>WA b acc f
 | .cond _ a b,acc,f=>WA a acc fun acc=>WA b acc f
 | .block _ c,acc,f=>WA c acc f
 | .loop c,acc,f=>WA c acc f
 | _,acc,f=>f acc
theorem pY:∀ {c:Code} {acc:List Nat} {f:List Nat→Prop},WA c acc f→∃ ds,f ds
 | .region _ _ _,_,_,h=>TW h
 | .seq a b,_,_,h=>by obtain⟨_,h⟩:=pY (c:=a) h;exact pY (c:=b) h
 | .cond _ a b,_,_,h=>by obtain⟨_,h⟩:=pY (c:=a) h;exact pY (c:=b) h
 | .block _ c,_,_,h=>pY (c:=c) h
 | .loop c,_,_,h=>pY (c:=c) h
 | .skip,_,_,h=>⟨_,h⟩
 | .rangeFunc _ _ _ _,_,_,h=>⟨_,h⟩
 | .exit _,_,_,h=>⟨_,h⟩
 | .scope _,_,_,h=>⟨_,h⟩
 | .label _,_,_,h=>⟨_,h⟩
 | .goto _,_,_,h=>⟨_,h⟩
 | .ret,_,_,h=>⟨_,h⟩
 | .refuse _,_,_,h=>⟨_,h⟩
def Xy:List Nat→Slots→(Slots→Prop)→Prop
 | _,[],f=>f []
 | ds,(s,v)::r,f=>bif jr s ds then Xy ds r f else Xy (s::ds) r fun l=>f ((s,v)::l)
theorem vS:∀ {l:Slots} {ds:List Nat} {f:Slots→Prop},Xy ds l f→∃ l',f l'∧(∀ q v,look q l'=some v→look q l=some v)∧∀ q∈ds,look q l'=none
 | [],ds,f,h=>⟨[],h,fun _ _ h=>h,fun _ _=>rfl⟩
 | (s,v)::r,ds,f,h=>by
  unfold Xy at h
  cases hm:jr s ds with
  | true=>
   rw[hm] at h;obtain⟨l',h1,h2,h3⟩:=vS h;refine⟨l',h1,fun q u hq=>?_,h3⟩;rw[bG]
   cases e:q == s with
   | true=>
    have e':q=s:=by simpa using e
    rw[h3 q (e'▸mW.1 hm)] at hq;cases hq
   | false=>exact h2 q u hq
  | false=>
   rw[hm] at h;obtain⟨l',h1,h2,h3⟩:=vS h;refine⟨_,h1,fun q u hq=>?_,fun q hq=>?_⟩
   ·rw[bG] at hq ⊢
    cases e:q == s with
    | true=>rw[e] at hq;exact hq
    | false=>rw[e] at hq;exact h2 q u hq
   ·rw[bG]
    cases e:q == s with
    | true=>
     have e':q=s:=by simpa using e
     rw[mW.2 (e'▸hq)] at hm;cases hm
    | false=>exact h3 q (asN _ hq)
def apS:Slots→Slots→Slots
 | [],r=>r
 | x::l,r=>x::apS l r
theorem G3{q:Nat}{r:Slots}:∀ {l:Slots} {v:Value},look q (apS l r)=some v→look q l=some v∨look q r=some v
 | [],_,h=>.inr h
 | (s,u)::l,v,h=>by
  rw[apS,bG] at h;rw[bG]
  cases e:q == s with
  | true=>rw[e] at h;exact .inl h
  | false=>rw[e] at h;exact G3 h
theorem Fs.kept{a:Act}{N:Nat}{l C kl:Slots}(F:Fs a N l)(hs:Sub l C)(hk:∀ q v,look q kl=some v→look q l=some v):Fs a N (apS C kl):=by
 refine⟨F.fr,fun q v h=>?_⟩;rcases G3 h with h|h
 ·exact(F.sub hs).at_ q v h
 ·exact F.at_ q v (hk q v h)
def fid:Code→Option Nat
 | .region id _ _=>some id
 | .seq a b=>(match fid a with|some i=>some i|none=>fid b)
 | .block _ c=>fid c
 | .loop c=>fid c
 | .cond _ a _=>fid a
 | _=>none
def jn(i:Option Nat)(J:List Nat):Bool:=match i with
 | some i=>jr i J
 | none=>false
def inS(B:Nat)(w0:World){ι:Type}(C:ι→Slots)(yh:ι→List Bx)(uL:ι→List Rw)(R:ι→World→Prop)(l:Slots)(bs:List Bx)(rs:List Rw)(w:World)(x:ι):Prop:=
 Sub l (C x)∧(bg B w0 w bs rs→bg B w0 w (yh x) (uL x)∧R x w)
section
variable (B:Nat) (w0:World) (N:Nat) (J:List Nat)
def Rc:Code→Slots→List Bx→List Rw→World→KK→Prop
 | .skip,l,bs,rs,w,K=>K .normal l bs rs w
 | .label _,l,bs,rs,w,K=>K .normal l bs rs w
 | .exit id,l,bs,rs,w,K=>K (.exit id) l bs rs w
 | .ret,l,bs,rs,w,K=>K .ret l bs rs w
 | .region id ops dr,l,bs,rs,w,K=>(match dr with
  | false=>vc B w0 N l ops.toList 0 [] bs rs w (K .normal)
  | true=>vr B w0 N ops.toList l bs rs w (K .normal)∨vp B w0 N ops.toList l bs rs w (K .normal) ∨
   (∀ (a:Act) (Q:Exit→Act→World→Prop),Fs a N l→bg B w0 w bs rs→(∀ a' l' bs' rs' w',Fs a' N l'→bg B w0 w' bs' rs'→K .normal l' bs' rs' w'→Q .normal a' w')→(Code.region id ops true).wp Tryz.prog Q a w))
 | .seq x y,l,bs,rs,w,K=>bif jn (fid y) J then
  WA x [] fun ds=>Xy ds l fun kl=>∃ (ι:Type) (C:ι→Slots) (yh:ι→List Bx) (uL:ι→List Rw) (R:ι→World→Prop),
   Rc x l bs rs w (fun e l' bs' rs' w'=>match e with
    | .normal=>Xy ds l' fun kl'=>kl'=kl∧∃ x,inS B w0 C yh uL R l' bs' rs' w' x
    | e=>K e l' bs' rs' w') ∧
   ∀ x w',bg B w0 w' (yh x) (uL x)→R x w'→Rc y (apS (C x) kl) (yh x) (uL x) w' K
  else Rc x l bs rs w fun e l' bs' rs' w'=>match e with
   | .normal=>Rc y l' bs' rs' w' K
   | e=>K e l' bs' rs' w'
 | .cond c x y,l,bs,rs,w,K=>pI l [] [] c fun v=>match v with
  | .bool b=>(b=true→Rc x l bs rs w K)∧(b=false→Rc y l bs rs w K)
  | _=>False
 | .block id c,l,bs,rs,w,K=>Rc c l bs rs w fun e l' bs' rs' w'=>match e with
  | .exit i=>bif Nat.beq i id then K .normal l' bs' rs' w' else K (.exit i) l' bs' rs' w'
  | e=>K e l' bs' rs' w'
 | .loop c,l,bs,rs,w,K=>WA c [] fun ds=>Xy ds l fun kl=>∃ (ι:Type) (C:ι→Slots) (yh:ι→List Bx) (uL:ι→List Rw) (R:ι→World→Prop) (μ:ι→Nat) (x:ι),
  inS B w0 C yh uL R l bs rs w x ∧
  ∀ x w',bg B w0 w' (yh x) (uL x)→R x w'→Rc c (apS (C x) kl) (yh x) (uL x) w' fun e l' bs' rs' w''=>match e with
   | .normal=>Xy ds l' fun kl'=>kl'=kl∧∃ x',inS B w0 C yh uL R l' bs' rs' w'' x'∧μ x'<μ x
   | e=>K e l' bs' rs' w''
 | _,_,_,_,_,_=>False
end
theorem Yr{B:Nat}{w0:World}{N:Nat}{J:List Nat}:∀ {c:Code} {l:Slots} {bs:List Bx} {rs:List Rw} {w:World} {K:KK} {Q:Exit→Act→World→Prop} {a:Act},Rc B w0 N J c l bs rs w K→Fs a N l→bg B w0 w bs rs →
 (∀ e a l bs rs w,Fs a N l→bg B w0 w bs rs→K e l bs rs w→Q e a w)→c.wp Tryz.prog Q a w:=by
 intro c
 induction c with
 | skip=>intro l bs rs w K Q a h F M hQ;exact wp_skip (hQ _ _ _ _ _ _ F M h)
 | label=>intro l bs rs w K Q a h F M hQ;exact wp_label (hQ _ _ _ _ _ _ F M h)
 | exit=>intro l bs rs w K Q a h F M hQ;exact wp_exit (hQ _ _ _ _ _ _ F M h)
 | ret=>intro l bs rs w K Q a h F M hQ;exact wp_ret (hQ _ _ _ _ _ _ F M h)
 | region id ops dr=>
  intro l bs rs w K Q a h F M hQ
  cases dr with
  | false=>exact wp_region_list (Xd (ops:=ops) (fun i o hi=>by simpa using hi) (Inv.start F) M h fun a l' bs' rs' w' F' M' hk=>hQ _ _ _ _ _ _ F' M' hk)
  | true=>
   rcases h with h|h|h
   ·have:=abJ (id:=id) F M h (Q:=Q) fun a l' bs' rs' w' F' M' hk=>hQ _ _ _ _ _ _ F' M' hk
    rwa [Array.toArray_toList] at this
   ·have:=abK (id:=id) F M h (Q:=Q) fun a l' bs' rs' w' F' M' hk=>hQ _ _ _ _ _ _ F' M' hk
    rwa [Array.toArray_toList] at this
   ·exact h a Q F M fun a l' bs' rs' w' F' M' hk=>hQ _ _ _ _ _ _ F' M' hk
 | seq x y ihx ihy=>
  intro l bs rs w K Q a h F M hQ;unfold Rc at h
  cases hj:jn (fid y) J with
  | false=>
   rw[hj] at h;refine wp_seq (ihx h F M fun e a l' bs' rs' w' F' M' hk=>?_)
   cases e with
   | normal=>exact ihy hk F' M' hQ
   | _=>exact hQ _ _ _ _ _ _ F' M' hk
  | true=>
   rw[hj] at h;obtain⟨ds,h⟩:=pY h;obtain⟨kl,⟨ι,C,yh,uL,R,h1,h2⟩,-,-⟩:=vS h;refine wp_seq (ihx h1 F M fun e a l' bs' rs' w' F' M' hk=>?_)
   cases e with
   | normal=>
    obtain⟨kl',⟨rfl,x,hs,hR⟩,hkl,-⟩:=vS hk;obtain⟨M',hR⟩:=hR M';exact ihy (h2 x w' M' hR) (F'.kept hs hkl) M' hQ
   | _=>exact hQ _ _ _ _ _ _ F' M' hk
 | cond c x y ihx ihy=>
  intro l bs rs w K Q a h F M hQ;obtain⟨v,h1,h⟩:=cq h;have hv:a.eval c=v:=(Inv.start (ops:=#[]) F).E h1 (by simp)
  cases v with
  | bool b=>exact asZ hv (fun hb=>ihx (h.1 hb) F M hQ) (fun hb=>ihy (h.2 hb) F M hQ)
  | _=>exact h.elim
 | block id c ih=>
  intro l bs rs w K Q a h F M hQ;refine wp_block (ih h F M fun e a l' bs' rs' w' F' M' hk=>?_)
  cases e with
  | exit i=>
   show if i=id then Q .normal a w' else Q (.exit i) a w'
   have hk:bif Nat.beq i id then K .normal l' bs' rs' w' else K (.exit i) l' bs' rs' w':=hk
   cases hb:Nat.beq i id with
   | true=>
    rw[hb] at hk;rw[if_pos (asY hb)];exact hQ _ _ _ _ _ _ F' M' hk
   | false=>
    rw[hb] at hk;rw[if_neg fun e=>by rw[e,Nat.beq_refl] at hb;cases hb];exact hQ _ _ _ _ _ _ F' M' hk
  | _=>exact hQ _ _ _ _ _ _ F' M' hk
 | loop c ih=>
  intro l bs rs w K Q a h F M hQ;obtain⟨ds,h⟩:=pY h;obtain⟨kl,⟨ι,C,yh,uL,R,μ,x,⟨hs,hR⟩,h2⟩,hkl,-⟩:=vS h;obtain⟨M,hR⟩:=hR M;refine bV (fun x a w=>Fs a N (apS (C x) kl)∧bg B w0 w (yh x) (uL x)∧R x w) μ x ⟨F.kept hs hkl,M,hR⟩ ?_;rintro x a w ⟨F,M,hR⟩;refine ih (h2 x w M hR) F M fun e a l' bs' rs' w' F' M' hk=>?_
  cases e with
  | normal=>
   obtain⟨kl',⟨rfl,x',⟨hs,hR⟩,hμ⟩,hkl,-⟩:=vS hk;obtain⟨M',hR⟩:=hR M';exact⟨x',⟨F'.kept hs hkl,M',hR⟩,hμ⟩
  | _=>exact hQ _ _ _ _ _ _ F' M' hk
 | rangeFunc=>intro l bs rs w K Q a h;exact h.elim
 | scope=>intro l bs rs w K Q a h;exact h.elim
 | goto=>intro l bs rs w K Q a h;exact h.elim
 | refuse=>intro l bs rs w K Q a h;exact h.elim
def rsK(l:Slots):List ResultVar→(List Value→Prop)→Prop
 | [],f=>f []
 | .tmp s::r,f=>(match look s l with|some v=>rsK l r fun vs=>f (v::vs)|none=>False)
 | _::_,_=>False
theorem Rx{a:Act}{N:Nat}{l:Slots}(F:Fs a N l):∀ {rv:List ResultVar} {f:List Value→Prop},rsK l rv f→∃ vs,f vs∧Bm (fun r v=>∃ s,r=.tmp s∧At a s v) rv vs
 | [],_,h=>⟨[],h,.nil⟩
 | .tmp s::r,f,h=>by
  unfold rsK at h;split at h
  ·rename_i v hv;obtain⟨vs,h1,h2⟩:=Rx F h;exact⟨_,h1,.cons ⟨s,rfl,F.at_ s v hv⟩ h2⟩
  ·exact h.elim
 | .cell _ _::_,_,h=>h.elim
def kR:List Value→Value
 | [v]=>v
 | vs=>.tuple vs.toArray
def T2(bs:List Bx)(g n:Nat)(k:List Value→Prop):Prop:=∃ i,rK bs i fun b=>bif Nat.blt b.2.1 9000 then b.1=g∧pQ b.2.2.toList n (k b.2.2.toList) else False
def ND(l:Slots)(bs:List Bx)(s:Nat)(ty:TypeId)(k:List Value→Prop):Prop:=match look s l with
 | some v=>DQ v False fun g off=>bif Nat.beq off 0 then Bz ty (fun D=>match D with|.st n _=>T2 bs g n k|.arr n _ m=>T2 bs g (n*m) k|_=>False) TT else False
 | none=>False
theorem IJ{bs:List Bx}{rs:List Rw}{g n:Nat}{k:List Value→Prop}{B:Nat}{w0 w:World}(M:bg B w0 w bs rs)(h:T2 bs g n k):∃ t cs,Whole w g t cs∧n=cs.size∧k cs.toList:=by
 obtain⟨i,hq⟩:=h;obtain⟨⟨b,T,cs⟩,hb,hq1⟩:=gF hq;obtain⟨hT,h2,Na⟩:=bH hq1;obtain⟨hl,Uw⟩:=iz Na;obtain rfl:b=g:=h2;exact⟨T,cs,M.b i hb hT,by rw[← hl,Array.length_toList],Uw⟩
theorem IK{l:Slots}{bs:List Bx}{rs:List Rw}{s:Nat}{ty:TypeId}{k:List Value→Prop}{B:Nat}{w0 w:World}(M:bg B w0 w bs rs)(h:ND l bs s ty k):
 ∃ (g:Nat) (cs:Array Value),look s l=some (.pointer (some ⟨g,0,none⟩))∧(loadVar ty ⟨g,0,none⟩).run Tryz.prog w=.ok (.agg cs) w∧k cs.toList:=by
 unfold ND at h;split at h
 ·rename_i v hv;rcases nI h with⟨g,off,rfl,hq⟩|h
  case inr=>exact h.elim
  obtain⟨h0,hq'⟩:=bH hq;obtain rfl:off=0:=asY h0;obtain⟨D,hD,hq⟩:=jH hq';split at hq
  ·obtain⟨t,cs,hW,hn,hk⟩:=IJ M hq;obtain⟨fs,hu,hs,-⟩:=Rh hD;exact⟨_,_,hv,run_loadVar_row w g t ty cs (0,0) (.struct fs) hW hu rfl (by rw[hs,hn]),hk⟩
  ·obtain⟨t,cs,hW,hn,hk⟩:=IJ M hq;obtain⟨hu,-,hs⟩:=JR hD;exact⟨_,_,hv,run_loadVar_row w g t ty cs (0,0) _ hW hu rfl (by rw[hs,hn]),hk⟩
  ·exact hq.elim
 ·exact h.elim
def Vr(B:Nat)(w0:World)(R:Ending→World→Prop)(l:Slots)(bs:List Bx)(rs:List Rw)(w:World):List ResultVar→Prop
 | [.cell s ty]=>ND l bs s ty fun cs=>bg B w0 w bs rs→R (.returned (.agg cs.toArray)) w
 | [.cell s ty,.tmp u]=>(match look u l with|some v=>ND l bs s ty fun cs=>bg B w0 w bs rs→R (.returned (.tuple #[.agg cs.toArray,v])) w|none=>False)
 | L=>bif Nat.ble L.length 3 then rsK l L fun vs=>bg B w0 w bs rs→R (.returned (kR vs)) w else False
def afF(fn:Func)(B:Nat)(w0:World)(R:Ending→World→Prop):KK:=fun e l bs rs w=>match e with
 | .normal=>Vr B w0 R l bs rs w fn.results.toList
 | .ret=>Vr B w0 R l bs rs w fn.results.toList
 | _=>False
theorem Vq{fn:Func}{R:Ending→World→Prop}{a:Act}{w:World}{N:Nat}(h3:Nat.ble fn.results.toList.length 3=true)(hf:Fr a N){vs:List Value}(h:Bm (fun r v=>∃ s,r=.tmp s∧At a s v) fn.results.toList vs)(hR:R (.returned (kR vs)) w):bodyPost Tryz.prog fn R .ret a w:=by
 generalize hl:fn.results.toList=L at h h3;have hres:fn.results=L.toArray:=by rw[← hl]
 clear hl
 match h with
 | .nil=>exact Mf hres hf hR
 | .cons ⟨s,e,h1⟩ .nil=>subst e;exact Q7 hres hf h1 hR
 | .cons ⟨s,e,h1⟩ (.cons ⟨s',e',h2⟩ .nil)=>subst e e';exact Me hres hf h1 h2 hR
 | .cons ⟨s,e,h1⟩ (.cons ⟨s',e',h2⟩ (.cons ⟨s'',e'',h4⟩ .nil))=>subst e e' e'';exact UU hres hf h1 h2 h4 hR
 | .cons _ (.cons _ (.cons _ (.cons _ _)))=>simp at h3
theorem Mw{fn:Func}{R:Ending→World→Prop}{a:Act}{N:Nat}{l:Slots}{bs:List Bx}{rs:List Rw}{B:Nat}{w0 w:World}(F:Fs a N l)(M:bg B w0 w bs rs)(h:Vr B w0 R l bs rs w fn.results.toList):bodyPost Tryz.prog fn R .ret a w:=by
 generalize hL:fn.results.toList=L at h;unfold Vr at h;split at h
 ·rename_i s ty;have hr:fn.results=#[.cell s ty]:=by rw[← Array.toList_inj,hL]
  obtain⟨g,cs,hv,hl,h⟩:=IK M h;refine⟨F.fr.defers,_,?_,h M⟩;have h2:a.tmps.getD s undef=.pointer (some ⟨g,0,none⟩):=F.e s hv;rw[as0] at h2;simp[results,hr,h2,asAddr,hl]
 ·rename_i s ty u;have hr:fn.results=#[.cell s ty,.tmp u]:=by rw[← Array.toList_inj,hL]
  split at h
  ·rename_i v hv2;obtain⟨g,cs,hv,hl,h⟩:=IK M h;refine⟨F.fr.defers,_,?_,h M⟩;have h2:a.tmps.getD s undef=.pointer (some ⟨g,0,none⟩):=F.e s hv;have k2:a.tmps.getD u undef=v:=F.e u hv2;rw[as0] at h2 k2;simp[results,hr,h2,k2,asAddr,hl]
  ·exact h.elim
 ·subst hL;obtain⟨h3,hk⟩:=bH h;obtain⟨vs,h1,h2⟩:=Rx F hk;exact Vq h3 F.fr h2 (h1 M)
theorem fL{f:FuncId}{fn:Func}{c:Code}{N:Nat}(J:List Nat){vs:List Value}{R:Ending→World→Prop}{w0:World}(hf:Tryz.prog.funcs[f]?=some fn)(hb:fn.body=some c)(hn:fn.ntmps=N)(hN:Nat.ble vs.length N=true)
 (h:Rc w0.heap.size w0 N J c (ens 0 vs) [] [] w0 (afF fn w0.heap.size w0 R)):Calls Tryz.prog f vs.toArray w0 R:=by
 refine en hf hb hn (by simpa using hN) rfl fun a F=>Yr h F (Mm.start w0) fun e a l bs rs w F M hk=>?_
 cases e with
 | normal=>exact Yp (Mw F M hk)
 | ret=>exact Mw F M hk
 | _=>exact hk.elim
theorem an{p q:Prop}(h:p)(k:q):p∧q:=⟨h,k⟩
theorem ei{α:Sort _}{p:α→Prop}{x:α}(h:p x):∃ x,p x:=⟨x,h⟩
theorem ia{p:Nat→Nat→Nat→Prop}{b off i:Nat}(h:p b off i):∃ b off i,p b off i:=⟨b,off,i,h⟩
theorem lb{p:Nat→Prop}{X:Prop}(i:Nat)(h:p i):(∃ i,p i)∨X:=.inl ⟨i,h⟩
theorem lc{α:Type}{p:α→Prop}{X:Prop}{x:α}(h:p x):X∨∃ x,p x:=.inr ⟨x,h⟩
theorem cl{p:Value→Prop}{X:Prop}{v:Value}(h:p v):(∃ v,p v)∨X:=.inl ⟨v,h⟩
theorem cg{p:(Value→World→Prop)→Prop}{X:Prop}{R:Value→World→Prop}(h:p R):X∨∃ R,p R:=.inr ⟨R,h⟩
theorem cw{B:Nat}{w0 w:World}{bs:List Bx}{rs:List Rw}{X:Prop}{f:FuncId}{args:Array Value}{e kk n:Nat}{xs:List Value}{K:Value→List Bx→List Rw→World→Prop}(M:bg B w0 w bs rs)
 (hc:Calls Tryz.prog f args w fun r w'=>∃ u,r=.returned u∧(w'.ownsRow w.heap.size e kk u n xs∧asW w.heap.size w w')) (h:∀ u w',bg B w0 w' bs (⟨u,e,kk,n,xs⟩::rs)→K u bs (⟨u,e,kk,n,xs⟩::rs) w') :
 X∨∃ R:Value→World→Prop,(Calls Tryz.prog f args w fun e w'=>∃ v,e=.returned v∧R v w')∧∀ v w',R v w'→∃ bs' rs',bg B w0 w' bs' rs'∧K v bs' rs' w':=
 .inr ⟨_,hc,fun u w' hR=>⟨_,_,M.rQ (r:=⟨u,e,kk,n,xs⟩) hR.2 hR.1,h u w' (M.rQ (r:=⟨u,e,kk,n,xs⟩) hR.2 hR.1)⟩⟩
theorem dr{p q X:Prop}(h:p)(k:q):(p∧q)∨X:=.inl ⟨h,k⟩
theorem dp{p q X Y:Prop}(h:p)(k:q):X∨(p∧q)∨Y:=.inr (.inl ⟨h,k⟩)
theorem cr{X Y Z:Prop}{p:(Value→World→Prop)→Prop}(R:Value→World→Prop)(h:p R):X∨Y∨(∃ R,p R)∨Z:=.inr (.inr (.inl ⟨R,h⟩))
theorem cv{X Y Z:Prop}{p:(Value→World→Prop)→Prop}(R:Value→World→Prop)(h:p R):X∨Y∨Z∨∃ R,p R:=.inr (.inr (.inr ⟨R,h⟩))
theorem cu{X Y:Prop}{p:Value→Prop}{v:Value}(h:p v):X∨(∃ v,p v)∨Y:=.inr (.inl ⟨v,h⟩)
theorem qN{a:Act}{x:Operand}{xs:List Operand}{v:Value}{vs:List Value}:uP a (x::xs) (v::vs)→a.eval x=v
 | .cons h _=>h
theorem yx{a:Act}{x y:Operand}{xs:List Operand}{u v:Value}{vs:List Value}:uP a (x::y::xs) (u::v::vs)→a.eval y=v
 | .cons _ (.cons h _)=>h
theorem ail{a:Act}{x y z:Operand}{xs:List Operand}{u v s:Value}{vs:List Value}:uP a (x::y::z::xs) (u::v::s::vs)→a.eval z=s
 | .cons _ (.cons _ (.cons h _))=>h
theorem bl{p q:Prop}(h:p):p∨q:=.inl h
theorem br{X:Prop}{p:(Value→World→Prop)→Prop}(R:Value→World→Prop)(h:p R):X∨∃ R,p R:=.inr ⟨R,h⟩
def aaO(w:World)(e:TypeId)(R:Value→World→Prop):Value→World→Prop:=fun v w2=>∃ u g,v=.slice (some ⟨g,0,none⟩) 1 1∧Whole w2 g e #[u]∧w.heap.size≤g∧u.ownBlock≠some g∧R u w2
theorem KP{w:World}{e:TypeId}{R:Value→World→Prop}(h:eN R):eN (aaO w e R):=fun _ _ _ ⟨u,g,h1,h2,h3,h5,h4⟩ hb=>⟨u,g,h1,Whole.under hb h2 h2.lt,h3,h5,h _ _ _ h4 hb⟩
theorem b1{B:Nat}{w0 w:World}{bs:List Bx}{rs:List Rw}{t e b:Nat}{x:Operand}{R:Value→World→Prop}{u:Value}(hR:eN R)(h1:∀ u w,R u w→u.cells=#[u])(h2:∀ u w q,R u w→u.ownBlock=some q→q<w.heap.size)(hD:jI Tryz.prog t (.sl e 1 b)=true):
 ∀ (w1:World) (a:Act) (o':Oper),asW w.heap.size w w1→bg B w0 w1 bs rs→R u w1→o'.op=.buildSlice t 1 #[(0,x)]→uP a (ij (.buildSlice t 1 #[(0,x)])) [u] →
  ∃ v w2,(execOp a.eval o').run Tryz.prog w1=.ok (.value v) w2∧aaO w e R v w2∧asW w1.heap.size w1 w2:=fun w1 a o' hb _ hu hop ny=>by
 have hc:=h1 u w1 hu;have hr:=qq (w:=w1) hop hD rfl rfl (by decide) (by decide) ny (by simp[hc]);have hbl:asW w1.heap.size w1 (w1.alloc (.cells ([u].flatMap fun v=>v.cells.toList).toArray e)):=(Below.refl _ w1).alloc (Nat.le_refl _) _;have hl:([u].flatMap fun v=>v.cells.toList).toArray=#[u]:=by simp[hc]
 refine⟨_,_,hr,⟨u,w1.heap.size,rfl,hl▸Whole.new w1 e _,hb.size,fun hq=>Nat.lt_irrefl _ (h2 u w1 _ hu hq),hR _ _ _ hu hbl⟩,hbl⟩
def Ca(w:World)(e n:Nat)(cs:List Value):Value→World→Prop:=fun v w2=>∃ g,v=.slice (some ⟨g,0,none⟩) n n∧Whole w2 g e cs.toArray∧w.heap.size≤g
theorem kZ{w:World}{e n:Nat}{cs:List Value}:eN (Ca w e n cs):=fun _ _ _ ⟨g,h1,h2,h3⟩ hb=>⟨g,h1,Whole.under hb h2 h2.lt,h3⟩
theorem bK{w:World}{t e kk b len:Nat}{parts:Array (Nat×Operand)}{vs:List Value}{p:World→Prop}(hD:jI Tryz.prog t (.sl e kk b)=true)(hp:rI 0 parts.toList=true)(hl:parts.toList.length=len)(h0:0<len*kk)(h1:len*kk≤2^24)(hc:∀ v∈vs,v.cells.size=kk){cs:List Value}(hcs:(vs.flatMap fun v=>v.cells.toList)=cs)
 (w1:World) (a:Act) (o':Oper) (hb:asW w.heap.size w w1) (_:p w1) (hop:o'.op=.buildSlice t len parts) (ny:uP a (ij (.buildSlice t len parts)) vs) :
  ∃ v w2,(execOp a.eval o').run Tryz.prog w1=.ok (.value v) w2∧Ca w e len cs v w2∧asW w1.heap.size w1 w2:=by
 subst hcs;exact⟨_,_,qq (w:=w1) hop hD hp hl h0 h1 ny hc,⟨w1.heap.size,rfl,Whole.new w1 e _,hb.size⟩,(Below.refl _ w1).alloc (Nat.le_refl _) _⟩
theorem bg.perm{B:Nat}{w0 w:World}{bs:List Bx}{rs rs':List Rw}(M:bg B w0 w bs rs)(hp:rs.Perm rs'):bg B w0 w bs rs':=by
 refine⟨M.below,M.le,M.old,M.box,M.lo,M.nd,fun r h=>M.row r (hp.mem_iff.2 h),fun r h=>M.far r (hp.mem_iff.2 h),(hp.pairwise_iff fun {r s} h=>?_).1 M.vC⟩;rcases h with h|h
 ·cases hs:s.v.ownBlock with
  | none=>exact .inl rfl
  | some q=>exact .inr (by rw[h];simp)
 ·exact .inr fun e=>h e.symm
theorem bg.VK{B:Nat}{w0 w w':World}{bs:List Bx}{rs:List Rw}(M:bg B w0 w bs rs)(hb:asW w.heap.size w w'){g:Nat}{t:TypeId}{cs:Array Value}(h:Whole w' g t cs)(hg:w.heap.size≤g){r:Rw}(ho:w'.ownsRow w.heap.size r.e r.k r.v r.n r.xs)(hne:r.v.ownBlock≠some g)(ht:Nat.blt t 9000=true:=by rfl):
 bg B w0 w' ((g,t,cs)::bs) (r::rs):=by
 refine(M.newAt hb h hg ht).Fx (nL ho M.big) ?_ ?_
 ·intro b hb' e;rcases asM.1 hb' with rfl|hb'
  ·exact hne e
  ·have:=(ho.lt _ e).1;have:=(M.box b hb').lt;omega
 ·intro s hs
  cases hso:r.v.ownBlock with
  | none=>exact .inl rfl
  | some q=>
   refine .inr fun e=>?_
   have h1:=(ho.lt q hso).1;have h2:=((M.row s hs).lt q (by rw[← e])).2;omega
theorem sr{X Y:Prop}{B:Nat}{w0:World}{rs:List Rw}{D:TD}{g off e n cap:Nat}{xs:List Value}{v:Value}{k:List Rw→Prop}(i j:Nat)(h:rs[i]?=some ⟨.slice (some ⟨g,0,none⟩) n cap,e,iV D,n,xs⟩∧off=j*iV D∧j<n)(h1:(bh v).all (·.oneCell')=true)
 (h2:pQ (bh v) (iV D) (zH rs i ⟨.slice (some ⟨g,0,none⟩) n cap,e,iV D,n,xs.take off++bh v++xs.drop (off+iV D)⟩ k)) (hW:Nat.beq e 52=false∨w0.heap.size≤B:=by first|exact .inl rfl|exact .inr (Nat.le_refl _)):X∨stR B w0 rs D g off v k∨Y:=
 .inr (.inl ⟨i,j,e,n,cap,xs,h,h1,hW,h2⟩)
theorem mz{B:Nat}{w0 w:World}{bs:List Bx}{rs:List Rw}{t e ty b n:Nat}{z:Value}{x y:Operand}{κ κ':IntKind}{l:Int}{K:Value→List Bx→List Rw→World→Prop}(M:bg B w0 w bs rs)(hu:Tryz.prog.underlying t=some (.slice e))(hi:gU (Tryz.prog.info? e) 1 b=true)(hz:(Tryz.prog.info? e).bind (·.zero)=some z)(h1:z.cells=#[z])(hl:l=(n:Int))(hb:b*n≤281474976710656∧n≤maxLen)
 (h:∀ g w',bg B w0 w' bs (⟨.slice (some ⟨g,0,none⟩) n n,e,1,n,List.replicate n z⟩::rs)→K (.slice (some ⟨g,0,none⟩) n n) bs (⟨.slice (some ⟨g,0,none⟩) n n,e,1,n,List.replicate n z⟩::rs) w') :
 ∃ R:Value→World→Prop,(∀ (a:Act) (o':Oper),o'.op=.makeSlice t x y→o'.type=ty→uP a (ij (.makeSlice t x y)) [.int κ l,.int κ' l]→∃ v w',(execOp a.eval o').run Tryz.prog w=.ok (.value v) w'∧R v w')∧∀ v w',R v w'→∃ bs' rs',bg B w0 w' bs' rs'∧K v bs' rs' w':=by
 subst hl;obtain⟨i,z',i1,i2,i3,i4,i5⟩:=mG hi;rw[i1] at hz;have hzz:i.zero=some z:=hz;obtain⟨w',hr,ho,hg⟩:=run_make_full (P:=Tryz.prog) w w.heap.size t e i z 1 hu i1 hzz i3 κ κ' n (by rw[i4];exact hb.1) hb.2 (Nat.le_refl _);rw[h1,Nat.mul_one,toList_madeCells_one] at ho;have hB:asW w.heap.size w w':=(Below.refl w.heap.size w).grown hg (Nat.le_refl _) (fun q hq=>by cases hq);refine⟨fun v w''=>v=.slice (some ⟨w.heap.size,0,none⟩) n n∧w''=w',fun a o' hop _ ny=>⟨_,_,?_,rfl,rfl⟩,?_⟩
 ·unfold execOp;simp[hop,qN ny,yx ny,hr]
 ·rintro v w'' ⟨rfl,rfl⟩;have M':=M.rQ (r:=⟨.slice (some ⟨w.heap.size,0,none⟩) n n,e,1,n,List.replicate n z⟩) hB ho;exact⟨_,_,M',h _ _ M'⟩
theorem ap{B:Nat}{w0 w:World}{bs P6:List Bx}{rs OG:List Rw}{u v:Value}{e kk QE nn mm:Nat}{xs news:List Value}{k:Value→List Bx→List Rw→World→Prop}(i:Nat)(hM:bg B w0 w bs rs→bg B w0 w P6 OG)(hr:OG[i]?=some ⟨v,e,kk,nn,xs⟩)(hs:SliceAt w u kk mm news)
 (hb:nn+mm≤maxLen∧(nn+mm)*QE≤140737488355328) (h:∀ v' w',zH OG i ⟨v',e,kk,nn+mm,xs++news⟩ fun rs'=>bg B w0 w' P6 rs'→k v' P6 rs' w') (hW:Nat.beq e 52=false∨w0.heap.size≤B:=by first|exact .inl rfl|exact .inr (Nat.le_refl _)):apO B w0 bs rs w u v e kk QE k:=
 ⟨P6,OG,i,nn,xs,mm,news,hM,hr,hs,hb,hW,h⟩
theorem lp{p:(ι:Type)→(ι→Slots)→(ι→List Bx)→(ι→List Rw)→(ι→World→Prop)→(ι→Nat)→ι→Prop}{ι:Type}(C:ι→Slots)(yh:ι→List Bx)(uL:ι→List Rw)(R:ι→World→Prop)(μ:ι→Nat)(x:ι)(h:p ι C yh uL R μ x):
 ∃ (ι:Type) (C:ι→Slots) (yh:ι→List Bx) (uL:ι→List Rw) (R:ι→World→Prop) (μ:ι→Nat) (x:ι),p ι C yh uL R μ x:=⟨ι,C,yh,uL,R,μ,x,h⟩
theorem lq{p:(ι:Type)→(ι→Slots)→(ι→List Bx)→(ι→List Rw)→(ι→World→Prop)→(ι→Nat)→ι→Prop}{ι:Type}(C:ι→Slots){bs:List Bx}(uL:ι→List Rw)(R:ι→World→Prop)(μ:ι→Nat)(x:ι)(h:p ι C (fun _=>bs) uL R μ x):
 ∃ (ι:Type) (C:ι→Slots) (yh:ι→List Bx) (uL:ι→List Rw) (R:ι→World→Prop) (μ:ι→Nat) (x:ι),p ι C yh uL R μ x:=⟨ι,C,_,uL,R,μ,x,h⟩
theorem lr{p:(ι:Type)→(ι→Slots)→(ι→List Bx)→(ι→List Rw)→(ι→World→Prop)→(ι→Nat)→ι→Prop}{ι:Type}(C:ι→Slots){bs:List Bx}{rs:List Rw}(R:ι→World→Prop)(μ:ι→Nat)(x:ι)(h:p ι C (fun _=>bs) (fun _=>rs) R μ x):
 ∃ (ι:Type) (C:ι→Slots) (yh:ι→List Bx) (uL:ι→List Rw) (R:ι→World→Prop) (μ:ι→Nat) (x:ι),p ι C yh uL R μ x:=⟨ι,C,_,_,R,μ,x,h⟩
theorem bk{B:Nat}{w0 w:World}{ι:Type}{C:ι→Slots}{yh:ι→List Bx}{uL:ι→List Rw}{R:ι→World→Prop}{l kl:Slots}{bs:List Bx}{rs:List Rw}{μ:ι→Nat}{m:Nat}(x:ι)(hs:Sub l (C x))(hM:bg B w0 w bs rs→bg B w0 w (yh x) (uL x)∧R x w)(hm:μ x<m):
 kl=kl∧∃ x,inS B w0 C yh uL R l bs rs w x∧μ x<m:=⟨rfl,x,⟨hs,hM⟩,hm⟩
structure I_ (X:List Nat) (a a':Act):Prop where
 fr:∀ {N:Nat},Fr a N→Fr a' N
 old:∀ {j:Nat} {u:Value},X.contains j=false→At a j u→At a' j u
theorem I_.refl(X:List Nat)(a:Act):I_ X a a:=⟨fun h=>h,fun _ h=>h⟩
theorem I_.put{X:List Nat}{a a' a2:Act}{s:Nat}{v:Value}(h:I_ X a a')(p:Put a' s v a2)(hs:X.contains s=true):I_ X a a2:=
 ⟨fun hf=>p.fr (h.fr hf),fun {j u} hj hu=>p.old (by
  cases e:j == s with
  | false=>rfl
  | true=>
   have e':j=s:=by simpa using e
   rw[e',hs] at hj;cases hj) (h.old hj hu)⟩
theorem Fs.agr{X:List Nat}{a a':Act}{N:Nat}{l:Slots}(F:Fs a N l)(h:I_ X a a'){l':Slots}(hl:l'.all (fun p=>!X.contains p.1)=true)(hs:Sub l l'):Fs a' N l':=by
 have F':=F.sub hs;refine⟨h.fr F'.fr,fun q v hq=>?_⟩;refine h.old ?_ (F'.at_ q v hq);clear F F' hs
 induction l' with
 | nil=>cases hq
 | cons p r ih=>
  obtain⟨s,u⟩:=p;simp only[List.all_cons,asO] at hl;rw[bG] at hq
  cases e:q == s with
  | true=>
   have e':q=s:=by simpa using e
   rw[e'];simpa using hl.1
  | false=>
   rw[e] at hq;exact ih hl.2 hq
abbrev Kn:=Nat×Nat×Value
def Bd(o:Oper)(k:Nat):Prop:=∃ gr,(⟨k,gr⟩:Edge)∈o.after.toList∧Region.binds .any ⟨k,gr⟩=true
inductive Tr where
 | done
 | step (j:Nat) (t:Tr)
 | last (j:Nat)
 | alt (x y:Tr)
def heads:Tr→List Nat
 | .done=>[]
 | .step j _=>[j]
 | .last j=>[j]
 | .alt x y=>heads x++heads y
inductive Moved (K:List Kn) (j:Nat) (o:Oper) (a a':Act):Prop
 | none:o.dst=none→a'=a→Moved K j o a a'
 | some (d:Nat) (v:Value):o.dst=some d→Put a d v a'→(∀ (n:Nat) (k:Kn),K[n]?=some k→k.1=j→k.2.2=v)→Moved K j o a a'
section
variable (P:Program) (ops:Array Oper) (l:List Oper) (K:List Kn) (X:List Nat) (J:World→Prop) (Q:Act→World→Prop)
def NQ:Tr→Act→World→Prop
 | .done,a,w=>∀ a',I_ X a a'→(∀ (n:Nat) (k:Kn),K[n]?=some k→At a' k.2.1 k.2.2)→Q a' w
 | .step j t,a,w=>∀ o,l[j]?=some o→∀ a',I_ X a a'→(∀ (n:Nat) (k:Kn),K[n]?=some k→Bd o k.1→At a' k.2.1 k.2.2)→∀ Q':Exit→Act→World→Prop,(∀ a1 w1,J w1→Moved K j o a' a1→NQ t a1 w1→Q' .normal a1 w1)→wpList P ops Q' [o] a' w
 | .last j,a,w=>∀ o,l[j]?=some o→∀ a',I_ X a a'→(∀ (n:Nat) (k:Kn),K[n]?=some k→Bd o k.1→At a' k.2.1 k.2.2)→∀ Q':Exit→Act→World→Prop,(∀ a1 w1,Moved K j o a' a1→(∀ a2,I_ X a1 a2→(∀ (n:Nat) (k:Kn),K[n]?=some k→At a2 k.2.1 k.2.2)→Q a2 w1)→Q' .normal a1 w1)→wpList P ops Q' [o] a' w
 | .alt x y,a,w=>NQ x a w∧NQ y a w
end
def cand(l:List Oper)(F E:List Nat):List Nat:=(List.range l.length).filter fun j=>!F.contains j&&!E.contains j&&(match l[j]? with|some o=>o.after.toList.all fun e=>!Region.binds .any e||F.contains e.on||E.contains e.on|none=>false)
def nF(l:List Oper)(F:List Nat):Tr→List Nat→Bool
 | .done,E=>(List.range l.length).all fun j=>F.contains j||E.contains j
 | .step j t,E=>!E.contains j&&!F.contains j&&decide (j<l.length)&&((cand l F (j::E)).all fun i=>(heads t).contains i)&&nF l F t (j::E)
 | .last j,E=>!E.contains j&&!F.contains j&&decide (j<l.length)&&((cand l F (j::E)).all fun i=>(heads .done).contains i)&&((List.range l.length).all fun i=>F.contains i||(j::E).contains i)&&(match l[j]? with|some o=>F.all fun f=>o.after.toList.any fun e=>Region.binds .any e&&e.on == f|none=>false)
 | .alt x y,E=>nF l F x E&&nF l F y E
theorem R4{l:List Oper}{F E:List Nat}{j:Nat}{o:Oper}(hj:l[j]?=some o)(h1:F.contains j=false)(h2:E.contains j=false)(h3:∀ e∈o.after.toList,Region.binds .any e=true→F.contains e.on=true∨E.contains e.on=true):j∈cand l F E:=by
 unfold cand;refine List.mem_filter.2 ⟨List.mem_range.2 (asT.1 hj).1,?_⟩;rw[h1,h2,hj];simp only[Bool.not_false,Bool.true_and,asP];intro e he
 cases hb:Region.binds .any e with
 | false=>rfl
 | true=>
  rcases h3 e he hb with h|h
  ·rw[h];rfl
  ·rw[h];simp
section
variable {P:Program} {ops:Array Oper} {l:List Oper} {K:List Kn} {X F:List Nat} {J:World→Prop} {Q:Act→World→Prop}
theorem zE:∀ {t:Tr} {E:List Nat} {a:Act} {w:World} {j:Nat},NQ P ops l K X J Q t a w→nF l F t E=true→j∈heads t→(∃ t',NQ P ops l K X J Q (.step j t') a w∧nF l F (.step j t') E=true)∨(NQ P ops l K X J Q (.last j) a w∧nF l F (.last j) E=true)
 | .done,_,_,_,_,_,_,h=>by cases h
 | .step j t,E,a,w,i,h,hs,hi=>by
  obtain rfl:i=j:=by simpa[heads] using hi
  exact .inl ⟨t,h,hs⟩
 | .last j,E,a,w,i,h,hs,hi=>by
  obtain rfl:i=j:=by simpa[heads] using hi
  exact .inr ⟨h,hs⟩
 | .alt x y,E,a,w,i,h,hs,hi=>by
  simp only[nF,asO] at hs;rcases List.mem_append.1 hi with hi|hi
  ·exact zE h.1 hs.1 hi
  ·exact zE h.2 hs.2 hi
theorem Mq:∀ {t:Tr} {E:List Nat} {a:Act} {w:World},NQ P ops l K X J Q t a w→nF l F t E=true→(∀ j,j<l.length→F.contains j=true∨E.contains j=true)→NQ P ops l K X J Q .done a w
 | .done,_,_,_,h,_,_=>h
 | .step j t,E,a,w,h,hs,hE=>by
  simp only[nF,asO,decide_eq_true_iff] at hs;obtain⟨⟨⟨⟨h1,h2⟩,h3⟩,_⟩,_⟩:=hs;rcases hE j h3 with h|h
  ·rw[h] at h2;cases h2
  ·rw[h] at h1;cases h1
 | .last j,E,a,w,h,hs,hE=>by
  simp only[nF,asO,decide_eq_true_iff] at hs;obtain⟨⟨⟨⟨⟨h1,h2⟩,h3⟩,_⟩,_⟩,_⟩:=hs;rcases hE j h3 with h|h
  ·rw[h] at h2;cases h2
  ·rw[h] at h1;cases h1
 | .alt x y,E,a,w,h,hs,hE=>by
  simp only[nF,asO] at hs;exact Mq h.1 hs.1 hE
end
def zj(P:Program)(l:List Oper)(F:List Nat)(K:List Kn)(J:World→Prop)(a:Act)(N:Nat):List Kn→Prop
 | []=>True
 | k::r=>(F.contains k.1=true→∀ o,l[k.1]?=some o→∀ b u,Fr b N→J u→(∀ j v,(l.filterMap (·.dst)).contains j=false→At a j v→At b j v)→(∀ (n:Nat) (k':Kn),K[n]?=some k'→Bd o k'.1→At b k'.2.1 k'.2.2) →
  Region.wanted o (yielded l.toArray b.tmps)=true∧(execOp b.eval o).run P u=.ok (.value k.2.2) u)∧zj P l F K J a N r
theorem fl{P:Program}{l:List Oper}{K:List Kn}{J:World→Prop}{a:Act}{N:Nat}{k:Kn}{o:Oper}(ho:l[k.1]?=some o) (h:∀ b u,Fr b N→J u→(∀ j v,(l.filterMap (·.dst)).contains j=false→At a j v→At b j v)→(∀ (n:Nat) (k':Kn),K[n]?=some k'→Bd o k'.1→At b k'.2.1 k'.2.2) →
 Region.wanted o (yielded l.toArray b.tmps)=true∧(execOp b.eval o).run P u=.ok (.value k.2.2) u) (F:List Nat):F.contains k.1=true→∀ o,l[k.1]?=some o→∀ b u,Fr b N→J u→(∀ j v,(l.filterMap (·.dst)).contains j=false→At a j v→At b j v)→(∀ (n:Nat) (k':Kn),K[n]?=some k'→Bd o k'.1→At b k'.2.1 k'.2.2) →
 Region.wanted o (yielded l.toArray b.tmps)=true∧(execOp b.eval o).run P u=.ok (.value k.2.2) u:=by
 intro _ o' ho';obtain rfl:o=o':=asS (ho.symm.trans ho');exact h
theorem rR{P:Program}{l:List Oper}{F:List Nat}{K:List Kn}{J:World→Prop}{a:Act}{N:Nat}:∀ {r:List Kn},zj P l F K J a N r→∀ k∈r,F.contains k.1=true→∀ o,l[k.1]?=some o→∀ b u,Fr b N→J u→(∀ j v,(l.filterMap (·.dst)).contains j=false→At a j v→At b j v)→(∀ (n:Nat) (k':Kn),K[n]?=some k'→Bd o k'.1→At b k'.2.1 k'.2.2) →
 Region.wanted o (yielded l.toArray b.tmps)=true∧(execOp b.eval o).run P u=.ok (.value k.2.2) u
 | [],_,_,h=>by cases h
 | x::r,h,k,hk=>by
  rcases asM.1 hk with rfl|hk
  ·exact h.1
  ·exact rR h.2 k hk
theorem RZ:∀ {l:List Oper},(l.filterMap (·.dst)).Nodup→∀ (i j:Nat) (o o':Oper) (s:Nat),l[i]?=some o→l[j]?=some o'→o.dst=some s→o'.dst=some s→i=j
 | [],_,i,_,_,_,_,h,_,_,_=>by simp at h
 | x::r,hn,i,j,o,o',s,hi,hj,ho,ho'=>by
  have hin:∀ (k:Nat) (o:Oper),r[k]?=some o→o.dst=some s→s∈r.filterMap (·.dst):=fun k o hk hs=>List.mem_filterMap.2 ⟨o,asV hk,hs⟩
  rw[List.filterMap_cons] at hn
  have hr:(r.filterMap (·.dst)).Nodup:=by
   split at hn
   ·exact hn
   ·exact(List.nodup_cons.1 hn).2
  have hx:x.dst=some s→s∉r.filterMap (·.dst):=fun e=>by
   rw[e] at hn;exact(List.nodup_cons.1 hn).1
  cases i with
  | zero=>
   cases j with
   | zero=>rfl
   | succ j=>
    obtain rfl:x=o:=by simpa using hi
    exact absurd (hin j o' (by simpa using hj) ho') (hx ho)
  | succ i=>
   cases j with
   | zero=>
    obtain rfl:x=o':=by simpa using hj
    exact absurd (hin i o (by simpa using hi) ho) (hx ho')
   | succ j=>rw[RZ hr i j o o' s (by simpa using hi) (by simpa using hj) ho ho']
def xs(F:List Nat)(K:List Kn):List Nat:=K.filterMap fun k=>if F.contains k.1 then some k.2.1 else none
theorem bg.swap{B:Nat}{w0 w:World}{b1 b2:Bx}{bs:List Bx}{rs:List Rw}(M:bg B w0 w (b1::b2::bs) rs):bg B w0 w (b2::b1::bs) rs:=by
 have hp:∀ b,b∈b2::b1::bs→b∈b1::b2::bs:=fun b hb=>by
  simp only[asM] at hb ⊢;rcases hb with h|h|h
  ·exact .inr (.inl h)
  ·exact .inl h
  ·exact .inr (.inr h)
 exact⟨M.below,M.le,M.old,fun b hb=>M.box b (hp b hb),fun b hb=>M.lo b (hp b hb),((List.Perm.swap b1 b2 bs).map Prod.fst).symm.nodup_iff.1 M.nd,M.row,fun r hr b hb=>M.far r hr b (hp b hb),M.vC⟩
structure Jm (B:Nat) (w0:World) (bs:List Bx) (u:World):Prop where
 below:asW B w0 u
 box:∀ b∈bs,uI u b
theorem Jm.b{B:Nat}{w0 u:World}{bs:List Bx}(h:Jm B w0 bs u)(i:Nat){g:Nat}{t:TypeId}{cs:Array Value}(e:bs[i]?=some (g,t,cs))(ht:Nat.blt t 9000=true:=by rfl):Whole u g t cs:=(h.box _ (asV e)).whole ht
section
variable {P:Program} {Q:Exit→Act→World→Prop}
theorem Dk{id:Nat}{l:List Oper}{a:Act}{w:World}{N:Nat}(K:List Kn)(F:List Nat)(t:Tr)(J:World→Prop)
 (hm:P.follows .mixedOrders=true) (eM:ordered 0 l=true) (hK:(K.all fun k=>((l[k.1]?).bind (·.dst)) == some k.2.1)=true) (hF:(F.all fun i=>K.any fun k=>k.1 == i)=true) (hnd:(l.filterMap (·.dst)).Nodup) (hbd:((l.filterMap (·.dst)).all fun s=>Nat.blt s N)=true)
 (ag7:((cand l F []).all fun i=>(heads t).contains i)=true) (hsub:nF l F t []=true)
 (hf:Fr a N) (hfl:zj P l F K J a N K) (hJ:J w.drew) (hsp:NQ P l.toArray l K (xs F K) J (Q .normal) t a w.drew):(Code.region id l.toArray true).wp P Q a w:=by
 have hidx:=RZ hnd
 have ZM:∀ k∈K,∃ o:Oper,l[k.1]?=some o∧o.dst=some k.2.1:=fun k hk=>by
  have h:=asP.1 hK k hk;have h:(l[k.1]?).bind (·.dst)=some k.2.1:=by simpa using h
  cases e:l[k.1]? with
  | none=>rw[e] at h;cases h
  | some o=>rw[e] at h;exact⟨o,rfl,h⟩
 have hin:∀ (i:Nat) (o:Oper) (s:Nat),l[i]?=some o→o.dst=some s→(l.filterMap (·.dst)).contains s=true:=fun i o s ho hs=>by
  have:s∈l.filterMap (·.dst):=List.mem_filterMap.2 ⟨o,asV ho,hs⟩;simpa using this
 refine fK hm eM (fun L b u=>(∀ j o,l[j]?=some o→L j=true→∀ e∈o.after.toList,Region.binds .any e=true→L e.on=true)∧Fr b N∧(J u∨∀ f,F.contains f=true→L f=true)∧(∀ j v,(l.filterMap (·.dst)).contains j=false→At a j v→At b j v) ∧
  (∀ k∈K,L k.1=true→At b k.2.1 k.2.2)∧∃ t E a0,(∀ j,j<l.length→F.contains j=false→L j=E.contains j)∧((cand l F E).all fun i=>(heads t).contains i)=true∧nF l F t E=true∧I_ (xs F K) a0 b∧NQ P l.toArray l K (xs F K) J (Q .normal) t a0 u) ?_ ?_ ?_
 ·exact⟨fun _ _ _ h=>(by cases h),hf,.inl hJ,fun _ _ _ h=>h,fun _ _ h=>(by cases h),t,[],a,fun _ _ _=>rfl,ag7,hsub,.refl _ _,hsp⟩
 ·have key:∀ (i:Nat) (o:Oper),l[i]?=some o→∀ (L:Nat→Bool) (b:Act) (u:World) (Q':Exit→Act→World→Prop),((∀ j o,l[j]?=some o→L j=true→∀ e∈o.after.toList,Region.binds .any e=true→L e.on=true)∧Fr b N∧(J u∨∀ f,F.contains f=true→L f=true)∧(∀ j v,(l.filterMap (·.dst)).contains j=false→At a j v→At b j v) ∧
   (∀ k∈K,L k.1=true→At b k.2.1 k.2.2)∧∃ t E a0,(∀ j,j<l.length→F.contains j=false→L j=E.contains j)∧((cand l F E).all fun i=>(heads t).contains i)=true∧nF l F t E=true∧I_ (xs F K) a0 b∧NQ P l.toArray l K (xs F K) J (Q .normal) t a0 u)→L i=false →
   (∀ e∈o.after.toList,Region.binds .any e=true→L e.on=true) →
   (∀ b u,((∀ j o,l[j]?=some o→upd L i j=true→∀ e∈o.after.toList,Region.binds .any e=true→upd L i e.on=true)∧Fr b N∧(J u∨∀ f,F.contains f=true→upd L i f=true)∧(∀ j v,(l.filterMap (·.dst)).contains j=false→At a j v→At b j v) ∧
   (∀ k∈K,upd L i k.1=true→At b k.2.1 k.2.2)∧∃ t E a0,(∀ j,j<l.length→F.contains j=false→upd L i j=E.contains j)∧((cand l F E).all fun i=>(heads t).contains i)=true∧nF l F t E=true∧I_ (xs F K) a0 b∧NQ P l.toArray l K (xs F K) J (Q .normal) t a0 u)→Q' .normal b u)→wpList P l.toArray Q' [o] b u:=by
   intro i o ho L b u Q' ⟨hcl,hfr,hj,hout,hkn,t,E,a0,ZL,hc,hs,hag,hsp⟩ hL hA hNext;have hil:=(asT.1 ho).1;have up:∀ j,L j=true→upd L i j=true:=fun j hj=>by simp[upd,hj]
   have hcl':∀ j o,l[j]?=some o→upd L i j=true→∀ e∈o.after.toList,Region.binds .any e=true→upd L i e.on=true:=by
    intro j o' hj tQ e he hb;by_cases hji:j=i
    ·subst hji;obtain rfl:o=o':=asS (ho.symm.trans hj);exact up _ (hA e he hb)
    ·have hne:(j == i)=false:=by simpa using hji
     exact up _ (hcl j o' hj (by simpa[upd,hne] using tQ) e he hb)
   have jR:∀ (n:Nat) (k:Kn),K[n]?=some k→Bd o k.1→At b k.2.1 k.2.2:=fun n k hk ⟨gr,he,hb⟩=>hkn k (asV hk) (hA _ he hb)
   have keep:∀ {b':Act} {d:Nat} {v:Value},o.dst=some d→Put b d v b'→(∀ k∈K,k.1=i→k.2.2=v)→(∀ j v,(l.filterMap (·.dst)).contains j=false→At a j v→At b' j v)∧∀ k∈K,upd L i k.1=true→At b' k.2.1 k.2.2:=by
    intro b' d v hd hp hv;constructor
    ·intro j x SL hx;refine hp.old ?_ (hout j x SL hx)
     cases e:j == d with
     | false=>rfl
     | true=>
      have e':j=d:=by simpa using e
      rw[e',hin i o d ho hd] at SL;cases SL
    ·intro k hk hLk;obtain⟨o',ho',hd'⟩:=ZM k hk;by_cases hki:k.1=i
     ·rw[hki] at ho';obtain rfl:o=o':=asS (ho.symm.trans ho');obtain rfl:d=k.2.1:=asS (hd.symm.trans hd');rw[hv k hk hki];exact hp.now
     ·have hne:(k.1 == i)=false:=by simpa using hki
      refine hp.old ?_ (hkn k hk (by simpa[upd,hne] using hLk))
      cases e:k.2.1 == d with
      | false=>rfl
      | true=>
       have e':k.2.1=d:=by simpa using e
       exact absurd (hidx k.1 i o' o d ho' ho (by rw[hd',e']) hd) hki
   cases XT:F.contains i with
   | true=>
    have hj:J u:=by
     rcases hj with hj|hj
     ·exact hj
     ·rw[hj i XT] at hL;cases hL
    obtain⟨k,hk,hki⟩:=List.any_eq_true.1 (asP.1 hF i (by simpa using XT));have hki:k.1=i:=by simpa using hki
    obtain⟨o',ho',hd'⟩:=ZM k hk;rw[hki] at ho';obtain rfl:o=o':=asS (ho.symm.trans ho');obtain⟨hw,hr⟩:=rR hfl k hk (by rw[hki];exact XT) o (by rw[hki];exact ho) b u hfr hj hout jR
    have hsN:k.2.1<N:=by
     have:=asP.1 hbd k.2.1 (List.mem_filterMap.2 ⟨o,asV ho,hd'⟩);simpa using this
    refine nD hw hr hd' hfr hsN fun b' hp=>as1 (hNext b' u ?_)
    have hkv:∀ k'∈K,k'.1=i→k'.2.2=k.2.2:=fun k' hk' e=>by
     obtain⟨_,_,_⟩:=ZM k' hk';obtain⟨w2,h2⟩:=rR hfl k' hk' (by rw[e];exact XT) o (by rw[e];exact ho) b u hfr hj hout jR;rw[hr] at h2;injection h2 with h2;injection h2 with h2;exact h2.symm
    obtain⟨g1,g2⟩:=keep hd' hp hkv;refine⟨hcl',hp.fr hfr,.inl hj,g1,g2,t,E,a0,fun j hjl Zy=>?_,hc,hs,hag.put hp ?_,hsp⟩
    ·have hne:(j == i)=false:=by
      cases e:j == i with
      | false=>rfl
      | true=>
       have e':j=i:=by simpa using e
       rw[e',XT] at Zy;cases Zy
     rw[← ZL j hjl Zy];simp[upd,hne]
    ·have:k.2.1∈xs F K:=List.mem_filterMap.2 ⟨k,hk,by rw[hki,XT];rfl⟩;simpa using this
   | false=>
    have hEi:E.contains i=false:=by rw[← ZL i hil XT];exact hL
    have hmem:=R4 (F:=F) (E:=E) ho XT hEi fun e he hb=>by
     have hLe:=hA e he hb;have hlt:=kT 0 l eM i o ho e he hb
     cases hFe:F.contains e.on with
     | true=>exact .inl rfl
     | false=>exact .inr (by rw[← ZL e.on (by omega) hFe];exact hLe)
    have hh:=asP.1 hc i hmem
    have fin:∀ a1,Moved K i o b a1→Fr a1 N∧(∀ j v,(l.filterMap (·.dst)).contains j=false→At a j v→At a1 j v)∧∀ k∈K,upd L i k.1=true→At a1 k.2.1 k.2.2:=by
     intro a1 hmv;rcases hmv with⟨hd,rfl⟩|⟨d,v,hd,hp,hv⟩
     ·refine⟨hfr,hout,fun k hk hLk=>?_⟩;obtain⟨o',ho',hd'⟩:=ZM k hk;by_cases hki:k.1=i
      ·rw[hki] at ho';obtain rfl:o=o':=asS (ho.symm.trans ho');rw[hd] at hd';cases hd'
      ·have hne:(k.1 == i)=false:=by simpa using hki
       exact hkn k hk (by simpa[upd,hne] using hLk)
     ·obtain⟨g1,g2⟩:=keep hd hp fun k hk e=>by
       obtain⟨n,hn⟩:=List.getElem?_of_mem hk;exact hv n k hn e
      exact⟨hp.fr hfr,g1,g2⟩
    rcases zE hsp hs (j:=i) (by simpa using hh) with⟨t',h1,h2⟩|⟨h1,h2⟩
    ·simp only[nF,asO] at h2;refine h1 o ho b hag jR Q' fun a1 w1 hJ1 hmv hS=>hNext a1 w1 ?_
     have fin:=fin a1 hmv;refine⟨hcl',fin.1,.inl hJ1,fin.2.1,fin.2.2,t',i::E,a1,fun j hjl Zy=>?_,h2.1.2,h2.2,.refl _ _,hS⟩;simp only[upd,List.contains_cons,ZL j hjl Zy]
    ·simp only[nF,asO] at h2;refine h1 o ho b hag jR Q' fun a1 w1 hmv hS=>hNext a1 w1 ?_
     have fin:=fin a1 hmv;refine⟨hcl',fin.1,.inr fun f hfF=>?_,fin.2.1,fin.2.2,.done,i::E,a1,fun j hjl Zy=>?_,h2.1.1.2,h2.1.2,.refl _ _,hS⟩
     ·have h3:=h2.2;rw[ho] at h3;obtain⟨e,he,hb⟩:=List.any_eq_true.1 (asP.1 h3 f (by simpa using hfF));simp only[asO,beq_iff_eq] at hb;exact up f (by rw[← hb.2];exact hA e he hb.1)
     ·simp only[upd,List.contains_cons,ZL j hjl Zy]
  have all:∀ (r:List Oper) (m:Nat),(∀ i o,r[i]?=some o→l[m+i]?=some o)→jl P l.toArray (fun L b u=>(∀ j o,l[j]?=some o→L j=true→∀ e∈o.after.toList,Region.binds .any e=true→L e.on=true)∧Fr b N∧(J u∨∀ f,F.contains f=true→L f=true)∧(∀ j v,(l.filterMap (·.dst)).contains j=false→At a j v→At b j v) ∧
   (∀ k∈K,L k.1=true→At b k.2.1 k.2.2)∧∃ t E a0,(∀ j,j<l.length→F.contains j=false→L j=E.contains j)∧((cand l F E).all fun i=>(heads t).contains i)=true∧nF l F t E=true∧I_ (xs F K) a0 b∧NQ P l.toArray l K (xs F K) J (Q .normal) t a0 u) m r:=by
   intro r
   induction r with
   | nil=>intro m _;trivial
   | cons o r ih=>
    intro m h;refine⟨fun L b u Q' hI hL hA hK=>key m o (h 0 o rfl) L b u Q' hI hL hA hK,ih (m+1) fun i o' ho'=>?_⟩;have:=h (i+1) o' (by simpa using ho')
    rwa [show m+1+i=m+(i+1) by omega]
  exact all l 0 fun i o ho=>by simpa using ho
 ·intro L b u ⟨hcl,hfr,hj,hout,hkn,t,E,a0,ZL,hc,hs,hag,hsp⟩ hall
  have h:=Mq hsp hs fun j hjl=>by
   cases hF:F.contains j with
   | true=>exact .inl rfl
   | false=>exact .inr (by rw[← ZL j hjl hF];exact hall j hjl)
  exact h b hag fun n k hk=>hkn k (asV hk) (hall k.1 (by
   obtain⟨o,ho,_⟩:=ZM k (asV hk);exact(asT.1 ho).1))
end
section
variable (P:Program) (fn:Func) (R:Ending→World→Prop) (N:Nat)
theorem hrC(s:Nat)(ty:TypeId)(hr:fn.results=#[.cell s ty]){d:TypeDesc}(hu:P.underlying ty=some d)(hd:(match d with|.struct _|.array _ _=>true|_=>false)=true){n:Nat}(hi:(P.info? ty).map (·.size)=some n)
 (a:Act) (w:World) (l:Slots) (g:Nat) (t:TypeId) (cs:Array Value) (F:Fs a N l) (hv:look s l=some (.pointer (some ⟨g,0,none⟩))) (hW:Whole w g t cs) (hn:Nat.beq n cs.size=true) (hR:R (.returned (.agg cs)) w):bodyPost P fn R .ret a w:=by
 refine⟨F.fr.defers,_,?_,hR⟩;have h:=F.e s hv;have hs:(P.info? ty).map (·.size)=some cs.size:=by rw[hi,asY hn]
 have h2:a.tmps.getD s undef=.pointer (some ⟨g,0,none⟩):=h;rw[as0] at h2;simp[results,hr,h2,asAddr,run_loadVar_row w g t ty cs (0,0) d hW hu hd hs]
end
theorem Q0{P:Program}{ops ops':Array Oper}{Q:Exit→Act→World→Prop}{S:Act→World→Prop}{o:Oper}{a:Act}{w:World}(hg:o.guard=none)(hS:∀ a w,S a w→a.defers=[])
 (h:wpList P ops' (fun e a w=>e=.normal∧S a w) [o] a w) (next:∀ a1 w1,S a1 w1→(∃ v,a1=a.put o.dst v)→Q .normal a1 w1):wpList P ops Q [o] a w:=by
 have hw:∀ ops,Region.wanted o (yielded ops a.tmps)=true:=fun ops=>jN hg
 have hno:¬ LetsOut (fun e a w=>e=Exit.normal∧S a w):=fun⟨_,_,h,_⟩=>by cases h
 unfold wpList at h ⊢;rw[if_pos (hw _)] at h ⊢;rcases h with h|⟨_,h⟩
 case inr=>exact absurd h hno
 refine .inl ?_;unfold Oper.wp at h ⊢;generalize (execOp a.eval o).run P w=r at h ⊢
 match r,h with
 | .ok (.value v) w',h=>exact next _ _ h.2 ⟨_,rfl⟩
 | .ok .skip w',h=>exact next _ _ h.2 ⟨_,rfl⟩
 | .ok (.defer d) w',h=>exact absurd (hS _ _ h.2) (by cases o.dst<;>simp[Act.put])
 | .ok (.enter f args) w',h=>
  refine Calls.mono h fun e w'' h=>?_
  match e,h with
  | .returned v,h=>exact next _ _ h.2 ⟨_,rfl⟩
  | .panicked c,h=>cases h.1
  | .outgrown,h=>exact absurd h hno
 | .ok (.row row args) w',h=>exact Rows.mono h fun v w'' h=>next _ _ h.2 ⟨_,rfl⟩
 | .halt (.panic v) w',h=>cases h.1
def BO:Nat→Slots→List fP
 | _,[]=>[]
 | n,(s,v)::r=>⟨s,n,[],true,v⟩::BO (n+1) r
theorem jO:∀ {S:Slots} {n:Nat} {e:fP},e∈BO n S→∃ i s v,S[i]?=some (s,v)∧e=⟨s,n+i,[],true,v⟩
 | [],_,_,h=>by cases h
 | (s,v)::r,n,e,h=>by
  rcases asM.1 h with rfl|h
  ·exact⟨0,s,v,rfl,rfl⟩
  ·obtain⟨i,s',v',h1,h2⟩:=jO h;exact⟨i+1,s',v',by simpa using h1,by rw[h2,show n+1+i=n+(i+1) by omega]⟩
def ahK(s:Nat)(o:Oper):Oper:={ o with dst:=some s }
def DS(o:Oper)(S:Slots):Array Oper:=(S.map (fun x=>ahK x.1 o)++[o]).toArray
section
variable {a:Act} {N:Nat} {l S:Slots} {o:Oper}
theorem VD:(DS o S)[S.length]?=some o:=by
 unfold DS;simp
theorem TL:jm (BO 0 S) S.length:=by
 refine⟨?_,?_,?_,?_⟩
 ·intro e he;obtain⟨i,s,v,h1,rfl⟩:=jO he;have:=(asT.1 h1).1;simpa using this
 ·intro e he e' he' hj;obtain⟨i,s,v,h1,rfl⟩:=jO he;obtain⟨i',s',v',h1',rfl⟩:=jO he';obtain rfl:i=i':=by simpa using hj
  rw[h1] at h1';obtain⟨rfl,rfl⟩:=Prod.mk.inj (asS h1');rfl
 ·intro e he x hx;obtain⟨i,s,v,h1,rfl⟩:=jO he;cases hx
 ·intro e he;obtain⟨i,s,v,h1,rfl⟩:=jO he;simp
theorem ac2(hf:Fr a N)(hS:∀ x∈S,At a x.1 x.2)(hl:∀ q v,look q l=some v→At a q v):Inv (DS o S) a N l (BO 0 S) S.length:=by
 refine⟨hf,TL,?_,?_,fun q v _ h=>hl q v h⟩
 ·intro e he;obtain⟨i,s,v,h1,rfl⟩:=jO he;have hi:=(asT.1 h1).1;simp only[DS,Nat.zero_add,List.getElem?_toArray];rw[List.getElem?_append_left (by simpa using hi),asR,h1];rfl
 ·intro e he;obtain⟨i,s,v,h1,rfl⟩:=jO he;exact hS (s,v) (asV h1)
end
def BZ:List Kn→Oper→Slots
 | [],_=>[]
 | (j,d,v)::r,o=>bif rS o j then (d,v)::BZ r o else BZ r o
theorem yN{o:Oper}{x:Nat×Value}:∀ {K:List Kn},x∈BZ K o→∃ k∈K,rS o k.1=true∧k.2=x
 | [],h=>by cases h
 | (j,d,v)::r,h=>by
  unfold BZ at h
  cases e:rS o j with
  | false=>
   rw[e] at h;obtain⟨k,h1,h2⟩:=yN h;exact⟨k,asN _ h1,h2⟩
  | true=>
   rw[e] at h;rcases asM.1 h with rfl|h
   ·exact⟨_,asX ..,e,rfl⟩
   ·obtain⟨k,h1,h2⟩:=yN h;exact⟨k,asN _ h1,h2⟩
theorem Nr{o:Oper}{j:Nat}(h:rS o j=true):Bd o j:=by
 unfold rS at h;obtain⟨⟨on,gr⟩,h1,h2⟩:=List.any_eq_true.1 h;simp only[asO,beq_iff_eq] at h2;obtain⟨h2,rfl⟩:=h2;exact⟨gr,h1,h2⟩
def Uf:List Kn→Slots
 | []=>[]
 | (_,d,v)::r=>(d,v)::Uf r
theorem G1{x:Nat×Value}:∀ {K:List Kn},x∈Uf K→∃ k∈K,k.2=x
 | [],h=>by cases h
 | (j,d,v)::r,h=>by
  rcases asM.1 h with rfl|h
  ·exact⟨_,asX ..,rfl⟩
  ·obtain⟨k,h1,h2⟩:=G1 h;exact⟨k,asN _ h1,h2⟩
theorem zZ{q:Nat}{v:Value}:∀ {l:Slots},look q l=some v→(q,v)∈l
 | [],h=>by cases h
 | (s,u)::r,h=>by
  rw[bG] at h
  cases e:q == s with
  | true=>
   rw[e] at h;obtain rfl:u=v:=asS h;obtain rfl:q=s:=by simpa using e
   exact asX ..
  | false=>
   rw[e] at h;exact asN _ (zZ h)
theorem mX{q:Nat}:∀ {l:Slots},look q l=none→∀ x∈l,x.1≠q
 | [],_,x,hx=>by cases hx
 | (s,u)::r,h,x,hx=>by
  rw[bG] at h
  cases e:q == s with
  | true=>rw[e] at h;cases h
  | false=>
   rw[e] at h;rcases asM.1 hx with rfl|hx
   ·exact fun h'=>(by simpa using e:q≠s) h'.symm
   ·exact mX h x hx
theorem Zc{o:Option Value}(h:isN o=true):o=none:=by cases o with|none=>rfl|some v=>cases h
theorem z6{q:Nat}{v:Value}:∀ {l r:Slots},look q (l++r)=some v→look q l=some v∨look q r=some v
 | [],_,h=>.inr h
 | (s,u)::t,r,h=>by
  rw[List.cons_append,bG] at h;rw[bG]
  cases e:q == s with
  | true=>rw[e] at h;exact .inl h
  | false=>
   rw[e] at h;exact z6 h
def ldJ(B:Nat)(w0:World)(bs:List Bx)(D:TD)(g off:Nat)(k:Value→Prop):Prop:=
 bif D.one' then
  (∃ i,rK bs i fun b=>match b with|(b,T,cs)=>bif Nat.blt T 9000 then b=g∧rK cs.toList off k else False)∨(∃ v,(∀ u,asW B w0 u→u.cell? ⟨g,off,none⟩=some v)∧k v)
 else
  (∃ i,rK bs i fun b=>match b with|(b,T,cs)=>bif Nat.blt T 9000 then b=g∧(Ir off cs.toList fun r=>Gl (iV D) r fun l=>k (.agg l.toArray)) else False) ∨
   (∃ cs:List Value,(∀ u,asW B w0 u→∀ j v,cs[j]?=some v→u.cell? ⟨g,off+j,none⟩=some v)∧pQ cs (iV D) (k (.agg cs.toArray)))
theorem Y5{B:Nat}{w0:World}{bs:List Bx}{D:TD}{g off:Nat}{kk:Value→Prop}(h:ldJ B w0 bs D g off kk){ty:TypeId}(hD:jI Tryz.prog ty D=true):∃ v,kk v∧∀ u,Jm B w0 bs u→∀ (a:Act) (o:Oper) (x:Operand),o.op=.load ty x→a.eval x=.pointer (some ⟨g,off,none⟩)→(execOp a.eval o).run Tryz.prog u=.ok (.value v) u:=by
 unfold ldJ at h
 cases h1:D.one' with
 | true=>
  rw[h1] at h;obtain⟨dd,hu,hd⟩:=Ri hD h1;rcases h with⟨i,h⟩|⟨v,h2,h3⟩
  ·obtain⟨⟨b,T,cs⟩,hb,h⟩:=gF h;obtain⟨hT,rfl,h3⟩:=bH h;obtain⟨v,h4,h5⟩:=gF h3;exact⟨v,h5,fun u J a o x ho hx=>aD ho hx hu (by cases dd<;>first|rfl|cases hd) ((J.b i hb hT).cell off▸by simpa using h4)⟩
  ·exact⟨v,h3,fun u J a o x ho hx=>aD ho hx hu (by cases dd<;>first|rfl|cases hd) (h2 u J.below)⟩
 | false=>
  rw[h1] at h;obtain⟨dd,hu,hd,hs⟩:=yE hD h1;rcases h with⟨i,h⟩|⟨cs,h2,h3⟩
  ·obtain⟨⟨b,T,cs⟩,hb,h⟩:=gF h;obtain⟨hT,rfl,h3⟩:=bH h;obtain⟨h4,h5⟩:=Iq h3;obtain⟨h6,h7⟩:=Gj h5;refine⟨_,h7,fun u J a o x ho hx=>?_⟩;refine bT _ ho hx hu (by cases dd<;>first|rfl|cases hd) (hs.trans ?_) (fU (J.b i hb hT) ?_)
   ·rw[asQ,Nat.min_eq_left h6]
   ·rw[asQ,Nat.min_eq_left h6]
  ·obtain⟨h4,h5⟩:=iz h3;exact⟨_,h5,fun u J a o x ho hx=>bT cs ho hx hu (by cases dd<;>first|rfl|cases hd) (hs.trans (by rw[h4])) (h2 u J.below)⟩
def Yq(B:Nat)(w0:World)(l:Slots)(xw:List Bx)(L:List Oper):List Nat→List Kn→(List Kn→Prop)→Prop
 | [],K,f=>f K
 | j::r,K,f=>rK L j fun o=>match o.guard with
  | some _=>False
  | none=>match o.dst with
   | none=>False
   | some d=>match o.op with
    | .load ty x=>pI l (BO 0 (BZ K o)) [] x fun u=>DQ u False fun g off=>Bz ty (fun D=>ldJ B w0 xw D g off fun v=>rZ K [(j,d,v)] fun K'=>Yq B w0 l xw L r K' f) TT
    | op=>pop l (BO 0 (BZ K o)) [] true (fun v=>rZ K [(j,d,v)] fun K'=>Yq B w0 l xw L r K' f) op
def FlP(B:Nat)(w0:World)(N:Nat)(l:Slots)(xw:List Bx)(L:List Oper)(K:List Kn)(k:Kn):Prop:=
 ∃ o,L[k.1]?=some o∧o.dst=some k.2.1∧o.guard=none∧∀ (b:Act) (u:World),Fr b N→Jm B w0 xw u→(∀ q v,look q l=some v→At b q v)→(∀ k'∈K,rS o k'.1=true→At b k'.2.1 k'.2.2)→(execOp b.eval o).run Tryz.prog u=.ok (.value k.2.2) u
section
variable {B:Nat} {w0:World} {N:Nat} {l:Slots} {xw:List Bx} {L:List Oper}
theorem Rb:∀ {F:List Nat} {K:List Kn} {f:List Kn→Prop},Yq B w0 l xw L F K f→∃ K1,f (K++K1)∧K1.map (·.1)=F∧∀ k∈K1,FlP B w0 N l xw L (K++K1) k
 | [],K,f,h=>⟨[],by rw[List.append_nil];unfold Yq at h;exact h,rfl,by simp⟩
 | j::r,K,f,h=>by
  unfold Yq at h;obtain⟨o,ho,h⟩:=gF h;split at h
  ·exact h.elim
  rename_i hg;split at h
  ·exact h.elim
  rename_i d hd
  have hE:∀ (b:Act),Fr b N→(∀ q v,look q l=some v→At b q v)→(∀ k'∈K,rS o k'.1=true→At b k'.2.1 k'.2.2)→Inv (DS o (BZ K o)) b N l (BO 0 (BZ K o)) (BZ K o).length:=fun b hf hl hk=>ac2 hf (fun x hx=>by
   obtain⟨k,h1,h2,rfl⟩:=yN hx;exact hk k h1 h2) hl
  have main:∀ v:Value,(∀ (b:Act) (u:World),Fr b N→Jm B w0 xw u→Inv (DS o (BZ K o)) b N l (BO 0 (BZ K o)) (BZ K o).length→(execOp b.eval o).run Tryz.prog u=.ok (.value v) u)→(rZ K [(j,d,v)] fun K'=>Yq B w0 l xw L r K' f)→∃ K1,f (K++K1)∧K1.map (·.1)=j::r∧∀ k∈K1,FlP B w0 N l xw L (K++K1) k:=by
   intro v hv h;obtain⟨K1,h1,h2,h3⟩:=Rb (jk h);rw[List.append_assoc] at h1 h3;refine⟨(j,d,v)::K1,h1,by simp[h2],fun k hk=>?_⟩;rcases asM.1 hk with rfl|hk
   ·exact⟨o,ho,hd,hg,fun b u hf hJ hl hkn=>hv b u hf hJ (hE b hf hl fun k' hk'=>hkn k' (List.mem_append_left _ hk'))⟩
   ·exact h3 k hk
  split at h
  ·rename_i ty x hop;obtain⟨u,h1,h5⟩:=cq h;rcases nI h5 with⟨g,off,rfl,h6⟩|h6
   case inr=>exact h6.elim
   obtain⟨D,hD,h7⟩:=jH h6;obtain⟨v,h2,h3⟩:=Y5 h7 hD;exact main v (fun b u hf hJ I=>h3 u hJ b o x hop (I.E h1 (by simp))) h2
  ·obtain⟨v,h2,h3⟩:=Kk TL (by simp) h;exact main v (fun b u hf hJ I=>h3 b u o rfl (fun x _ π' v hR hc=>I.E hR hc) rfl) h2
end
def newS:Nat→List fP→Slots→(Slots→Prop)→Prop
 | 0,_,T,f=>f T
 | n+1,⟨s,_,p,t,v⟩::r,T,f=>(match p with
  | []=>(match t with
   | true=>newS n r T fun T'=>f ((s,v)::T')
   | false=>False)
  | _::_=>False)
 | _+1,[],_,_=>False
theorem MP:∀ {n:Nat} {m:List fP} {T:Slots} {f:Slots→Prop},newS n m T f→∃ T',f T'∧∀ x∈T',x∈T∨∃ e∈m,e.t=true∧(e.s,e.v)=x
 | 0,_,T,f,h=>⟨T,h,fun x hx=>.inl hx⟩
 | n+1,⟨s,j,p,t,v⟩::r,T,f,h=>by
  unfold newS at h;split at h
  ·split at h
   ·obtain⟨T',h1,h2⟩:=MP h;refine⟨_,h1,fun x hx=>?_⟩;rcases asM.1 hx with rfl|hx
    ·exact .inr ⟨_,asX ..,rfl,rfl⟩
    ·rcases h2 x hx with h3|⟨e,h3,h4⟩
     ·exact .inl h3
     ·exact .inr ⟨e,asN _ h3,h4⟩
   ·exact h.elim
  ·exact h.elim
 | _+1,[],_,_,h=>h.elim
def Vi:List Nat→List Bx→(List Bx→Prop)→Prop
 | [],_,f=>f []
 | i::r,bs,f=>rK bs i fun b=>Vi r bs fun l=>f (b::l)
theorem DF:∀ {kb:List Nat} {bs:List Bx} {f:List Bx→Prop},Vi kb bs f→∃ l,f l∧∀ b∈l,b∈bs
 | [],_,_,h=>⟨[],h,by simp⟩
 | i::r,bs,f,h=>by
  obtain⟨b,h1,h2⟩:=gF h;obtain⟨l,h3,h4⟩:=DF h2;refine⟨_,h3,fun x hx=>?_⟩;rcases asM.1 hx with rfl|hx
  ·exact asV h1
  ·exact h4 x hx
def rvK:List Bx→List Bx→(List Bx→Prop)→Prop
 | [],acc,f=>f acc
 | b::r,acc,f=>rvK r (b::acc) f
theorem J9:∀ {bs acc:List Bx} {f:List Bx→Prop},rvK bs acc f→∃ l,f l∧∀ b∈l,b∈bs∨b∈acc
 | [],acc,_,h=>⟨acc,h,fun _ h=>.inr h⟩
 | b::r,acc,f,h=>by
  obtain⟨l,h1,h2⟩:=J9 (bs:=r) h;refine⟨l,h1,fun x hx=>?_⟩;rcases h2 x hx with h3|h3
  ·exact .inl (asN _ h3)
  ·rcases asM.1 h3 with rfl|h3
   ·exact .inl (asX ..)
   ·exact .inr h3
def oN(o:Oper)(T:Slots):Bool:=match o.dst with
 | none=>true
 | some d=>isN (look d T)
def YH(q:Nat):List Kn→Bool
 | []=>true
 | (_,d,_)::r=>bif Nat.beq q d then false else YH q r
theorem JY{q:Nat}:∀ {K:List Kn},YH q K=true→∀ k∈K,k.2.1≠q
 | [],_,_,h=>by cases h
 | (j,d,v)::r,h,k,hk=>by
  unfold YH at h
  cases e:Nat.beq q d with
  | true=>rw[e] at h;cases h
  | false=>
   rw[e] at h;rcases asM.1 hk with rfl|hk
   ·intro e';have e':d=q:=e';rw[e',Nat.beq_refl] at e;cases e
   ·exact JY h k hk
def frK(K:List Kn):Slots→Bool
 | []=>true
 | (q,_)::r=>bif YH q K then frK K r else false
theorem Tg{K:List Kn}:∀ {T:Slots},frK K T=true→∀ x∈T,∀ k∈K,k.2.1≠x.1
 | [],_,_,h=>by cases h
 | (q,v)::r,h,x,hx=>by
  unfold frK at h
  cases e:YH q K with
  | false=>rw[e] at h;cases h
  | true=>
   rw[e] at h;rcases asM.1 hx with rfl|hx
   ·exact JY e
   ·exact Tg h x hx
def noJ(j:Nat):List Kn→Bool
 | []=>true
 | (i,_,_)::r=>bif Nat.beq j i then false else noJ j r
theorem RT{j:Nat}:∀ {K:List Kn},noJ j K=true→∀ k∈K,k.1≠j
 | [],_,_,h=>by cases h
 | (i,d,v)::r,h,k,hk=>by
  unfold noJ at h
  cases e:Nat.beq j i with
  | true=>rw[e] at h;cases h
  | false=>
   rw[e] at h;rcases asM.1 hk with rfl|hk
   ·intro e';have e':i=j:=e';rw[e',Nat.beq_refl] at e;cases e
   ·exact RT h k hk
theorem Ee{ds:List Nat}:∀ {l:Slots} {f:Slots→Prop},UE ds l f→∃ l',f l'∧∀ x∈l',x∈l
 | [],f,h=>⟨[],h,fun _ h=>h⟩
 | (s,v)::r,f,h=>by
  unfold UE at h
  cases hm:jr s ds with
  | true=>
   rw[hm] at h;obtain⟨l',h1,h2⟩:=Ee h;exact⟨l',h1,fun x hx=>asN _ (h2 x hx)⟩
  | false=>
   rw[hm] at h;obtain⟨l',h1,h2⟩:=Ee h;exact⟨_,h1,fun x hx=>(asM.1 hx).elim (fun e=>e▸asX ..) fun hx=>asN _ (h2 x hx)⟩
def flO(d:Option Nat)(T:Slots)(f:Slots→Prop):Prop:=match d with
 | none=>f T
 | some q=>UE [q] T f
theorem Z4{d:Option Nat}{T:Slots}{f:Slots→Prop}(h:flO d T f):∃ l',f l'∧∀ x∈l',x∈T:=by
 unfold flO at h;split at h
 ·exact⟨T,h,fun _ h=>h⟩
 ·exact Ee h
def ltK(K:List Kn)(l:Slots):List Nat→(Slots→Prop)→Prop
 | [],f=>f []
 | d::r,f=>match look d l with
  | none=>ltK K l r f
  | some v=>bif YH d K then ltK K l r fun T=>f ((d,v)::T) else ltK K l r f
theorem DY{K:List Kn}{l:Slots}:∀ {ds:List Nat} {f:Slots→Prop},ltK K l ds f→∃ T,f T∧∀ x∈T,look x.1 l=some x.2∧∀ k∈K,k.2.1≠x.1
 | [],f,h=>⟨[],h,fun _ h=>by cases h⟩
 | d::r,f,h=>by
  unfold ltK at h;split at h
  ·exact DY h
  ·rename_i v hv
   cases e:YH d K with
   | false=>rw[e] at h;exact DY h
   | true=>
    rw[e] at h;obtain⟨T,h1,h2⟩:=DY h;refine⟨_,h1,fun x hx=>?_⟩;rcases asM.1 hx with rfl|hx
    ·exact⟨hv,JY e⟩
    ·exact h2 x hx
def vop(B:Nat)(w0:World)(N:Nat)(l:Slots)(L:List Oper)(K:List Kn)(j:Nat)(T:Slots)(bs:List Bx)(rs:List Rw)(w:World)(k:Slots→List Bx→List Rw→World→Prop):Prop:=
 rK L j fun o=>match o.guard with
  | some _=>False
  | none=>flO o.dst T fun T1=>bif oN o T1 then bif noJ j K then rZ T1 (BZ K o) fun S=>Ro B w0 N l o S.length (BO 0 S) bs rs w fun m' bs' rs' w'=>newS (m'.length-S.length) m' T1 fun T'=>bif frK K T' then k T' bs' rs' w' else False else False else False
def vst(B:Nat)(w0:World)(N:Nat)(l:Slots)(L:List Oper)(K:List Kn)(kb:List Nat)(xw:List Bx)(k:Slots→List Bx→List Rw→World→Prop):Tr→Slots→List Bx→List Rw→World→Prop
 | .done,T,bs,rs,w=>rZ (Uf K) l fun r=>rZ T r fun l'=>k l' bs rs w
 | .step j t,T,bs,rs,w=>vop B w0 N l L K j T bs rs w fun T' bs' rs' w'=>(rvK bs' [] fun r=>Vi kb r fun b=>b=xw)∧vst B w0 N l L K kb xw k t T' bs' rs' w'
 | .last j,T,bs,rs,w=>vop B w0 N l L K j T bs rs w fun T' bs' rs' w'=>rZ (Uf K) l fun r=>rZ T' r fun l'=>k l' bs' rs' w'
 | .alt x y,T,bs,rs,w=>vst B w0 N l L K kb xw k x T bs rs w∧vst B w0 N l L K kb xw k y T bs rs w
section
variable {B:Nat} {w0:World} {N:Nat} {l:Slots} {xw:List Bx} {L:List Oper} {K:List Kn} {kb:List Nat} {k:Slots→List Bx→List Rw→World→Prop}
theorem W_{F:List Nat}{q:Nat}(h:∀ k∈K,k.2.1≠q):(xs F K).contains q=false:=by
 cases e:(xs F K).contains q with
 | false=>rfl
 | true=>
  have e:q∈xs F K:=by simpa using e
  unfold xs at e;obtain⟨k,h1,h2⟩:=List.mem_filterMap.1 e;split at h2
  ·exact absurd (asS h2) (h k h1)
  ·cases h2
structure TI (N:Nat) (l:Slots) (K:List Kn) (T:Slots) (a:Act):Prop where
 fr:Fr a N
 l_:∀ q v,look q l=some v→At a q v
 T_:∀ x∈T,At a x.1 x.2
 K_:∀ x∈T,∀ k∈K,k.2.1≠x.1
variable (Pp:∀ q v,look q l=some v→∀ k∈K,k.2.1≠q) (rP:∀ (j:Nat) (o:Oper) (d:Nat),L[j]?=some o→o.dst=some d→look d l=none∧d<N)
include Pp in
theorem TI.agr{F:List Nat}{T:Slots}{a a':Act}(h:TI N l K T a)(hA:I_ (xs F K) a a'):TI N l K T a':=
 ⟨hA.fr h.fr,fun q v hq=>hA.old (W_ (Pp q v hq)) (h.l_ q v hq),fun x hx=>hA.old (W_ (h.K_ x hx)) (h.T_ x hx),h.K_⟩
include Pp in
theorem TI.end{F:List Nat}{T:Slots}{a a':Act}(h:TI N l K T a)(hA:I_ (xs F K) a a')(hk:∀ (n:Nat) (k:Kn),K[n]?=some k→At a' k.2.1 k.2.2):Fs a' N (T++(Uf K++l)):=by
 have h':=h.agr Pp hA;refine⟨h'.fr,fun q v hq=>?_⟩;rcases z6 hq with hq|hq
 ·exact h'.T_ _ (zZ hq)
 ·rcases z6 hq with hq|hq
  ·obtain⟨k,h1,h2⟩:=G1 (zZ hq);obtain⟨i,hi⟩:=List.getElem?_of_mem h1;have:=hk i k hi
   rwa [h2] at this
  ·exact h'.l_ q v hq
include Pp rP in
theorem Ra{F:List Nat}{ops:Array Oper}{Q':Exit→Act→World→Prop}{j:Nat}{T:Slots}{bs:List Bx}{rs:List Rw}{a a':Act}{w:World}{kk:Slots→List Bx→List Rw→World→Prop}(hv:vop B w0 N l L K j T bs rs w kk)(h:TI N l K T a)(M:bg B w0 w bs rs){o:Oper}(ho:L[j]?=some o)
 (hA:I_ (xs F K) a a') (hb:∀ (n:Nat) (k:Kn),K[n]?=some k→Bd o k.1→At a' k.2.1 k.2.2)
 (next:∀ a1 w1 T' bs' rs',TI N l K T' a1→bg B w0 w1 bs' rs'→kk T' bs' rs' w1→Moved K j o a' a1→Q' .normal a1 w1):wpList Tryz.prog ops Q' [o] a' w:=by
 unfold vop at hv;obtain⟨o',ho',hv⟩:=gF hv;obtain rfl:o'=o:=asS (ho'.symm.trans ho);split at hv
 ·exact hv.elim
 rename_i hg;obtain⟨T1,hv,hT1⟩:=Z4 hv;obtain⟨hoN,hv⟩:=bH hv;obtain⟨hnJ,hv⟩:=bH hv;replace hv:=jk hv;have h':=h.agr Pp hA
 have hS:∀ x∈T1++BZ K o',At a' x.1 x.2:=fun x hx=>by
  rcases List.mem_append.1 hx with hx|hx
  ·exact h'.T_ x (hT1 x hx)
  ·obtain⟨k,h1,h2,rfl⟩:=yN hx;obtain⟨i,hi⟩:=List.getElem?_of_mem h1;exact hb i k hi (Nr h2)
 have I:Inv (DS o' (T1++BZ K o')) a' N l (BO 0 (T1++BZ K o')) (T1++BZ K o').length:=ac2 h'.fr hS h'.l_;refine Q0 (ops':=DS o' (T1++BZ K o')) (S:=fun a1 w1=>∃ m' bs' rs',Inv (DS o' (T1++BZ K o')) a1 N l m' ((T1++BZ K o').length+1)∧bg B w0 w1 bs' rs'∧newS (m'.length-(T1++BZ K o').length) m' T1 fun T'=>bif frK K T' then kk T' bs' rs' w1 else False) hg (fun a w ⟨_,_,_,I,_⟩=>I.fr.defers) (DC I M VD hv fun a1 m' bs' rs' w1 I' M' h'=>as1 ⟨rfl,m',bs',rs',I',M',h'⟩) ?_;rintro a1 w1 ⟨m',bs',rs',I',M',hn⟩ ⟨v,rfl⟩;obtain⟨T',h1,h2⟩:=MP hn;obtain⟨h3,h4⟩:=bH h1
 have keep:∀ q u,(∀ d,o'.dst=some d→d≠q)→At a' q u→At (a'.put o'.dst v) q u:=fun q u hq hu=>by
  cases hd:o'.dst with
  | none=>exact hu
  | some d=>
   refine(rG h'.fr (rP j o' d ho hd).2).old ?_ hu;simpa using fun e=>hq d hd e.symm
 have hT:∀ x∈T1,At (a'.put o'.dst v) x.1 x.2:=fun x hx=>keep _ _ (fun d hd=>by
  unfold oN at hoN;rw[hd] at hoN;exact fun e=>mX (Zc hoN) x hx e.symm) (h'.T_ x (hT1 x hx))
 refine next _ _ T' bs' rs' ⟨I'.fr,fun q u hq=>keep _ _ (fun d hd e=>?_) (h'.l_ q u hq),fun x hx=>?_,Tg h3⟩ M' h4 ?_
 ·rw[← e,(rP j o' d ho hd).1] at hq;cases hq
 ·rcases h2 x hx with h5|⟨e,h5,h6,rfl⟩
  ·exact hT x h5
  ·have:=I'.at_ e h5
   rwa [h6] at this
 ·cases hd:o'.dst with
  | none=>exact .none hd rfl
  | some d=>
   refine .some d v hd (rG h'.fr (rP j o' d ho hd).2) fun n k hk hkj=>absurd hkj (RT hnJ k (asV hk))
include Pp rP in
theorem Dq{F:List Nat}{ops:Array Oper}{Q:Act→World→Prop}(hQ:∀ a l' bs rs w,Fs a N l'→bg B w0 w bs rs→k l' bs rs w→Q a w):∀ {t:Tr} {T:Slots} {bs:List Bx} {rs:List Rw} {a:Act} {w:World},vst B w0 N l L K kb xw k t T bs rs w→TI N l K T a→bg B w0 w bs rs→NQ Tryz.prog ops L K (xs F K) (Jm B w0 xw) Q t a w
 | .done,T,bs,rs,a,w,hv,h,M=>fun a' hA hk=>hQ a' _ bs rs w (h.end Pp hA hk) M (jk (jk hv))
 | .step j t,T,bs,rs,a,w,hv,h,M=>fun o ho a' hA hb Q' hn=>Ra Pp rP hv h M ho hA hb fun a1 w1 T' bs' rs' h' M' ⟨h1,h2⟩ mv=>by
  refine hn a1 w1 ⟨M'.below,fun b Wk=>M'.box b ?_⟩ mv (Dq hQ h2 h' M');obtain⟨r,h3,h4⟩:=J9 h1;obtain⟨s,h5,h6⟩:=DF h3;subst h5;rcases h4 b (h6 b Wk) with h7|h7
  ·exact h7
  ·cases h7
 | .last j,T,bs,rs,a,w,hv,h,M=>fun o ho a' hA hb Q' hn=>Ra Pp rP hv h M ho hA hb fun a1 w1 T' bs' rs' h' M' h1 mv=>hn a1 w1 mv fun a2 hA2 hk=>hQ a2 _ bs' rs' w1 (h'.end Pp hA2 hk) M' (jk (jk h1))
 | .alt x y,T,bs,rs,a,w,hv,h,M=>⟨Dq hQ hv.1 h M,Dq hQ hv.2 h M⟩
end
def dsL:List Oper→(List Nat→Prop)→Prop
 | [],f=>f []
 | o::r,f=>match o.dst with
  | some d=>dsL r fun s=>f (d::s)
  | none=>dsL r f
theorem Lv:∀ {L:List Oper} {f:List Nat→Prop},dsL L f→f (L.filterMap (·.dst))
 | [],_,h=>h
 | o::r,f,h=>by
  unfold dsL at h;split at h
  ·rename_i d hd;rw[List.filterMap_cons,hd];exact Lv h
  ·rename_i hd;rw[List.filterMap_cons,hd];exact Lv h
def ab3(N:Nat)(L:List Oper)(F:List Nat)(t:Tr):Bool:=
 ordered 0 L&&(decide (L.filterMap (·.dst)).Nodup&&(((L.filterMap (·.dst)).all fun s=>Nat.blt s N)&&(((cand L F []).all fun i=>(heads t).contains i)&&nF L F t [])))
theorem sp{X Y:Prop}{B:Nat}{w0 w:World}{N:Nat}{l:Slots}{bs:List Bx}{rs:List Rw}{ops:Array Oper}{id:Nat}{k:Slots→List Bx→List Rw→World→Prop}(F:List Nat)(t:Tr)(kb:List Nat)(h0:ab3 N ops.toList F t=true)
 (h:dsL ops.toList fun ds=>UE ds l fun l'=>rvK bs [] fun r=>Vi kb r fun xw=>Yq B w0 l' xw ops.toList F [] fun K=>ltK K l ds fun T=>∀ w',asW w.heap.size w w'→bg B w0 w' bs rs→vst B w0 N l' ops.toList K kb xw k t T bs rs w') :
 X∨Y∨∀ (a:Act) (Q:Exit→Act→World→Prop),Fs a N l→bg B w0 w bs rs→(∀ a' l' bs' rs' w',Fs a' N l'→bg B w0 w' bs' rs'→k l' bs' rs' w'→Q .normal a' w')→(Code.region id ops true).wp Tryz.prog Q a w:=by
 refine .inr (.inr fun a Q Fa M next=>?_);obtain⟨L,rfl⟩:∃ L:List Oper,ops=L.toArray:=⟨ops.toList,by simp⟩;rw[List.toList_toArray] at h0 h;unfold ab3 at h0;simp only[asO,decide_eq_true_eq] at h0;obtain⟨eM,hnd,hbd,hcd,hsub⟩:=h0;obtain⟨l',h,hl'⟩:=Ar (Lv h);obtain⟨r,h,hr⟩:=J9 h;obtain⟨xw,h,hJ⟩:=DF h;obtain⟨K,h,hKF,hK⟩:=Rb (N:=N) h;rw[List.nil_append] at h hK;obtain⟨T0,h,hT0⟩:=DY h;have hin:∀ (j:Nat) (o:Oper) (d:Nat),L[j]?=some o→o.dst=some d→d∈L.filterMap (·.dst):=fun j o d ho hd=>List.mem_filterMap.2 ⟨o,asV ho,hd⟩
 have hno:∀ d,d∈L.filterMap (·.dst)→look d l'=none:=fun d hd=>by
  rw[hl',mW.2 hd];rfl
 have hold:∀ q v,look q l'=some v→look q l=some v∧(L.filterMap (·.dst)).contains q=false:=fun q v hq=>by
  rw[hl'] at hq
  cases hm:jr q (L.filterMap (·.dst)) with
  | true=>rw[hm] at hq;cases hq
  | false=>
   rw[hm] at hq;refine⟨hq,?_⟩
   cases hc:(L.filterMap (·.dst)).contains q with
   | false=>rfl
   | true=>
    have:q∈L.filterMap (·.dst):=by simpa using hc
    rw[mW.2 this] at hm;cases hm
 have ZM:∀ k∈K,k.2.1∈L.filterMap (·.dst):=fun k hk=>by
  obtain⟨o,h1,h2,-⟩:=hK k hk;exact hin _ _ _ h1 h2
 have Pp:∀ q v,look q l'=some v→∀ k∈K,k.2.1≠q:=fun q v hq k hk e=>by
  have h1:=hno _ (ZM k hk);rw[e,hq] at h1;cases h1
 have rP:∀ (j:Nat) (o:Oper) (d:Nat),L[j]?=some o→o.dst=some d→look d l'=none∧d<N:=fun j o d ho hd=>⟨hno d (hin j o d ho hd),by
  have:=asP.1 hbd d (hin j o d ho hd);simpa using this⟩
 have Md:=M.keep (w':=w.drew) (Below.refl _ _).drew;refine Dk K F t (Jm B w0 xw) (by kernel_rfl) eM ?_ ?_ hnd hbd hcd hsub Fa.fr ?_ ⟨Md.below,fun b hb=>Md.box b ?_⟩ (Dq Pp rP (fun a l' bs rs w F M h=>next a l' bs rs w F M h) (h w.drew (Below.refl _ _).drew Md) ⟨Fa.fr,fun q v hq=>Fa.at_ q v (hold q v hq).1,fun x hx=>Fa.at_ _ _ (hT0 x hx).1,fun x hx=>(hT0 x hx).2⟩ Md)
 ·rw[asP];intro k hk;obtain⟨o,h1,h2,-⟩:=hK k hk;simp[h1,h2]
 ·rw[asP];intro i hi;rw[← hKF] at hi;obtain⟨k,hk,rfl⟩:=List.mem_map.1 hi;exact List.any_eq_true.2 ⟨k,hk,by simp⟩
 ·have key:∀ K2:List Kn,(∀ k∈K2,FlP B w0 N l' xw L K k)→zj Tryz.prog L F K (Jm B w0 xw) a N K2:=by
   intro K2
   induction K2 with
   | nil=>intro _;trivial
   | cons k r ih=>
    intro h2;refine⟨fun _ o ho b u hf hj hq hb=>?_,ih fun k' hk'=>h2 k' (asN _ hk')⟩;obtain⟨o',h3,-,h4,h5⟩:=h2 k (asX ..);obtain rfl:o'=o:=asS (h3.symm.trans ho)
    exact⟨jN h4,h5 b u hf hj (fun q v hv=>hq q v (hold q v hv).2 (Fa.at_ q v (hold q v hv).1)) fun k' hk' he=>by
     obtain⟨i,hi⟩:=List.getElem?_of_mem hk';exact hb i k' hi (Nr he)⟩
  exact key K hK
 ·rcases hr b (hJ b hb) with h1|h1
  ·exact h1
  ·cases h1
theorem mva{R:Value→World→Prop}{x:Operand}{B:Nat}{w w0:World}{bs:List Bx}{rs:List Rw}{q:(Value→World→Prop)→Prop}(hR:eN R)(h:q R):
 ∃ R',eN R'∧(∀ (u:Value) (w1:World) (a:Act) (o':Oper),asW w.heap.size w w1→bg B w0 w1 bs rs→R u w1→o'.op=.assign x→uP a [x] [u]→∃ v w2,(execOp a.eval o').run Tryz.prog w1=.ok (.value v) w2∧R' v w2∧asW w1.heap.size w1 w2)∧q R':=
 ⟨R,hR,fun u w1 _ _ _ _ hu ho ny=>⟨u,w1,eC ho (qN ny),hu,Below.refl _ _⟩,h⟩
section
variable {B:Nat} {w0 w:World} {bs:List Bx} {rs:List Rw} {t e ty mb:Nat} {m x y:Operand} {z v:Value} {k:Int} {L:List (Int×Value)} {K:Value→List Bx→List Rw→World→Prop}
theorem mmk(M:bg B w0 w bs rs)(h:∀ mb w',bg B w0 w' ((mb,9003,eu [])::bs) rs→K (.map (some mb)) ((mb,9003,eu [])::bs) rs w'):
 ∃ R:Value→World→Prop,(∀ (a:Act) (o':Oper),o'.op=.makeMap t none→o'.type=ty→uP a [] []→∃ v w',(execOp a.eval o').run Tryz.prog w=.ok (.value v) w'∧R v w')∧∀ v w',R v w'→∃ bs' rs',bg B w0 w' bs' rs'∧K v bs' rs' w':=by
 refine⟨fun v w'=>v=.map (some w.heap.size)∧w'=w.alloc (.map #[] 0),fun a o' ho _ _=>⟨_,_,?_,rfl,rfl⟩,?_⟩
 ·unfold execOp;simp[ho,Instr.makeMap]
 ·rintro v w' ⟨rfl,rfl⟩;have M':=M.Kz ((Below.refl _ w).alloc (Nat.le_refl _) _) (b:=(w.heap.size,9003,eu [])) (lN (aX.made w _ _)) (Nat.le_refl _);exact⟨_,_,M',h _ _ M'⟩
theorem mlk(M:bg B w0 w bs rs)(i:Nat)(hi:bs[i]?=some (mb,9003,eu L))(ht:Tryz.prog.underlying t=some (.map 3 e))(hz:∀ w,(zeroValue e).run Tryz.prog w=.ok z w)(hk:jq k)(h:bg B w0 w bs rs→K (.tuple #[(jD L k).getD z,.bool (jD L k).isSome]) bs rs w):
 ∃ R:Value→World→Prop,(∀ (a:Act) (o':Oper),o'.op=.lookup t m x true→o'.type=ty→uP a [m,x] [.map (some mb),.int .i64 k]→∃ v w',(execOp a.eval o').run Tryz.prog w=.ok (.value v) w'∧R v w')∧∀ v w',R v w'→∃ bs' rs',bg B w0 w' bs' rs'∧K v bs' rs' w':=
 ⟨fun v w'=>v=.tuple #[(jD L k).getD z,.bool (jD L k).isSome]∧w'=w,fun _ _ ho _ ny=>⟨_,_,Ev ht (hz _) M i hi ho (qN ny) (yx ny) hk,rfl,rfl⟩,fun _ _ ⟨h1,h2⟩=>by subst h1 h2;exact⟨_,_,M,h M⟩⟩
theorem ml1(M:bg B w0 w bs rs)(i:Nat)(hi:bs[i]?=some (mb,9003,eu L))(ht:Tryz.prog.underlying t=some (.map 3 e))(hz:∀ w,(zeroValue e).run Tryz.prog w=.ok z w)(hk:jq k)(h:bg B w0 w bs rs→K ((jD L k).getD z) bs rs w):
 ∃ R:Value→World→Prop,(∀ (a:Act) (o':Oper),o'.op=.lookup t m x false→o'.type=ty→uP a [m,x] [.map (some mb),.int .i64 k]→∃ v w',(execOp a.eval o').run Tryz.prog w=.ok (.value v) w'∧R v w')∧∀ v w',R v w'→∃ bs' rs',bg B w0 w' bs' rs'∧K v bs' rs' w':=
 ⟨fun v w'=>v=(jD L k).getD z∧w'=w,fun _ _ ho _ ny=>⟨_,_,Wz ht (hz _) M i hi ho (qN ny) (yx ny) hk,rfl,rfl⟩,fun _ _ ⟨h1,h2⟩=>by subst h1 h2;exact⟨_,_,M,h M⟩⟩
theorem R3{k':List Bx→List Rw→World→Prop}(M:bg B w0 w bs rs)(i:Nat)(hi:bs[i]?=some (mb,9003,eu L))(ht:Tryz.prog.underlying t=some (.map 3 e))(hk:jq k)(h:∀ w',bg B w0 w' (bs.set i (mb,9003,eu ((k,v)::gP L k))) rs→k' (bs.set i (mb,9003,eu ((k,v)::gP L k))) rs w'):
 ∃ R:World→Prop,(∀ (a:Act) (o':Oper),o'.op=.mapUpdate t m x y→o'.type=ty→uP a [m,x,y] [.map (some mb),.int .i64 k,v]→∃ w',(execOp a.eval o').run Tryz.prog w=.ok .skip w'∧R w')∧∀ w',R w'→∃ bs' rs',bg B w0 w' bs' rs'∧k' bs' rs' w':=by
 obtain⟨w',hr,M'⟩:=M.acO ht i hi hk v;refine⟨fun w''=>w''=w',fun a o' ho _ ny=>⟨_,?_,rfl⟩,fun w'' e=>by subst e;exact⟨_,_,M',h _ M'⟩⟩;unfold execOp;simp[ho,qN ny,yx ny,ail ny,hr]
end
end Go.Proofs.YtdcofoaihmongaaGreat
namespace Go.Proofs.YtdcofoaihmongaaGreat
open Go Go.ChangeAt Go.ChangeShapes Go.RowKit Go.WideShapes
def dX(s:ByteArray):Prop:=s.size≤140737488355328
def oH(n:Nat):Prop:=n≤140737488355328
structure LM (l:List ByteArray):Prop where
 len:oH l.length
 all:∀ s∈l,dX s
structure qO where
 aV:Int
 cats:Nat
deriving DecidableEq
structure qO.Ok (x:qO):Prop where
 aV:jq x.aV
 cats:yq x.cats
def qO.cells(x:qO):List Value:=[.int .i64 x.aV,.int .u64 x.cats]
structure uJ where
 low:qO
 high:qO
deriving DecidableEq
structure uJ.Ok (x:uJ):Prop where
 low:x.low.Ok
 high:x.high.Ok
def uJ.cells(x:uJ):List Value:=[.int .i64 x.low.aV,.int .u64 x.low.cats,.int .i64 x.high.aV,.int .u64 x.high.cats]
structure wG where
 user:Int
 role:Int
 typ:Int
 rng:uJ
deriving DecidableEq
structure wG.Ok (x:wG):Prop where
 user:jq x.user
 role:jq x.role
 typ:jq x.typ
 rng:x.rng.Ok
def wG.cells(x:wG):List Value:=[.int .i64 x.user,.int .i64 x.role,.int .i64 x.typ,.int .i64 x.rng.low.aV,.int .u64 x.rng.low.cats,.int .i64 x.rng.high.aV,.int .u64 x.rng.high.cats]
inductive aA where
 | node (op a rel b:Int) (names:List ByteArray) (set:au) (kids:List aA)
def aA.op:aA→Int|.node o _ _ _ _ _ _=>o
def aA.a:aA→Int|.node _ a _ _ _ _ _=>a
def aA.rel:aA→Int|.node _ _ r _ _ _ _=>r
def aA.b:aA→Int|.node _ _ _ b _ _ _=>b
def aA.names:aA→List ByteArray|.node _ _ _ _ n _ _=>n
def aA.set:aA→au|.node _ _ _ _ _ s _=>s
def aA.kids:aA→List aA|.node _ _ _ _ _ _ k=>k
inductive aA.Ok:aA→Prop
 | node {op a rel b:Int} {names:List ByteArray} {set:au} {kids:List aA}:jq op→jq a→jq rel→jq b→LM names→set.Ok→oH kids.length→(∀ k∈kids,aA.Ok k)→aA.Ok (.node op a rel b names set kids)
structure ak.Dc (x:ak):Prop where
 kind:jq x.kind
 src:x.src.Ok
 tgt:x.tgt.Ok
 cls:jq x.cls
 perms:UJ x.perms
 cond:jq x.cond
structure kH where
 name:ByteArray
 types:au
deriving DecidableEq
structure kH.Ok (x:kH):Prop where
 name:dX x.name
 types:x.types.Ok
def kH.cells(x:kH):List Value:=[.string x.name,.int .u64 x.types.a,.int .u64 x.types.b,.int .u64 x.types.c,.int .u64 x.types.d]
theorem kH.ez(x:kH):x.cells.length=5:=rfl
structure iw where
 name:ByteArray
 types:au
 next:au
deriving DecidableEq
structure iw.Ok (x:iw):Prop where
 name:dX x.name
 types:x.types.Ok
 next:x.next.Ok
def iw.cells(x:iw):List Value:=[.string x.name,.int .u64 x.types.a,.int .u64 x.types.b,.int .u64 x.types.c,.int .u64 x.types.d,.int .u64 x.next.a,.int .u64 x.next.b,.int .u64 x.next.c,.int .u64 x.next.d]
theorem iw.ez(x:iw):x.cells.length=9:=rfl
structure j6 where
 name:ByteArray
 roles:au
 dflt:qO
 rng:uJ
deriving DecidableEq
structure j6.Ok (x:j6):Prop where
 name:dX x.name
 roles:x.roles.Ok
 dflt:x.dflt.Ok
 rng:x.rng.Ok
def j6.cells(x:j6):List Value:=[.string x.name,.int .u64 x.roles.a,.int .u64 x.roles.b,.int .u64 x.roles.c,.int .u64 x.roles.d,.int .i64 x.dflt.aV,.int .u64 x.dflt.cats,.int .i64 x.rng.low.aV,.int .u64 x.rng.low.cats,.int .i64 x.rng.high.aV,.int .u64 x.rng.high.cats]
theorem j6.ez(x:j6):x.cells.length=11:=rfl
structure iP where
 name:ByteArray
 val:Bool
deriving DecidableEq
structure iP.Ok (x:iP):Prop where
 name:dX x.name
def iP.cells(x:iP):List Value:=[.string x.name,.bool x.val]
theorem iP.ez(x:iP):x.cells.length=2:=rfl
structure bJ where
 kind:Int
 src:au
 tgt:au
 cls:Int
 name:ByteArray
 res:Int
 cond:Int
deriving DecidableEq
structure bJ.Ok (x:bJ):Prop where
 kind:jq x.kind
 src:x.src.Ok
 tgt:x.tgt.Ok
 cls:jq x.cls
 name:dX x.name
 res:jq x.res
 cond:jq x.cond
def bJ.cells(x:bJ):List Value:=[.int .i64 x.kind,.int .u64 x.src.a,.int .u64 x.src.b,.int .u64 x.src.c,.int .u64 x.src.d,.int .u64 x.tgt.a,.int .u64 x.tgt.b,.int .u64 x.tgt.c,.int .u64 x.tgt.d,.int .i64 x.cls,.string x.name,.int .i64 x.res,.int .i64 x.cond]
theorem bJ.ez(x:bJ):x.cells.length=13:=rfl
structure kE where
 roles:au
 types:au
 cls:Int
 res:Int
deriving DecidableEq
structure kE.Ok (x:kE):Prop where
 roles:x.roles.Ok
 types:x.types.Ok
 cls:jq x.cls
 res:jq x.res
def kE.cells(x:kE):List Value:=[.int .u64 x.roles.a,.int .u64 x.roles.b,.int .u64 x.roles.c,.int .u64 x.roles.d,.int .u64 x.types.a,.int .u64 x.types.b,.int .u64 x.types.c,.int .u64 x.types.d,.int .i64 x.cls,.int .i64 x.res]
theorem kE.ez(x:kE):x.cells.length=10:=rfl
structure kF where
 src:au
 tgt:au
 cls:Int
 rng:uJ
deriving DecidableEq
structure kF.Ok (x:kF):Prop where
 src:x.src.Ok
 tgt:x.tgt.Ok
 cls:jq x.cls
 rng:x.rng.Ok
def kF.cells(x:kF):List Value:=[.int .u64 x.src.a,.int .u64 x.src.b,.int .u64 x.src.c,.int .u64 x.src.d,.int .u64 x.tgt.a,.int .u64 x.tgt.b,.int .u64 x.tgt.c,.int .u64 x.tgt.d,.int .i64 x.cls,.int .i64 x.rng.low.aV,.int .u64 x.rng.low.cats,.int .i64 x.rng.high.aV,.int .u64 x.rng.high.cats]
theorem kF.ez(x:kF):x.cells.length=13:=rfl
structure kD where
 name:ByteArray
 ctx:wG
deriving DecidableEq
structure kD.Ok (x:kD):Prop where
 name:dX x.name
 ctx:x.ctx.Ok
def kD.cells(x:kD):List Value:=[.string x.name,.int .i64 x.ctx.user,.int .i64 x.ctx.role,.int .i64 x.ctx.typ,.int .i64 x.ctx.rng.low.aV,.int .u64 x.ctx.rng.low.cats,.int .i64 x.ctx.rng.high.aV,.int .u64 x.ctx.rng.high.cats]
theorem kD.ez(x:kD):x.cells.length=8:=rfl
structure kG where
 pat:ByteArray
 kind:Int
 ctx:wG
deriving DecidableEq
structure kG.Ok (x:kG):Prop where
 pat:dX x.pat
 kind:jq x.kind
 ctx:x.ctx.Ok
def kG.cells(x:kG):List Value:=[.string x.pat,.int .i64 x.kind,.int .i64 x.ctx.user,.int .i64 x.ctx.role,.int .i64 x.ctx.typ,.int .i64 x.ctx.rng.low.aV,.int .u64 x.ctx.rng.low.cats,.int .i64 x.ctx.rng.high.aV,.int .u64 x.ctx.rng.high.cats]
theorem kG.ez(x:kG):x.cells.length=9:=rfl
structure kI where
 name:ByteArray
 kind:Int
 src:au
 tgt:au
deriving DecidableEq
structure kI.Ok (x:kI):Prop where
 name:dX x.name
 kind:jq x.kind
 src:x.src.Ok
 tgt:x.tgt.Ok
def kI.cells(x:kI):List Value:=[.string x.name,.int .i64 x.kind,.int .u64 x.src.a,.int .u64 x.src.b,.int .u64 x.src.c,.int .u64 x.src.d,.int .u64 x.tgt.a,.int .u64 x.tgt.b,.int .u64 x.tgt.c,.int .u64 x.tgt.d]
theorem kI.ez(x:kI):x.cells.length=10:=rfl
structure lG where
 name:ByteArray
 perms:List ByteArray
deriving DecidableEq
structure lG.Ok (x:lG):Prop where
 name:dX x.name
 perms:LM x.perms
structure lI where
 name:ByteArray
 lY:List ByteArray
 perm:Bool
deriving DecidableEq
structure lI.Ok (x:lI):Prop where
 name:dX x.name
 lY:LM x.lY
structure oh where
 cls:Int
 perms:Int
 val:Bool
 expr:aA
structure oh.Ok (x:oh):Prop where
 cls:jq x.cls
 perms:UJ x.perms
 expr:x.expr.Ok
theorem ak.ez(x:ak):x.cells.length=13:=rfl
structure aG where
 classes:List lG
 types:List lI
 attrs:List kH
 roles:List iw
 users:List j6
 bools:List iP
 aV:List ByteArray
 cats:List ByteArray
 conds:List aA
 rules:List ak
 trans:List bJ
 aQ:List kE
 ranges:List kF
 cons:List oh
 bP:List kD
 files:List kG
 asserts:List kI
structure aG.Ok (p:aG):Prop where
 classes:∀ x∈p.classes,lG.Ok x
 aee:oH p.classes.length
 types:∀ x∈p.types,lI.Ok x
 u_:oH p.types.length
 attrs:∀ x∈p.attrs,kH.Ok x
 ahS:oH p.attrs.length
 roles:∀ x∈p.roles,iw.Ok x
 RA:oH p.roles.length
 users:∀ x∈p.users,j6.Ok x
 Yt:oH p.users.length
 bools:∀ x∈p.bools,iP.Ok x
 ahR:oH p.bools.length
 aV:∀ x∈p.aV,dX x
 aiN:oH p.aV.length
 cats:∀ x∈p.cats,dX x
 akf:oH p.cats.length
 conds:∀ x∈p.conds,aA.Ok x
 ahP:oH p.conds.length
 rules:∀ x∈p.rules,ak.Dc x
 afE:oH p.rules.length
 trans:∀ x∈p.trans,bJ.Ok x
 afB:oH p.trans.length
 aQ:∀ x∈p.aQ,kE.Ok x
 aeN:oH p.aQ.length
 ranges:∀ x∈p.ranges,kF.Ok x
 aeR:oH p.ranges.length
 cons:∀ x∈p.cons,oh.Ok x
 ake:oH p.cons.length
 bP:∀ x∈p.bP,kD.Ok x
 aiM:oH p.bP.length
 files:∀ x∈p.files,kG.Ok x
 ahI:oH p.files.length
 asserts:∀ x∈p.asserts,kI.Ok x
 aei:oH p.asserts.length
def aN(s:ByteArray):List Value:=[.string s]
theorem Gr(s:ByteArray):(aN s).length=1:=rfl
def bp(w:World)(v:Value)(l:List ByteArray):Prop:=SliceAt w v 1 l.length (l.flatMap aN)
theorem bp.keep{w w':World}{v:Value}{l:List ByteArray}(h:bp w v l)(hb:Below w.heap.size w w'):bp w' v l:=SliceAt.keep h hb
def aC{α:Type}(k:Nat)(R:List Value→α→Prop)(w:World)(v:Value)(l:List α):Prop:=
 ∃ es:List (List Value),es.length=l.length∧(∀ x∈es,x.length=k)∧SliceAt w v k l.length es.flatten∧∀ (i:Nat) x y,es[i]?=some x→l[i]?=some y→R x y
theorem aC.slice{α:Type}{k:Nat}{R:List Value→α→Prop}{w:World}{v:Value}{l:List α}(h:aC k R w v l):∃ cs,SliceAt w v k l.length cs:=by
 obtain⟨es,_,_,h,_⟩:=h;exact⟨_,h⟩
theorem aC.form{α:Type}{k:Nat}{R:List Value→α→Prop}{w:World}{v:Value}{l:List α}(h:aC k R w v l)(hk:0<k):
 ∃ a c,v=.slice a l.length c∧l.length≤c∧l.length≤9223372036854775807∧∀ i y,l[i]?=some y→∃ b off x,a=some ⟨b,off,none⟩∧R x y∧x.length=k∧∀ j u,x[j]?=some u→w.cell? ⟨b,off+i*k+j,none⟩=some u:=by
 obtain⟨es,h1,h2,h3,h4⟩:=h;obtain⟨a,c,hv,hc,hm,hcell⟩:=h3.form hk;refine⟨a,c,hv,hc,hm,fun i y hy=>?_⟩;have hi:=(asT.1 hy).1;obtain⟨b,off,ha,hcl⟩:=hcell i hi;obtain⟨x,hx⟩:∃ x,es[i]?=some x:=⟨_,asU (by omega)⟩;refine⟨b,off,x,ha,h4 i x y hx hy,h2 x (asV hx),fun j u hu=>hcl j u ?_⟩;rw[Ig h2 hx j (by rw[← h2 x (asV hx)];exact(asT.1 hu).1)];exact hu
theorem aC.mono{α:Type}{k:Nat}{R R':List Value→α→Prop}{w w':World}{v:Value}{l:List α}(h:aC k R w v l)(hb:Below w.heap.size w w')(hr:∀ x y,R x y→R' x y):aC k R' w' v l:=by
 obtain⟨es,h1,h2,h3,h4⟩:=h;exact⟨es,h1,h2,h3.keep hb,fun i x y hx hy=>hr x y (h4 i x y hx hy)⟩
inductive bB (w:World):List Value→aA→Prop
 | node {op a rel b:Int} {names:List ByteArray} {set:au} {kids:List aA} {nv kv:Value} {es:List (List Value)}:bp w nv names→es.length=kids.length→(∀ x∈es,x.length=10)→SliceAt w kv 10 kids.length es.flatten →
  (∀ (i:Nat) x y,es[i]?=some x→kids[i]?=some y→bB w x y) →
  bB w [.int .i64 op,.int .i64 a,.int .i64 rel,.int .i64 b,nv,.int .u64 set.a,.int .u64 set.b,.int .u64 set.c,.int .u64 set.d,kv] (.node op a rel b names set kids)
theorem bB.keep{w w':World}(hb:Below w.heap.size w w'){cs:List Value}{e:aA}(h:bB w cs e):bB w' cs e:=by
 induction h with
 | node h1 h2 h3 h4 _ ih=>exact .node (h1.keep hb) h2 h3 (h4.keep hb) ih
theorem bB.open{w:World}{cs:List Value}{e:aA}(h:bB w cs e):∃ nv kv,cs=[.int .i64 e.op,.int .i64 e.a,.int .i64 e.rel,.int .i64 e.b,nv,.int .u64 e.set.a,.int .u64 e.set.b,.int .u64 e.set.c,.int .u64 e.set.d,kv]∧bp w nv e.names∧aC 10 (bB w) w kv e.kids:=by
 cases h with
 | node h1 h2 h3 h4 h5=>exact⟨_,_,rfl,h1,_,h2,h3,h4,h5⟩
def lF(w:World)(v:Value)(l:List aA):Prop:=aC 10 (bB w) w v l
theorem lF.keep{w w':World}{v:Value}{l:List aA}(h:lF w v l)(hb:Below w.heap.size w w'):lF w' v l:=aC.mono h hb fun _ _ h=>bB.keep hb h
def qm(w:World)(cs:List Value)(x:lG):Prop:=∃ v,cs=[.string x.name,v]∧bp w v x.perms
def p9(w:World)(cs:List Value)(x:lI):Prop:=∃ v,cs=[.string x.name,v,.bool x.perm]∧bp w v x.lY
def ql(w:World)(cs:List Value)(x:oh):Prop:=∃ es,cs=[.int .i64 x.cls,.int .u32 x.perms,.bool x.val]++es∧bB w es x.expr
theorem qm.keep{w w':World}(hb:Below w.heap.size w w'){cs:List Value}{x:lG}(h:qm w cs x):qm w' cs x:=by
 obtain⟨v,e,h⟩:=h;exact⟨v,e,h.keep hb⟩
theorem p9.keep{w w':World}(hb:Below w.heap.size w w'){cs:List Value}{x:lI}(h:p9 w cs x):p9 w' cs x:=by
 obtain⟨v,e,h⟩:=h;exact⟨v,e,h.keep hb⟩
theorem ql.keep{w w':World}(hb:Below w.heap.size w w'){cs:List Value}{x:oh}(h:ql w cs x):ql w' cs x:=by
 obtain⟨v,e,h⟩:=h;exact⟨v,e,h.keep hb⟩
structure aL (w:World) (c0 c1 c2 c3 c4 c5 c6 c7 c8 c9 aW aP aO aU aT aS aR:Value) (p:aG):Prop where
 classes:aC 2 (qm w) w c0 p.classes
 types:aC 3 (p9 w) w c1 p.types
 attrs:SliceAt w c2 5 p.attrs.length (p.attrs.flatMap kH.cells)
 roles:SliceAt w c3 9 p.roles.length (p.roles.flatMap iw.cells)
 users:SliceAt w c4 11 p.users.length (p.users.flatMap j6.cells)
 bools:SliceAt w c5 2 p.bools.length (p.bools.flatMap iP.cells)
 aV:bp w c6 p.aV
 cats:bp w c7 p.cats
 conds:lF w c8 p.conds
 rules:SliceAt w c9 13 p.rules.length (p.rules.flatMap ak.cells)
 trans:SliceAt w aW 13 p.trans.length (p.trans.flatMap bJ.cells)
 aQ:SliceAt w aP 10 p.aQ.length (p.aQ.flatMap kE.cells)
 ranges:SliceAt w aO 13 p.ranges.length (p.ranges.flatMap kF.cells)
 cons:aC 13 (ql w) w aU p.cons
 bP:SliceAt w aT 8 p.bP.length (p.bP.flatMap kD.cells)
 files:SliceAt w aS 9 p.files.length (p.files.flatMap kG.cells)
 asserts:SliceAt w aR 10 p.asserts.length (p.asserts.flatMap kI.cells)
theorem aL.keep{w w':World}{c0 c1 c2 c3 c4 c5 c6 c7 c8 c9 aW aP aO aU aT aS aR:Value}{p:aG}(h:aL w c0 c1 c2 c3 c4 c5 c6 c7 c8 c9 aW aP aO aU aT aS aR p)(hb:Below w.heap.size w w'):aL w' c0 c1 c2 c3 c4 c5 c6 c7 c8 c9 aW aP aO aU aT aS aR p:=
 ⟨aC.mono h.classes hb fun _ _ h=>qm.keep hb h,aC.mono h.types hb fun _ _ h=>p9.keep hb h,h.attrs.keep hb,h.roles.keep hb,h.users.keep hb,h.bools.keep hb,h.aV.keep hb,h.cats.keep hb,h.conds.keep hb,h.rules.keep hb,h.trans.keep hb,h.aQ.keep hb,h.ranges.keep hb,aC.mono h.cons hb fun _ _ h=>ql.keep hb h,h.bP.keep hb,h.files.keep hb,h.asserts.keep hb⟩
theorem fH{n:Nat}(h:n≤reachBytes):n≤140737488355328:=by unfold reachBytes at h;omega
theorem bW{n b:Nat}(hb:0<b)(h:n*b≤reachBytes):n≤140737488355328:=fH (Nat.le_trans (Nat.le_mul_of_pos_right n hb) h)
theorem wf_i64{n:Int}(h:(Lit.int .i64 n).wf=true):jq n:=by
 have a1:IntKind.i64.min=-9223372036854775808:=by decide
 have a2:IntKind.i64.max=9223372036854775807:=by decide
 simp only[Lit.wf,a1,a2] at h;simp at h;unfold jq;omega
theorem wf_u32{n:Int}(h:(Lit.int .u32 n).wf=true):UJ n:=by
 have a1:IntKind.u32.min=0:=by decide
 have a2:IntKind.u32.max=4294967295:=by decide
 simp only[Lit.wf,a1,a2] at h;simp at h;unfold UJ;omega
theorem wf_u64{n:Int}(h:(Lit.int .u64 n).wf=true):∃ m:Nat,n=m∧yq m:=by
 have a1:IntKind.u64.min=0:=by decide
 have a2:IntKind.u64.max=18446744073709551615:=by decide
 simp only[Lit.wf,a1,a2] at h;simp at h;exact⟨n.toNat,by omega,by unfold yq;omega⟩
theorem dB{w:World}{f:Nat}{cs:List Value}(h:Rd Tryz.prog w f 54 cs):∃ s:au,cs=s.cells∧s.Ok:=by
 obtain⟨f',rfl,es,rfl,hn,hx⟩:=h.array Tryz.underlying54
 match es,hn with
 | [e0,e1,e2,e3],_=>
  obtain⟨A,rfl,hA⟩:=(hx e0 (by simp)).2.int Tryz.underlying52;obtain⟨B,rfl,hB⟩:=(hx e1 (by simp)).2.int Tryz.underlying52;obtain⟨C,rfl,hC⟩:=(hx e2 (by simp)).2.int Tryz.underlying52;obtain⟨D,rfl,hD⟩:=(hx e3 (by simp)).2.int Tryz.underlying52;obtain⟨a,rfl,ha⟩:=wf_u64 hA;obtain⟨b,rfl,hb⟩:=wf_u64 hB;obtain⟨c,rfl,hc⟩:=wf_u64 hC;obtain⟨d,rfl,hd⟩:=wf_u64 hD;exact⟨⟨a,b,c,d⟩,rfl,ha,hb,hc,hd⟩
theorem vN{w:World}{f:Nat}{cs:List Value}(h:Rd Tryz.prog w f 70 cs):∃ x:qO,cs=x.cells∧x.Ok:=by
 obtain⟨f',rfl,h⟩:=h.struct Tryz.underlying70;obtain⟨c0,_,rfl,-,r0,c1,_,rfl,-,r1,hn⟩:=h;obtain rfl:_=[]:=hn;obtain⟨A,rfl,hA⟩:=r0.int Tryz.underlying3;obtain⟨B',rfl,hB'⟩:=r1.int Tryz.underlying52;obtain⟨B,rfl,hB⟩:=wf_u64 hB';exact⟨⟨A,B⟩,rfl,⟨wf_i64 hA,hB⟩⟩
theorem vA{w:World}{f:Nat}{cs:List Value}(h:Rd Tryz.prog w f 72 cs):∃ x:uJ,cs=x.cells∧x.Ok:=by
 obtain⟨f',rfl,h⟩:=h.struct Tryz.underlying72;obtain⟨c0,_,rfl,-,r0,c1,_,rfl,-,r1,hn⟩:=h;obtain rfl:_=[]:=hn;obtain⟨A,rfl,hA⟩:=vN r0;obtain⟨B,rfl,hB⟩:=vN r1;exact⟨⟨A,B⟩,rfl,⟨hA,hB⟩⟩
theorem CZ{w:World}{f:Nat}{cs:List Value}(h:Rd Tryz.prog w f 74 cs):∃ x:wG,cs=x.cells∧x.Ok:=by
 obtain⟨f',rfl,h⟩:=h.struct Tryz.underlying74;obtain⟨c0,_,rfl,-,r0,c1,_,rfl,-,r1,c2,_,rfl,-,r2,c3,_,rfl,-,r3,hn⟩:=h;obtain rfl:_=[]:=hn;obtain⟨A,rfl,hA⟩:=r0.int Tryz.underlying3;obtain⟨B,rfl,hB⟩:=r1.int Tryz.underlying3;obtain⟨C,rfl,hC⟩:=r2.int Tryz.underlying3;obtain⟨D,rfl,hD⟩:=vA r3;exact⟨⟨A,B,C,D⟩,rfl,⟨wf_i64 hA,wf_i64 hB,wf_i64 hC,hD⟩⟩
theorem cB{α:Type}{Q:List Value→Prop}{R:List Value→α→Prop}(one:∀ cs,Q cs→∃ x,R cs x):∀ es:List (List Value),(∀ x∈es,Q x)→∃ l:List α,es.length=l.length∧(∀ (i:Nat) x y,es[i]?=some x→l[i]?=some y→R x y)
 | [],_=>⟨[],rfl,fun i x y h=>by simp at h⟩
 | e::es,h=>by
  obtain⟨x,hx⟩:=one e (h e (by simp));obtain⟨l,h1,h2⟩:=cB one es fun y hy=>h y (by simp[hy])
  refine⟨x::l,by simp[h1],fun i y z hy hz=>?_⟩
  cases i with
  | zero=>simp at hy hz;subst hy hz;exact hx
  | succ i=>exact h2 i y z (by simpa using hy) (by simpa using hz)
theorem dG{α:Type}{R:List Value→α→Prop}{B:α→Prop}{es:List (List Value)}{l:List α}(hl:es.length=l.length)(h:∀ (i:Nat) x y,es[i]?=some x→l[i]?=some y→R x y∧B y):∀ y∈l,B y:=by
 intro y hy;obtain⟨i,hi⟩:=List.getElem?_of_mem hy;have hlt:=(asT.1 hi).1;exact(h i _ y (asU (by omega)) hi).2
theorem dR{α:Type}{cells:α→List Value}:∀ {es:List (List Value)} {l:List α},es.length=l.length→(∀ (i:Nat) x y,es[i]?=some x→l[i]?=some y→x=cells y)→es.flatten=l.flatMap cells
 | [],[],_,_=>rfl
 | [],_::_,h,_=>by simp at h
 | _::_,[],h,_=>by simp at h
 | e::es,x::l,h,hr=>by
  rw[List.flatten_cons,List.flatMap_cons,hr 0 e x rfl rfl,dR (es:=es) (l:=l) (by simpa using h) fun i a b ha hb=>hr (i+1) a b (by simpa using ha) (by simpa using hb)]
theorem Ot{w:World}{f:Nat}{cs:List Value}(h:Rd Tryz.prog w f 9 cs):∃ x,cs=aN x∧dX x:=by
 obtain⟨s,rfl,hs⟩:=h.string Tryz.underlying9;exact⟨s,rfl,fH hs⟩
theorem mS{w:World}{f:Nat}{cs:List Value}(h:Rd Tryz.prog w f 28 cs):∃ v,∃ l:List ByteArray,cs=[v]∧SliceAt w v 1 l.length (l.flatMap aN)∧(∀ x∈l,dX x)∧oH l.length:=by
 obtain⟨f',v,rfl,rfl,es,h1,h2,h3⟩:=h.slice Tryz.underlying28;rw[show Tryz.prog.cellsOf 9=1 from by kernel_rfl] at h1;obtain⟨l,e1,e2⟩:=cB (R:=fun cs (x:ByteArray)=>cs=aN x∧dX x) (fun cs h=>Ot h.2) es h2;rw[dR e1 fun i x y hx hy=>(e2 i x y hx hy).1,e1] at h1;rw[e1] at h3;exact⟨v,l,rfl,h1,dG e1 e2,bW (of_decide_eq_true (by kernel_rfl)) h3⟩
theorem Az{w:World}:∀ (f:Nat) (cs:List Value),Rd Tryz.prog w f 89 cs→∃ e,bB w cs e∧e.Ok:=by
 intro f
 induction f using Nat.strongRecOn with
 | ind f ih=>
  intro cs h;obtain⟨f',rfl,h⟩:=h.struct Tryz.underlying89;obtain⟨c0,_,rfl,-,r0,c1,_,rfl,-,r1,c2,_,rfl,-,r2,c3,_,rfl,-,r3,c4,_,rfl,-,r4,c5,_,rfl,-,r5,c6,_,rfl,-,r6,hn⟩:=h;obtain rfl:_=[]:=hn;obtain⟨A,rfl,hA⟩:=r0.int Tryz.underlying3;obtain⟨B,rfl,hB⟩:=r1.int Tryz.underlying3;obtain⟨C,rfl,hC⟩:=r2.int Tryz.underlying3;obtain⟨D,rfl,hD⟩:=r3.int Tryz.underlying3;obtain⟨nv,ns,rfl,hns,hno,hnl⟩:=mS r4;obtain⟨s,rfl,hs⟩:=dB r5;obtain⟨f'',kv,rfl,rfl,es,h1,h2,h3⟩:=r6.slice Tryz.underlying29;rw[show Tryz.prog.cellsOf 89=10 from by kernel_rfl] at h1 h2;obtain⟨l,e1,e2⟩:=cB (R:=fun cs (x:aA)=>bB w cs x∧x.Ok) (fun cs h=>ih f'' (by omega) cs h.2) es h2;rw[e1] at h1 h3;exact⟨.node A B C D ns s l,.node hns e1 (fun x hx=>(h2 x hx).1) h1 fun i x y hx hy=>(e2 i x y hx hy).1,.node (wf_i64 hA) (wf_i64 hB) (wf_i64 hC) (wf_i64 hD) ⟨hnl,hno⟩ hs (bW (of_decide_eq_true (by kernel_rfl)) h3) (dG e1 e2)⟩
theorem Ja{w:World}{f:Nat}{cs:List Value}(h:Rd Tryz.prog w f 56 cs):∃ x:ak,cs=x.cells∧x.Dc:=by
 obtain⟨f',rfl,h⟩:=h.struct Tryz.underlying56;obtain⟨c0,_,rfl,-,r0,c1,_,rfl,-,r1,c2,_,rfl,-,r2,c3,_,rfl,-,r3,c4,_,rfl,-,r4,c5,_,rfl,-,r5,c6,_,rfl,-,r6,hn⟩:=h;obtain rfl:_=[]:=hn;obtain⟨A,rfl,hA⟩:=r0.int Tryz.underlying3;obtain⟨B,rfl,hB⟩:=dB r1;obtain⟨C,rfl,hC⟩:=dB r2;obtain⟨D,rfl⟩:=r3.bool Tryz.underlying4;obtain⟨E,rfl,hE⟩:=r4.int Tryz.underlying3;obtain⟨F,rfl,hF⟩:=r5.int Tryz.underlying50;obtain⟨G,rfl,hG⟩:=r6.int Tryz.underlying3;exact⟨⟨A,B,C,D,E,F,G⟩,rfl,⟨wf_i64 hA,hB,hC,wf_i64 hE,wf_u32 hF,wf_i64 hG⟩⟩
theorem LZ{w:World}{f:Nat}{cs:List Value}(h:Rd Tryz.prog w f 30 cs):∃ v,∃ l:List ak,cs=[v]∧SliceAt w v 13 l.length (l.flatMap ak.cells)∧(∀ x∈l,ak.Dc x)∧oH l.length:=by
 obtain⟨f',v,rfl,rfl,es,h1,h2,h3⟩:=h.slice Tryz.underlying30;rw[show Tryz.prog.cellsOf 56=13 from by kernel_rfl] at h1;obtain⟨l,e1,e2⟩:=cB (R:=fun cs (x:ak)=>cs=ak.cells x∧ak.Dc x) (fun cs h=>Ja h.2) es h2;rw[dR e1 fun i x y hx hy=>(e2 i x y hx hy).1,e1] at h1;rw[e1] at h3;exact⟨v,l,rfl,h1,dG e1 e2,bW (of_decide_eq_true (by kernel_rfl)) h3⟩
theorem Ma{w:World}{f:Nat}{cs:List Value}(h:Rd Tryz.prog w f 184 cs):∃ x:kH,cs=x.cells∧x.Ok:=by
 obtain⟨f',rfl,h⟩:=h.struct Tryz.underlying184;obtain⟨c0,_,rfl,-,r0,c1,_,rfl,-,r1,hn⟩:=h;obtain rfl:_=[]:=hn;obtain⟨A,rfl,hA⟩:=r0.string Tryz.underlying9;obtain⟨B,rfl,hB⟩:=dB r1;exact⟨⟨A,B⟩,rfl,⟨fH hA,hB⟩⟩
theorem Qs{w:World}{f:Nat}{cs:List Value}(h:Rd Tryz.prog w f 24 cs):∃ v,∃ l:List kH,cs=[v]∧SliceAt w v 5 l.length (l.flatMap kH.cells)∧(∀ x∈l,kH.Ok x)∧oH l.length:=by
 obtain⟨f',v,rfl,rfl,es,h1,h2,h3⟩:=h.slice Tryz.underlying24;rw[show Tryz.prog.cellsOf 184=5 from by kernel_rfl] at h1;obtain⟨l,e1,e2⟩:=cB (R:=fun cs (x:kH)=>cs=kH.cells x∧kH.Ok x) (fun cs h=>Ma h.2) es h2;rw[dR e1 fun i x y hx hy=>(e2 i x y hx hy).1,e1] at h1;rw[e1] at h3;exact⟨v,l,rfl,h1,dG e1 e2,bW (of_decide_eq_true (by kernel_rfl)) h3⟩
theorem L3{w:World}{f:Nat}{cs:List Value}(h:Rd Tryz.prog w f 188 cs):∃ x:iw,cs=x.cells∧x.Ok:=by
 obtain⟨f',rfl,h⟩:=h.struct Tryz.underlying188;obtain⟨c0,_,rfl,-,r0,c1,_,rfl,-,r1,c2,_,rfl,-,r2,hn⟩:=h;obtain rfl:_=[]:=hn;obtain⟨A,rfl,hA⟩:=r0.string Tryz.underlying9;obtain⟨B,rfl,hB⟩:=dB r1;obtain⟨C,rfl,hC⟩:=dB r2;exact⟨⟨A,B,C⟩,rfl,⟨fH hA,hB,hC⟩⟩
theorem Qm{w:World}{f:Nat}{cs:List Value}(h:Rd Tryz.prog w f 25 cs):∃ v,∃ l:List iw,cs=[v]∧SliceAt w v 9 l.length (l.flatMap iw.cells)∧(∀ x∈l,iw.Ok x)∧oH l.length:=by
 obtain⟨f',v,rfl,rfl,es,h1,h2,h3⟩:=h.slice Tryz.underlying25;rw[show Tryz.prog.cellsOf 188=9 from by kernel_rfl] at h1;obtain⟨l,e1,e2⟩:=cB (R:=fun cs (x:iw)=>cs=iw.cells x∧iw.Ok x) (fun cs h=>L3 h.2) es h2;rw[dR e1 fun i x y hx hy=>(e2 i x y hx hy).1,e1] at h1;rw[e1] at h3;exact⟨v,l,rfl,h1,dG e1 e2,bW (of_decide_eq_true (by kernel_rfl)) h3⟩
theorem LV{w:World}{f:Nat}{cs:List Value}(h:Rd Tryz.prog w f 192 cs):∃ x:j6,cs=x.cells∧x.Ok:=by
 obtain⟨f',rfl,h⟩:=h.struct Tryz.underlying192;obtain⟨c0,_,rfl,-,r0,c1,_,rfl,-,r1,c2,_,rfl,-,r2,c3,_,rfl,-,r3,hn⟩:=h;obtain rfl:_=[]:=hn;obtain⟨A,rfl,hA⟩:=r0.string Tryz.underlying9;obtain⟨B,rfl,hB⟩:=dB r1;obtain⟨C,rfl,hC⟩:=vN r2;obtain⟨D,rfl,hD⟩:=vA r3;exact⟨⟨A,B,C,D⟩,rfl,⟨fH hA,hB,hC,hD⟩⟩
theorem Qh{w:World}{f:Nat}{cs:List Value}(h:Rd Tryz.prog w f 26 cs):∃ v,∃ l:List j6,cs=[v]∧SliceAt w v 11 l.length (l.flatMap j6.cells)∧(∀ x∈l,j6.Ok x)∧oH l.length:=by
 obtain⟨f',v,rfl,rfl,es,h1,h2,h3⟩:=h.slice Tryz.underlying26;rw[show Tryz.prog.cellsOf 192=11 from by kernel_rfl] at h1;obtain⟨l,e1,e2⟩:=cB (R:=fun cs (x:j6)=>cs=j6.cells x∧j6.Ok x) (fun cs h=>LV h.2) es h2;rw[dR e1 fun i x y hx hy=>(e2 i x y hx hy).1,e1] at h1;rw[e1] at h3;exact⟨v,l,rfl,h1,dG e1 e2,bW (of_decide_eq_true (by kernel_rfl)) h3⟩
theorem L_{w:World}{f:Nat}{cs:List Value}(h:Rd Tryz.prog w f 197 cs):∃ x:iP,cs=x.cells∧x.Ok:=by
 obtain⟨f',rfl,h⟩:=h.struct Tryz.underlying197;obtain⟨c0,_,rfl,-,r0,c1,_,rfl,-,r1,hn⟩:=h;obtain rfl:_=[]:=hn;obtain⟨A,rfl,hA⟩:=r0.string Tryz.underlying9;obtain⟨B,rfl⟩:=r1.bool Tryz.underlying4;exact⟨⟨A,B⟩,rfl,⟨fH hA⟩⟩
theorem Qr{w:World}{f:Nat}{cs:List Value}(h:Rd Tryz.prog w f 27 cs):∃ v,∃ l:List iP,cs=[v]∧SliceAt w v 2 l.length (l.flatMap iP.cells)∧(∀ x∈l,iP.Ok x)∧oH l.length:=by
 obtain⟨f',v,rfl,rfl,es,h1,h2,h3⟩:=h.slice Tryz.underlying27;rw[show Tryz.prog.cellsOf 197=2 from by kernel_rfl] at h1;obtain⟨l,e1,e2⟩:=cB (R:=fun cs (x:iP)=>cs=iP.cells x∧iP.Ok x) (fun cs h=>L_ h.2) es h2;rw[dR e1 fun i x y hx hy=>(e2 i x y hx hy).1,e1] at h1;rw[e1] at h3;exact⟨v,l,rfl,h1,dG e1 e2,bW (of_decide_eq_true (by kernel_rfl)) h3⟩
theorem LX{w:World}{f:Nat}{cs:List Value}(h:Rd Tryz.prog w f 84 cs):∃ x:bJ,cs=x.cells∧x.Ok:=by
 obtain⟨f',rfl,h⟩:=h.struct Tryz.underlying84;obtain⟨c0,_,rfl,-,r0,c1,_,rfl,-,r1,c2,_,rfl,-,r2,c3,_,rfl,-,r3,c4,_,rfl,-,r4,c5,_,rfl,-,r5,c6,_,rfl,-,r6,hn⟩:=h;obtain rfl:_=[]:=hn;obtain⟨A,rfl,hA⟩:=r0.int Tryz.underlying3;obtain⟨B,rfl,hB⟩:=dB r1;obtain⟨C,rfl,hC⟩:=dB r2;obtain⟨D,rfl,hD⟩:=r3.int Tryz.underlying3;obtain⟨E,rfl,hE⟩:=r4.string Tryz.underlying9;obtain⟨F,rfl,hF⟩:=r5.int Tryz.underlying3;obtain⟨G,rfl,hG⟩:=r6.int Tryz.underlying3;exact⟨⟨A,B,C,D,E,F,G⟩,rfl,⟨wf_i64 hA,hB,hC,wf_i64 hD,fH hE,wf_i64 hF,wf_i64 hG⟩⟩
theorem Qj{w:World}{f:Nat}{cs:List Value}(h:Rd Tryz.prog w f 31 cs):∃ v,∃ l:List bJ,cs=[v]∧SliceAt w v 13 l.length (l.flatMap bJ.cells)∧(∀ x∈l,bJ.Ok x)∧oH l.length:=by
 obtain⟨f',v,rfl,rfl,es,h1,h2,h3⟩:=h.slice Tryz.underlying31;rw[show Tryz.prog.cellsOf 84=13 from by kernel_rfl] at h1;obtain⟨l,e1,e2⟩:=cB (R:=fun cs (x:bJ)=>cs=bJ.cells x∧bJ.Ok x) (fun cs h=>LX h.2) es h2;rw[dR e1 fun i x y hx hy=>(e2 i x y hx hy).1,e1] at h1;rw[e1] at h3;exact⟨v,l,rfl,h1,dG e1 e2,bW (of_decide_eq_true (by kernel_rfl)) h3⟩
theorem L0{w:World}{f:Nat}{cs:List Value}(h:Rd Tryz.prog w f 203 cs):∃ x:kE,cs=x.cells∧x.Ok:=by
 obtain⟨f',rfl,h⟩:=h.struct Tryz.underlying203;obtain⟨c0,_,rfl,-,r0,c1,_,rfl,-,r1,c2,_,rfl,-,r2,c3,_,rfl,-,r3,hn⟩:=h;obtain rfl:_=[]:=hn;obtain⟨A,rfl,hA⟩:=dB r0;obtain⟨B,rfl,hB⟩:=dB r1;obtain⟨C,rfl,hC⟩:=r2.int Tryz.underlying3;obtain⟨D,rfl,hD⟩:=r3.int Tryz.underlying3;exact⟨⟨A,B,C,D⟩,rfl,⟨hA,hB,wf_i64 hC,wf_i64 hD⟩⟩
theorem Ql{w:World}{f:Nat}{cs:List Value}(h:Rd Tryz.prog w f 32 cs):∃ v,∃ l:List kE,cs=[v]∧SliceAt w v 10 l.length (l.flatMap kE.cells)∧(∀ x∈l,kE.Ok x)∧oH l.length:=by
 obtain⟨f',v,rfl,rfl,es,h1,h2,h3⟩:=h.slice Tryz.underlying32;rw[show Tryz.prog.cellsOf 203=10 from by kernel_rfl] at h1;obtain⟨l,e1,e2⟩:=cB (R:=fun cs (x:kE)=>cs=kE.cells x∧kE.Ok x) (fun cs h=>L0 h.2) es h2;rw[dR e1 fun i x y hx hy=>(e2 i x y hx hy).1,e1] at h1;rw[e1] at h3;exact⟨v,l,rfl,h1,dG e1 e2,bW (of_decide_eq_true (by kernel_rfl)) h3⟩
theorem L4{w:World}{f:Nat}{cs:List Value}(h:Rd Tryz.prog w f 205 cs):∃ x:kF,cs=x.cells∧x.Ok:=by
 obtain⟨f',rfl,h⟩:=h.struct Tryz.underlying205;obtain⟨c0,_,rfl,-,r0,c1,_,rfl,-,r1,c2,_,rfl,-,r2,c3,_,rfl,-,r3,hn⟩:=h;obtain rfl:_=[]:=hn;obtain⟨A,rfl,hA⟩:=dB r0;obtain⟨B,rfl,hB⟩:=dB r1;obtain⟨C,rfl,hC⟩:=r2.int Tryz.underlying3;obtain⟨D,rfl,hD⟩:=vA r3;exact⟨⟨A,B,C,D⟩,rfl,⟨hA,hB,wf_i64 hC,hD⟩⟩
theorem Qn{w:World}{f:Nat}{cs:List Value}(h:Rd Tryz.prog w f 33 cs):∃ v,∃ l:List kF,cs=[v]∧SliceAt w v 13 l.length (l.flatMap kF.cells)∧(∀ x∈l,kF.Ok x)∧oH l.length:=by
 obtain⟨f',v,rfl,rfl,es,h1,h2,h3⟩:=h.slice Tryz.underlying33;rw[show Tryz.prog.cellsOf 205=13 from by kernel_rfl] at h1;obtain⟨l,e1,e2⟩:=cB (R:=fun cs (x:kF)=>cs=kF.cells x∧kF.Ok x) (fun cs h=>L4 h.2) es h2;rw[dR e1 fun i x y hx hy=>(e2 i x y hx hy).1,e1] at h1;rw[e1] at h3;exact⟨v,l,rfl,h1,dG e1 e2,bW (of_decide_eq_true (by kernel_rfl)) h3⟩
theorem LY{w:World}{f:Nat}{cs:List Value}(h:Rd Tryz.prog w f 125 cs):∃ x:kD,cs=x.cells∧x.Ok:=by
 obtain⟨f',rfl,h⟩:=h.struct Tryz.underlying125;obtain⟨c0,_,rfl,-,r0,c1,_,rfl,-,r1,hn⟩:=h;obtain rfl:_=[]:=hn;obtain⟨A,rfl,hA⟩:=r0.string Tryz.underlying9;obtain⟨B,rfl,hB⟩:=CZ r1;exact⟨⟨A,B⟩,rfl,⟨fH hA,hB⟩⟩
theorem Qk{w:World}{f:Nat}{cs:List Value}(h:Rd Tryz.prog w f 35 cs):∃ v,∃ l:List kD,cs=[v]∧SliceAt w v 8 l.length (l.flatMap kD.cells)∧(∀ x∈l,kD.Ok x)∧oH l.length:=by
 obtain⟨f',v,rfl,rfl,es,h1,h2,h3⟩:=h.slice Tryz.underlying35;rw[show Tryz.prog.cellsOf 125=8 from by kernel_rfl] at h1;obtain⟨l,e1,e2⟩:=cB (R:=fun cs (x:kD)=>cs=kD.cells x∧kD.Ok x) (fun cs h=>LY h.2) es h2;rw[dR e1 fun i x y hx hy=>(e2 i x y hx hy).1,e1] at h1;rw[e1] at h3;exact⟨v,l,rfl,h1,dG e1 e2,bW (of_decide_eq_true (by kernel_rfl)) h3⟩
theorem L5{w:World}{f:Nat}{cs:List Value}(h:Rd Tryz.prog w f 127 cs):∃ x:kG,cs=x.cells∧x.Ok:=by
 obtain⟨f',rfl,h⟩:=h.struct Tryz.underlying127;obtain⟨c0,_,rfl,-,r0,c1,_,rfl,-,r1,c2,_,rfl,-,r2,hn⟩:=h;obtain rfl:_=[]:=hn;obtain⟨A,rfl,hA⟩:=r0.string Tryz.underlying9;obtain⟨B,rfl,hB⟩:=r1.int Tryz.underlying3;obtain⟨C,rfl,hC⟩:=CZ r2;exact⟨⟨A,B,C⟩,rfl,⟨fH hA,wf_i64 hB,hC⟩⟩
theorem Qo{w:World}{f:Nat}{cs:List Value}(h:Rd Tryz.prog w f 36 cs):∃ v,∃ l:List kG,cs=[v]∧SliceAt w v 9 l.length (l.flatMap kG.cells)∧(∀ x∈l,kG.Ok x)∧oH l.length:=by
 obtain⟨f',v,rfl,rfl,es,h1,h2,h3⟩:=h.slice Tryz.underlying36;rw[show Tryz.prog.cellsOf 127=9 from by kernel_rfl] at h1;obtain⟨l,e1,e2⟩:=cB (R:=fun cs (x:kG)=>cs=kG.cells x∧kG.Ok x) (fun cs h=>L5 h.2) es h2;rw[dR e1 fun i x y hx hy=>(e2 i x y hx hy).1,e1] at h1;rw[e1] at h3;exact⟨v,l,rfl,h1,dG e1 e2,bW (of_decide_eq_true (by kernel_rfl)) h3⟩
theorem Mb{w:World}{f:Nat}{cs:List Value}(h:Rd Tryz.prog w f 129 cs):∃ x:kI,cs=x.cells∧x.Ok:=by
 obtain⟨f',rfl,h⟩:=h.struct Tryz.underlying129;obtain⟨c0,_,rfl,-,r0,c1,_,rfl,-,r1,c2,_,rfl,-,r2,c3,_,rfl,-,r3,hn⟩:=h;obtain rfl:_=[]:=hn;obtain⟨A,rfl,hA⟩:=r0.string Tryz.underlying9;obtain⟨B,rfl,hB⟩:=r1.int Tryz.underlying3;obtain⟨C,rfl,hC⟩:=dB r2;obtain⟨D,rfl,hD⟩:=dB r3;exact⟨⟨A,B,C,D⟩,rfl,⟨fH hA,wf_i64 hB,hC,hD⟩⟩
theorem Qu{w:World}{f:Nat}{cs:List Value}(h:Rd Tryz.prog w f 37 cs):∃ v,∃ l:List kI,cs=[v]∧SliceAt w v 10 l.length (l.flatMap kI.cells)∧(∀ x∈l,kI.Ok x)∧oH l.length:=by
 obtain⟨f',v,rfl,rfl,es,h1,h2,h3⟩:=h.slice Tryz.underlying37;rw[show Tryz.prog.cellsOf 129=10 from by kernel_rfl] at h1;obtain⟨l,e1,e2⟩:=cB (R:=fun cs (x:kI)=>cs=kI.cells x∧kI.Ok x) (fun cs h=>Mb h.2) es h2;rw[dR e1 fun i x y hx hy=>(e2 i x y hx hy).1,e1] at h1;rw[e1] at h3;exact⟨v,l,rfl,h1,dG e1 e2,bW (of_decide_eq_true (by kernel_rfl)) h3⟩
theorem L7{w:World}{f:Nat}{cs:List Value}(h:Rd Tryz.prog w f 180 cs):∃ x:lG,qm w cs x∧x.Ok:=by
 obtain⟨f',rfl,h⟩:=h.struct Tryz.underlying180;obtain⟨c0,_,rfl,-,r0,c1,_,rfl,-,r1,hn⟩:=h;obtain rfl:_=[]:=hn;obtain⟨A,rfl,hA⟩:=r0.string Tryz.underlying9;obtain⟨vB,B,rfl,sB,aB,lB⟩:=mS r1;exact⟨⟨A,B⟩,⟨vB,rfl,sB⟩,⟨fH hA,⟨lB,aB⟩⟩⟩
theorem Qq{w:World}{f:Nat}{cs:List Value}(h:Rd Tryz.prog w f 22 cs):∃ v,∃ l:List lG,cs=[v]∧aC 2 (qm w) w v l∧(∀ x∈l,lG.Ok x)∧oH l.length:=by
 obtain⟨f',v,rfl,rfl,es,h1,h2,h3⟩:=h.slice Tryz.underlying22;rw[show Tryz.prog.cellsOf 180=2 from by kernel_rfl] at h1 h2;obtain⟨l,e1,e2⟩:=cB (R:=fun cs (x:lG)=>qm w cs x∧lG.Ok x) (fun cs h=>L7 h.2) es h2;rw[e1] at h1 h3;exact⟨v,l,rfl,⟨es,e1,fun x hx=>(h2 x hx).1,h1,fun i x y hx hy=>(e2 i x y hx hy).1⟩,dG e1 e2,bW (of_decide_eq_true (by kernel_rfl)) h3⟩
theorem LW{w:World}{f:Nat}{cs:List Value}(h:Rd Tryz.prog w f 86 cs):∃ x:lI,p9 w cs x∧x.Ok:=by
 obtain⟨f',rfl,h⟩:=h.struct Tryz.underlying86;obtain⟨c0,_,rfl,-,r0,c1,_,rfl,-,r1,c2,_,rfl,-,r2,hn⟩:=h;obtain rfl:_=[]:=hn;obtain⟨A,rfl,hA⟩:=r0.string Tryz.underlying9;obtain⟨vB,B,rfl,sB,aB,lB⟩:=mS r1;obtain⟨C,rfl⟩:=r2.bool Tryz.underlying4;exact⟨⟨A,B,C⟩,⟨vB,rfl,sB⟩,⟨fH hA,⟨lB,aB⟩⟩⟩
theorem Qi{w:World}{f:Nat}{cs:List Value}(h:Rd Tryz.prog w f 23 cs):∃ v,∃ l:List lI,cs=[v]∧aC 3 (p9 w) w v l∧(∀ x∈l,lI.Ok x)∧oH l.length:=by
 obtain⟨f',v,rfl,rfl,es,h1,h2,h3⟩:=h.slice Tryz.underlying23;rw[show Tryz.prog.cellsOf 86=3 from by kernel_rfl] at h1 h2;obtain⟨l,e1,e2⟩:=cB (R:=fun cs (x:lI)=>p9 w cs x∧lI.Ok x) (fun cs h=>LW h.2) es h2;rw[e1] at h1 h3;exact⟨v,l,rfl,⟨es,e1,fun x hx=>(h2 x hx).1,h1,fun i x y hx hy=>(e2 i x y hx hy).1⟩,dG e1 e2,bW (of_decide_eq_true (by kernel_rfl)) h3⟩
theorem L6{w:World}{f:Nat}{cs:List Value}(h:Rd Tryz.prog w f 91 cs):∃ x:oh,ql w cs x∧x.Ok:=by
 obtain⟨f',rfl,h⟩:=h.struct Tryz.underlying91;obtain⟨c0,_,rfl,-,r0,c1,_,rfl,-,r1,c2,_,rfl,-,r2,c3,_,rfl,-,r3,hn⟩:=h;obtain rfl:_=[]:=hn;obtain⟨A,rfl,hA⟩:=r0.int Tryz.underlying3;obtain⟨B,rfl,hB⟩:=r1.int Tryz.underlying50;obtain⟨C,rfl⟩:=r2.bool Tryz.underlying4;obtain⟨D,sD,hD⟩:=Az _ _ r3;exact⟨⟨A,B,C,D⟩,⟨_,by simp,sD⟩,⟨wf_i64 hA,wf_u32 hB,hD⟩⟩
theorem Qp{w:World}{f:Nat}{cs:List Value}(h:Rd Tryz.prog w f 34 cs):∃ v,∃ l:List oh,cs=[v]∧aC 13 (ql w) w v l∧(∀ x∈l,oh.Ok x)∧oH l.length:=by
 obtain⟨f',v,rfl,rfl,es,h1,h2,h3⟩:=h.slice Tryz.underlying34;rw[show Tryz.prog.cellsOf 91=13 from by kernel_rfl] at h1 h2;obtain⟨l,e1,e2⟩:=cB (R:=fun cs (x:oh)=>ql w cs x∧oh.Ok x) (fun cs h=>L6 h.2) es h2;rw[e1] at h1 h3;exact⟨v,l,rfl,⟨es,e1,fun x hx=>(h2 x hx).1,h1,fun i x y hx hy=>(e2 i x y hx hy).1⟩,dG e1 e2,bW (of_decide_eq_true (by kernel_rfl)) h3⟩
theorem PL{w:World}{f:Nat}{cs:List Value}(h:Rd Tryz.prog w f 29 cs):∃ v,∃ l:List aA,cs=[v]∧aC 10 (bB w) w v l∧(∀ x∈l,aA.Ok x)∧oH l.length:=by
 obtain⟨f',v,rfl,rfl,es,h1,h2,h3⟩:=h.slice Tryz.underlying29;rw[show Tryz.prog.cellsOf 89=10 from by kernel_rfl] at h1 h2;obtain⟨l,e1,e2⟩:=cB (R:=fun cs (x:aA)=>bB w cs x∧aA.Ok x) (fun cs h=>Az _ _ h.2) es h2;rw[e1] at h1 h3;exact⟨v,l,rfl,⟨es,e1,fun x hx=>(h2 x hx).1,h1,fun i x y hx hy=>(e2 i x y hx hy).1⟩,dG e1 e2,bW (of_decide_eq_true (by kernel_rfl)) h3⟩
theorem GI{w:World}{u:Value}(h:Arg Tryz.prog w 39 u):∃ c0 c1 c2 c3 c4 c5 c6 c7 c8 c9 aW aP aO aU aT aS aR:Value,∃ p:aG,u=.agg #[c0,c1,c2,c3,c4,c5,c6,c7,c8,c9,aW,aP,aO,aU,aT,aS,aR]∧aL w c0 c1 c2 c3 c4 c5 c6 c7 c8 c9 aW aP aO aU aT aS aR p∧p.Ok:=by
 obtain⟨f,cs,h,rfl⟩:=h;rw[Tryz.underlying39];obtain⟨f',rfl,h⟩:=h.struct Tryz.underlying39;obtain⟨c0,_,rfl,-,r0,c1,_,rfl,-,r1,c2,_,rfl,-,r2,c3,_,rfl,-,r3,c4,_,rfl,-,r4,c5,_,rfl,-,r5,c6,_,rfl,-,r6,c7,_,rfl,-,r7,c8,_,rfl,-,r8,c9,_,rfl,-,r9,aW,_,rfl,-,r10,aP,_,rfl,-,r11,aO,_,rfl,-,r12,aU,_,rfl,-,r13,aT,_,rfl,-,r14,aS,_,rfl,-,r15,aR,_,rfl,-,r16,hn⟩:=h;obtain rfl:_=[]:=hn;obtain⟨v0,l0,rfl,s0,o0,b0⟩:=Qq r0;obtain⟨v1,l1,rfl,s1,o1,b1⟩:=Qi r1;obtain⟨v2,l2,rfl,s2,o2,b2⟩:=Qs r2;obtain⟨v3,l3,rfl,s3,o3,b3⟩:=Qm r3;obtain⟨v4,l4,rfl,s4,o4,b4⟩:=Qh r4;obtain⟨v5,l5,rfl,s5,o5,b5⟩:=Qr r5;obtain⟨v6,l6,rfl,s6,o6,b6⟩:=mS r6;obtain⟨v7,l7,rfl,s7,o7,b7⟩:=mS r7;obtain⟨v8,l8,rfl,s8,o8,b8⟩:=PL r8;obtain⟨v9,l9,rfl,s9,o9,b9⟩:=LZ r9;obtain⟨v10,l10,rfl,s10,o10,b10⟩:=Qj r10;obtain⟨v11,l11,rfl,s11,o11,b11⟩:=Ql r11;obtain⟨v12,l12,rfl,s12,o12,b12⟩:=Qn r12;obtain⟨v13,l13,rfl,s13,o13,b13⟩:=Qp r13;obtain⟨v14,l14,rfl,s14,o14,b14⟩:=Qk r14;obtain⟨v15,l15,rfl,s15,o15,b15⟩:=Qo r15;obtain⟨v16,l16,rfl,s16,o16,b16⟩:=Qu r16;exact⟨v0,v1,v2,v3,v4,v5,v6,v7,v8,v9,v10,v11,v12,v13,v14,v15,v16,⟨l0,l1,l2,l3,l4,l5,l6,l7,l8,l9,l10,l11,l12,l13,l14,l15,l16⟩,rfl,⟨s0,s1,s2,s3,s4,s5,s6,s7,s8,s9,s10,s11,s12,s13,s14,s15,s16⟩,⟨o0,b0,o1,b1,o2,b2,o3,b3,o4,b4,o5,b5,o6,b6,o7,b7,o8,b8,o9,b9,o10,b10,o11,b11,o12,b12,o13,b13,o14,b14,o15,b15,o16,b16⟩⟩
end Go.Proofs.YtdcofoaihmongaaGreat
namespace Go.Proofs.YtdcofoaihmongaaGreat
open Go Go.RowKit
theorem SliceAt.elt{α:Type}{f:α→List Value}{k n i c:Nat}{w:World}{a:Option Addr}{l:List α}{y:α}(h:SliceAt w (.slice a n c) k n (l.flatMap f))(hf:∀ x,(f x).length=k)(hk:0<k)(hy:l[i]?=some y)(hi:i<n):
 ∃ b off,a=some ⟨b,off,none⟩∧∀ j u,(f y)[j]?=some u→w.cell? ⟨b,off+i*k+j,none⟩=some u:=by
 obtain⟨a',c',e,-,-,h2⟩:=SliceAt.form h hk;injection e with e1 e2 e3;subst e1;obtain⟨b,off,hb,h3⟩:=h2 i hi;refine⟨b,off,hb,fun j u hu=>h3 j u ?_⟩;rw[gN hf hy j (hf y▸(asT.1 hu).1)];exact hu
theorem bp.get{w:World}{v:Value}{l:List ByteArray}(h:bp w v l):∃ a c,v=.slice a l.length c∧l.length≤9223372036854775807∧∀ (i:Nat) s,l[i]?=some s→∃ b off,a=some ⟨b,off,none⟩∧w.cell? ⟨b,off+i*1,none⟩=some (.string s):=by
 obtain⟨a,c,rfl,-,hm,-⟩:=SliceAt.form h (by decide);refine⟨a,c,rfl,hm,fun i s hs=>?_⟩;obtain⟨b,off,e,hc⟩:=SliceAt.elt (f:=aN) h (fun _=>rfl) (by decide) hs (asT.1 hs).1;exact⟨b,off,e,hc 0 _ rfl⟩
theorem dL{α:Type}{f:α→List Value}{k n n' c c' m:Nat}{w0 w:World}{a a':Option Addr}{l r:List α}(hf:∀ x,(f x).length=k)(hk:0<k)(h:SliceAt w0 (.slice a n c) k n (l.flatMap f))(h':SliceAt w0 (.slice a' n' c') k n' (r.flatMap f))(hn:n=l.length)(hn':n'=r.length)(hm:m<l.length)(hl:l.length=r.length)(hb:asW w0.heap.size w0 w):
 ∃ x y b o b' o',l[m]?=some x∧r[m]?=some y∧(a=some ⟨b,o,none⟩∧∀ j u,(f x)[j]?=some u→w.cell? ⟨b,o+m*k+j,none⟩=some u)∧(a'=some ⟨b',o',none⟩∧∀ j u,(f y)[j]?=some u→w.cell? ⟨b',o'+m*k+j,none⟩=some u):=by
 obtain⟨x,hx⟩:∃ x,l[m]?=some x:=⟨_,asU hm⟩;obtain⟨y,hy⟩:∃ y,r[m]?=some y:=⟨_,asU (hl▸hm)⟩;obtain⟨b,o,e,hc⟩:=h.elt hf hk hx (hn▸hm);obtain⟨b',o',e',hc'⟩:=h'.elt hf hk hy (hn'▸hl▸hm);exact⟨x,y,b,o,b',o',hx,hy,⟨e,dJ hb hc⟩,e',dJ hb hc'⟩
theorem aL.open{w:World}{c0 c1 c2 c3 c4 c5 c6 c7 c8 c9 aW aP aO aU aT aS aR:Value}{p:aG}(h:aL w c0 c1 c2 c3 c4 c5 c6 c7 c8 c9 aW aP aO aU aT aS aR p):∃ a0 a1 a2 a3 a4 a5 a6 a7 a8 a9 a10 a11 a12 a13 a14 a15 a16 k0 k1 k2 k3 k4 k5 k6 k7 k8 k9 k10 k11 k12 k13 k14 k15 k16,c0=.slice a0 p.classes.length k0∧c1=.slice a1 p.types.length k1∧c2=.slice a2 p.attrs.length k2∧c3=.slice a3 p.roles.length k3∧c4=.slice a4 p.users.length k4∧c5=.slice a5 p.bools.length k5∧c6=.slice a6 p.aV.length k6∧c7=.slice a7 p.cats.length k7∧c8=.slice a8 p.conds.length k8∧c9=.slice a9 p.rules.length k9∧aW=.slice a10 p.trans.length k10∧aP=.slice a11 p.aQ.length k11∧aO=.slice a12 p.ranges.length k12∧aU=.slice a13 p.cons.length k13∧aT=.slice a14 p.bP.length k14∧aS=.slice a15 p.files.length k15∧aR=.slice a16 p.asserts.length k16:=by
 obtain⟨a0,k0,e0,-⟩:=aC.form h.classes (by decide);obtain⟨a1,k1,e1,-⟩:=aC.form h.types (by decide);obtain⟨a2,k2,e2,-⟩:=SliceAt.form h.attrs (by decide);obtain⟨a3,k3,e3,-⟩:=SliceAt.form h.roles (by decide);obtain⟨a4,k4,e4,-⟩:=SliceAt.form h.users (by decide);obtain⟨a5,k5,e5,-⟩:=SliceAt.form h.bools (by decide);obtain⟨a6,k6,e6,-⟩:=bp.get h.aV;obtain⟨a7,k7,e7,-⟩:=bp.get h.cats;obtain⟨a8,k8,e8,-⟩:=aC.form h.conds (by decide);obtain⟨a9,k9,e9,-⟩:=SliceAt.form h.rules (by decide);obtain⟨a10,k10,e10,-⟩:=SliceAt.form h.trans (by decide);obtain⟨a11,k11,e11,-⟩:=SliceAt.form h.aQ (by decide);obtain⟨a12,k12,e12,-⟩:=SliceAt.form h.ranges (by decide);obtain⟨a13,k13,e13,-⟩:=aC.form h.cons (by decide);obtain⟨a14,k14,e14,-⟩:=SliceAt.form h.bP (by decide);obtain⟨a15,k15,e15,-⟩:=SliceAt.form h.files (by decide);obtain⟨a16,k16,e16,-⟩:=SliceAt.form h.asserts (by decide);exact⟨_,_,_,_,_,_,_,_,_,_,_,_,_,_,_,_,_,_,_,_,_,_,_,_,_,_,_,_,_,_,_,_,_,_,e0,e1,e2,e3,e4,e5,e6,e7,e8,e9,e10,e11,e12,e13,e14,e15,e16⟩
theorem bd{t:TypeId}{parts:Array (Nat×Operand)}{vs:List Value}{cells:Array Value}(h:Tryz.prog.built t ((parts.toList.zip vs).map fun x=>(x.1.1,x.2))=some cells)(a:Act)(w:World)(o:Oper)(ho:o.op=.build t parts)(hv:uP a (ij (.build t parts)) vs):
 (execOp a.eval o).run Tryz.prog w=.ok (.value (.agg cells)) w:=by
 refine tX ho rfl ?_;rw[← h];congr 1;have h1:vs=(parts.toList.map (·.2)).map a.eval:=(tU hv).symm;rw[h1,Array.toList_map];generalize parts.toList=l
 induction l with
 | nil=>rfl
 | cons x r ih=>simp only[List.map_cons,List.zip_cons_cons,ih]
theorem ri{v M:Int}(h:M=v):Ending.returned (kR [.int .i64 v])=.returned (.int .i64 M):=by rw[h];rfl
theorem rb{v M:Bool}(h:M=v):Ending.returned (kR [.bool v])=.returned (.bool M):=by rw[h];rfl
theorem iX{w:World}{B n:Nat}{u:Value}{xs:List Value}{l:List ByteArray}(h:w.ownsRow B 9 1 u n xs)(hn:n=l.length)(hx:xs=l.flatMap aN):bp w u l:=by
 subst hn hx;exact SliceAt.bM h fun v hv=>by obtain⟨s,-,hs⟩:=List.mem_flatMap.1 hv;simp only[aN,List.mem_singleton] at hs;subst hs;rfl
theorem qy{α:Type}{f:α→ByteArray}{l:List α}{m:Nat}{y:α}(h:l[m]?=some y):((l.take (m+1)).map f).flatMap aN=((l.take m).map f).flatMap aN++[.string (f y)]:=by
 rw[List.take_add_one,h];simp[aN]
theorem aC.elt{α:Type}{k i c:Nat}{R:List Value→α→Prop}{w:World}{a:Option Addr}{l:List α}{y:α}{n:Nat}(h:aC k R w (.slice a n c) l)(hk:0<k)(hy:l[i]?=some y):∃ b off x,a=some ⟨b,off,none⟩∧R x y∧∀ j u,x[j]?=some u→w.cell? ⟨b,off+i*k+j,none⟩=some u:=by
 obtain⟨la,lk,e,-,-,hc⟩:=aC.form h hk;injection e with e1 e2 e3;subst e1;obtain⟨b,off,x,h1,h2,-,h3⟩:=hc i y hy;exact⟨b,off,x,h1,h2,h3⟩
theorem fbp{op:Op}{ty:TypeId}{xs:List Operand}{vs:List Value}{v:Value}{B:Nat}{w0 w:World}{bs:List Bx}{rs:List Rw}{K:Value→List Bx→List Rw→World→Prop}(M:bg B w0 w bs rs)(hx:∀ (a:Act) (o':Oper),o'.op=op→uP a xs vs→(execOp a.eval o').run Tryz.prog w=.ok (.value v) w)(h:K v bs rs w):
 ∃ R:Value→World→Prop,(∀ (a:Act) (o':Oper),o'.op=op→o'.type=ty→uP a xs vs→∃ v w',(execOp a.eval o').run Tryz.prog w=.ok (.value v) w'∧R v w')∧∀ v w',R v w'→∃ bs' rs',bg B w0 w' bs' rs'∧K v bs' rs' w':=
 ⟨fun v' w'=>v'=v∧w'=w,fun a o' ho _ hv=>⟨_,_,hx a o' ho hv,rfl,rfl⟩,fun _ _ ⟨h1,h2⟩=>by subst h1 h2;exact⟨_,_,M,h⟩⟩
def aY(n:Nat):Int:=2^(2^n)-1
theorem five{n:Nat}(h:n≤5):n=0∨n=1∨n=2∨n=3∨n=4∨n=5:=by omega
theorem nt1{n:Nat}(h:n≤5):IntKind.i64.wrap (1*2^((n:Nat):Int).toNat)=((2^n:Nat):Int):=by
 rcases five h with rfl|rfl|rfl|rfl|rfl|rfl<;>rfl
theorem nt2{n:Nat}(h:n≤5):IntKind.i64.wrap ((((2^n:Nat):Int)).tdiv 64)=0:=by
 rcases five h with rfl|rfl|rfl|rfl|rfl|rfl<;>rfl
theorem nt3{n:Nat}(h:n≤5):IntKind.u64.wrap (1*2^((n:Nat):Int).toNat)=((2^n:Nat):Int):=by
 rcases five h with rfl|rfl|rfl|rfl|rfl|rfl<;>rfl
theorem nt4{n:Nat}(h:n≤5):IntKind.u64.wrap (1*2^(((2^n:Nat):Int)).toNat)=aY n+1:=by
 rcases five h with rfl|rfl|rfl|rfl|rfl|rfl<;>rfl
theorem nt5{n:Nat}(h:n≤5):IntKind.u64.wrap (aY n+1-1)=aY n:=by
 rcases five h with rfl|rfl|rfl|rfl|rfl|rfl<;>rfl
theorem nt6{n:Nat}(h:n≤5):2^n≤32:=by
 rcases five h with rfl|rfl|rfl|rfl|rfl|rfl<;>decide
def qd(w:World)(tp mb:Nat)(c0 c1 c2 c3 c4 c5 c6 c7 c8 c9 aW aP aO aU aT aS aR:Value)(u:Int):Prop:=Whole w tp 304 #[c0,c1,c2,c3,c4,c5,c6,c7,c8,c9,aW,aP,aO,aU,aT,aS,aR,.int .i64 1,.int .u64 u,.map (some mb)]
def bO(w:World)(base:Nat)(v:Value)(x:Int):Prop:=∃ g,v=.slice (some ⟨g,0,none⟩) 1 1∧Whole w g 52 #[.int .u64 x]∧base≤g
theorem bO.keep{w w':World}{base:Nat}{v:Value}{x:Int}(h:bO w base v x)(hb:asW w.heap.size w w'):bO w' base v x:=by
 obtain⟨g,e,hw,hl⟩:=h;exact⟨g,e,Whole.under hb hw hw.lt,hl⟩
def jG(i:Int)(k:Nat):Bool:=decide (bits .and .i64 (((0*64)+(k:Int))/2^(i:Int).toNat) 1=1)
def fG(i:Int):Nat→Int
 | 0=>0
 | k+1=>if jG i k=true then bits .or .u64 (fG i k) (IntKind.u64.wrap (1*2^((k:Int):Int).toNat)) else fG i k
def xB(u i:Int):Int:=bits .and .u64 (fG i 64) u
def notM(u x:Int):Int:=bits .and .u64 (bits .xor .u64 18446744073709551615 x) u
def xZ(op:Int):Int:=if op=1 then 0 else if op=2 then 1 else 2
def BX(u op x y:Int):Int:=if op=3 then bits .and .u64 x y else if op=4 then bits .or .u64 x y else if op=6 then bits .and .u64 (bits .xor .u64 18446744073709551615 (bits .xor .u64 x y)) u else bits .xor .u64 x y
def iD(n:Nat)(op a:Int)(k:Nat):Bool:=((!decide ((k:Int)=xZ op))||(decide (op=1)&&(decide (a<0)||decide ((n:Int)≤a))))
def JK(u:Int)(n:Nat)(op a:Int)(l:List Int):Int:=
 if iD n op a l.length=true then 0 else if op=1 then xB u a else if op=2 then notM u (l.getD 0 0) else BX u op (l.getD 0 0) (l.getD 1 0)
mutual
def cM(u:Int)(n:Nat):aA→Int
 | .node op a _ _ _ _ kids=>JK u n op a (mN u n kids)
def mN(u:Int)(n:Nat):List aA→List Int
 | []=>[]
 | k::l=>cM u n k::mN u n l
end
theorem sI(u:Int)(n:Nat)(e:aA):cM u n e=JK u n e.op e.a (mN u n e.kids):=by cases e;rw[cM];rfl
theorem oL(u:Int)(n:Nat):∀ l:List aA,(mN u n l).length=l.length
 | []=>by rw[mN];rfl
 | k::l=>by rw[mN,List.length_cons,List.length_cons,oL u n l]
theorem sJ(u:Int)(n:Nat):∀ (l:List aA) (i:Nat) {y:aA},l[i]?=some y→(mN u n l).getD i 0=cM u n y
 | [],_,_,h=>by simp at h
 | k::l,0,y,h=>by
  rw[mN];obtain rfl:k=y:=by simpa using h
  rfl
 | k::l,i+1,y,h=>by
  rw[mN];simpa using sJ u n l i (by simpa using h)
theorem AX{i:Int}{k:Nat}(h:jG i k=true):fG i (k+1)=bits .or .u64 (fG i k) (IntKind.u64.wrap (1*2^((k:Int):Int).toNat)):=if_pos h
theorem C9{i:Int}{k:Nat}(h:jG i k=false):fG i (k+1)=fG i k:=if_neg (by rw[h];decide)
theorem mw(w0:World)(c0 c1 c2 c3 c4 c6 c7 c8 c9 aW aP aO aU aT aS aR:Value)(gh:Option Addr)(nB f_:Nat)(hn:nB≤5):Calls Tryz.prog 148 #[.agg #[c0,c1,c2,c3,c4,.slice gh nB f_,c6,c7,c8,c9,aW,aP,aO,aU,aT,aS,aR]] w0 (fun(r:Ending) (w':World)=>∃ v,r=.returned v∧((∃ tp mb,v=.pointer (some ⟨tp,0,none⟩)∧qd w' tp mb c0 c1 c2 c3 c4 (.slice gh nB f_) c6 c7 c8 c9 aW aP aO aU aT aS aR (aY nB)∧aX w' Tryz.prog 3 mb (List.map ival [])∧w0.heap.size≤tp∧w0.heap.size≤mb)∧asW w0.heap.size w0 w')):=by
 have Zq:=nt6 hn;have aM:=hr1 Tryz.prog Tryz.f148 (fun(r:Ending) (w':World)=>∃ v,r=.returned v∧((∃ tp mb,v=.pointer (some ⟨tp,0,none⟩)∧qd w' tp mb c0 c1 c2 c3 c4 (.slice gh nB f_) c6 c7 c8 c9 aW aP aO aU aT aS aR (aY nB)∧aX w' Tryz.prog 3 mb (List.map ival [])∧w0.heap.size≤tp∧w0.heap.size≤mb)∧asW w0.heap.size w0 w')) 28 2 rfl;refine en Tryz.func148 rfl Tryz.ntmps148 rfl (vs:=[.agg #[c0,c1,c2,c3,c4,.slice gh nB f_,c6,c7,c8,c9,aW,aP,aO,aU,aT,aS,aR]]) rfl fun _ F=>?_
 have M:=Mm.start w0;refine as2 fun K1 dw=>ah<|oG (on rfl) rfl (F.u rf) rfl F rfl M fun g1 _ _ F M=>xA (v:=(.pointer none)) F rf rf rf fun _ F=>as1<|dw _ _ ?_
 refine as2 fun K2 cQ=>ah<|xF 5 F rf rf rf iU rf U_ rf fun _ F=>xL F (M.b 0 rfl) rf rf rf u27 rf rf fun _ F=>kz F rf (bA rfl (F.u rf) u27) fun _ F=>
  ke (on rfl) (aan rfl (F.u rf) rfl) rfl F rfl (congrArg (Value.int .i64) (if_neg (by omega))) fun _ F=>
  xA F rf rf rf fun _ F=>
  as1<|
  cQ _ _ ?_
 refine as2 fun K3 fJ=>?_
 refine rd 9 [9,10,11,12,13,14,15,16,4] [bL (.agg #[c0,c1,c2,c3,c4,.slice gh nB f_,c6,c7,c8,c9,aW,aP,aO,aU,aT,aS,aR]),bL (.int .i64 (nB:Int)),bL (.int .i64 ((2^nB:Nat):Int)),bL (.int .i64 0),bL (.int .i64 1),(FC M.wd),(I9 M.wd #[c0,c1,c2,c3,c4,.slice gh nB f_,c6,c7,c8,c9,aW,aP,aO,aU,aT,aS,aR,.int .i64 1,.int .u64 18446744073709551615]),(Bk M.wd 304 #[c0,c1,c2,c3,c4,.slice gh nB f_,c6,c7,c8,c9,aW,aP,aO,aU,aT,aS,aR,.int .i64 1,.int .u64 18446744073709551615]),(Bk M.wd 304 #[c0,c1,c2,c3,c4,.slice gh nB f_,c6,c7,c8,c9,aW,aP,aO,aU,aT,aS,aR,.int .i64 1,.int .u64 18446744073709551615])] (by kernel_rfl) (by kernel_rfl) (by kernel_rfl) rfl (by decide) rfl rfl F ⟨aj _,aj _,aj _,aj _,aj _,O8 _,G7 _ _,wX _ _ _,wX _ _ _,trivial⟩ ⟨?_,?_,?_,?_,?_,?_,?_,?_,?_,trivial⟩ ?_
 ·exact fun a w Q' hf hi H G hK=>dv (on rfl) (lV rfl (G 1 _ rfl (F.g 1 rfl)).ev iU rfl ((M.keep hi).b 0 rfl) kS rfl) rfl hf rfl hK rfl
 ·exact fun a w Q' hf hi H G hK=>dv (on rfl) (bC rfl (G 3 _ rfl (F.g 3 rfl)).ev) rfl hf rfl hK rfl
 ·exact fun a w Q' hf hi H G hK=>dv (on rfl) (lU rfl rfl (iA (H 1 ⟨.data,by simp,rfl⟩ _ _ rfl rfl)).ev (by omega) (show _≤((64:Nat):Int) by omega)) rfl hf rfl hK (Eq.symm (congrArg (Value.int .i64) (nt1 hn)))
 ·exact fun a w Q' hf hi H G hK=>dv (on rfl) (Ns rfl (iA (H 2 ⟨.data,by simp,rfl⟩ _ _ rfl rfl)).ev rfl (by decide)) rfl hf rfl hK (Eq.symm (congrArg (Value.int .i64) (nt2 hn)))
 ·exact fun a w Q' hf hi H G hK=>dv (on rfl) (Eu rfl rfl (iA (H 3 ⟨.data,by simp,rfl⟩ _ _ rfl rfl)).ev) rfl hf rfl hK (Eq.symm rfl)
 ·exact fun a w Q' hf hi H G hK=>dmk (on rfl) rfl Du rfl hf rfl hi hK
 ·intro a w Q' hf hi H G hK;obtain⟨_,Jd,mb2,rfl,agT,af_⟩:=H 5 ⟨.data,by simp,rfl⟩ _ _ rfl rfl;exact dv (on rfl) (tX rfl (pv:=#[(0,.agg #[c0,c1,c2,c3,c4,.slice gh nB f_,c6,c7,c8,c9,aW,aP,aO,aU,aT,aS,aR]),(1,.int .i64 1),(2,.int .u64 18446744073709551615),(3,(.map (some mb2)))]) (by simp[(iA (H 0 ⟨.data,by simp,rfl⟩ _ _ rfl rfl)).ev,(iA (H 4 ⟨.data,by simp,rfl⟩ _ _ rfl rfl)).ev,Jd.ev,BigFrame.eval_const]) (cells:=#[c0,c1,c2,c3,c4,.slice gh nB f_,c6,c7,c8,c9,aW,aP,aO,aU,aT,aS,aR,.int .i64 1,.int .u64 18446744073709551615,.map (some mb2)]) (by kernel_rfl)) rfl hf rfl hK ⟨mb2,rfl,agT,af_⟩
 ·intro a w Q' hf hi H G hK;obtain⟨_,CS,Y3,rfl,yT,lmx⟩:=H 6 ⟨.data,by simp,rfl⟩ _ _ rfl rfl;exact dn (f:=fun n=>.pointer (some ⟨n,0,none⟩)) (on rfl) (Nx rfl CS.ev) rfl hf rfl hK (fun b w' n=>⟨b,Y3,rfl,n.whole,yT.kept (n.below.block _ yT.lt),n.at_▸hi.size,lmx⟩)
 ·intro a w Q' hf hi H G hK;obtain⟨_,CR,tpx,Y3,rfl,htx,yT,ltx,lmx⟩:=H 7 ⟨.data,by simp,rfl⟩ _ _ rfl rfl;exact dv (on rfl) (eC rfl CR.ev) rfl hf rfl hK ⟨tpx,Y3,rfl,htx,yT,ltx,lmx⟩
 (repeat clear F);intro _ _ qK F D
 have M0:=M;have SN:=qK;obtain⟨_,h,tpx,Y3,rfl,htx,yT,ltx,lmx⟩:=D 8 _ _ rfl rfl;have F:=F.add h;have M:=M.keep qK;clear D qK;have M:=M0.DX SN (b1:=(tpx,304,#[c0,c1,c2,c3,c4,.slice gh nB f_,c6,c7,c8,c9,aW,aP,aO,aU,aT,aS,aR,.int .i64 1,.int .u64 18446744073709551615,(.map (some Y3))])) (.inl ⟨rfl,htx⟩) ltx (b2:=(Y3,9003,eu [])) (lN yT) lmx (gG htx yT);refine fJ _ _ ?_
 refine as2 fun K4 fQ=>as2 fun K5 gL=>ah<|xM F rf rf rf fun _ F=>
  ke (on rfl) (lU rfl rfl (F.u rf) (by omega) (show _≤((64:Nat):Int) by omega)) rfl F rfl (congrArg (Value.int .i64) (nt1 hn)) fun _ F=>
  kz F rf (d_ rfl (F.u rf) rfl) fun _ F=>
  as1<|
  gL _ _ ?_
 refine asZ (F.e 19 rfl) (fun hc3=>?_) (fun hc3=>?_)
 ·have BH:=of_decide_eq_true hc3
  refine ah<|xM F rf rf rf fun _ F=>xM F rf rf rf fun _ F=>
   ke (on rfl) (lU rfl rfl (F.u rf) (by omega) (show _≤((64:Nat):Int) by omega)) rfl F rfl (congrArg (Value.int .u64) (nt3 hn)) fun _ F=>
   ke (on rfl) (lU rfl rfl (F.u rf) (Int.natCast_nonneg _) (Int.ofNat_le.2 (Nat.le_trans Zq (by decide)))) rfl F rfl (congrArg (Value.int .u64) (nt4 hn)) fun _ F=>
   ke (on rfl) (CW rfl (F.u rf) rfl) rfl F rfl (congrArg (Value.int .u64) (nt5 hn)) fun _ F=>
   kz F rf (cG rfl (F.u rf)) fun _ F=>
   xF 18 F rf rf rf sK rf iM rf fun _ F=>
   ks (on rfl) rfl (F.u rf) (F.u rf) F M 0 (cs':=#[c0,c1,c2,c3,c4,.slice gh nB f_,c6,c7,c8,c9,aW,aP,aO,aU,aT,aS,aR,.int .i64 1,.int .u64 (aY nB),(.map (some Y3))]) rfl rfl rfl iM rfl rfl rfl rfl fun _ M=>
   as1<|
   fQ _ _ ?_
  refine as2 fun K6 iC=>ah<|xM F rf rf rf fun _ F=>xA F rf rf rf fun _ F=>as1<|iC _ _ ?_
  refine wp_ret<|aM _ _ _ _ F rfl ?_;exact⟨_,rfl,⟨_,_,rfl,M.b 0 rfl,M.map 1 rfl,M.lo _ (asV (i:=0) rfl),M.lo _ (asV (i:=1) rfl)⟩,M.below⟩
 ·have Ao:=of_decide_eq_false hc3;exfalso;omega
theorem DU(w0:World)(op:Int):Calls Tryz.prog 232 #[.int .i64 op] w0 (fun(e:Ending) (w':World)=>e=.returned (.int .i64 (xZ op))∧asW w0.heap.size w0 w'):=by
 have aM:=hr1 Tryz.prog Tryz.f232 (fun(e:Ending) (w':World)=>e=.returned (.int .i64 (xZ op))∧asW w0.heap.size w0 w') 8 2 rfl;refine en Tryz.func232 rfl Tryz.ntmps232 rfl (vs:=[.int .i64 op]) rfl fun _ F=>?_
 have M:=Mm.start w0;refine as2 fun K1 dw=>ah<|xA (v:=.int .i64 0) F rf rf rf fun _ F=>as1<|dw _ _ ?_
 refine as2 fun K2 cQ=>as2 fun K3 fJ=>ah<|xM F rf rf rf fun _ F=>as1<|fJ _ _ ?_
 refine wp_block<|as2 fun K4 fQ=>ah<|kz F rf (eX rfl (F.u rf) rfl) fun _ F=>xA F rf rf rf fun _ F=>as1<|fQ _ _ ?_
 refine asZ (F.e 4 rfl) (fun hc1=>?_) (fun hc1=>?_)
 ·have hd2:=of_decide_eq_true hc1;refine as2 fun K5 gL=>ah<|xA (v:=.int .i64 0) F rf rf rf fun _ F=>as1<|gL _ _ ?_
  refine wp_ret<|aM _ _ _ _ F rfl ?_;exact⟨bE (by unfold xZ;refine Eq.symm ?_;repeat (first|with_reducible rfl|assumption|(with_reducible refine Eq.trans (if_pos ?_) ?_;focus (first|assumption|(refine cO ?_;assumption)|(refine cN ?_;assumption)|omega|(simp[hd2];done)))|(with_reducible refine Eq.trans (if_neg ?_) ?_;focus (first|assumption|(refine cO ?_;assumption)|(refine cN ?_;assumption)|omega|(simp[hd2];done)))|omega)),M.below⟩
 ·have hd3:=of_decide_eq_false hc1;refine as2 fun K6 iC=>ah<|kz F rf (eX rfl (F.u rf) rfl) fun _ F=>xA F rf rf rf fun _ F=>as1<|iC _ _ ?_
  refine asZ (F.e 6 rfl) (fun yd=>?_) (fun yd=>?_)
  ·have Ao:=of_decide_eq_true yd;refine as2 fun K7 iO=>ah<|xA (v:=.int .i64 1) F rf rf rf fun _ F=>as1<|iO _ _ ?_
   refine wp_ret<|aM _ _ _ _ F rfl ?_;exact⟨bE (by unfold xZ;refine Eq.symm ?_;repeat (first|with_reducible rfl|assumption|(with_reducible refine Eq.trans (if_pos ?_) ?_;focus (first|assumption|(refine cO ?_;assumption)|(refine cN ?_;assumption)|omega|(simp[Ao];done)))|(with_reducible refine Eq.trans (if_neg ?_) ?_;focus (first|assumption|(refine cO ?_;assumption)|(refine cN ?_;assumption)|omega|(simp[hd3,Ao];done)))|omega)),M.below⟩
  ·have vU:=of_decide_eq_false yd;refine wp_skip<|cQ _ _ ?_;refine as2 fun K8 jf=>ah<|xA (v:=.int .i64 2) F rf rf rf fun _ F=>as1<|jf _ _ ?_
   refine wp_ret<|aM _ _ _ _ F rfl ?_;exact⟨bE (by unfold xZ;refine Eq.symm ?_;repeat (first|with_reducible rfl|assumption|(with_reducible refine Eq.trans (if_pos ?_) ?_;focus (first|assumption|(refine cO ?_;assumption)|(refine cN ?_;assumption)|omega|(simp[hd3,vU];done)))|(with_reducible refine Eq.trans (if_neg ?_) ?_;focus (first|assumption|(refine cO ?_;assumption)|(refine cN ?_;assumption)|omega|(simp[hd3,vU];done)))|omega)),M.below⟩
theorem IL(w0:World)(tp mb:Nat)(c0 c1 c2 c3 c4 c6 c7 c8 c9 aW aP aO aU aT aS aR:Value)(gh:Option Addr)(nB f_:Nat)(u:Int)(hT:qd w0 tp mb c0 c1 c2 c3 c4 (.slice gh nB f_) c6 c7 c8 c9 aW aP aO aU aT aS aR u)(bi:Int)(hb0:0≤bi)(hb1:bi≤60):Calls Tryz.prog 233 #[.pointer (some ⟨tp,0,none⟩),.int .i64 bi] w0 (fun(r:Ending) (w':World)=>∃ v,r=.returned v∧((bO w' w0.heap.size v (xB u bi))∧asW w0.heap.size w0 w')):=by
 have Ld:∀ j uu,[c0,c1,c2,c3,c4,.slice gh nB f_,c6,c7,c8,c9,aW,aP,aO,aU,aT,aS,aR,.int .i64 1,.int .u64 u,(.map (some mb))][j]?=some uu→w0.cell? ⟨tp,0+j,none⟩=some uu:=fun j u hu=>by rw[Nat.zero_add];exact(Whole.cell hT j).trans (by simpa using hu)
 have aM:=hr1 Tryz.prog Tryz.f233 (fun(r:Ending) (w':World)=>∃ v,r=.returned v∧((bO w' w0.heap.size v (xB u bi))∧asW w0.heap.size w0 w')) 50 4 rfl;refine en Tryz.func233 rfl Tryz.ntmps233 rfl (vs:=[.pointer (some ⟨tp,0,none⟩),.int .i64 bi]) rfl fun _ F=>?_
 have M:=Mm.start w0;refine as2 fun K1 dw=>ah<|xA (v:=.slice none 0 0) F rf rf rf fun _ F=>as1<|dw _ _ ?_
 refine as2 fun K2 cQ=>ah<|xM F rf rf rf fun _ F=>kz F rf (cG rfl (F.u rf)) fun _ F=>xF 17 F rf rf rf sK rf Bn rf fun _ F=>kz F rf (aD rf (F.u rf) u3 rfl ((dJ M.below Ld) 17 _ rfl)) fun _ F=>
  kn (f:=fun n=>.slice (some ⟨n,0,none⟩) 1 1) (on rfl) (tV rfl (F.u rf) (F.u rf) oO Hh QJ rfl (by decide)) rfl F rfl M fun g1 _ _ F M=>
  xA F rf rf rf fun _ F=>
  as1<|
  cQ _ _ ?_
 refine as2 fun K3 fJ=>as2 fun K4 fQ=>ah<|xM F rf rf rf fun _ F=>kz F rf (bA rfl (F.u rf) oO) fun _ F=>xM (v:=.int .i64 0) F rf rf rf fun _ F=>as1<|fQ _ _ ?_
 refine wp_block<|?_;refine bV (ι:=Nat×Int) (fun|(t,x),a,w=>Fs a 50 [(0,.pointer (some ⟨tp,0,none⟩)),(1,.int .i64 bi),(5,.slice (some ⟨g1,0,none⟩) 1 1),(14,.int .i64 1),(15,.int .i64 (t:Int))]∧Mm w0 w [(g1,52,#[.int .u64 x])] []∧t≤1∧(t=0→x=0)∧(t=1→x=xB u bi)) (fun|(t,x)=>1-t) (0,0) ⟨F.sub ⟨rfl,rfl,rfl,rfl,rfl,trivial⟩,M,asL _,⟨fun _=>rfl,fun h=>by cases h⟩⟩ ?_
 (repeat clear F);(repeat clear M)
 rintro⟨t,x⟩ _ _ ⟨F,M,ht,hx⟩;refine as2 fun K5 gL=>ah<|kz F rf (d_ rfl (F.u rf) (F.u rf)) fun _ F=>as1<|gL _ _ ?_
 refine as2 fun K6 iC=>?_
 refine asZ (F.e 16 rfl) (fun hc2=>?_) (fun hc2=>?_)
 ·have hd3:=of_decide_eq_true hc2;refine wp_skip<|iC _ _ ?_;refine as2 fun K7 iO=>wp_block<|as2 fun K8 jf=>?_
  have XB:t=0:=by omega
  have F:=F.eq 15 rfl (congrArg (Value.int .i64) (show((t:Nat):Int)=0 by omega));refine ah<|xM F rf rf rf fun _ F=>xA F rf rf rf fun _ F=>as1<|jf _ _ ?_
  refine as2 fun K9 jW=>as2 fun Bh dU=>ah<|xM (v:=.int .i64 0) F rf rf rf fun _ F=>as1<|dU _ _ ?_
  refine wp_block<|?_;refine bV (ι:=Nat×Int) (fun|(k,acc),a,w=>Fs a 50 [(0,.pointer (some ⟨tp,0,none⟩)),(1,.int .i64 bi),(5,.slice (some ⟨g1,0,none⟩) 1 1),(6,.int .i64 0),(14,.int .i64 1),(15,.int .i64 0),(18,.int .i64 (k:Int))]∧Mm w0 w [(g1,52,#[.int .u64 acc])] []∧k≤64∧acc=fG bi k) (fun|(k,acc)=>64-k) (0,x) ⟨F.sub ⟨rfl,rfl,rfl,rfl,rfl,rfl,rfl,trivial⟩,M,asL _,hx.1 XB⟩ ?_
  (repeat clear F);(repeat clear M)
  rintro⟨k,acc⟩ _ _ ⟨F,M,hk,hacc⟩;refine as2 fun I8 gj=>ah<|kz F rf (d_ rfl (F.u rf) rfl) fun _ F=>as1<|gj _ _ ?_
  refine as2 fun I7 fT=>?_
  refine asZ (F.e 19 rfl) (fun yd=>?_) (fun yd=>?_)
  ·have Ao:=of_decide_eq_true yd;refine wp_skip<|fT _ _ ?_;refine as2 fun Jh gM=>wp_block<|as2 fun NR jg=>ah<|xM F rf rf rf fun _ F=>xA F rf rf rf fun _ F=>as1<|jg _ _ ?_
   refine as2 fun W6 mY=>ah<|xM F rf rf rf fun _ F=>
    ke (on rfl) (TR rfl (F.u rf) rfl) rfl F rfl (congrArg (Value.int .i64) (wrap_i64 (by omega))) fun _ F=>
    xM F rf rf rf fun _ F=>
    ke (on rfl) (cL rfl (F.u rf) (F.u rf)) rfl F rfl (congrArg (Value.int .i64) (wrap_i64 (by omega))) fun _ F=>
    xM F rf rf rf fun _ F=>
    kz F rf (TP rfl (F.u rf) (F.u rf) (by omega) (show _≤((64:Nat):Int) by omega)) fun _ F=>
    kz F rf (xg rfl (F.u rf) rfl) fun _ F=>
    kz F rf (eX rfl (F.u rf) rfl) fun _ F=>
    as1<|
    mY _ _ ?_
   refine asZ (F.e 28 rfl) (fun je=>?_) (fun je=>?_)
   ·have QA:=of_decide_eq_true je;have hbit:jG bi k=true:=je;refine rd 8 [29,30,31,32,33,34,35,36] [bL (.slice (some ⟨g1,0,none⟩) 1 1),bL (.int .i64 0),bL (.pointer (some ⟨g1,0,none⟩)),bL (.int .u64 acc),bL (.int .i64 (k:Int)),bL (.int .u64 (IntKind.u64.wrap (1*2^((k:Int):Int).toNat))),bL (.int .u64 (bits .or .u64 acc (IntKind.u64.wrap (1*2^((k:Int):Int).toNat)))),bL (.pointer (some ⟨g1,0,none⟩))] (by kernel_rfl) (by kernel_rfl) (by kernel_rfl) rfl (by decide) rfl rfl F ⟨aj _,aj _,aj _,aj _,aj _,aj _,aj _,aj _,trivial⟩ ⟨?_,?_,?_,?_,?_,?_,?_,?_,trivial⟩ ?_
    ·exact fun a w Q' hf hi H G hK=>dv (on rfl) (bC rfl (G 5 _ rfl (F.g 5 rfl)).ev) rfl hf rfl hK rfl
    ·exact fun a w Q' hf hi H G hK=>dv (on rfl) (bC rfl (G 6 _ rfl (F.g 6 rfl)).ev) rfl hf rfl hK rfl
    ·exact fun a w Q' hf hi H G hK=>dv (on rfl) (aK (i:=0) rfl (iA (H 0 ⟨.data,by simp,rfl⟩ _ _ rfl rfl)).ev (iA (H 1 ⟨.data,by simp,rfl⟩ _ _ rfl rfl)).ev (by omega) oO iM) rfl hf rfl hK rfl
    ·exact fun a w Q' hf hi H G hK=>dv (on rfl) (aD rfl (iA (H 2 ⟨.data,by simp,rfl⟩ _ _ rfl rfl)).ev Ga rfl (((M.keep hi).b 0 rfl).c1 0)) rfl hf rfl hK rfl
    ·exact fun a w Q' hf hi H G hK=>dv (on rfl) (bC rfl (G 7 _ rfl (F.g 7 rfl)).ev) rfl hf rfl hK rfl
    ·exact fun a w Q' hf hi H G hK=>dv (on rfl) (lU rfl rfl (iA (H 4 ⟨.data,by simp,rfl⟩ _ _ rfl rfl)).ev (by omega) (show _≤((64:Nat):Int) by omega)) rfl hf rfl hK rfl
    ·exact fun a w Q' hf hi H G hK=>dv (on rfl) (TQ rfl (iA (H 3 ⟨.data,by simp,rfl⟩ _ _ rfl rfl)).ev (iA (H 5 ⟨.data,by simp,rfl⟩ _ _ rfl rfl)).ev) rfl hf rfl hK rfl
    ·exact fun a w Q' hf hi H G hK=>dv (on rfl) (aK (i:=0) rfl (iA (H 0 ⟨.data,by simp,rfl⟩ _ _ rfl rfl)).ev (iA (H 1 ⟨.data,by simp,rfl⟩ _ _ rfl rfl)).ev (by omega) oO iM) rfl hf rfl hK rfl
    (repeat clear F);intro _ _ qK F D
    obtain⟨_,h,rfl⟩:=D 6 _ _ rfl rfl;have F:=F.add h;obtain⟨_,h,rfl⟩:=D 7 _ _ rfl rfl;have F:=F.add h;have M:=M.keep qK;clear D qK;intro Qt BI;refine ks (on rfl) rfl (F.u rf) (F.u rf) F M 0 (cs':=#[.int .u64 (bits .or .u64 acc (IntKind.u64.wrap (1*2^((k:Int):Int).toNat)))]) rfl rfl rfl iM rfl (iG _ _ rfl) rfl rfl fun _ M=>as1 (BI _ _ ?_)
    refine gM _ _ ?_
    refine ah<|
     ke (on rfl) (cL rfl (F.u rf) rfl) rfl F rfl (congrArg (Value.int .i64) (wrap_i64 (by omega))) fun _ F=>
     xM F rf rf rf fun _ F=>
     as1<|?_
    exact⟨(k+1,bits .or .u64 acc (IntKind.u64.wrap (1*2^((k:Int):Int).toNat))),⟨F.sub ⟨rfl,rfl,rfl,rfl,rfl,rfl,rfl,trivial⟩,M,by omega,by rw[AX hbit,← hacc]⟩,by show 64-(k+1)<64-k;omega⟩
   ·have Qz:=of_decide_eq_false je;have hbit:jG bi k=false:=je;refine wp_skip<|gM _ _ ?_
    refine ah<|
     ke (on rfl) (cL rfl (F.u rf) rfl) rfl F rfl (congrArg (Value.int .i64) (wrap_i64 (by omega))) fun _ F=>
     xM F rf rf rf fun _ F=>
     as1<|?_
    exact⟨(k+1,acc),⟨F.sub ⟨rfl,rfl,rfl,rfl,rfl,rfl,rfl,trivial⟩,M,by omega,by rw[C9 hbit,← hacc]⟩,by show 64-(k+1)<64-k;omega⟩
  ·have Ea:=of_decide_eq_false yd;refine wp_exit<|jW _ _ ?_;refine rd 10 [38,39,40,41,42,43,44,45,46,47] [bL (.slice (some ⟨g1,0,none⟩) 1 1),bL (.int .i64 0),bL (.pointer (some ⟨g1,0,none⟩)),bL (.int .u64 acc),bL (.pointer (some ⟨tp,0,none⟩)),bL (.pointer (some ⟨tp,0,none⟩)),bL (.pointer (some ⟨tp,18,none⟩)),bL (.int .u64 u),bL (.int .u64 (bits .and .u64 acc u)),bL (.pointer (some ⟨g1,0,none⟩))] (by kernel_rfl) (by kernel_rfl) (by kernel_rfl) rfl (by decide) rfl rfl F ⟨aj _,aj _,aj _,aj _,aj _,aj _,aj _,aj _,aj _,aj _,trivial⟩ ⟨?_,?_,?_,?_,?_,?_,?_,?_,?_,?_,trivial⟩ ?_
   ·exact fun a w Q' hf hi H G hK=>dv (on rfl) (bC rfl (G 5 _ rfl (F.g 5 rfl)).ev) rfl hf rfl hK rfl
   ·exact fun a w Q' hf hi H G hK=>dv (on rfl) (bC rfl (G 6 _ rfl (F.g 6 rfl)).ev) rfl hf rfl hK rfl
   ·exact fun a w Q' hf hi H G hK=>dv (on rfl) (aK (i:=0) rfl (iA (H 0 ⟨.data,by simp,rfl⟩ _ _ rfl rfl)).ev (iA (H 1 ⟨.data,by simp,rfl⟩ _ _ rfl rfl)).ev (by omega) oO iM) rfl hf rfl hK rfl
   ·exact fun a w Q' hf hi H G hK=>dv (on rfl) (aD rfl (iA (H 2 ⟨.data,by simp,rfl⟩ _ _ rfl rfl)).ev Ga rfl (((M.keep hi).b 0 rfl).c1 0)) rfl hf rfl hK rfl
   ·exact fun a w Q' hf hi H G hK=>dv (on rfl) (bC rfl (G 0 _ rfl (F.g 0 rfl)).ev) rfl hf rfl hK rfl
   ·exact fun a w Q' hf hi H G hK=>dv (on rfl) (cG rfl (iA (H 4 ⟨.data,by simp,rfl⟩ _ _ rfl rfl)).ev) rfl hf rfl hK rfl
   ·exact fun a w Q' hf hi H G hK=>dv (on rfl) (aI rfl (iA (H 5 ⟨.data,by simp,rfl⟩ _ _ rfl rfl)).ev sK rfl iM) rfl hf rfl hK rfl
   ·exact fun a w Q' hf hi H G hK=>dv (on rfl) (aD rfl (iA (H 6 ⟨.data,by simp,rfl⟩ _ _ rfl rfl)).ev Ga rfl ((dJ (M.keep hi).below Ld) 18 _ rfl)) rfl hf rfl hK rfl
   ·exact fun a w Q' hf hi H G hK=>dv (on rfl) (xg rfl (iA (H 3 ⟨.data,by simp,rfl⟩ _ _ rfl rfl)).ev (iA (H 7 ⟨.data,by simp,rfl⟩ _ _ rfl rfl)).ev) rfl hf rfl hK rfl
   ·exact fun a w Q' hf hi H G hK=>dv (on rfl) (aK (i:=0) rfl (iA (H 0 ⟨.data,by simp,rfl⟩ _ _ rfl rfl)).ev (iA (H 1 ⟨.data,by simp,rfl⟩ _ _ rfl rfl)).ev (by omega) oO iM) rfl hf rfl hK rfl
   (repeat clear F);intro _ _ qK F D
   obtain⟨_,h,rfl⟩:=D 8 _ _ rfl rfl;have F:=F.add h;obtain⟨_,h,rfl⟩:=D 9 _ _ rfl rfl;have F:=F.add h;have M:=M.keep qK;clear D qK;intro Qt BI;refine ks (on rfl) rfl (F.u rf) (F.u rf) F M 0 (cs':=#[.int .u64 (bits .and .u64 acc u)]) rfl rfl rfl iM rfl (iG _ _ rfl) rfl rfl fun _ M=>as1 (BI _ _ ?_)
   refine iO _ _ ?_;have F:=F.eq 15 rfl (congrArg (Value.int .i64) (show(0:Int)=((t:Nat):Int) by omega))
   refine ah<|
    ke (on rfl) (cL rfl (F.u rf) rfl) rfl F rfl (congrArg (Value.int .i64) (wrap_i64 (by omega))) fun _ F=>
    xM F rf rf rf fun _ F=>
    as1<|?_
   exact⟨(t+1,bits .and .u64 acc u),⟨F.sub ⟨rfl,rfl,rfl,rfl,rfl,trivial⟩,M,by omega,⟨fun h=>by omega,fun _=>by rw[show k=64 by omega] at hacc;rw[hacc];rfl⟩⟩,by show 1-(t+1)<1-t;omega⟩
 ·have ZE:=of_decide_eq_false hc2;refine wp_exit<|fJ _ _ ?_;refine as2 fun K16 tR=>ah<|xM F rf rf rf fun _ F=>xA F rf rf rf fun _ F=>as1<|tR _ _ ?_
  refine wp_ret<|aM _ _ _ _ F rfl ?_;exact⟨_,rfl,⟨_,rfl,(by have hW:=M.b 0 rfl;rw[hx.2 (by omega)] at hW;exact hW),M.lo _ (asV (i:=0) rfl)⟩,M.below⟩
def Fu:Nat→au
 | 0=>au.zero
 | k+1=>(Fu k).with (k:Int)
def au.all(n:Nat):au:=Fu (min n 256)
theorem Ft:∀ k,(Fu k).Ok
 | 0=>yA
 | k+1=>au.Dp (Ft k) _
theorem zO(w:World)(n:Nat)(hn:n≤140737488355328):Calls Tryz.prog 104 #[.int .i64 (n:Int)] w fun e w'=>e=.returned (.agg #[.int .u64 (au.all n).a,.int .u64 (au.all n).b,.int .u64 (au.all n).c,.int .u64 (au.all n).d])∧asW w.heap.size w w':=by
 obtain⟨N,hN⟩:∃ N,N=min n 256:=⟨_,rfl⟩;have HN:=as3 hN;have hNn:N≤n:=by rw[hN];exact Nat.min_le_left _ _
 have hN2:N≤256:=by rw[hN];exact Nat.min_le_right _ _
 clear hN;have B6:=as3 (show Whole ((w.alloc (.cells #[.int .u64 0,.int .u64 0,.int .u64 0,.int .u64 0] 54)).alloc (.cells #[.int .u64 0,.int .u64 0,.int .u64 0,.int .u64 0] 54)) w.heap.size 54 #[.int .u64 0,.int .u64 0,.int .u64 0,.int .u64 0] from(Whole.new w 54 #[.int .u64 0,.int .u64 0,.int .u64 0,.int .u64 0]).alloc _);have Bp:=as3 (show Whole ((w.alloc (.cells #[.int .u64 0,.int .u64 0,.int .u64 0,.int .u64 0] 54)).alloc (.cells #[.int .u64 0,.int .u64 0,.int .u64 0,.int .u64 0] 54)) (w.heap.size+1) 54 #[.int .u64 0,.int .u64 0,.int .u64 0,.int .u64 0] from dg w _ #[.int .u64 0,.int .u64 0,.int .u64 0,.int .u64 0] _)
 go_enter Tryz.func104,Tryz.ntmps104
 go_wp2_with (refine aZ rfl 54 _ _ rfl (w.heap.size+1) 0 (.agg #[.int .u64 0,.int .u64 0,.int .u64 0,.int .u64 0]) rfl rfl 54 _ Bp.out (by simp[Value.cells]) cF rfl ?_;intro w2 SW2 WW2;rw[cE _ _ (by rfl)] at WW2;have Qg:=as3 SW2;have HW2:=as3 (show Whole w2 (w.heap.size+1) 54 #[.int .u64 0,.int .u64 0,.int .u64 0,.int .u64 0] from WW2);clear SW2 WW2 )
 have HR2:=as3 (Qg.out.whole B6.out (by omega));have nA:=as3 (show asW w.heap.size w w2 from(((Below.refl _ w).alloc (Nat.le_refl _) _).alloc (by simp) _).trans (Qg.out.below (by omega)));clear B6 Qg
 go_loopw [4] (fun i wr=>∃ (k:Nat) (s:au),k≤N∧i=.int .i64 k∧s=Fu k∧Whole wr w.heap.size 54 #[.int .u64 0,.int .u64 0,.int .u64 0,.int .u64 0]∧Whole wr (w.heap.size+1) 54 #[.int .u64 s.a,.int .u64 s.b,.int .u64 s.c,.int .u64 s.d]∧asW w.heap.size w wr) (fun i _=>N-(intOf i).toNat)
 case atStart=>exact⟨0,au.zero,asL _,rfl,rfl,HR2.out,HW2.out,nA.out⟩
 case round=>
  clear HR2 HW2 nA;obtain⟨k,s,hk,rfl,Uv,hR,hS,hb⟩:=hrel;have UK:=as3 Uv;have FN:=as3 hR;have eE:=as3 hS;have Ji:=as3 hb;have HS:=as3 (show s.Ok by rw[Uv];exact Ft _);clear Uv hR hS hb;by_cases hlt:k<N
  ·have hd1:decide ((k:Int)<(n:Int))=true:=by simp;omega
   have hd2:decide ((k:Int)<256)=true:=by simp;omega
   obtain⟨t,ht⟩:∃ t,s.with (k:Int)=t:=⟨_,rfl⟩;have HT:=as3 ht;clear ht
   go_wp2_with (first|(refine wpList_load_row rfl 54 _ rfl (w.heap.size+1) rfl 54 _ (0,0) _ eE.out Tryz.underlying54 rfl cF ?_)|(go_at_call 130;go_must (refine(Cr wr s HS.out (k:Int)).mono ?_;rintro e w1 ⟨rfl,hb1⟩;rw[HT.out];have HX:=as3 (Whole.under hb1 eE.out eE.out.lt);have HR:=as3 (Whole.under hb1 FN.out FN.out.lt);have FM:=as3 (Ji.out.trans (hb1.mono Ji.out.size));clear hb1 FN eE Ji))|(refine aZ rfl 54 _ _ rfl (w.heap.size+1) 0 (.agg #[.int .u64 t.a,.int .u64 t.b,.int .u64 t.c,.int .u64 t.d]) rfl rfl 54 _ HX.out (by simp[Value.cells]) cF rfl ?_;intro w2 SW2 WW2;rw[cE _ _ (by rfl)] at WW2;have Qg:=as3 SW2;have HW2:=as3 (show Whole w2 (w.heap.size+1) 54 #[.int .u64 t.a,.int .u64 t.b,.int .u64 t.c,.int .u64 t.d] from WW2);clear SW2 WW2 HX))
   go_roundw
   case rel=>exact⟨k+1,t,by omega,by go_num,by rw[← HT.out,UK.out];rfl,Qg.out.whole HR.out (by omega),HW2.out,FM.out.trans (Qg.out.below (by omega))⟩
   case measure=>simp[intOf];omega
  ·obtain rfl:k=N:=by omega
   have fin:s=au.all n:=by rw[UK.out];unfold au.all;rw[← HN.out]
   have HF:=as3 fin;clear fin;by_cases h2:k<n
   ·have hd1:decide ((k:Int)<(n:Int))=true:=by simp;omega
    have hd2:decide ((k:Int)<256)=false:=by have:=HN.out;simp;omega
    go_wp2_with (first|(refine wpList_load_row rfl 54 _ rfl (w.heap.size+1) rfl 54 _ (0,0) _ eE.out Tryz.underlying54 rfl cF ?_)|(refine aZ rfl 54 _ _ rfl (w.heap.size) 0 (.agg #[.int .u64 s.a,.int .u64 s.b,.int .u64 s.c,.int .u64 s.d]) rfl rfl 54 _ FN.out (by simp[Value.cells]) cF rfl ?_;intro w3 Ul LK;rw[cE _ _ (by rfl)] at LK;have LS:=as3 Ul;have HW3:=as3 (show Whole w3 (w.heap.size) 54 #[.int .u64 s.a,.int .u64 s.b,.int .u64 s.c,.int .u64 s.d] from LK);clear Ul LK FN))
    have e0:w3.cell? ⟨w.heap.size,0,none⟩=some (.int .u64 s.a):=HW3.out.cell 0;have e1:w3.cell? ⟨w.heap.size,1,none⟩=some (.int .u64 s.b):=HW3.out.cell 1;have e2:w3.cell? ⟨w.heap.size,2,none⟩=some (.int .u64 s.c):=HW3.out.cell 2;have e3:w3.cell? ⟨w.heap.size,3,none⟩=some (.int .u64 s.d):=HW3.out.cell 3;refine bodyPost_ret (v:=.agg #[.int .u64 s.a,.int .u64 s.b,.int .u64 s.c,.int .u64 s.d]) ?_ rfl ⟨by rw[HF.out],Ji.out.trans (LS.out.below (Nat.le_refl _))⟩;simp[results,Tryz.results104,go_sem,e0,e1,e2,e3]
   ·have hd1:decide ((k:Int)<(n:Int))=false:=by simp;omega
    go_wp2_with (first|(refine wpList_load_row rfl 54 _ rfl (w.heap.size+1) rfl 54 _ (0,0) _ eE.out Tryz.underlying54 rfl cF ?_)|(refine aZ rfl 54 _ _ rfl (w.heap.size) 0 (.agg #[.int .u64 s.a,.int .u64 s.b,.int .u64 s.c,.int .u64 s.d]) rfl rfl 54 _ FN.out (by simp[Value.cells]) cF rfl ?_;intro w3 Ul LK;rw[cE _ _ (by rfl)] at LK;have LS:=as3 Ul;have HW3:=as3 (show Whole w3 (w.heap.size) 54 #[.int .u64 s.a,.int .u64 s.b,.int .u64 s.c,.int .u64 s.d] from LK);clear Ul LK FN))
    have e0:w3.cell? ⟨w.heap.size,0,none⟩=some (.int .u64 s.a):=HW3.out.cell 0;have e1:w3.cell? ⟨w.heap.size,1,none⟩=some (.int .u64 s.b):=HW3.out.cell 1;have e2:w3.cell? ⟨w.heap.size,2,none⟩=some (.int .u64 s.c):=HW3.out.cell 2;have e3:w3.cell? ⟨w.heap.size,3,none⟩=some (.int .u64 s.d):=HW3.out.cell 3;refine bodyPost_ret (v:=.agg #[.int .u64 s.a,.int .u64 s.b,.int .u64 s.c,.int .u64 s.d]) ?_ rfl ⟨by rw[HF.out],Ji.out.trans (LS.out.below (Nat.le_refl _))⟩;simp[results,Tryz.results104,go_sem,e0,e1,e2,e3]
theorem uj{w:World}{g:Nat}{s:au}{k:Nat}(h:Whole w g 54 #[.int .u64 s.a,.int .u64 s.b,.int .u64 s.c,.int .u64 s.d])(hk:k<4):w.cell? ⟨g,k,none⟩=some (.int .u64 (s.word k)):=by
 have h1:=h.cell k
 rwa [show(#[.int .u64 s.a,.int .u64 s.b,.int .u64 s.c,.int .u64 s.d]:Array Value)[k]?=some (.int .u64 (s.word k)) by rw[← Array.getElem?_toList];exact s.um hk] at h1
def qM(x y:Nat):Nat:=x&&&(18446744073709551615-y)
theorem WK{x:Nat}(hx:yq x)(y:Nat):yq (qM x y):=Nat.lt_of_le_of_lt Nat.and_le_left hx
def au.minus(a b:au):au:=⟨qM a.a b.a,qM a.b b.b,qM a.c b.c,qM a.d b.d⟩
theorem au.zm(a b:au){j:Nat}(hj:j<4):(a.minus b).word j=qM (a.word j) (b.word j):=by
 rcases four hj with rfl|rfl|rfl|rfl<;>rfl
theorem au.Q6{a b:au}(h:∀ j,j<4→a.word j=b.word j):a=b:=by
 have h0:=h 0 (by decide);have h1:=h 1 (by decide);have h2:=h 2 (by decide);have h3:=h 3 (by decide);obtain⟨p,q,r,s⟩:=a;obtain⟨p',q',r',s'⟩:=b;simp[au.word] at h0 h1 h2 h3;clear h;simp[h0,h1,h2,h3]
theorem Kc(w:World)(a b:au)(ha:a.Ok)(hb:b.Ok):Calls Tryz.prog 194 #[.agg #[.int .u64 a.a,.int .u64 a.b,.int .u64 a.c,.int .u64 a.d],.agg #[.int .u64 b.a,.int .u64 b.b,.int .u64 b.c,.int .u64 b.d]] w fun e w'=>e=.returned (.agg #[.int .u64 (a.minus b).a,.int .u64 (a.minus b).b,.int .u64 (a.minus b).c,.int .u64 (a.minus b).d])∧asW w.heap.size w w':=by
 have HOA:=as3 ha;have HOB:=as3 hb;clear ha hb;obtain⟨wo,bS⟩:∃ wo,wo=((w.alloc (.cells #[.int .u64 a.a,.int .u64 a.b,.int .u64 a.c,.int .u64 a.d] 54)).alloc (.cells #[.int .u64 b.a,.int .u64 b.b,.int .u64 b.c,.int .u64 b.d] 54)).alloc (.cells #[.int .u64 0,.int .u64 0,.int .u64 0,.int .u64 0] 54):=⟨_,rfl⟩;have W7:=as3 (show Whole wo w.heap.size 54 #[.int .u64 a.a,.int .u64 a.b,.int .u64 a.c,.int .u64 a.d] by rw[bS];exact((Whole.new w 54 _).alloc _).alloc _);have Yc:=as3 (show Whole wo (w.heap.size+1) 54 #[.int .u64 b.a,.int .u64 b.b,.int .u64 b.c,.int .u64 b.d] by rw[bS];exact(dg w _ _ _).alloc _);have UL:=as3 (show Whole wo (w.heap.size+2) 54 #[.int .u64 0,.int .u64 0,.int .u64 0,.int .u64 0] by rw[bS];have h:=dg (w.alloc (.cells #[.int .u64 a.a,.int .u64 a.b,.int .u64 a.c,.int .u64 a.d] 54)) (.cells #[.int .u64 b.a,.int .u64 b.b,.int .u64 b.c,.int .u64 b.d] 54) #[.int .u64 0,.int .u64 0,.int .u64 0,.int .u64 0] 54;simpa using h);have ef:=as3 (show asW w.heap.size w wo by rw[bS];exact(((Below.refl _ w).alloc (Nat.le_refl _) _).alloc (by simp) _).alloc (by simp;omega) _)
 go_enter Tryz.func194,Tryz.ntmps194
 go_upto_region 1 with(fail)
 rw[← bS];clear bS
 go_wp2_with fail
 go_loopw [5] (fun i wr=>∃ (k:Nat) (s:au),k≤4∧i=.int .i64 k∧(∀ j,j<4→s.word j=if j<k then qM (a.word j) (b.word j) else a.word j)∧Whole wr w.heap.size 54 #[.int .u64 s.a,.int .u64 s.b,.int .u64 s.c,.int .u64 s.d]∧Whole wr (w.heap.size+1) 54 #[.int .u64 b.a,.int .u64 b.b,.int .u64 b.c,.int .u64 b.d]∧Whole wr (w.heap.size+2) 54 #[.int .u64 0,.int .u64 0,.int .u64 0,.int .u64 0]∧asW w.heap.size w wr) (fun i _=>4-(intOf i).toNat)
 case atStart=>exact⟨0,a,by omega,rfl,fun j _=>rfl,W7.out,Yc.out,UL.out,ef.out⟩
 case round=>
  clear W7 Yc UL ef;obtain⟨k,s,hk,rfl,Uv,h0,h1,h2,hbw⟩:=hrel;have UK:=as3 Uv;have FN:=as3 h0;have eE:=as3 h1;have nA:=as3 h2;have Ji:=as3 hbw;clear Uv h0 h1 h2 hbw;by_cases hlt:k<4
  ·obtain⟨x,hx⟩:∃ x,x=a.word k:=⟨_,rfl⟩;obtain⟨y,hy⟩:∃ y,y=b.word k:=⟨_,rfl⟩;have hsk:s.word k=x:=by rw[UK.out k hlt,if_neg (Nat.lt_irrefl k),hx]
   have HKA:=as3 (show wr.cell? ⟨w.heap.size,k,none⟩=some (.int .u64 (x:Int)) by rw[← hsk];exact uj FN.out hlt);have HKB:=as3 (show wr.cell? ⟨w.heap.size+1,k,none⟩=some (.int .u64 (y:Int)) by rw[hy];exact uj eE.out hlt);have HAN:=as3 (u64_andNot_nat x y (by rw[hx];exact au.iy HOA.out k) (by rw[hy];exact au.iy HOB.out k))
   have ah8:=as3 (show ∀ j,j<4→(s.put k (x&&&(18446744073709551615-y))).word j=if j<k+1 then qM (a.word j) (b.word j) else a.word j by
    intro j hj;rw[au.FZ s hlt hj];by_cases e:j=k
    ·subst e;rw[if_pos rfl,if_pos (by omega),hx,hy];rfl
    ·rw[if_neg e,UK.out j hj];by_cases e2:j<k
     ·rw[if_pos e2,if_pos (by omega)]
     ·rw[if_neg e2,if_neg (by omega)])
   clear hx hy hsk UK
   go_wp2_with fail
   refine eU (fun w w'=>Below w.heap.size w w') [some 10,some 11,some 12,some 13,some 14,some 15,some 16,some 17,some 18] [bL (.int .i64 (k:Int)),bL (.int .i64 (k:Int)),bL (.pointer (some ⟨w.heap.size,k,none⟩)),bL (.int .u64 (x:Int)),bL (.int .i64 (k:Int)),bL (.pointer (some ⟨w.heap.size+1,k,none⟩)),bL (.int .u64 (y:Int)),bL (.int .u64 ((x&&&(18446744073709551615-y):Nat):Int)),bL (.pointer (some ⟨w.heap.size,k,none⟩))] (fun _ w'=>asW wr.heap.size wr w') 9 (by kernel_rfl) (by kernel_rfl) (by kernel_rfl) rfl (by decide) rfl rfl ((Below.refl _ _).drew) ⟨aj _,aj _,aj _,aj _,aj _,aj _,aj _,aj _,aj _,trivial⟩ ⟨(fun _=>aE _),(fun _=>aE _),(fun _=>aE _),(fun _=>aE _),(fun _=>aE _),(fun _=>aE _),(fun _=>aE _),(fun _=>aE _),(fun _=>aE _),trivial⟩ ⟨?_,?_,?_,?_,?_,?_,?_,?_,?_,?_⟩
   ·intro L a wx Q' hL hi H F hK
    try dsimp only at hi
    have h5:a.tmps[5]?=some (.int .i64 (k:Int)):=F 5 rfl;have HI:=as3 hi;clear H F hi hL
    go_wp2_with fail
    exact hK _ _ (Below.refl _ _) HI.out rfl
   ·intro L a wx Q' hL hi H F hK
    try dsimp only at hi
    have h5:a.tmps[5]?=some (.int .i64 (k:Int)):=F 5 rfl;have HI:=as3 hi;clear H F hi hL
    go_wp2_with fail
    exact hK _ _ (Below.refl _ _) HI.out rfl
   ·intro L a wx Q' hL hi H F hK
    try dsimp only at hi
    obtain⟨_,mH,rfl⟩:=H 1 ⟨.data,by simp,rfl⟩ _ rfl;replace mH:=mH _ rfl;have h2:a.tmps[2]?=some (.pointer (some ⟨w.heap.size,0,none⟩)):=F 2 rfl;have HI:=as3 hi;clear H F hi hL
    go_wp2_with fail
    exact hK _ _ (Below.refl _ _) HI.out rfl
   ·intro L a wx Q' hL hi H F hK
    try dsimp only at hi
    obtain⟨_,h12,rfl⟩:=H 2 ⟨.data,by simp,rfl⟩ _ rfl;replace h12:=h12 _ rfl;have HI:=as3 hi;clear H F hi hL;have kk:wx.cell? ⟨w.heap.size,k,none⟩=some (.int .u64 (x:Int)):=as4 HI.out HKA.out
    go_wp2_with fail
    exact hK _ _ (Below.refl _ _) HI.out rfl
   ·intro L a wx Q' hL hi H F hK
    try dsimp only at hi
    have h5:a.tmps[5]?=some (.int .i64 (k:Int)):=F 5 rfl;have HI:=as3 hi;clear H F hi hL
    go_wp2_with fail
    exact hK _ _ (Below.refl _ _) HI.out rfl
   ·intro L a wx Q' hL hi H F hK
    try dsimp only at hi
    obtain⟨_,Jd,rfl⟩:=H 4 ⟨.data,by simp,rfl⟩ _ rfl;replace Jd:=Jd _ rfl;have h3:a.tmps[3]?=some (.pointer (some ⟨w.heap.size+1,0,none⟩)):=F 3 rfl;have HI:=as3 hi;clear H F hi hL
    go_wp2_with fail
    exact hK _ _ (Below.refl _ _) HI.out rfl
   ·intro L a wx Q' hL hi H F hK
    try dsimp only at hi
    obtain⟨_,CS,rfl⟩:=H 5 ⟨.data,by simp,rfl⟩ _ rfl;replace CS:=CS _ rfl;have HI:=as3 hi;clear H F hi hL;have kk:wx.cell? ⟨w.heap.size+1,k,none⟩=some (.int .u64 (y:Int)):=as4 HI.out HKB.out
    go_wp2_with fail
    exact hK _ _ (Below.refl _ _) HI.out rfl
   ·intro L a wx Q' hL hi H F hK
    try dsimp only at hi
    obtain⟨_,H_,rfl⟩:=H 3 ⟨.data,by simp,rfl⟩ _ rfl;replace H_:=H_ _ rfl;obtain⟨_,CR,rfl⟩:=H 6 ⟨.data,by simp,rfl⟩ _ rfl;replace CR:=CR _ rfl;have HI:=as3 hi;clear H F hi hL
    go_wp2_with fail
    exact hK _ _ (Below.refl _ _) HI.out (congrArg (Value.int IntKind.u64) HAN.out.symm)
   ·intro L a wx Q' hL hi H F hK
    try dsimp only at hi
    obtain⟨_,Je,rfl⟩:=H 0 ⟨.data,by simp,rfl⟩ _ rfl;replace Je:=Je _ rfl;have h2:a.tmps[2]?=some (.pointer (some ⟨w.heap.size,0,none⟩)):=F 2 rfl;have HI:=as3 hi;clear H F hi hL
    go_wp2_with fail
    exact hK _ _ (Below.refl _ _) HI.out rfl
   ·intro a wx hl L hi hL Q' hK
    try dsimp only at hi
    have HB:=as3 hi;clear hi hL;obtain⟨_,rfl,_,rfl,_,rfl,_,rfl,_,rfl,_,rfl,_,rfl,_,rfl,_,rfl,rfl⟩:=hl;simp only[List.setIfInBounds_toArray,List.set_cons_zero,List.set_cons_succ];have HX:=as3 (Whole.under HB.out FN.out FN.out.lt);have HY:=as3 (Whole.under HB.out eE.out eE.out.lt);have HZ:=as3 (Whole.under HB.out nA.out nA.out.lt);have FM:=as3 (Ji.out.trans (HB.out.mono Ji.out.size));clear HB FN eE nA Ji
    go_wp2_with (refine aZ rfl 52 _ _ rfl (w.heap.size) k (.int .u64 ((x&&&(18446744073709551615-y):Nat):Int)) rfl rfl 54 _ HX.out (by simp[Value.cells];omega) DE rfl ?_;intro w2 S2 W2;have yw:=as3 S2;have HW2:=as3 (show Whole w2 w.heap.size 54 #[.int .u64 (s.put k (x&&&(18446744073709551615-y))).a,.int .u64 (s.put k (x&&&(18446744073709551615-y))).b,.int .u64 (s.put k (x&&&(18446744073709551615-y))).c,.int .u64 (s.put k (x&&&(18446744073709551615-y))).d] from by rw[rD s hlt _];exact W2);clear S2 W2)
    go_roundw
    case rel=>exact⟨k+1,s.put k (x&&&(18446744073709551615-y)),by omega,by go_num,ah8.out,HW2.out,yw.out.whole HY.out (by omega),yw.out.whole HZ.out (by omega),FM.out.trans (yw.out.below (by omega))⟩
    case measure=>simp[intOf];omega
  ·obtain rfl:k=4:=by omega
   have HF:=as3 (show s=a.minus b from au.Q6 fun j hj=>by rw[UK.out j hj,if_pos hj,au.zm a b hj])
   go_wp2_with (first|(refine wpList_load_row rfl 54 _ rfl (w.heap.size) rfl 54 _ (0,0) _ FN.out Tryz.underlying54 rfl cF ?_)|(refine aZ rfl 54 _ _ rfl (w.heap.size+2) 0 (.agg #[.int .u64 s.a,.int .u64 s.b,.int .u64 s.c,.int .u64 s.d]) rfl rfl 54 _ nA.out (by simp[Value.cells]) cF rfl ?_;intro w3 Ul LK;rw[cE _ _ (by rfl)] at LK;have LS:=as3 Ul;have HW3:=as3 (show Whole w3 (w.heap.size+2) 54 #[.int .u64 s.a,.int .u64 s.b,.int .u64 s.c,.int .u64 s.d] from LK);clear Ul LK nA))
   have e0:w3.cell? ⟨w.heap.size+2,0,none⟩=some (.int .u64 s.a):=HW3.out.cell 0;have e1:w3.cell? ⟨w.heap.size+2,1,none⟩=some (.int .u64 s.b):=HW3.out.cell 1;have e2:w3.cell? ⟨w.heap.size+2,2,none⟩=some (.int .u64 s.c):=HW3.out.cell 2;have e3:w3.cell? ⟨w.heap.size+2,3,none⟩=some (.int .u64 s.d):=HW3.out.cell 3;refine bodyPost_ret (v:=.agg #[.int .u64 s.a,.int .u64 s.b,.int .u64 s.c,.int .u64 s.d]) ?_ rfl ⟨by rw[HF.out],Ji.out.trans (LS.out.below (by omega))⟩;simp[results,Tryz.results194,go_sem,e0,e1,e2,e3]
def au.within(a b:au):Bool:=decide (a.minus b=au.zero)
def au.unit(s:au):au:=⟨qM s.a 1,s.b,s.c,s.d⟩
theorem au.U2{s:au}(h:s.Ok):s.unit.Ok:=⟨WK h.a _,h.b,h.c,h.d⟩
theorem BA(w:World)(s:au)(hs:s.Ok):Calls Tryz.prog 195 #[.agg #[.int .u64 s.a,.int .u64 s.b,.int .u64 s.c,.int .u64 s.d],.int .i64 0] w fun e w'=>e=.returned (.agg #[.int .u64 s.unit.a,.int .u64 s.unit.b,.int .u64 s.unit.c,.int .u64 s.unit.d])∧asW w.heap.size w w':=by
 have HAN:=as3 (u64_andNot_nat s.a 1 hs.a (by decide));clear hs;obtain⟨wo,bS⟩:∃ wo,wo=(w.alloc (.cells #[.int .u64 s.a,.int .u64 s.b,.int .u64 s.c,.int .u64 s.d] 54)).alloc (.cells #[.int .u64 0,.int .u64 0,.int .u64 0,.int .u64 0] 54):=⟨_,rfl⟩;have W7:=as3 (show Whole wo w.heap.size 54 #[.int .u64 s.a,.int .u64 s.b,.int .u64 s.c,.int .u64 s.d] by rw[bS];exact(Whole.new w 54 _).alloc _);have Yc:=as3 (show Whole wo (w.heap.size+1) 54 #[.int .u64 0,.int .u64 0,.int .u64 0,.int .u64 0] by rw[bS];exact dg w _ _ _);have ef:=as3 (show asW w.heap.size w wo by rw[bS];exact((Below.refl _ w).alloc (Nat.le_refl _) _).alloc (by simp) _);have HK0:=as3 (show wo.cell? ⟨w.heap.size,0,none⟩=some (.int .u64 (s.a:Int)) from W7.out.cell 0)
 go_enter Tryz.func195,Tryz.ntmps195
 go_upto_region 1 with(fail)
 rw[← bS];clear bS
 go_wp2_with fail
 refine eU (fun w w'=>Below w.heap.size w w') [some 11,some 12,some 13,some 14,some 15,some 16,some 17,some 18,some 19,some 20] [bL (.int .i64 0),bL (.int .i64 0),bL (.int .i64 0),bL (.int .i64 0),bL (.pointer (some ⟨w.heap.size,0,none⟩)),bL (.int .u64 (s.a:Int)),bL (.int .i64 0),bL (.int .u64 ((1:Nat):Int)),bL (.int .u64 ((qM s.a 1:Nat):Int)),bL (.pointer (some ⟨w.heap.size,0,none⟩))] (fun _ w'=>asW wo.heap.size wo w') 10 (by kernel_rfl) (by kernel_rfl) (by kernel_rfl) rfl (by decide) rfl rfl ((Below.refl _ _).drew) ⟨aj _,aj _,aj _,aj _,aj _,aj _,aj _,aj _,aj _,aj _,trivial⟩ ⟨(fun _=>aE _),(fun _=>aE _),(fun _=>aE _),(fun _=>aE _),(fun _=>aE _),(fun _=>aE _),(fun _=>aE _),(fun _=>aE _),(fun _=>aE _),(fun _=>aE _),trivial⟩ ⟨?_,?_,?_,?_,?_,?_,?_,?_,?_,?_,?_⟩
 ·intro L a wx Q' hL hi H F hK
  try dsimp only at hi
  have h1:a.tmps[1]?=some (.int .i64 0):=F 1 rfl;have HI:=as3 hi;clear H F hi hL
  go_wp2_with fail
  exact hK _ _ (Below.refl _ _) HI.out rfl
 ·intro L a wx Q' hL hi H F hK
  try dsimp only at hi
  obtain⟨_,mH,rfl⟩:=H 0 ⟨.data,by simp,rfl⟩ _ rfl;replace mH:=mH _ rfl;have HI:=as3 hi;clear H F hi hL
  go_wp2_with fail
  exact hK _ _ (Below.refl _ _) HI.out rfl
 ·intro L a wx Q' hL hi H F hK
  try dsimp only at hi
  have h1:a.tmps[1]?=some (.int .i64 0):=F 1 rfl;have HI:=as3 hi;clear H F hi hL
  go_wp2_with fail
  exact hK _ _ (Below.refl _ _) HI.out rfl
 ·intro L a wx Q' hL hi H F hK
  try dsimp only at hi
  obtain⟨_,H_,rfl⟩:=H 2 ⟨.data,by simp,rfl⟩ _ rfl;replace H_:=H_ _ rfl;have HI:=as3 hi;clear H F hi hL
  go_wp2_with fail
  exact hK _ _ (Below.refl _ _) HI.out rfl
 ·intro L a wx Q' hL hi H F hK
  try dsimp only at hi
  obtain⟨_,Jd,rfl⟩:=H 3 ⟨.data,by simp,rfl⟩ _ rfl;replace Jd:=Jd _ rfl;have h2:a.tmps[2]?=some (.pointer (some ⟨w.heap.size,0,none⟩)):=F 2 rfl;have HI:=as3 hi;clear H F hi hL
  go_wp2_with fail
  exact hK _ _ (Below.refl _ _) HI.out rfl
 ·intro L a wx Q' hL hi H F hK
  try dsimp only at hi
  obtain⟨_,CS,rfl⟩:=H 4 ⟨.data,by simp,rfl⟩ _ rfl;replace CS:=CS _ rfl;have HI:=as3 hi;clear H F hi hL;have kk:wx.cell? ⟨w.heap.size,0,none⟩=some (.int .u64 (s.a:Int)):=as4 HI.out HK0.out
  go_wp2_with fail
  exact hK _ _ (Below.refl _ _) HI.out rfl
 ·intro L a wx Q' hL hi H F hK
  try dsimp only at hi
  have h1:a.tmps[1]?=some (.int .i64 0):=F 1 rfl;have HI:=as3 hi;clear H F hi hL
  go_wp2_with fail
  exact hK _ _ (Below.refl _ _) HI.out rfl
 ·intro L a wx Q' hL hi H F hK
  try dsimp only at hi
  obtain⟨_,QD,rfl⟩:=H 6 ⟨.data,by simp,rfl⟩ _ rfl;replace QD:=QD _ rfl;have HI:=as3 hi;clear H F hi hL
  go_wp2_with (go_at_call 64;go_must (refine(Fm _ 0 (by decide)).mono ?_;rintro e w1 ⟨rfl,rfl⟩))
  exact hK _ _ (Below.refl _ _) HI.out rfl
 ·intro L a wx Q' hL hi H F hK
  try dsimp only at hi
  obtain⟨_,CR,rfl⟩:=H 5 ⟨.data,by simp,rfl⟩ _ rfl;replace CR:=CR _ rfl;obtain⟨_,QC,rfl⟩:=H 7 ⟨.data,by simp,rfl⟩ _ rfl;replace QC:=QC _ rfl;have HI:=as3 hi;clear H F hi hL
  go_wp2_with fail
  exact hK _ _ (Below.refl _ _) HI.out (congrArg (Value.int IntKind.u64) HAN.out.symm)
 ·intro L a wx Q' hL hi H F hK
  try dsimp only at hi
  obtain⟨_,h12,rfl⟩:=H 1 ⟨.data,by simp,rfl⟩ _ rfl;replace h12:=h12 _ rfl;have h2:a.tmps[2]?=some (.pointer (some ⟨w.heap.size,0,none⟩)):=F 2 rfl;have HI:=as3 hi;clear H F hi hL
  go_wp2_with fail
  exact hK _ _ (Below.refl _ _) HI.out rfl
 ·intro a wx hl L hi hL Q' hK
  try dsimp only at hi
  have HB:=as3 hi;clear hi hL;obtain⟨_,rfl,_,rfl,_,rfl,_,rfl,_,rfl,_,rfl,_,rfl,_,rfl,_,rfl,_,rfl,rfl⟩:=hl;simp only[List.setIfInBounds_toArray,List.set_cons_zero,List.set_cons_succ];have HX:=as3 (Whole.under HB.out W7.out W7.out.lt);have HY:=as3 (Whole.under HB.out Yc.out Yc.out.lt);have FM:=as3 (ef.out.trans (HB.out.mono ef.out.size));clear HB W7 Yc ef
  go_wp2_with (first|(refine aZ rfl 52 _ _ rfl (w.heap.size) 0 (.int .u64 ((qM s.a 1:Nat):Int)) rfl rfl 54 _ HX.out (by simp[Value.cells]) DE rfl ?_;intro w2 S2 W2;have yw:=as3 S2;have HW2:=as3 (show Whole w2 w.heap.size 54 #[.int .u64 s.unit.a,.int .u64 s.unit.b,.int .u64 s.unit.c,.int .u64 s.unit.d] from W2);clear S2 W2 HX)|(refine wpList_load_row rfl 54 _ rfl (w.heap.size) rfl 54 _ (0,0) _ HW2.out Tryz.underlying54 rfl cF ?_)|(have HZ:=as3 (yw.out.whole HY.out (by omega));refine aZ rfl 54 _ _ rfl (w.heap.size+1) 0 (.agg #[.int .u64 s.unit.a,.int .u64 s.unit.b,.int .u64 s.unit.c,.int .u64 s.unit.d]) rfl rfl 54 _ HZ.out (by simp[Value.cells]) cF rfl ?_;intro w3 Ul LK;rw[cE _ _ (by rfl)] at LK;have LS:=as3 Ul;have HW3:=as3 (show Whole w3 (w.heap.size+1) 54 #[.int .u64 s.unit.a,.int .u64 s.unit.b,.int .u64 s.unit.c,.int .u64 s.unit.d] from LK);clear Ul LK HZ))
  have e0:w3.cell? ⟨w.heap.size+1,0,none⟩=some (.int .u64 s.unit.a):=HW3.out.cell 0;have e1:w3.cell? ⟨w.heap.size+1,1,none⟩=some (.int .u64 s.unit.b):=HW3.out.cell 1;have e2:w3.cell? ⟨w.heap.size+1,2,none⟩=some (.int .u64 s.unit.c):=HW3.out.cell 2;have e3:w3.cell? ⟨w.heap.size+1,3,none⟩=some (.int .u64 s.unit.d):=HW3.out.cell 3;refine bodyPost_ret (v:=.agg #[.int .u64 s.unit.a,.int .u64 s.unit.b,.int .u64 s.unit.c,.int .u64 s.unit.d]) ?_ rfl ⟨rfl,(FM.out.trans (yw.out.below (Nat.le_refl _))).trans (LS.out.below (by omega))⟩;simp[results,Tryz.results195,go_sem,e0,e1,e2,e3]
theorem kJ(t:au)(W:World):(Op.equalIn 10000 54 (.agg #[.int .u64 t.a,.int .u64 t.b,.int .u64 t.c,.int .u64 t.d]) (.agg #[.int .u64 0,.int .u64 0,.int .u64 0,.int .u64 0])).run Tryz.prog W=.ok (decide (t=au.zero)) W:=by
 rw[Z7];congr 1;obtain⟨a,b,c,d⟩:=t;simp[au.zero]
theorem pE(w:World)(a b:au)(ha:a.Ok)(hb:b.Ok):Calls Tryz.prog 105 #[.agg #[.int .u64 a.a,.int .u64 a.b,.int .u64 a.c,.int .u64 a.d],.agg #[.int .u64 b.a,.int .u64 b.b,.int .u64 b.c,.int .u64 b.d]] w fun e w'=>e=.returned (.bool (a.within b))∧asW w.heap.size w w':=by
 have HOA:=as3 ha;have HOB:=as3 hb;obtain⟨t,ht⟩:∃ t,t=a.minus b:=⟨_,rfl⟩;have HT:=as3 ht;unfold au.within;rw[← ht];have hq:∀ W,(Op.equalIn 10000 54 (.agg #[.int .u64 t.a,.int .u64 t.b,.int .u64 t.c,.int .u64 t.d]) (.agg #[.int .u64 0,.int .u64 0,.int .u64 0,.int .u64 0])).run Tryz.prog W=.ok (decide (t=au.zero)) W:=kJ t;obtain⟨q,hqq⟩:∃ q,q=decide (t=au.zero):=⟨_,rfl⟩;rw[← hqq];rw[← hqq] at hq;clear ha hb ht hqq;obtain⟨wo,bS⟩:∃ wo,wo=(w.alloc (.cells #[.int .u64 a.a,.int .u64 a.b,.int .u64 a.c,.int .u64 a.d] 54)).alloc (.cells #[.int .u64 b.a,.int .u64 b.b,.int .u64 b.c,.int .u64 b.d] 54):=⟨_,rfl⟩;have W7:=as3 (show Whole wo w.heap.size 54 #[.int .u64 a.a,.int .u64 a.b,.int .u64 a.c,.int .u64 a.d] by rw[bS];exact(Whole.new w 54 _).alloc _);have Yc:=as3 (show Whole wo (w.heap.size+1) 54 #[.int .u64 b.a,.int .u64 b.b,.int .u64 b.c,.int .u64 b.d] by rw[bS];exact dg w _ _ _);have ef:=as3 (show asW w.heap.size w wo by rw[bS];exact((Below.refl _ w).alloc (Nat.le_refl _) _).alloc (by simp) _)
 go_enter Tryz.func105,Tryz.ntmps105
 go_upto_region 1 with(fail)
 rw[← bS];clear bS
 go_wp2_with (first|(refine wpList_load_row rfl 54 _ rfl (w.heap.size) rfl 54 _ (0,0) _ W7.out Tryz.underlying54 rfl cF ?_)|(refine wpList_load_row rfl 54 _ rfl (w.heap.size+1) rfl 54 _ (0,0) _ Yc.out Tryz.underlying54 rfl cF ?_)|(go_at_call 194;go_must (refine(Kc wo a b HOA.out HOB.out).mono ?_;rintro e w1 ⟨rfl,hb1⟩;rw[← HT.out];have eE:=as3 hb1;clear hb1)))
 go_ret
 exact⟨rfl,ef.out.trans (eE.out.mono ef.out.size)⟩
theorem aC.size{α:Type}{k:Nat}{R:List Value→α→Prop}{w:World}{v:Value}{l:List α}(h:aC k R w v l)(hk:0<k):∃ a c,v=.slice a l.length c∧l.length≤c∧l.length≤9223372036854775807:=by
 obtain⟨a,c,h1,h2,h3,-⟩:=h.form hk;exact⟨a,c,h1,h2,h3⟩
theorem fB{w:World}{v:Value}{k n:Nat}{cs:List Value}(h:SliceAt w v k n cs)(hk:0<k):∃ a c,v=.slice a n c∧n≤c∧n≤9223372036854775807:=by
 obtain⟨a,c,h1,h2,h3,-⟩:=h.form hk;exact⟨a,c,h1,h2,h3⟩
theorem aL.f0{w:World}{c0 c1 c2 c3 c4 c5 c6 c7 c8 c9 aW aP aO aU aT aS aR:Value}{p:aG}(h:aL w c0 c1 c2 c3 c4 c5 c6 c7 c8 c9 aW aP aO aU aT aS aR p):∃ a c,c0=.slice a p.classes.length c∧p.classes.length≤c∧p.classes.length≤9223372036854775807:=aC.size h.classes (by decide)
theorem aL.f1{w:World}{c0 c1 c2 c3 c4 c5 c6 c7 c8 c9 aW aP aO aU aT aS aR:Value}{p:aG}(h:aL w c0 c1 c2 c3 c4 c5 c6 c7 c8 c9 aW aP aO aU aT aS aR p):∃ a c,c1=.slice a p.types.length c∧p.types.length≤c∧p.types.length≤9223372036854775807:=aC.size h.types (by decide)
theorem aL.f2{w:World}{c0 c1 c2 c3 c4 c5 c6 c7 c8 c9 aW aP aO aU aT aS aR:Value}{p:aG}(h:aL w c0 c1 c2 c3 c4 c5 c6 c7 c8 c9 aW aP aO aU aT aS aR p):∃ a c,c2=.slice a p.attrs.length c∧p.attrs.length≤c∧p.attrs.length≤9223372036854775807:=fB h.attrs (by decide)
theorem aL.f3{w:World}{c0 c1 c2 c3 c4 c5 c6 c7 c8 c9 aW aP aO aU aT aS aR:Value}{p:aG}(h:aL w c0 c1 c2 c3 c4 c5 c6 c7 c8 c9 aW aP aO aU aT aS aR p):∃ a c,c3=.slice a p.roles.length c∧p.roles.length≤c∧p.roles.length≤9223372036854775807:=fB h.roles (by decide)
theorem aL.f4{w:World}{c0 c1 c2 c3 c4 c5 c6 c7 c8 c9 aW aP aO aU aT aS aR:Value}{p:aG}(h:aL w c0 c1 c2 c3 c4 c5 c6 c7 c8 c9 aW aP aO aU aT aS aR p):∃ a c,c4=.slice a p.users.length c∧p.users.length≤c∧p.users.length≤9223372036854775807:=fB h.users (by decide)
theorem aL.f5{w:World}{c0 c1 c2 c3 c4 c5 c6 c7 c8 c9 aW aP aO aU aT aS aR:Value}{p:aG}(h:aL w c0 c1 c2 c3 c4 c5 c6 c7 c8 c9 aW aP aO aU aT aS aR p):∃ a c,c5=.slice a p.bools.length c∧p.bools.length≤c∧p.bools.length≤9223372036854775807:=fB h.bools (by decide)
theorem aL.f6{w:World}{c0 c1 c2 c3 c4 c5 c6 c7 c8 c9 aW aP aO aU aT aS aR:Value}{p:aG}(h:aL w c0 c1 c2 c3 c4 c5 c6 c7 c8 c9 aW aP aO aU aT aS aR p):∃ a c,c6=.slice a p.aV.length c∧p.aV.length≤c∧p.aV.length≤9223372036854775807:=fB h.aV (by decide)
theorem aL.f7{w:World}{c0 c1 c2 c3 c4 c5 c6 c7 c8 c9 aW aP aO aU aT aS aR:Value}{p:aG}(h:aL w c0 c1 c2 c3 c4 c5 c6 c7 c8 c9 aW aP aO aU aT aS aR p):∃ a c,c7=.slice a p.cats.length c∧p.cats.length≤c∧p.cats.length≤9223372036854775807:=fB h.cats (by decide)
theorem aL.f8{w:World}{c0 c1 c2 c3 c4 c5 c6 c7 c8 c9 aW aP aO aU aT aS aR:Value}{p:aG}(h:aL w c0 c1 c2 c3 c4 c5 c6 c7 c8 c9 aW aP aO aU aT aS aR p):∃ a c,c8=.slice a p.conds.length c∧p.conds.length≤c∧p.conds.length≤9223372036854775807:=aC.size h.conds (by decide)
theorem aL.f9{w:World}{c0 c1 c2 c3 c4 c5 c6 c7 c8 c9 aW aP aO aU aT aS aR:Value}{p:aG}(h:aL w c0 c1 c2 c3 c4 c5 c6 c7 c8 c9 aW aP aO aU aT aS aR p):∃ a c,c9=.slice a p.rules.length c∧p.rules.length≤c∧p.rules.length≤9223372036854775807:=fB h.rules (by decide)
theorem aL.f11{w:World}{c0 c1 c2 c3 c4 c5 c6 c7 c8 c9 aW aP aO aU aT aS aR:Value}{p:aG}(h:aL w c0 c1 c2 c3 c4 c5 c6 c7 c8 c9 aW aP aO aU aT aS aR p):∃ a c,aP=.slice a p.aQ.length c∧p.aQ.length≤c∧p.aQ.length≤9223372036854775807:=fB h.aQ (by decide)
theorem aL.f12{w:World}{c0 c1 c2 c3 c4 c5 c6 c7 c8 c9 aW aP aO aU aT aS aR:Value}{p:aG}(h:aL w c0 c1 c2 c3 c4 c5 c6 c7 c8 c9 aW aP aO aU aT aS aR p):∃ a c,aO=.slice a p.ranges.length c∧p.ranges.length≤c∧p.ranges.length≤9223372036854775807:=fB h.ranges (by decide)
def bn(i n:Int):Bool:=decide (0≤i)&&decide (i<n)
theorem cC(w:World)(i n:Int):Calls Tryz.prog 113 #[.int .i64 i,.int .i64 n] w fun e w'=>e=.returned (.bool (bn i n))∧w=w':=by
 unfold bn
 cases h:decide (0≤i) with
 | false=>
  go_enter Tryz.func113,Tryz.ntmps113
  go_wp2
  go_ret
  exact⟨rfl,rfl⟩
 | true=>
  go_enter Tryz.func113,Tryz.ntmps113
  go_wp2
  go_ret
  exact⟨rfl,rfl⟩
def vZ(a b:qO):Bool:=decide (b.aV≤a.aV)&&decide (qM b.cats a.cats=0)
theorem tZ(w:World)(a b:qO)(ha:a.Ok)(hb:b.Ok):Calls Tryz.prog 109 #[.agg #[.int .i64 a.aV,.int .u64 a.cats],.agg #[.int .i64 b.aV,.int .u64 b.cats]] w fun e w'=>e=.returned (.bool (vZ a b))∧asW w.heap.size w w':=by
 have hd:(bits .andNot .u64 (b.cats:Int) (a.cats:Int) == 0)=decide (qM b.cats a.cats=0):=by
  rw[u64_andNot_nat b.cats a.cats hb.cats ha.cats];show(((qM b.cats a.cats:Nat):Int) == 0)=_;rw[Bool.eq_iff_iff];simp
 have HD:=as3 hd;clear hd ha hb;obtain⟨wo,bS⟩:∃ wo,wo=((w).alloc (.cells #[.int .i64 a.aV,.int .u64 a.cats] 70)).alloc (.cells #[.int .i64 b.aV,.int .u64 b.cats] 70):=⟨_,rfl⟩;have W0:=as3 (show Whole wo w.heap.size 70 #[.int .i64 a.aV,.int .u64 a.cats] by rw[bS];exact((show Whole _ w.heap.size 70 #[.int .i64 a.aV,.int .u64 a.cats] from Whole.new w 70 _).alloc _));have W1:=as3 (show Whole wo (w.heap.size+1) 70 #[.int .i64 b.aV,.int .u64 b.cats] by rw[bS];exact(dg w _ _ _));have ef:=as3 (show asW w.heap.size w wo by rw[bS];exact(((Below.refl _ w).alloc (Nat.le_refl _) _).alloc (by simp) _));have ka0:wo.cell? ⟨w.heap.size,0,none⟩=some (.int .i64 a.aV):=W0.out.cell 0;have VR:wo.cell? ⟨w.heap.size,1,none⟩=some (.int .u64 a.cats):=W0.out.cell 1;have kb0:wo.cell? ⟨w.heap.size+1,0,none⟩=some (.int .i64 b.aV):=W1.out.cell 0;have kb1:wo.cell? ⟨w.heap.size+1,1,none⟩=some (.int .u64 b.cats):=W1.out.cell 1;unfold vZ;by_cases h:b.aV≤a.aV
 ·have h1:decide (b.aV≤a.aV)=true:=by simp[h]
  rw[h1]
  go_enter Tryz.func109,Tryz.ntmps109
  go_upto_region 1 with(fail)
  rw[← bS];clear bS
  go_wp2
  go_ret
  exact⟨ay (by rw[← HD.out];rfl),ef.out⟩
 ·have h1:decide (b.aV≤a.aV)=false:=by simp[h]
  rw[h1]
  go_enter Tryz.func109,Tryz.ntmps109
  go_upto_region 1 with(fail)
  rw[← bS];clear bS
  go_wp2
  go_ret
  exact⟨rfl,ef.out⟩
def uf(n:Nat)(k:Int):Bool:=decide (-(n:Int)≤k)&&decide (k≤(n:Int))
theorem Ix(w:World)(c0 c1 c2 c3 c4 c5 c6 c7 c8 c9 aW aP aO aU aT aS aR:Value)(p:aG)(hp:aL w c0 c1 c2 c3 c4 c5 c6 c7 c8 c9 aW aP aO aU aT aS aR p)(k:Int):Calls Tryz.prog 112 #[.agg #[c0,c1,c2,c3,c4,c5,c6,c7,c8,c9,aW,aP,aO,aU,aT,aS,aR],.int .i64 k] w fun e w'=>e=.returned (.bool (uf p.conds.length k))∧asW w.heap.size w w':=by
 obtain⟨a8,k8,rfl,hk8,hm8⟩:=aL.f8 hp;obtain⟨n8,Zp⟩:∃ n,n=p.conds.length:=⟨_,rfl⟩;have N8:=as3 Zp;rw[← Zp] at hk8 hm8 ⊢;clear Zp;obtain⟨wo,bS⟩:∃ wo,wo=(w).alloc (.cells #[c0,c1,c2,c3,c4,c5,c6,c7,.slice a8 n8 k8,c9,aW,aP,aO,aU,aT,aS,aR] 39):=⟨_,rfl⟩;have W0:=as3 (show Whole wo w.heap.size 39 #[c0,c1,c2,c3,c4,c5,c6,c7,.slice a8 n8 k8,c9,aW,aP,aO,aU,aT,aS,aR] by rw[bS];exact(Whole.new w 39 _));have ef:=as3 (show asW w.heap.size w wo by rw[bS];exact((Below.refl _ w).alloc (Nat.le_refl _) _));have kp8:wo.cell? ⟨w.heap.size,8,none⟩=some (.slice a8 n8 k8):=W0.out.cell 8;clear hp;unfold uf;by_cases h:-(n8:Int)≤k
 ·have h1:decide (-(n8:Int)≤k)=true:=by simp[h]
  rw[h1]
  go_enter Tryz.func112,Tryz.ntmps112
  go_upto_region 1 with(fail)
  rw[← bS];clear bS
  go_wp2
  go_ret
  exact⟨ay (by simp),ef.out⟩
 ·have h1:decide (-(n8:Int)≤k)=false:=by simp[h]
  rw[h1]
  go_enter Tryz.func112,Tryz.ntmps112
  go_upto_region 1 with(fail)
  rw[← bS];clear bS
  go_wp2
  go_ret
  exact⟨ay (by simp),ef.out⟩
def dQ(s:ByteArray)(i:Nat):Nat:=if h:i<s.size then (s[i]'h).toNat else 0
theorem nu{s:ByteArray}{i:Nat}(h:i<s.size):(s[i]'h).toNat=dQ s i:=by unfold dQ;rw[dif_pos h]
theorem nr(s:ByteArray)(i:Nat):dQ s i<256:=by
 unfold dQ;split
 ·exact UInt8.toNat_lt _
 ·decide
def AY(s:ByteArray)(i:Nat):Bool:=decide ((dQ s i:Int)<32)||decide ((126:Int)<dQ s i)||decide ((dQ s i:Int)=34)
def nH(s:ByteArray):Bool:=!(fA (AY s) s.size 0)&&decide ((s.size:Int)≤256)
theorem Kj(w:World)(s:ByteArray)(hs:dX s):Calls Tryz.prog 200 #[.string s] w fun e w'=>e=.returned (.bool (nH s))∧w=w':=by
 have hs':s.size≤140737488355328:=hs;obtain⟨n,hn⟩:∃ n,n=s.size:=⟨_,rfl⟩;have HN:=as3 hn;have hnb:n≤140737488355328:=by rw[hn];exact hs'
 unfold nH;clear hs hs'
 go_enter Tryz.func200,Tryz.ntmps200
 go_wp2_with fail
 go_loopw [3] (fun i wr=>wr=w∧∃ k:Nat,k≤n∧i=.int .i64 k∧Hid (fA (AY s) s.size 0=fA (AY s) (n-k) k)) (fun i _=>n-(intOf i).toNat)
 case atStart=>exact⟨rfl,0,asL _,rfl,as3 (by rw[hn,Nat.sub_zero])⟩
 case round=>
  obtain⟨rfl,k,hk,rfl,hinv⟩:=hrel;by_cases hlt:k<n
  ·have hks:k<s.size:=by rw[← hn];exact hlt
   obtain⟨x,hx⟩:∃ x,x=dQ s k:=⟨_,rfl⟩;have hsx:(s[k]'hks).toNat=x:=by rw[nu hks,hx]
   have SA:x<256:=by rw[hx];exact nr s k
   have hlt2:0≤(k:Int)∧(k:Int)<s.size:=by omega
   have HX:=as3 hx;clear hx;by_cases h1:(x:Int)<32
   ·have HB:=as3 (show AY s k=true by unfold AY;rw[← HX.out];simp[h1]);have hd1:decide ((x:Int)<32)=true:=by simp[h1]
    go_wp2_with fail
    go_ret
    exact⟨ay (by rw[hinv.out,eH hlt HB.out];rfl),rfl⟩
   ·by_cases h2:(126:Int)<x
    ·have HB:=as3 (show AY s k=true by unfold AY;rw[← HX.out];simp[h2]);have hd1:decide ((x:Int)<32)=false:=by simp;omega
     go_wp2_with fail
     go_ret
     exact⟨ay (by rw[hinv.out,eH hlt HB.out];rfl),rfl⟩
    ·by_cases h3:(x:Int)=34
     ·have HB:=as3 (show AY s k=true by unfold AY;rw[← HX.out];simp[h3])
      go_wp2_with fail
      go_ret
      exact⟨ay (by rw[hinv.out,eH hlt HB.out];rfl),rfl⟩
     ·have HB:=as3 (show AY s k=false by unfold AY;rw[← HX.out];simp[h1,h2,h3])
      go_wp2_with fail
      go_roundw
      case rel=>exact⟨by first|trivial|rfl,k+1,by omega,by go_num,as3 (hinv.out.trans (jK hlt HB.out))⟩
      case measure=>simp[intOf];omega
  ·obtain rfl:k=n:=by omega
   go_wp2_with fail
   go_ret
   exact⟨ay (by rw[hinv.out,iH];rfl),rfl⟩
def jE(x:Nat):Bool:=(decide ((65:Int)≤x)&&decide ((x:Int)≤90))||(decide ((97:Int)≤x)&&decide ((x:Int)≤122))||decide ((x:Int)=95)
def mI(x:Nat):Bool:=decide ((48:Int)≤x)&&decide ((x:Int)≤57)
theorem nM(w:World)(x:Nat):Calls Tryz.prog 248 #[.int .u8 (x:Int)] w fun e w'=>e=.returned (.bool (jE x))∧w=w':=by
 unfold jE;by_cases t0:(65:Int)≤x
 ·have d0:decide ((65:Int)≤x)=true:=by simp;omega
  by_cases t1:(x:Int)≤90
  ·have d1:decide ((x:Int)≤90)=true:=by simp;omega
   have d2:decide ((97:Int)≤x)=false:=by simp;omega
   have d3:decide ((x:Int)≤122)=true:=by simp;omega
   go_enter Tryz.func248,Tryz.ntmps248
   go_wp2
   go_ret
   exact⟨ay (by first|rfl|(simp<;>omega)|(simp[*];done)|(simp;omega)),rfl⟩
  ·have d1:decide ((x:Int)≤90)=false:=by simp;omega
   by_cases t2:(97:Int)≤x
   ·have d2:decide ((97:Int)≤x)=true:=by simp;omega
    by_cases t3:(x:Int)≤122
    ·have d3:decide ((x:Int)≤122)=true:=by simp;omega
     go_enter Tryz.func248,Tryz.ntmps248
     go_wp2
     go_ret
     exact⟨ay (by first|rfl|(simp<;>omega)|(simp[*];done)|(simp;omega)),rfl⟩
    ·have d3:decide ((x:Int)≤122)=false:=by simp;omega
     go_enter Tryz.func248,Tryz.ntmps248
     go_wp2
     go_ret
     exact⟨ay (by first|rfl|(simp<;>omega)|(simp[*];done)|(simp;omega)),rfl⟩
   ·have d2:decide ((97:Int)≤x)=false:=by simp;omega
    have d3:decide ((x:Int)≤122)=true:=by simp;omega
    go_enter Tryz.func248,Tryz.ntmps248
    go_wp2
    go_ret
    exact⟨ay (by first|rfl|(simp<;>omega)|(simp[*];done)|(simp;omega)),rfl⟩
 ·have d0:decide ((65:Int)≤x)=false:=by simp;omega
  have d1:decide ((x:Int)≤90)=true:=by simp;omega
  have d2:decide ((97:Int)≤x)=false:=by simp;omega
  have d3:decide ((x:Int)≤122)=true:=by simp;omega
  go_enter Tryz.func248,Tryz.ntmps248
  go_wp2
  go_ret
  exact⟨ay (by first|rfl|(simp<;>omega)|(simp[*];done)|(simp;omega)),rfl⟩
theorem CY(w:World)(x:Nat):Calls Tryz.prog 249 #[.int .u8 (x:Int)] w fun e w'=>e=.returned (.bool (mI x))∧w=w':=by
 unfold mI;by_cases t0:(48:Int)≤x
 ·have d0:decide ((48:Int)≤x)=true:=by simp;omega
  go_enter Tryz.func249,Tryz.ntmps249
  go_wp2
  go_ret
  exact⟨ay (by first|rfl|(simp<;>omega)|(simp[*];done)|(simp;omega)),rfl⟩
 ·have d0:decide ((48:Int)≤x)=false:=by simp;omega
  go_enter Tryz.func249,Tryz.ntmps249
  go_wp2
  go_ret
  exact⟨ay (by first|rfl|(simp<;>omega)|(simp[*];done)|(simp;omega)),rfl⟩
def jB(s ws:ByteArray):Nat→Nat→Nat→Bool
 | 0,_,_=>false
 | k+1,fr,i=>if dQ ws i=32 then (if (ws.extract fr i).toList=s.toList∧s.toList.isEmpty=false then true else jB s ws k (i+1) (i+1)) else jB s ws k fr (i+1)
def Dm(s ws:ByteArray):Bool:=jB s ws ws.size 0 0
theorem Dn{s ws:ByteArray}{n fr i:Nat}(h:i<n)(hb:dQ ws i≠32):jB s ws (n-i) fr i=jB s ws (n-(i+1)) fr (i+1):=by
 obtain⟨k,hk⟩:∃ k,n-i=k+1:=⟨n-i-1,by omega⟩;rw[hk,show n-(i+1)=k by omega];exact if_neg hb
theorem F4{s ws:ByteArray}{n fr i:Nat}(h:i<n)(hb:dQ ws i=32)(h1:(ws.extract fr i).toList=s.toList)(h2:s.toList.isEmpty=false):jB s ws (n-i) fr i=true:=by
 obtain⟨k,hk⟩:∃ k,n-i=k+1:=⟨n-i-1,by omega⟩;rw[hk];exact(if_pos hb).trans (if_pos ⟨h1,h2⟩)
theorem sH{s ws:ByteArray}{n fr i:Nat}(h:i<n)(hb:dQ ws i=32)(h1:¬ ((ws.extract fr i).toList=s.toList∧s.toList.isEmpty=false)):jB s ws (n-i) fr i=jB s ws (n-(i+1)) (i+1) (i+1):=by
 obtain⟨k,hk⟩:∃ k,n-i=k+1:=⟨n-i-1,by omega⟩;rw[hk,show n-(i+1)=k by omega];exact(if_pos hb).trans (if_neg h1)
theorem F3(w:World)(s ws:ByteArray)(hs:dX ws):Calls Tryz.prog 201 #[.string s,.string ws] w fun e w'=>e=.returned (.bool (Dm s ws))∧w=w':=by
 have hs':ws.size≤140737488355328:=hs;obtain⟨n,hn⟩:∃ n,n=ws.size:=⟨_,rfl⟩;have HN:=as3 hn;have hnb:n≤140737488355328:=by rw[hn];exact hs'
 unfold Dm;clear hs hs'
 go_enter Tryz.func201,Tryz.ntmps201
 go_wp2_with fail
 go_loopw [5,6] (fun f i wr=>wr=w∧∃ fr k:Nat,fr≤k∧k≤n∧f=.int .i64 fr∧i=.int .i64 k∧Hid (jB s ws ws.size 0 0=jB s ws (n-k) fr k)) (fun _ i _=>n-(intOf i).toNat)
 case atStart=>exact⟨rfl,0,0,Nat.le_refl _,asL _,rfl,rfl,as3 (by rw[hn,Nat.sub_zero])⟩
 case round=>
  obtain⟨rfl,fr,k,hfr,hk,rfl,rfl,hinv⟩:=hrel;by_cases hlt:k<n
  ·have hks:k<ws.size:=by rw[← hn];exact hlt
   obtain⟨x,hx⟩:∃ x,x=dQ ws k:=⟨_,rfl⟩;have hsx:(ws[k]'hks).toNat=x:=by rw[nu hks,hx]
   have SA:x<256:=by rw[hx];exact nr ws k
   have hlt2:0≤(k:Int)∧(k:Int)<ws.size:=by omega
   have HX:=as3 hx;clear hx;by_cases h32:x=32
   ·subst h32;have Qf:=as3 HX.out.symm;have hlt3:0≤(k:Int)∧(k:Int)≤ws.size:=by omega
    have anq:0≤(fr:Int)∧(fr:Int)≤k:=by omega
    by_cases h1:(ws.extract fr k).toList=s.toList
    ·by_cases h2:s.toList.isEmpty=true
     ·have HM:=as3 (sH (fr:=fr) hlt Qf.out (fun h=>by rw[h2] at h;cases h.2));clear HX Qf
      go_wp2_with fail
      go_roundw
      case rel=>exact⟨by first|trivial|rfl,k+1,k+1,Nat.le_refl _,by omega,by go_num,by go_num,as3 (hinv.out.trans HM.out)⟩
      case measure=>simp[intOf];omega
     ·have HM:=as3 (F4 (fr:=fr) hlt Qf.out h1 (Bool.eq_false_iff.2 h2));have h2':s.toList.isEmpty=false:=Bool.eq_false_iff.2 h2;clear h2;clear HX Qf
      go_wp2_with fail
      go_ret
      exact⟨ay (by rw[hinv.out,HM.out]),rfl⟩
    ·have HM:=as3 (sH (fr:=fr) hlt Qf.out (fun h=>h1 h.1));clear HX Qf
     go_wp2_with fail
     go_roundw
     case rel=>exact⟨by first|trivial|rfl,k+1,k+1,Nat.le_refl _,by omega,by go_num,by go_num,as3 (hinv.out.trans HM.out)⟩
     case measure=>simp[intOf];omega
   ·have HM:=as3 (Dn (s:=s) (fr:=fr) hlt (by rw[← HX.out];exact h32));clear HX
    go_wp2_with fail
    go_roundw
    case rel=>exact⟨by first|trivial|rfl,fr,k+1,by omega,by omega,rfl,by go_num,as3 (hinv.out.trans HM.out)⟩
    case measure=>simp[intOf];omega
  ·obtain rfl:k=n:=by omega
   go_wp2_with fail
   go_ret
   exact⟨ay (by rw[hinv.out,Nat.sub_self];rfl),rfl⟩
def kwB:ByteArray:=⟨#[109,111,100,117,108,101,32,99,108,97,115,115,32,116,121,112,101,32,97,108,105,97,115,32,116,121,112,101,97,116,116,114,105,98,117,116,101,32,97,116,116,114,105,98,117,116,101,32,114,111,108,101,32,116,121,112,101,115,32,114,111,108,101,97,108,108,111,119,32,114,111,108,101,95,116,114,97,110,115,105,116,105,111,110,32,117,115,101,114,32,114,111,108,101,115,32,108,101,118,101,108,32,114,97,110,103,101,32,98,111,111,108,32,116,114,117,101,32,102,97,108,115,101,32,115,101,110,115,105,116,105,118,105,116,121,32,99,97,116,101,103,111,114,121,32,97,108,108,111,119,32,97,117,100,105,116,97,108,108,111,119,32,100,111,110,116,97,117,100,105,116,32,110,101,118,101,114,97,108,108,111,119,32,116,121,112,101,95,116,114,97,110,115,105,116,105,111,110,32,116,121,112,101,95,99,104,97,110,103,101,32,116,121,112,101,95,109,101,109,98,101,114,32,114,97,110,103,101,95,116,114,97,110,115,105,116,105,111,110,32,99,111,110,115,116,114,97,105,110,32,118,97,108,105,100,97,116,101,116,114,97,110,115,32,105,102,32,101,108,115,101,32,111,112,116,105,111,110,97,108,32,114,101,113,117,105,114,101,32,115,105,100,32,102,105,108,101,99,111,110,32,112,101,114,109,105,115,115,105,118,101,32,97,115,115,101,114,116,32,115,101,108,102,32,105,110,32]⟩
theorem Y6:dX kwB:=by
 show kwB.size≤140737488355328;have:kwB.size=327:=by kernel_rfl
 omega
def jQ(s:ByteArray):Bool:=Dm s kwB
theorem wZ(w:World)(s:ByteArray):Calls Tryz.prog 278 #[.string s] w fun e w'=>e=.returned (.bool (jQ s))∧w=w':=by
 obtain⟨q,hq⟩:∃ q,q=jQ s:=⟨_,rfl⟩;have HQ:=as3 hq;rw[← hq];clear hq
 go_enter Tryz.func278,Tryz.ntmps278
 go_wp2_with (go_at_call 201;go_must (refine(show Calls Tryz.prog 201 _ _ (fun e w'=>e=.returned (.bool q)∧w=w') from by rw[HQ.out];exact F3 w s kwB Y6).mono ?_;rintro e w' ⟨rfl,rfl⟩))
 go_ret
 exact⟨rfl,rfl⟩
def rX(s:ByteArray)(i:Nat):Bool:=!jE (dQ s i)&&(decide (i=0)||!mI (dQ s i))
def wW(s:ByteArray):Bool:=!(fA (rX s) s.size 0)&&(decide ((1:Int)≤(s.size:Int))&&decide ((s.size:Int)≤32))
theorem zW(w:World)(s:ByteArray)(hs:dX s):Calls Tryz.prog 198 #[.string s] w fun e w'=>e=.returned (.bool (wW s))∧w=w':=by
 have hs':s.size≤140737488355328:=hs;obtain⟨n,hn⟩:∃ n,n=s.size:=⟨_,rfl⟩;have HN:=as3 hn;have hnb:n≤140737488355328:=by rw[hn];exact hs'
 unfold wW;clear hs hs'
 go_enter Tryz.func198,Tryz.ntmps198
 go_wp2_with fail
 go_loopw [3] (fun i wr=>wr=w∧∃ k:Nat,k≤n∧i=.int .i64 k∧Hid (fA (rX s) s.size 0=fA (rX s) (n-k) k)) (fun i _=>n-(intOf i).toNat)
 case atStart=>exact⟨rfl,0,asL _,rfl,as3 (by rw[hn,Nat.sub_zero])⟩
 case round=>
  obtain⟨rfl,k,hk,rfl,hinv⟩:=hrel;by_cases hlt:k<n
  ·have hks:k<s.size:=by rw[← hn];exact hlt
   obtain⟨x,hx⟩:∃ x,x=dQ s k:=⟨_,rfl⟩;have hsx:(s[k]'hks).toNat=x:=by rw[nu hks,hx]
   have SA:x<256:=by rw[hx];exact nr s k
   have hlt2:0≤(k:Int)∧(k:Int)<s.size:=by omega
   have HX:=as3 hx;clear hx
   cases hl:jE x with
   | true=>
    have HB:=as3 (show rX s k=false by unfold rX;rw[← HX.out,hl];rfl);have HL:=as3 hl;clear hl HX
    go_wp2_with (have hZ:=HL;clear hZ;go_at_call 248;go_must (refine(show Calls Tryz.prog 248 _ _ (fun e w'=>e=.returned (.bool true)∧_=w') from by have h:=nM wr x;rw[HL.out] at h;exact h).mono ?_;rintro e w' ⟨rfl,rfl⟩;clear HL))
    go_roundw
    case rel=>exact⟨by first|trivial|rfl,k+1,by omega,by go_num,as3 (hinv.out.trans (jK hlt HB.out))⟩
    case measure=>simp[intOf];omega
   | false=>
    have HL:=as3 hl;by_cases h0:k=0
    ·subst h0;have HB:=as3 (show rX s 0=true by unfold rX;rw[← HX.out,hl];rfl);clear hl HX
     go_wp2_with (have hZ:=HL;clear hZ;go_at_call 248;go_must (refine(show Calls Tryz.prog 248 _ _ (fun e w'=>e=.returned (.bool false)∧_=w') from by have h:=nM wr x;rw[HL.out] at h;exact h).mono ?_;rintro e w' ⟨rfl,rfl⟩;clear HL))
     go_ret
     exact⟨ay (by rw[hinv.out,eH hlt HB.out];rfl),rfl⟩
    ·have XI:decide ((k:Int)=0)=false:=by simp;omega
     cases hg:mI x with
     | true=>
      have HB:=as3 (show rX s k=false by unfold rX;rw[← HX.out,hl,hg];simp[h0]);have HDG:=as3 hg;clear hl hg HX
      go_wp2_with (first|(have hZ:=HL;clear hZ;go_at_call 248;go_must (refine(show Calls Tryz.prog 248 _ _ (fun e w'=>e=.returned (.bool false)∧_=w') from by have h:=nM wr x;rw[HL.out] at h;exact h).mono ?_;rintro e w' ⟨rfl,rfl⟩;clear HL))|(have hZ:=HDG;clear hZ;go_at_call 249;go_must (refine(show Calls Tryz.prog 249 _ _ (fun e w'=>e=.returned (.bool true)∧_=w') from by have h:=CY wr x;rw[HDG.out] at h;exact h).mono ?_;rintro e w' ⟨rfl,rfl⟩;clear HDG)))
      go_roundw
      case rel=>exact⟨by first|trivial|rfl,k+1,by omega,by go_num,as3 (hinv.out.trans (jK hlt HB.out))⟩
      case measure=>simp[intOf];omega
     | false=>
      have HB:=as3 (show rX s k=true by unfold rX;rw[← HX.out,hl,hg];simp);have HDG:=as3 hg;clear hl hg HX
      go_wp2_with (first|(have hZ:=HL;clear hZ;go_at_call 248;go_must (refine(show Calls Tryz.prog 248 _ _ (fun e w'=>e=.returned (.bool false)∧_=w') from by have h:=nM wr x;rw[HL.out] at h;exact h).mono ?_;rintro e w' ⟨rfl,rfl⟩;clear HL))|(have hZ:=HDG;clear hZ;go_at_call 249;go_must (refine(show Calls Tryz.prog 249 _ _ (fun e w'=>e=.returned (.bool false)∧_=w') from by have h:=CY wr x;rw[HDG.out] at h;exact h).mono ?_;rintro e w' ⟨rfl,rfl⟩;clear HDG)))
      go_ret
      exact⟨ay (by rw[hinv.out,eH hlt HB.out];rfl),rfl⟩
  ·obtain rfl:k=n:=by omega
   have HF:=as3 hinv.out;clear hinv;by_cases h1:(1:Int)≤(s.size:Int)
   ·have hd1:decide ((1:Int)≤(s.size:Int))=true:=by simp;omega
    go_wp2_with fail
    go_ret
    exact⟨ay (by first|rfl|(rw[HF.out,iH];simp;omega)),rfl⟩
   ·have hd1:decide ((1:Int)≤(s.size:Int))=false:=by simp;omega
    go_wp2_with fail
    go_ret
    exact⟨ay (by first|rfl|(rw[HF.out,iH];simp;omega)),rfl⟩
def wu(s:ByteArray)(i:Nat):Bool:=decide ((dQ s i:Int)<33)||decide ((126:Int)<dQ s i)||decide ((dQ s i:Int)=34)||decide ((dQ s i:Int)=47)
def lM(s:ByteArray):Bool:=!(fA (wu s) s.size 0)&&(decide ((1:Int)≤(s.size:Int))&&decide ((s.size:Int)≤32))
theorem Kt(w:World)(s:ByteArray)(hs:dX s):Calls Tryz.prog 114 #[.string s] w fun e w'=>e=.returned (.bool (lM s))∧w=w':=by
 have hs':s.size≤140737488355328:=hs;obtain⟨n,hn⟩:∃ n,n=s.size:=⟨_,rfl⟩;have HN:=as3 hn;have hnb:n≤140737488355328:=by rw[hn];exact hs'
 unfold lM;clear hs hs'
 go_enter Tryz.func114,Tryz.ntmps114
 go_wp2_with fail
 go_loopw [3] (fun i wr=>wr=w∧∃ k:Nat,k≤n∧i=.int .i64 k∧Hid (fA (wu s) s.size 0=fA (wu s) (n-k) k)) (fun i _=>n-(intOf i).toNat)
 case atStart=>exact⟨rfl,0,asL _,rfl,as3 (by rw[hn,Nat.sub_zero])⟩
 case round=>
  obtain⟨rfl,k,hk,rfl,hinv⟩:=hrel;by_cases hlt:k<n
  ·have hks:k<s.size:=by rw[← hn];exact hlt
   obtain⟨x,hx⟩:∃ x,x=dQ s k:=⟨_,rfl⟩;have hsx:(s[k]'hks).toNat=x:=by rw[nu hks,hx]
   have SA:x<256:=by rw[hx];exact nr s k
   have hlt2:0≤(k:Int)∧(k:Int)<s.size:=by omega
   have HX:=as3 hx;clear hx;by_cases h1:(x:Int)<33
   ·have HB:=as3 (show wu s k=true by unfold wu;rw[← HX.out];simp[h1]);have hd1:decide ((x:Int)<33)=true:=by simp[h1]
    go_wp2_with fail
    go_ret
    exact⟨ay (by rw[hinv.out,eH hlt HB.out];rfl),rfl⟩
   ·by_cases h2:(126:Int)<x
    ·have HB:=as3 (show wu s k=true by unfold wu;rw[← HX.out];simp[h2]);have hd1:decide ((x:Int)<33)=false:=by simp;omega
     go_wp2_with fail
     go_ret
     exact⟨ay (by rw[hinv.out,eH hlt HB.out];rfl),rfl⟩
    ·by_cases h3:(x:Int)=34
     ·have HB:=as3 (show wu s k=true by unfold wu;rw[← HX.out];simp[h3])
      go_wp2_with fail
      go_ret
      exact⟨ay (by rw[hinv.out,eH hlt HB.out];rfl),rfl⟩
     ·have hd3:decide ((x:Int)=34)=false:=by simp[h3]
      have anF:((x:Int) == 34)=false:=by simpa using h3
      by_cases h4:(x:Int)=47
      ·have HB:=as3 (show wu s k=true by unfold wu;rw[← HX.out];simp[h4])
       go_wp2_with fail
       go_ret
       exact⟨ay (by rw[hinv.out,eH hlt HB.out];rfl),rfl⟩
      ·have HB:=as3 (show wu s k=false by unfold wu;rw[← HX.out];simp[h1,h2,h3,h4])
       go_wp2_with fail
       go_roundw
       case rel=>exact⟨by first|trivial|rfl,k+1,by omega,by go_num,as3 (hinv.out.trans (jK hlt HB.out))⟩
       case measure=>simp[intOf];omega
  ·obtain rfl:k=n:=by omega
   have HF:=as3 hinv.out;clear hinv;by_cases h1:(1:Int)≤(s.size:Int)
   ·have hd1:decide ((1:Int)≤(s.size:Int))=true:=by simp;omega
    go_wp2_with fail
    go_ret
    exact⟨ay (by first|rfl|(rw[HF.out,iH];simp;omega)),rfl⟩
   ·have hd1:decide ((1:Int)≤(s.size:Int))=false:=by simp;omega
    go_wp2_with fail
    go_ret
    exact⟨ay (by first|rfl|(rw[HF.out,iH];simp;omega)),rfl⟩
def pR(s:ByteArray):Bool:=wW s&&!jQ s
theorem Pk(w:World)(s:ByteArray)(hs:dX s):Calls Tryz.prog 243 #[.string s] w fun e w'=>e=.returned (.bool (pR s))∧w=w':=by
 have HS:=as3 hs;clear hs;unfold pR
 cases h1:wW s with
 | false=>
  have H1:=as3 h1;clear h1
  go_enter Tryz.func243,Tryz.ntmps243
  go_wp2_with (have hZ:=H1;clear hZ;go_at_call 198;go_must (refine(show Calls Tryz.prog 198 _ _ (fun e w'=>e=.returned (.bool false)∧_=w') from by have h:=zW w s HS.out;rw[H1.out] at h;exact h).mono ?_;rintro e w' ⟨rfl,rfl⟩;clear H1))
  go_ret
  exact⟨rfl,rfl⟩
 | true=>
  have H1:=as3 h1
  cases h2:jQ s with
  | false=>
   have H2:=as3 h2;clear h1 h2
   go_enter Tryz.func243,Tryz.ntmps243
   go_wp2_with (first|(have hZ:=H1;clear hZ;go_at_call 198;go_must (refine(show Calls Tryz.prog 198 _ _ (fun e w'=>e=.returned (.bool true)∧_=w') from by have h:=zW w s HS.out;rw[H1.out] at h;exact h).mono ?_;rintro e w' ⟨rfl,rfl⟩;clear H1))|(have hZ:=H2;clear hZ;go_at_call 278;go_must (refine(show Calls Tryz.prog 278 _ _ (fun e w'=>e=.returned (.bool false)∧_=w') from by have h:=wZ w s;rw[H2.out] at h;exact h).mono ?_;rintro e w' ⟨rfl,rfl⟩;clear H2)))
   go_ret
   exact⟨rfl,rfl⟩
  | true=>
   have H2:=as3 h2;clear h1 h2
   go_enter Tryz.func243,Tryz.ntmps243
   go_wp2_with (first|(have hZ:=H1;clear hZ;go_at_call 198;go_must (refine(show Calls Tryz.prog 198 _ _ (fun e w'=>e=.returned (.bool true)∧_=w') from by have h:=zW w s HS.out;rw[H1.out] at h;exact h).mono ?_;rintro e w' ⟨rfl,rfl⟩;clear H1))|(have hZ:=H2;clear hZ;go_at_call 278;go_must (refine(show Calls Tryz.prog 278 _ _ (fun e w'=>e=.returned (.bool true)∧_=w') from by have h:=wZ w s;rw[H2.out] at h;exact h).mono ?_;rintro e w' ⟨rfl,rfl⟩;clear H2)))
   go_ret
   exact⟨rfl,rfl⟩
theorem Ah(w:World)(s:ByteArray)(hs:dX s):Calls Tryz.prog 192 #[.string s] w fun e w'=>e=.returned (.bool (pR s))∧w=w':=by
 have HS:=as3 hs;clear hs
 go_enter Tryz.func192,Tryz.ntmps192
 go_wp2_with (go_at_call 243;go_must (refine(Pk w s HS.out).mono ?_;rintro e w' ⟨rfl,rfl⟩))
 go_ret
 exact⟨rfl,rfl⟩
theorem SliceAt.front{w:World}{a:Addr}{k n c i:Nat}{cs:List Value}(h:SliceAt w (.slice (some a) n c) k n cs)(hi:i≤n):SliceAt w (.slice (some a) i c) k i (cs.take (i*k)):=by
 obtain⟨h1,h2,h3,⟨h4,h5⟩|⟨a',c',h4,h5,h6⟩⟩:=h
 ·cases h4
 ·cases h4;refine⟨?_,by omega,fun u hu=>h3 u (List.mem_of_mem_take hu),.inr ⟨a,c,rfl,by omega,fun j u hj=>?_⟩⟩
  ·rw[asQ,h1];exact Nat.min_eq_left (Nat.mul_le_mul_right k hi)
  ·rw[List.getElem?_take] at hj;split at hj
   ·exact h6 j u hj
   ·cases hj
theorem Oq(l:List ByteArray)(i:Nat):(l.flatMap aN).take (i*1)=(l.take i).flatMap aN:=by
 rw[Nat.mul_one]
 induction l generalizing i with
 | nil=>simp
 | cons x l ih=>
  cases i with
  | zero=>simp
  | succ i=>simp[aN,List.flatMap_cons,ih]
theorem bp.front{w:World}{a:Addr}{n c i:Nat}{l:List ByteArray}(h:bp w (.slice (some a) n c) l)(hn:n=l.length)(hi:i≤n):bp w (.slice (some a) i c) (l.take i):=by
 subst hn;have h1:=SliceAt.front h hi;rw[Oq] at h1;unfold bp;rw[asQ,Nat.min_eq_left hi];exact h1
theorem bp.open{w:World}{v:Value}{l:List ByteArray}(h:bp w v l):∃ a c,v=.slice a l.length c∧l.length≤c∧l.length≤9223372036854775807∧∀ i s,l[i]?=some s→∃ b off,a=some ⟨b,off,none⟩∧w.cell? ⟨b,off+i,none⟩=some (.string s):=by
 obtain⟨a,c,h1,h2,h3,h4⟩:=SliceAt.form h (by decide);refine⟨a,c,h1,h2,h3,fun i s hs=>?_⟩;have hi:=(asT.1 hs).1;obtain⟨b,off,ha,hc⟩:=h4 i hi;have h5:=hc 0 (.string s) (by rw[gN Gr hs 0 (by decide)];rfl);simp only[Nat.mul_one,Nat.add_zero] at h5;exact⟨b,off,ha,h5⟩
def Lc(l:List ByteArray)(s:ByteArray)(i:Nat):Bool:=match l[i]? with
 | some x=>decide (x.toList=s.toList)
 | none=>false
def hasB(l:List ByteArray)(s:ByteArray):Bool:=fA (Lc l s) l.length 0
theorem Nf{l:List ByteArray}{s x:ByteArray}{i:Nat}(h:l[i]?=some x):Lc l s i=decide (x.toList=s.toList):=by unfold Lc;rw[h]
theorem H8(w:World)(s:ByteArray)(v:Value)(l:List ByteArray)(h:bp w v l):Calls Tryz.prog 193 #[.string s,v] w fun e w'=>e=.returned (.bool (hasB l s))∧w=w':=by
 obtain⟨a,c,rfl,hc,hm,hcell⟩:=h.open;obtain⟨n,hn⟩:∃ n,n=l.length:=⟨_,rfl⟩;have HN:=as3 hn;have HC:=as3 hcell;unfold hasB;rw[← hn] at hc hm ⊢;clear hcell h hn
 go_enter Tryz.func193,Tryz.ntmps193
 go_wp2_with fail
 go_loopw [5] (fun i wr=>wr=w∧∃ k:Nat,k≤n∧i=.int .i64 k∧Hid (fA (Lc l s) n 0=fA (Lc l s) (n-k) k)) (fun i _=>n-(intOf i).toNat)
 case atStart=>exact⟨rfl,0,asL _,rfl,as3 (by rw[Nat.sub_zero])⟩
 case round=>
  obtain⟨rfl,k,hk,rfl,hinv⟩:=hrel;by_cases hlt:k<n
  ·obtain⟨x,hx⟩:∃ x,l[k]?=some x:=⟨_,asU (by rw[← HN.out];exact hlt)⟩;have HX:=as3 hx;obtain⟨b,off,rfl,k0⟩:=HC.out k x hx;clear hx;by_cases he:x.toList=s.toList
   ·have HB:=as3 (show Lc l s k=true by rw[Nf HX.out];simp[he])
    go_wp2_with fail
    go_ret
    exact⟨ay (by rw[hinv.out,eH hlt HB.out]),rfl⟩
   ·have HB:=as3 (show Lc l s k=false by rw[Nf HX.out];simp[he]);have hb1:(x.toList == s.toList)=false:=by simp[he]
    go_wp2_with fail
    go_roundw
    case rel=>exact⟨by first|trivial|rfl,k+1,by omega,by go_num,as3 (hinv.out.trans (jK hlt HB.out))⟩
    case measure=>simp[intOf];omega
  ·obtain rfl:k=n:=by omega
   go_wp2_with fail
   go_ret
   exact⟨ay (by rw[hinv.out,iH]),rfl⟩
def rL(l o:List ByteArray)(i:Nat):Int:=match l[i]? with
 | some s=>if pR s=true then (if hasB (l.take i) s=true then 12 else if hasB o s=true then 12 else 0) else 10
 | none=>0
def bY(l o:List ByteArray):Int:=aH (rL l o) l.length 0
theorem O0{l o:List ByteArray}{s:ByteArray}{i:Nat}(h:l[i]?=some s):rL l o i=if pR s=true then (if hasB (l.take i) s=true then 12 else if hasB o s=true then 12 else 0) else 10:=by unfold rL;rw[h]
theorem PS{P:Program}{a:Act}{w:World}{o:Oper}{t e:TypeId}{x hi:Operand}{g off n c h k:Nat}{hk:IntKind}(ho:o.op=.slice t x none (some hi) none)(hx:a.eval x=.slice (some ⟨g,off,none⟩) n c)(hh:a.eval hi=.int hk (h:Int))(hhc:h≤c)(hc:0<c)
 (hu:P.underlying t=some (.slice e)) (hs:(P.info? e).map (·.size)=some k):(execOp a.eval o).run P w=.ok (.value (.slice (some ⟨g,off,none⟩) h c)) w:=by
 have hadd:(⟨g,off,none⟩:Addr).add 0=⟨g,off,none⟩:=by unfold Addr.add;split<;>simp_all
 have h1:(0:Int)≤(h:Int)∧(h:Int)≤(c:Int):=by omega
 have hne:¬ c=0:=by omega
 unfold execOp;simp[ho,hx,hh,Instr.sliceAt,Sem.run_bind,run_underlying hu w,Result.andThen_ok,Instr.slice,Instr.sliceBounds,Instr.sliceBound,asIntOf,Sem.run_pure,h1,run_sizeOf hs,hne,hadd];intro h';omega
theorem eW(w:World)(v v':Value)(l o:List ByteArray)(h:bp w v l)(ho:bp w v' o)(hok:∀ s∈l,dX s):Calls Tryz.prog 101 #[v,v'] w fun e w'=>e=.returned (.int .i64 (bY l o))∧asW w.heap.size w w':=by
 obtain⟨a,c,rfl,yT,hget⟩:=bp.get h;obtain⟨_,_,rfl,-⟩:=bp.get ho;have hcl:l.length≤c:=by obtain⟨_,_,e,hk,-⟩:=SliceAt.form h (by decide);injection e with e1 e2 e3;omega
 unfold bY;refine fL [] (fn:=Tryz.f101) Tryz.func101 rfl Tryz.ntmps101 rfl<|lr (ι:=Nat) (fun m=>[(5,.int .i64 (m:Int))]) (fun m _=>m≤l.length∧aH (rL l o) l.length 0=aH (rL l o) (l.length-m) m) (fun m=>l.length-m) 0 (an ⟨⟨rfl,trivial⟩,fun M=>⟨M,asL _,by rw[Nat.sub_zero]⟩⟩ ?_);rintro m w1 M ⟨hm,hinv⟩;refine an (fun h2=>?_) fun h2 M=>⟨ri (by rw[hinv,show m=l.length by simp at h2;omega,cI]),M.below⟩
 have hlt:m<l.length:=by simp at h2;omega
 obtain⟨s,hs⟩:∃ s,l[m]?=some s:=⟨_,asU hlt⟩;obtain⟨b,off,rfl,hc⟩:=hget m s hs;have hcf:=O0 (o:=o) hs;have out:∀ v:Int,rL l o m=v→v≠0→aH (rL l o) l.length 0=v:=fun v h1 h2=>by rw[hinv,cJ hlt (by rw[h1];exact h2),h1]
 refine ia<|an ⟨rfl,rfl,hlt⟩<|lc (x:=.string s)<|an (as4 M.below hc)<|cl<|an ((Ah _ s (hok s (asV hs))).mono fun _ _ ⟨h1,h2⟩=>⟨h1,h2▸Below.refl _ _⟩) fun w2 M2=>an (fun h3 M=>⟨ri (out 10 (by rw[hcf,if_neg (by simpa using h3)]) (by decide)),M.below⟩) fun h3=>?_
 rw[if_pos (by simpa using h3)] at hcf;refine dr (by kernel_rfl)<|ia<|an ⟨rfl,rfl,hlt⟩<|lc (x:=.string s)<|an (as4 M2.below hc)<|ei (x:=.slice (some ⟨b,off,none⟩) m c)<|an (fun a w o ho hv=>PS ho (qN hv) (yx hv) (by omega) (by omega) Dv sz9)<|cl<|an (fun w' hb M'=>(H8 w' s _ _ ((bp.front h rfl (Nat.le_of_lt hlt)).keep M'.below)).mono fun _ _ ⟨h1,h2⟩=>⟨h1,h2▸Below.refl _ _⟩)<|ia<|an (fun _=>⟨rfl,rfl,hlt⟩)<|lc (x:=.string s)<|an (fun _=>as4 M2.below hc)<|cl<|an (fun _ w' hb M'=>(H8 w' s _ _ (ho.keep M'.below)).mono fun _ _ ⟨h1,h2⟩=>⟨h1,h2▸Below.refl _ _⟩) fun w3 Pw M3=>an (fun h4 M=>⟨ri (out 12 ?_ (by decide)),M.below⟩) fun h4=>an (by omega)<|bk (m+1) ⟨rfl,trivial⟩ (fun M=>⟨M,by omega,hinv.trans (bQ hlt ?_)⟩) (by dsimp only;omega)
 all_goals rw[hcf];clear out hinv hcf;cases h5:hasB (l.take m) s<;>cases h6:hasB o s<;>simp_all
end Go.Proofs.YtdcofoaihmongaaGreat

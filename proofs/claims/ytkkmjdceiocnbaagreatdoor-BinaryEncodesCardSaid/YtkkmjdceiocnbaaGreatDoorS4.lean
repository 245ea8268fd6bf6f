import Derived.Ground.Names2Prog
import Derived.Laws.BitsAllLaws
import Derived.Shelf.Bytes.WriteAt
import Derived.Shelf.Bytes.WriteStringAt
import Derived.Test.YtkkmjdceiocnbaaGreatDoorS3
open Bool renaming and_eq_true→aj6
open Go.RowKit renaming Below→aj7
open Go.Sem renaming run_bind→aj_
open List renaming mem_cons→aj0,getElem?_eq_some_iff→aj1,mem_of_getElem?→aj3,mem_cons_of_mem→aj4,mem_cons_self→aj5,length_take→aj8,all_eq_true→aj9,length_append→akc,flatMap_append→akd,getElem?_eq_getElem→ake,take_length→akf
open Nat renaming zero_le→akb
open Option.some renaming inj→aj2
set_option maxRecDepth 100000
set_option maxHeartbeats 8000000
set_option linter.unusedSectionVars false
set_option linter.unusedSimpArgs false
set_option linter.unusedVariables false
namespace Go.Proofs.YtkkmjdceiocnbaaGreatDoor
open Go Go.RowKit
variable [DS]
theorem FH{P:Program}{ops ops':Array Oper}{Q:Exit→Act→World→Prop}{S:Act→World→Prop}{o:Oper}{a:Act}{w:World}(hg:o.guard=none)(hS:∀ a w,S a w→a.defers=DS.ds)(h0:a.defers=DS.ds)
 (h:wpList P ops' (fun e a w=>e=.normal∧S a w) [o] a w) (next:∀ a1 w1,S a1 w1→(∃ v,a1=a.put o.dst v)→Q .normal a1 w1):wpList P ops Q [o] a w:=by
 have hw:∀ ops,Region.wanted o (yielded ops a.tmps)=true:=fun ops=>gB hg
 have hno:¬ LetsOut (fun e a w=>e=Exit.normal∧S a w):=fun⟨_,_,h,_⟩=>by cases h
 unfold wpList at h ⊢;rw[if_pos (hw _)] at h ⊢;rcases h with h|⟨_,h⟩
 case inr=>exact absurd h hno
 refine .inl ?_;unfold Oper.wp at h ⊢;generalize (execOp a.eval o).run P w=r at h ⊢
 match r,h with
 | .ok (.value v) w',h=>exact next _ _ h.2 ⟨_,rfl⟩
 | .ok .skip w',h=>exact next _ _ h.2 ⟨_,rfl⟩
 | .ok (.defer d) w',h=>exact absurd ((hS _ _ h.2).trans h0.symm) (by cases o.dst<;>simp[Act.put])
 | .ok (.enter f args) w',h=>
  refine Calls.mono h fun e w'' h=>?_
  match e,h with
  | .returned v,h=>exact next _ _ h.2 ⟨_,rfl⟩
  | .panicked c,h=>cases h.1
  | .outgrown,h=>exact absurd h hno
 | .ok (.row row args) w',h=>exact Rows.mono h fun v w'' h=>next _ _ h.2 ⟨_,rfl⟩
 | .halt (.panic v) w',h=>cases h.1
def yG:Nat→Slots→List iP
 | _,[]=>[]
 | n,(s,v)::r=>⟨s,n,[],true,v⟩::yG (n+1) r
theorem pq:∀ {S:Slots} {n:Nat} {e:iP},e∈yG n S→∃ i s v,S[i]?=some (s,v)∧e=⟨s,n+i,[],true,v⟩
 | [],_,_,h=>by cases h
 | (s,v)::r,n,e,h=>by
  rcases aj0.1 h with rfl|h
  ·exact⟨0,s,v,rfl,rfl⟩
  ·obtain⟨i,s',v',h1,h2⟩:=pq h;exact⟨i+1,s',v',by simpa using h1,by rw[h2,show n+1+i=n+(i+1) by omega]⟩
def adA(s:Nat)(o:Oper):Oper:={ o with dst:=some s }
def wu(o:Oper)(S:Slots):Array Oper:=(S.map (fun x=>adA x.1 o)++[o]).toArray
section
variable {a:Act} {N:Nat} {l S:Slots} {o:Oper}
theorem AJ:(wu o S)[S.length]?=some o:=by
 unfold wu;simp
theorem QW:oq (yG 0 S) S.length:=by
 refine⟨?_,?_,?_,?_⟩
 ·intro e he;obtain⟨i,s,v,h1,rfl⟩:=pq he;have:=(aj1.1 h1).1;simpa using this
 ·intro e he e' he' hj;obtain⟨i,s,v,h1,rfl⟩:=pq he;obtain⟨i',s',v',h1',rfl⟩:=pq he';obtain rfl:i=i':=by simpa using hj
  rw[h1] at h1';obtain⟨rfl,rfl⟩:=Prod.mk.inj (aj2 h1');rfl
 ·intro e he x hx;obtain⟨i,s,v,h1,rfl⟩:=pq he;cases hx
 ·intro e he;obtain⟨i,s,v,h1,rfl⟩:=pq he;simp
theorem VU(hf:Fr a N)(hS:∀ x∈S,At a x.1 x.2)(hl:∀ q v,look q l=some v→At a q v):Inv (wu o S) a N l (yG 0 S) S.length:=by
 refine⟨hf,QW,?_,?_,fun q v _ h=>hl q v h⟩
 ·intro e he;obtain⟨i,s,v,h1,rfl⟩:=pq he;have hi:=(aj1.1 h1).1;simp only[wu,Nat.zero_add,List.getElem?_toArray];rw[List.getElem?_append_left (by simpa using hi),List.getElem?_map,h1];rfl
 ·intro e he;obtain⟨i,s,v,h1,rfl⟩:=pq he;exact hS (s,v) (aj3 h1)
end
def tI:List Kn→Oper→Slots
 | [],_=>[]
 | (j,d,v)::r,o=>bif xw o j then (d,v)::tI r o else tI r o
theorem yu{o:Oper}{x:Nat×Value}:∀ {K:List Kn},x∈tI K o→∃ k∈K,xw o k.1=true∧k.2=x
 | [],h=>by cases h
 | (j,d,v)::r,h=>by
  unfold tI at h
  cases e:xw o j with
  | false=>
   rw[e] at h;obtain⟨k,h1,h2⟩:=yu h;exact⟨k,aj4 _ h1,h2⟩
  | true=>
   rw[e] at h;rcases aj0.1 h with rfl|h
   ·exact⟨_,aj5 ..,e,rfl⟩
   ·obtain⟨k,h1,h2⟩:=yu h;exact⟨k,aj4 _ h1,h2⟩
theorem yI{o:Oper}{j:Nat}(h:xw o j=true):Bd o j:=by
 unfold xw at h;obtain⟨⟨on,gr⟩,h1,h2⟩:=List.any_eq_true.1 h;simp only[aj6,beq_iff_eq] at h2;obtain⟨h2,rfl⟩:=h2;exact⟨gr,h1,h2⟩
def Fo:List Kn→Slots
 | []=>[]
 | (_,d,v)::r=>(d,v)::Fo r
theorem Gv{x:Nat×Value}:∀ {K:List Kn},x∈Fo K→∃ k∈K,k.2=x
 | [],h=>by cases h
 | (j,d,v)::r,h=>by
  rcases aj0.1 h with rfl|h
  ·exact⟨_,aj5 ..,rfl⟩
  ·obtain⟨k,h1,h2⟩:=Gv h;exact⟨k,aj4 _ h1,h2⟩
theorem BQ{q:Nat}{v:Value}:∀ {l:Slots},look q l=some v→(q,v)∈l
 | [],h=>by cases h
 | (s,u)::r,h=>by
  rw[dQ] at h
  cases e:q == s with
  | true=>
   rw[e] at h;obtain rfl:u=v:=aj2 h;obtain rfl:q=s:=by simpa using e
   exact aj5 ..
  | false=>
   rw[e] at h;exact aj4 _ (BQ h)
theorem sQ{q:Nat}:∀ {l:Slots},look q l=none→∀ x∈l,x.1≠q
 | [],_,x,hx=>by cases hx
 | (s,u)::r,h,x,hx=>by
  rw[dQ] at h
  cases e:q == s with
  | true=>rw[e] at h;cases h
  | false=>
   rw[e] at h;rcases aj0.1 hx with rfl|hx
   ·exact fun h'=>(by simpa using e:q≠s) h'.symm
   ·exact sQ h x hx
theorem Qn{o:Option Value}(h:YB o=true):o=none:=by cases o with|none=>rfl|some v=>cases h
theorem BR{q:Nat}{v:Value}:∀ {l r:Slots},look q (l++r)=some v→look q l=some v∨look q r=some v
 | [],_,h=>.inr h
 | (s,u)::t,r,h=>by
  rw[List.cons_append,dQ] at h;rw[dQ]
  cases e:q == s with
  | true=>rw[e] at h;exact .inl h
  | false=>
   rw[e] at h;exact BR h
def ldJ(B:Nat)(w0:World)(bs:List Bx)(D:TD)(g off:Nat)(k:Value→Prop):Prop:=
 bif D.one' then
  (∃ i,vg bs i fun b=>match b with|(b,T,cs)=>bif Nat.blt T 9000 then b=g∧vg cs.toList off k else False)∨(∃ v,(∀ u,aj7 B w0 u→u.cell? ⟨g,off,none⟩=some v)∧k v)
 else
  (∃ i,vg bs i fun b=>match b with|(b,T,cs)=>bif Nat.blt T 9000 then b=g∧(Hf off cs.toList fun r=>FT (qj D) r fun l=>k (.agg l.toArray)) else False) ∨
   (∃ cs:List Value,(∀ u,aj7 B w0 u→∀ j v,cs[j]?=some v→u.cell? ⟨g,off+j,none⟩=some v)∧wz cs (qj D) (k (.agg cs.toArray)))
theorem VG{B:Nat}{w0:World}{bs:List Bx}{D:TD}{g off:Nat}{kk:Value→Prop}(h:ldJ B w0 bs D g off kk){ty:TypeId}(hD:nE Tryz.prog ty D=true):∃ v,kk v∧∀ u,Jm B w0 bs u→∀ (a:Act) (o:Oper) (x:Operand),o.op=.load ty x→a.eval x=.pointer (some ⟨g,off,none⟩)→(execOp a.eval o).run Tryz.prog u=.ok (.value v) u:=by
 unfold ldJ at h
 cases h1:D.one' with
 | true=>
  rw[h1] at h;obtain⟨dd,hu,hd⟩:=OI hD h1;rcases h with⟨i,h⟩|⟨v,h2,h3⟩
  ·obtain⟨⟨b,T,cs⟩,hb,h⟩:=jt h;obtain⟨hT,rfl,h3⟩:=cB h;obtain⟨v,h4,h5⟩:=jt h3;exact⟨v,h5,fun u J a o x ho hx=>A0 ho hx hu (by cases dd<;>first|rfl|cases hd) ((J.b i hb hT).cell off▸by simpa using h4)⟩
  ·exact⟨v,h3,fun u J a o x ho hx=>A0 ho hx hu (by cases dd<;>first|rfl|cases hd) (h2 u J.below)⟩
 | false=>
  rw[h1] at h;obtain⟨dd,hu,hd,hs⟩:=Av hD h1;rcases h with⟨i,h⟩|⟨cs,h2,h3⟩
  ·obtain⟨⟨b,T,cs⟩,hb,h⟩:=jt h;obtain⟨hT,rfl,h3⟩:=cB h;obtain⟨h4,h5⟩:=He h3;obtain⟨h6,h7⟩:=FR h5;refine⟨_,h7,fun u J a o x ho hx=>?_⟩;refine ux _ ho hx hu (by cases dd<;>first|rfl|cases hd) (hs.trans ?_) (Bl (J.b i hb hT) ?_)
   ·rw[aj8,Nat.min_eq_left h6]
   ·rw[aj8,Nat.min_eq_left h6]
  ·obtain⟨h4,h5⟩:=mJ h3;exact⟨_,h5,fun u J a o x ho hx=>ux cs ho hx hu (by cases dd<;>first|rfl|cases hd) (hs.trans (by rw[h4])) (h2 u J.below)⟩
def NV(B:Nat)(w0:World)(l:Slots)(mA:List Bx)(L:List Oper):List Nat→List Kn→(List Kn→Prop)→Prop
 | [],K,f=>f K
 | j::r,K,f=>vg L j fun o=>match o.guard with
  | some _=>False
  | none=>match o.dst with
   | none=>False
   | some d=>match o.op with
    | .load ty x=>tY l (yG 0 (tI K o)) [] x fun u=>Eu u False fun g off=>CS ty (fun D=>ldJ B w0 mA D g off fun v=>pO K [(j,d,v)] fun K'=>NV B w0 l mA L r K' f) TT
    | op=>pop l (yG 0 (tI K o)) [] true (fun v=>pO K [(j,d,v)] fun K'=>NV B w0 l mA L r K' f) op
def FlP(B:Nat)(w0:World)(N:Nat)(l:Slots)(mA:List Bx)(L:List Oper)(K:List Kn)(k:Kn):Prop:=
 ∃ o,L[k.1]?=some o∧o.dst=some k.2.1∧o.guard=none∧∀ (b:Act) (u:World),Fr b N→Jm B w0 mA u→(∀ q v,look q l=some v→At b q v)→(∀ k'∈K,xw o k'.1=true→At b k'.2.1 k'.2.2)→(execOp b.eval o).run Tryz.prog u=.ok (.value k.2.2) u
section
variable {B:Nat} {w0:World} {N:Nat} {l:Slots} {mA:List Bx} {L:List Oper}
theorem D9:∀ {F:List Nat} {K:List Kn} {f:List Kn→Prop},NV B w0 l mA L F K f→∃ K1,f (K++K1)∧K1.map (·.1)=F∧∀ k∈K1,FlP B w0 N l mA L (K++K1) k
 | [],K,f,h=>⟨[],by rw[List.append_nil];unfold NV at h;exact h,rfl,by simp⟩
 | j::r,K,f,h=>by
  unfold NV at h;obtain⟨o,ho,h⟩:=jt h;split at h
  ·exact h.elim
  rename_i hg;split at h
  ·exact h.elim
  rename_i d hd
  have hE:∀ (b:Act),Fr b N→(∀ q v,look q l=some v→At b q v)→(∀ k'∈K,xw o k'.1=true→At b k'.2.1 k'.2.2)→Inv (wu o (tI K o)) b N l (yG 0 (tI K o)) (tI K o).length:=fun b hf hl hk=>VU hf (fun x hx=>by
   obtain⟨k,h1,h2,rfl⟩:=yu hx;exact hk k h1 h2) hl
  have main:∀ v:Value,(∀ (b:Act) (u:World),Fr b N→Jm B w0 mA u→Inv (wu o (tI K o)) b N l (yG 0 (tI K o)) (tI K o).length→(execOp b.eval o).run Tryz.prog u=.ok (.value v) u)→(pO K [(j,d,v)] fun K'=>NV B w0 l mA L r K' f)→∃ K1,f (K++K1)∧K1.map (·.1)=j::r∧∀ k∈K1,FlP B w0 N l mA L (K++K1) k:=by
   intro v hv h;obtain⟨K1,h1,h2,h3⟩:=D9 (fP h);rw[List.append_assoc] at h1 h3;refine⟨(j,d,v)::K1,h1,by simp[h2],fun k hk=>?_⟩;rcases aj0.1 hk with rfl|hk
   ·exact⟨o,ho,hd,hg,fun b u hf hJ hl hkn=>hv b u hf hJ (hE b hf hl fun k' hk'=>hkn k' (List.mem_append_left _ hk'))⟩
   ·exact h3 k hk
  split at h
  ·rename_i ty x hop;obtain⟨u,h1,h5⟩:=dL h;rcases tZ h5 with⟨g,off,rfl,h6⟩|h6
   case inr=>exact h6.elim
   obtain⟨D,hD,h7⟩:=oU h6;obtain⟨v,h2,h3⟩:=VG h7 hD;exact main v (fun b u hf hJ I=>h3 u hJ b o x hop (I.E h1 (by simp))) h2
  ·obtain⟨v,h2,h3⟩:=IU QW (by simp) h;exact main v (fun b u hf hJ I=>h3 b u o rfl (fun x _ π' v hR hc=>I.E hR hc) rfl) h2
end
def newS:Nat→List iP→Slots→(Slots→Prop)→Prop
 | 0,_,T,f=>f T
 | n+1,⟨s,_,p,t,v⟩::r,T,f=>(match p with
  | []=>(match t with
   | true=>newS n r T fun T'=>f ((s,v)::T')
   | false=>False)
  | _::_=>False)
 | _+1,[],_,_=>False
theorem yp:∀ {n:Nat} {m:List iP} {T:Slots} {f:Slots→Prop},newS n m T f→∃ T',f T'∧∀ x∈T',x∈T∨∃ e∈m,e.t=true∧(e.s,e.v)=x
 | 0,_,T,f,h=>⟨T,h,fun x hx=>.inl hx⟩
 | n+1,⟨s,j,p,t,v⟩::r,T,f,h=>by
  unfold newS at h;split at h
  ·split at h
   ·obtain⟨T',h1,h2⟩:=yp h;refine⟨_,h1,fun x hx=>?_⟩;rcases aj0.1 hx with rfl|hx
    ·exact .inr ⟨_,aj5 ..,rfl,rfl⟩
    ·rcases h2 x hx with h3|⟨e,h3,h4⟩
     ·exact .inl h3
     ·exact .inr ⟨e,aj4 _ h3,h4⟩
   ·exact h.elim
  ·exact h.elim
 | _+1,[],_,_,h=>h.elim
def U6:List Nat→List Bx→(List Bx→Prop)→Prop
 | [],_,f=>f []
 | i::r,bs,f=>vg bs i fun b=>U6 r bs fun l=>f (b::l)
theorem KN:∀ {kb:List Nat} {bs:List Bx} {f:List Bx→Prop},U6 kb bs f→∃ l,f l∧∀ b∈l,b∈bs
 | [],_,_,h=>⟨[],h,by simp⟩
 | i::r,bs,f,h=>by
  obtain⟨b,h1,h2⟩:=jt h;obtain⟨l,h3,h4⟩:=KN h2;refine⟨_,h3,fun x hx=>?_⟩;rcases aj0.1 hx with rfl|hx
  ·exact aj3 h1
  ·exact h4 x hx
def rvK:List Bx→List Bx→(List Bx→Prop)→Prop
 | [],acc,f=>f acc
 | b::r,acc,f=>rvK r (b::acc) f
theorem OX:∀ {bs acc:List Bx} {f:List Bx→Prop},rvK bs acc f→∃ l,f l∧∀ b∈l,b∈bs∨b∈acc
 | [],acc,_,h=>⟨acc,h,fun _ h=>.inr h⟩
 | b::r,acc,f,h=>by
  obtain⟨l,h1,h2⟩:=OX (bs:=r) h;refine⟨l,h1,fun x hx=>?_⟩;rcases h2 x hx with h3|h3
  ·exact .inl (aj4 _ h3)
  ·rcases aj0.1 h3 with rfl|h3
   ·exact .inl (aj5 ..)
   ·exact .inr h3
def Va:List Nat→List Bx→(List Bx→Prop)→Prop
 | [],_,f=>f []
 | i::kb,bs,f=>rvK bs [] fun r=>U6 (i::kb) r f
theorem Ei{kb:List Nat}{bs:List Bx}{f:List Bx→Prop}(h:Va kb bs f):∃ l,f l∧∀ b∈l,b∈bs:=by
 cases kb with
 | nil=>exact⟨[],h,by simp⟩
 | cons i kb=>
  obtain⟨r,h,hr⟩:=OX (show rvK bs [] _ from h);obtain⟨l,h,hl⟩:=KN h;exact⟨l,h,fun b hb=>(hr b (hl b hb)).elim id fun h=>by cases h⟩
def oN(o:Oper)(T:Slots):Bool:=match o.dst with
 | none=>true
 | some d=>YB (look d T)
def U4(q:Nat):List Kn→Bool
 | []=>true
 | (_,d,_)::r=>bif Nat.beq q d then false else U4 q r
theorem Ii{q:Nat}:∀ {K:List Kn},U4 q K=true→∀ k∈K,k.2.1≠q
 | [],_,_,h=>by cases h
 | (j,d,v)::r,h,k,hk=>by
  unfold U4 at h
  cases e:Nat.beq q d with
  | true=>rw[e] at h;cases h
  | false=>
   rw[e] at h;rcases aj0.1 hk with rfl|hk
   ·intro e';have e':d=q:=e';rw[e',Nat.beq_refl] at e;cases e
   ·exact Ii h k hk
def WA(K:List Kn):Slots→Bool
 | []=>true
 | (q,_)::r=>bif U4 q K then WA K r else false
theorem JL{K:List Kn}:∀ {T:Slots},WA K T=true→∀ x∈T,∀ k∈K,k.2.1≠x.1
 | [],_,_,h=>by cases h
 | (q,v)::r,h,x,hx=>by
  unfold WA at h
  cases e:U4 q K with
  | false=>rw[e] at h;cases h
  | true=>
   rw[e] at h;rcases aj0.1 hx with rfl|hx
   ·exact Ii e
   ·exact JL h x hx
def Vz(j:Nat):List Kn→Bool
 | []=>true
 | (i,_,_)::r=>bif Nat.beq j i then false else Vz j r
theorem Jq{j:Nat}:∀ {K:List Kn},Vz j K=true→∀ k∈K,k.1≠j
 | [],_,_,h=>by cases h
 | (i,d,v)::r,h,k,hk=>by
  unfold Vz at h
  cases e:Nat.beq j i with
  | true=>rw[e] at h;cases h
  | false=>
   rw[e] at h;rcases aj0.1 hk with rfl|hk
   ·intro e';have e':i=j:=e';rw[e',Nat.beq_refl] at e;cases e
   ·exact Jq h k hk
theorem EX{ds:List Nat}:∀ {l:Slots} {f:Slots→Prop},JO ds l f→∃ l',f l'∧∀ x∈l',x∈l
 | [],f,h=>⟨[],h,fun _ h=>h⟩
 | (s,v)::r,f,h=>by
  unfold JO at h
  cases hm:nj s ds with
  | true=>
   rw[hm] at h;obtain⟨l',h1,h2⟩:=EX h;exact⟨l',h1,fun x hx=>aj4 _ (h2 x hx)⟩
  | false=>
   rw[hm] at h;obtain⟨l',h1,h2⟩:=EX h;exact⟨_,h1,fun x hx=>(aj0.1 hx).elim (fun e=>e▸aj5 ..) fun hx=>aj4 _ (h2 x hx)⟩
def flO(d:Option Nat)(T:Slots)(f:Slots→Prop):Prop:=match d with
 | none=>f T
 | some q=>JO [q] T f
theorem QO{d:Option Nat}{T:Slots}{f:Slots→Prop}(h:flO d T f):∃ l',f l'∧∀ x∈l',x∈T:=by
 unfold flO at h;split at h
 ·exact⟨T,h,fun _ h=>h⟩
 ·exact EX h
def PG(K:List Kn)(l:Slots):List Nat→(Slots→Prop)→Prop
 | [],f=>f []
 | d::r,f=>match look d l with
  | none=>PG K l r f
  | some v=>bif U4 d K then PG K l r fun T=>f ((d,v)::T) else PG K l r f
theorem zl{K:List Kn}{l:Slots}:∀ {ds:List Nat} {f:Slots→Prop},PG K l ds f→∃ T,f T∧∀ x∈T,look x.1 l=some x.2∧∀ k∈K,k.2.1≠x.1
 | [],f,h=>⟨[],h,fun _ h=>by cases h⟩
 | d::r,f,h=>by
  unfold PG at h;split at h
  ·exact zl h
  ·rename_i v hv
   cases e:U4 d K with
   | false=>rw[e] at h;exact zl h
   | true=>
    rw[e] at h;obtain⟨T,h1,h2⟩:=zl h;refine⟨_,h1,fun x hx=>?_⟩;rcases aj0.1 hx with rfl|hx
    ·exact⟨hv,Ii e⟩
    ·exact h2 x hx
def Yw(j:Nat)(v:Value)(p:Prop):List Kn→Prop
 | []=>p
 | (i,_,u)::r=>bif Nat.beq i j then u=v∧Yw j v p r else Yw j v p r
theorem EJ{j:Nat}{v:Value}{p:Prop}:∀ {K:List Kn},Yw j v p K→p∧∀ k∈K,k.1=j→k.2.2=v
 | [],h=>⟨h,fun _ h=>by cases h⟩
 | (i,d,u)::r,h=>by
  unfold Yw at h
  cases e:Nat.beq i j with
  | true=>
   rw[e] at h;obtain⟨h1,h2⟩:=EJ (K:=r) h.2;exact⟨h1,fun k hk=>(aj0.1 hk).elim (fun e _=>by rw[e];exact h.1) (h2 k)⟩
  | false=>
   rw[e] at h;obtain⟨h1,h2⟩:=EJ (K:=r) h;refine⟨h1,fun k hk hkj=>?_⟩;rcases aj0.1 hk with rfl|hk
   ·have hkj:i=j:=hkj;rw[hkj,Nat.beq_refl] at e;cases e
   ·exact h2 k hk hkj
def isD(s:Nat):Option Nat→Bool
 | none=>false
 | some q=>Nat.beq q s
def Xm(K:List Kn)(j:Nat)(d:Option Nat)(p:Prop):Slots→Prop
 | []=>False
 | (s,v)::r=>match r with
  | []=>bif isD s d then Yw j v p K else False
  | _::_=>False
def vop(B:Nat)(w0:World)(N:Nat)(l:Slots)(L:List Oper)(K:List Kn)(j:Nat)(T:Slots)(bs:List Bx)(rs:List Rw)(w:World)(k:Slots→List Bx→List Rw→World→Prop):Prop:=
 vg L j fun o=>match o.guard with
  | some _=>False
  | none=>flO o.dst T fun T1=>bif oN o T1 then bif Vz j K then pO T1 (tI K o) fun S=>xO none B w0 N l o S.length (yG 0 S) bs rs w fun m' bs' rs' w'=>newS (m'.length-S.length) m' T1 fun T'=>bif WA K T' then k T' bs' rs' w' else False else (pO T1 (tI K o) fun S=>xO none B w0 N l o S.length (yG 0 S) bs rs w fun m' bs' rs' w'=>newS (m'.length-S.length) m' [] fun T'=>Xm K j o.dst (k T1 bs' rs' w') T') else False
def Xi(B:Nat)(w0:World)(N:Nat)(l:Slots)(L:List Oper)(K:List Kn)(kb:List Nat)(mA:List Bx)(k:Slots→List Bx→List Rw→World→Prop):Tr→Slots→List Bx→List Rw→World→Prop
 | .done,T,bs,rs,w=>pO (Fo K) l fun r=>pO T r fun l'=>k l' bs rs w
 | .step j t,T,bs,rs,w=>vop B w0 N l L K j T bs rs w fun T' bs' rs' w'=>(Va kb bs' fun b=>b=mA)∧Xi B w0 N l L K kb mA k t T' bs' rs' w'
 | .last j,T,bs,rs,w=>vop B w0 N l L K j T bs rs w fun T' bs' rs' w'=>pO (Fo K) l fun r=>pO T' r fun l'=>k l' bs' rs' w'
 | .alt x y,T,bs,rs,w=>Xi B w0 N l L K kb mA k x T bs rs w∧Xi B w0 N l L K kb mA k y T bs rs w
section
variable {B:Nat} {w0:World} {N:Nat} {l:Slots} {mA:List Bx} {L:List Oper} {K:List Kn} {kb:List Nat} {k:Slots→List Bx→List Rw→World→Prop}
theorem TS{F:List Nat}{q:Nat}(h:∀ k∈K,k.2.1≠q):(xs F K).contains q=false:=by
 cases e:(xs F K).contains q with
 | false=>rfl
 | true=>
  have e:q∈xs F K:=by simpa using e
  unfold xs at e;obtain⟨k,h1,h2⟩:=List.mem_filterMap.1 e;split at h2
  ·exact absurd (aj2 h2) (h k h1)
  ·cases h2
structure TI (N:Nat) (l:Slots) (K:List Kn) (T:Slots) (a:Act):Prop where
 fr:Fr a N
 l_:∀ q v,look q l=some v→At a q v
 T_:∀ x∈T,At a x.1 x.2
 K_:∀ x∈T,∀ k∈K,k.2.1≠x.1
variable (xg:∀ q v,look q l=some v→∀ k∈K,k.2.1≠q) (kD:∀ (j:Nat) (o:Oper) (d:Nat),L[j]?=some o→o.dst=some d→look d l=none∧d<N)
include xg in
theorem TI.UE{F:List Nat}{T:Slots}{a a':Act}(h:TI N l K T a)(hA:Aa (xs F K) a a'):TI N l K T a':=
 ⟨hA.fr h.fr,fun q v hq=>hA.old (TS (xg q v hq)) (h.l_ q v hq),fun x hx=>hA.old (TS (h.K_ x hx)) (h.T_ x hx),h.K_⟩
include xg in
theorem TI.end{F:List Nat}{T:Slots}{a a':Act}(h:TI N l K T a)(hA:Aa (xs F K) a a')(hk:∀ (n:Nat) (k:Kn),K[n]?=some k→At a' k.2.1 k.2.2):Fs a' N (T++(Fo K++l)):=by
 have h':=h.UE xg hA;refine⟨h'.fr,fun q v hq=>?_⟩;rcases BR hq with hq|hq
 ·exact h'.T_ _ (BQ hq)
 ·rcases BR hq with hq|hq
  ·obtain⟨k,h1,h2⟩:=Gv (BQ hq);obtain⟨i,hi⟩:=List.getElem?_of_mem h1;have:=hk i k hi
   rwa [h2] at this
  ·exact h'.l_ q v hq
include xg kD in
theorem Ow{F:List Nat}{ops:Array Oper}{Q':Exit→Act→World→Prop}{j:Nat}{T:Slots}{bs:List Bx}{rs:List Rw}{a a':Act}{w:World}{kk:Slots→List Bx→List Rw→World→Prop}(hv:vop B w0 N l L K j T bs rs w kk)(h:TI N l K T a)(M:aQ B w0 w bs rs){o:Oper}(ho:L[j]?=some o)
 (hA:Aa (xs F K) a a') (hb:∀ (n:Nat) (k:Kn),K[n]?=some k→Bd o k.1→At a' k.2.1 k.2.2)
 (next:∀ a1 w1 T' bs' rs',TI N l K T' a1→aQ B w0 w1 bs' rs'→kk T' bs' rs' w1→Moved K j o a' a1→Q' .normal a1 w1):wpList Tryz.prog ops Q' [o] a' w:=by
 unfold vop at hv;obtain⟨o',ho',hv⟩:=jt hv;obtain rfl:o'=o:=aj2 (ho'.symm.trans ho);split at hv
 ·exact hv.elim
 rename_i hg;obtain⟨T1,hv,RF⟩:=QO hv;obtain⟨Wb,hv⟩:=cB hv;have h':=h.UE xg hA
 have keep:∀ v q u,(∀ d,o'.dst=some d→d≠q)→At a' q u→At (a'.put o'.dst v) q u:=fun v q u hq hu=>by
  cases hd:o'.dst with
  | none=>exact hu
  | some d=>
   refine(qL h'.fr (kD j o' d ho hd).2).old ?_ hu;simpa using fun e=>hq d hd e.symm
 have hT:∀ v,∀ x∈T1,At (a'.put o'.dst v) x.1 x.2:=fun v x hx=>keep v _ _ (fun d hd=>by
  unfold oN at Wb;rw[hd] at Wb;exact fun e=>sQ (Qn Wb) x hx e.symm) (h'.T_ x (RF x hx))
 have hS:∀ x∈T1++tI K o',At a' x.1 x.2:=fun x hx=>by
  rcases List.mem_append.1 hx with hx|hx
  ·exact h'.T_ x (RF x hx)
  ·obtain⟨k,h1,h2,rfl⟩:=yu hx;obtain⟨i,hi⟩:=List.getElem?_of_mem h1;exact hb i k hi (yI h2)
 have I:Inv (wu o' (T1++tI K o')) a' N l (yG 0 (T1++tI K o')) (T1++tI K o').length:=VU h'.fr hS h'.l_
 cases Wd:Vz j K with
 | false=>
  rw[Wd] at hv;replace hv:=fP hv;refine FH (ops':=wu o' (T1++tI K o')) (S:=fun a1 w1=>∃ m' bs' rs',Inv (wu o' (T1++tI K o')) a1 N l m' ((T1++tI K o').length+1)∧aQ B w0 w1 bs' rs'∧newS (m'.length-(T1++tI K o').length) m' [] fun T'=>Xm K j o'.dst (kk T1 bs' rs' w1) T') hg (fun a w ⟨_,_,_,I,_⟩=>I.fr.defers) h'.fr.defers (ql I M AJ hv (fun _ h=>by cases h) fun a1 m' bs' rs' w1 I' M' h'=>wpList_nil ⟨rfl,m',bs',rs',I',M',h'⟩) ?_;rintro a1 w1 ⟨m',bs',rs',I',M',hn⟩ ⟨v,rfl⟩;obtain⟨T',h1,h2⟩:=yp hn;unfold Xm at h1;split at h1
  ·exact h1.elim
  rename_i s u r;split at h1
  ·obtain⟨h3,h4⟩:=cB h1;obtain⟨h5,h6⟩:=EJ h4
   obtain⟨d,hd⟩:∃ d,o'.dst=some d:=by
    cases hd:o'.dst with
    | none=>rw[hd] at h3;cases h3
    | some d=>exact⟨d,rfl⟩
   have hs:d=s:=by rw[hd] at h3;exact Nat.eq_of_beq_eq_true h3
   have hat:At (a'.put o'.dst v) s u:=by
    rcases h2 (s,u) (aj5 ..) with h7|⟨e,h7,h8,h9⟩
    ·cases h7
    ·have:=I'.at_ e h7;rw[h8] at this;obtain⟨rfl,rfl⟩:=Prod.mk.inj h9;exact this
   have hp:Put a' d v (a'.put o'.dst v):=by rw[hd];exact qL h'.fr (kD j o' d ho hd).2
   have huv:u=v:=by
    have h10:=hp.now;rw[hs] at h10;exact aj2 (hat.symm.trans h10)
   refine next _ _ T1 bs' rs' ⟨I'.fr,fun q u hq=>keep v _ _ (fun d hd e=>?_) (h'.l_ q u hq),hT v,fun x hx=>h'.K_ x (RF x hx)⟩ M' h5 (.some d v hd hp fun n k hk hkj=>(h6 k (aj3 hk) hkj).trans huv)
   rw[← e,(kD j o' d ho hd).1] at hq;cases hq
  ·exact h1.elim
 | true=>
 rw[Wd] at hv;replace hv:=fP hv;refine FH (ops':=wu o' (T1++tI K o')) (S:=fun a1 w1=>∃ m' bs' rs',Inv (wu o' (T1++tI K o')) a1 N l m' ((T1++tI K o').length+1)∧aQ B w0 w1 bs' rs'∧newS (m'.length-(T1++tI K o').length) m' T1 fun T'=>bif WA K T' then kk T' bs' rs' w1 else False) hg (fun a w ⟨_,_,_,I,_⟩=>I.fr.defers) h'.fr.defers (ql I M AJ hv (fun _ h=>by cases h) fun a1 m' bs' rs' w1 I' M' h'=>wpList_nil ⟨rfl,m',bs',rs',I',M',h'⟩) ?_;rintro a1 w1 ⟨m',bs',rs',I',M',hn⟩ ⟨v,rfl⟩;obtain⟨T',h1,h2⟩:=yp hn;obtain⟨h3,h4⟩:=cB h1;refine next _ _ T' bs' rs' ⟨I'.fr,fun q u hq=>keep v _ _ (fun d hd e=>?_) (h'.l_ q u hq),fun x hx=>?_,JL h3⟩ M' h4 ?_
 ·rw[← e,(kD j o' d ho hd).1] at hq;cases hq
 ·rcases h2 x hx with h5|⟨e,h5,h6,rfl⟩
  ·exact hT v x h5
  ·have:=I'.at_ e h5
   rwa [h6] at this
 ·cases hd:o'.dst with
  | none=>exact .none hd rfl
  | some d=>
   refine .some d v hd (qL h'.fr (kD j o' d ho hd).2) fun n k hk hkj=>absurd hkj (Jq Wd k (aj3 hk))
include xg kD in
theorem D8{F:List Nat}{ops:Array Oper}{Q:Act→World→Prop}(hQ:∀ a l' bs rs w,Fs a N l'→aQ B w0 w bs rs→k l' bs rs w→Q a w):∀ {t:Tr} {T:Slots} {bs:List Bx} {rs:List Rw} {a:Act} {w:World},Xi B w0 N l L K kb mA k t T bs rs w→TI N l K T a→aQ B w0 w bs rs→Kq Tryz.prog ops L K (xs F K) (Jm B w0 mA) Q t a w
 | .done,T,bs,rs,a,w,hv,h,M=>fun a' hA hk=>hQ a' _ bs rs w (h.end xg hA hk) M (fP (fP hv))
 | .step j t,T,bs,rs,a,w,hv,h,M=>fun o ho a' hA hb Q' hn=>Ow xg kD hv h M ho hA hb fun a1 w1 T' bs' rs' h' M' ⟨h1,h2⟩ mv=>by
  refine hn a1 w1 ⟨M'.below,fun b hbx=>M'.box b ?_⟩ mv (D8 hQ h2 h' M');obtain⟨s,h5,h6⟩:=Ei h1;subst h5;exact h6 b hbx
 | .last j,T,bs,rs,a,w,hv,h,M=>fun o ho a' hA hb Q' hn=>Ow xg kD hv h M ho hA hb fun a1 w1 T' bs' rs' h' M' h1 mv=>hn a1 w1 mv fun a2 Zj hk=>hQ a2 _ bs' rs' w1 (h'.end xg Zj hk) M' (fP (fP h1))
 | .alt x y,T,bs,rs,a,w,hv,h,M=>⟨D8 hQ hv.1 h M,D8 hQ hv.2 h M⟩
end
def RH:List Oper→(List Nat→Prop)→Prop
 | [],f=>f []
 | o::r,f=>match o.dst with
  | some d=>RH r fun s=>f (d::s)
  | none=>RH r f
theorem Cx:∀ {L:List Oper} {f:List Nat→Prop},RH L f→f (L.filterMap (·.dst))
 | [],_,h=>h
 | o::r,f,h=>by
  unfold RH at h;split at h
  ·rename_i d hd;rw[List.filterMap_cons,hd];exact Cx h
  ·rename_i hd;rw[List.filterMap_cons,hd];exact Cx h
def Bw(N:Nat)(L:List Oper)(F:List Nat)(t:Tr):Bool:=
 ordered 0 L&&(decide (L.filterMap (·.dst)).Nodup&&(((L.filterMap (·.dst)).all fun s=>Nat.blt s N)&&(((cand L F []).all fun i=>(heads t).contains i)&&lY L F t [])))
def Nb(L:List Oper)(F:List Nat):List Kn→Bool
 | []=>true
 | (j,d,_)::r=>bif F.contains j then false else (match L[j]? with
  | none=>false
  | some o=>bif isD d o.dst then Nb L F r else false)
theorem AU{L:List Oper}{F:List Nat}:∀ {K:List Kn},Nb L F K=true→(∀ k∈K,∃ o:Oper,L[k.1]?=some o∧o.dst=some k.2.1)∧∀ k∈K,F.contains k.1=false
 | [],_=>⟨fun _ h=>(by cases h),fun _ h=>(by cases h)⟩
 | (j,d,v)::r,h=>by
  unfold Nb at h
  cases e:F.contains j with
  | true=>rw[e] at h;cases h
  | false=>
   rw[e] at h
   cases e2:L[j]? with
   | none=>rw[e2] at h;cases h
   | some o=>
    rw[e2] at h
    cases e3:isD d o.dst with
    | false=>simp only[e3] at h;cases h
    | true=>
     simp only[e3] at h;obtain⟨h1,h2⟩:=AU (K:=r) h;refine⟨fun k hk=>?_,fun k hk=>?_⟩
     ·rcases aj0.1 hk with rfl|hk
      ·refine⟨o,e2,?_⟩
       cases hd:o.dst with
       | none=>rw[hd] at e3;cases e3
       | some q=>rw[hd] at e3;exact congrArg some (Nat.eq_of_beq_eq_true e3)
      ·exact h1 k hk
     ·rcases aj0.1 hk with rfl|hk
      ·exact e
      ·exact h2 k hk
theorem spk{X Y:Prop}{KP:PK}{B:Nat}{w0 w:World}{N:Nat}{l:Slots}{bs:List Bx}{rs:List Rw}{ops:Array Oper}{id:Nat}{k:Slots→List Bx→List Rw→World→Prop}(K0:List Kn)(F:List Nat)(t:Tr)(kb:List Nat)(hk0:Nb ops.toList F K0=true)(h0:Bw N ops.toList F t=true)
 (h:RH ops.toList fun ds=>JO ds l fun l'=>Va kb bs fun mA=>NV B w0 l' mA ops.toList F K0 fun K=>PG K l ds fun T=>∀ w',aj7 w.heap.size w w'→aQ B w0 w' bs rs→Xi B w0 N l' ops.toList K kb mA k t T bs rs w') :
 X∨Y∨∀ (a:Act) (Q:Exit→Act→World→Prop),Fs a N l→aQ B w0 w bs rs→(∀ Pn,KP=some Pn→∀ a' ch w',Fr a' N→Pn ch w'→Q (.panic ch) a' w')→(∀ a' l' bs' rs' w',Fs a' N l'→aQ B w0 w' bs' rs'→k l' bs' rs' w'→Q .normal a' w')→(Code.region id ops true).wp Tryz.prog Q a w:=by
 refine .inr (.inr fun a Q Fa M uJ next=>?_);obtain⟨L,rfl⟩:∃ L:List Oper,ops=L.toArray:=⟨ops.toList,by simp⟩;rw[List.toList_toArray] at hk0 h0 h;unfold Bw at h0;simp only[aj6,decide_eq_true_eq] at h0;obtain⟨jQ,hnd,hbd,hcd,hsub⟩:=h0;obtain⟨l',h,hl'⟩:=xu (Cx h);obtain⟨mA,h,hJ⟩:=Ei h;obtain⟨K,h,Ze,hK⟩:=D9 (N:=N) h;obtain⟨hk1,hk2⟩:=AU hk0;obtain⟨T0,h,QJ⟩:=zl h;have hin:∀ (j:Nat) (o:Oper) (d:Nat),L[j]?=some o→o.dst=some d→d∈L.filterMap (·.dst):=fun j o d ho hd=>List.mem_filterMap.2 ⟨o,aj3 ho,hd⟩
 have hno:∀ d,d∈L.filterMap (·.dst)→look d l'=none:=fun d hd=>by
  rw[hl',mF.2 hd];rfl
 have hold:∀ q v,look q l'=some v→look q l=some v∧(L.filterMap (·.dst)).contains q=false:=fun q v hq=>by
  rw[hl'] at hq
  cases hm:nj q (L.filterMap (·.dst)) with
  | true=>rw[hm] at hq;cases hq
  | false=>
   rw[hm] at hq;refine⟨hq,?_⟩
   cases hc:(L.filterMap (·.dst)).contains q with
   | false=>rfl
   | true=>
    have:q∈L.filterMap (·.dst):=by simpa using hc
    rw[mF.2 this] at hm;cases hm
 have Uo:∀ k∈K0++K,∃ o:Oper,L[k.1]?=some o∧o.dst=some k.2.1:=fun k hk=>by
  rcases List.mem_append.1 hk with hk|hk
  ·exact hk1 k hk
  ·obtain⟨o,h1,h2,-⟩:=hK k hk;exact⟨o,h1,h2⟩
 have G3:∀ k∈K0++K,k.2.1∈L.filterMap (·.dst):=fun k hk=>by
  obtain⟨o,h1,h2⟩:=Uo k hk;exact hin _ _ _ h1 h2
 have xg:∀ q v,look q l'=some v→∀ k∈K0++K,k.2.1≠q:=fun q v hq k hk e=>by
  have h1:=hno _ (G3 k hk);rw[e,hq] at h1;cases h1
 have kD:∀ (j:Nat) (o:Oper) (d:Nat),L[j]?=some o→o.dst=some d→look d l'=none∧d<N:=fun j o d ho hd=>⟨hno d (hin j o d ho hd),by
  have:=aj9.1 hbd d (hin j o d ho hd);simpa using this⟩
 have Md:=M.keep (w':=w.drew) (Below.refl _ _).drew;refine xG (K0++K) F t (Jm B w0 mA) (by kernel_rfl) jQ ?_ ?_ hnd hbd hcd hsub Fa.fr ?_ ⟨Md.below,fun b hb=>Md.box b ?_⟩ (D8 xg kD (fun a l' bs rs w F M h=>next a l' bs rs w F M h) (h w.drew (Below.refl _ _).drew Md) ⟨Fa.fr,fun q v hq=>Fa.at_ q v (hold q v hq).1,fun x hx=>Fa.at_ _ _ (QJ x hx).1,fun x hx=>(QJ x hx).2⟩ Md)
 ·rw[aj9];intro k hk;obtain⟨o,h1,h2⟩:=Uo k hk;simp[h1,h2]
 ·rw[aj9];intro i hi;rw[← Ze] at hi;obtain⟨k,hk,rfl⟩:=List.mem_map.1 hi;exact List.any_eq_true.2 ⟨k,List.mem_append_right _ hk,by simp⟩
 ·have key:∀ K2:List Kn,(∀ k∈K2,F.contains k.1=true→FlP B w0 N l' mA L (K0++K) k)→uF Tryz.prog L F (K0++K) (Jm B w0 mA) a N K2:=by
   intro K2
   induction K2 with
   | nil=>intro _;trivial
   | cons k r ih=>
    intro h2;refine⟨fun Lu o ho b u hf hj hq hb=>?_,ih fun k' hk'=>h2 k' (aj4 _ hk')⟩;obtain⟨o',h3,-,h4,h5⟩:=h2 k (aj5 ..) Lu;obtain rfl:o'=o:=aj2 (h3.symm.trans ho)
    exact⟨gB h4,h5 b u hf hj (fun q v hv=>hq q v (hold q v hv).2 (Fa.at_ q v (hold q v hv).1)) fun k' hk' he=>by
     obtain⟨i,hi⟩:=List.getElem?_of_mem hk';exact hb i k' hi (yI he)⟩
  exact key _ fun k hk Lu=>(List.mem_append.1 hk).elim (fun h=>by rw[hk2 k h] at Lu;cases Lu) (hK k)
 ·exact hJ b hb
theorem sp{X Y:Prop}{KP:PK}{B:Nat}{w0 w:World}{N:Nat}{l:Slots}{bs:List Bx}{rs:List Rw}{ops:Array Oper}{id:Nat}{k:Slots→List Bx→List Rw→World→Prop}(F:List Nat)(t:Tr)(kb:List Nat)(h0:Bw N ops.toList F t=true)
 (h:RH ops.toList fun ds=>JO ds l fun l'=>Va kb bs fun mA=>NV B w0 l' mA ops.toList F [] fun K=>PG K l ds fun T=>∀ w',aj7 w.heap.size w w'→aQ B w0 w' bs rs→Xi B w0 N l' ops.toList K kb mA k t T bs rs w') :
 X∨Y∨∀ (a:Act) (Q:Exit→Act→World→Prop),Fs a N l→aQ B w0 w bs rs→(∀ Pn,KP=some Pn→∀ a' ch w',Fr a' N→Pn ch w'→Q (.panic ch) a' w')→(∀ a' l' bs' rs' w',Fs a' N l'→aQ B w0 w' bs' rs'→k l' bs' rs' w'→Q .normal a' w')→(Code.region id ops true).wp Tryz.prog Q a w:=spk [] F t kb rfl h0 h
end Go.Proofs.YtkkmjdceiocnbaaGreatDoor
namespace Go.Proofs.YtkkmjdceiocnbaaGreatDoor
open Go Go.RowKit
theorem SliceAt.elt{α:Type}{f:α→List Value}{k n i c:Nat}{w:World}{a:Option Addr}{l:List α}{y:α}(h:SliceAt w (.slice a n c) k n (l.flatMap f))(hf:∀ x,(f x).length=k)(hk:0<k)(hy:l[i]?=some y)(hi:i<n):
 ∃ b off,a=some ⟨b,off,none⟩∧∀ j u,(f y)[j]?=some u→w.cell? ⟨b,off+i*k+j,none⟩=some u:=by
 obtain⟨a',c',e,-,-,h2⟩:=SliceAt.form h hk;injection e with e1 e2 e3;subst e1;obtain⟨b,off,hb,h3⟩:=h2 i hi;refine⟨b,off,hb,fun j u hu=>h3 j u ?_⟩;rw[Lz hf hy j (hf y▸(aj1.1 hu).1)];exact hu
theorem aN.get{w:World}{v:Value}{l:List ByteArray}(h:aN w v l):∃ a c,v=.slice a l.length c∧l.length≤9223372036854775807∧∀ (i:Nat) s,l[i]?=some s→∃ b off,a=some ⟨b,off,none⟩∧w.cell? ⟨b,off+i*1,none⟩=some (.string s):=by
 obtain⟨a,c,rfl,-,hm,-⟩:=SliceAt.form h (by decide);refine⟨a,c,rfl,hm,fun i s hs=>?_⟩;obtain⟨b,off,e,hc⟩:=SliceAt.elt (f:=aR) h (fun _=>rfl) (by decide) hs (aj1.1 hs).1;exact⟨b,off,e,hc 0 _ rfl⟩
theorem aA.open{w:World}{c0 c1 c2 c3 c4 c5 c6 c7 c8 c9 c10 c11 c12 c13 c14 c15 c16:Value}{p:aD}(h:aA w c0 c1 c2 c3 c4 c5 c6 c7 c8 c9 c10 c11 c12 c13 c14 c15 c16 p):∃ a0 a1 a2 a3 a4 a5 a6 a7 a8 a9 rF rE a12 rD rC rB rA k0 k1 k2 k3 k4 k5 k6 k7 k8 k9 k10 k11 k12 k13 k14 k15 k16,c0=.slice a0 p.classes.length k0∧c1=.slice a1 p.types.length k1∧c2=.slice a2 p.attrs.length k2∧c3=.slice a3 p.roles.length k3∧c4=.slice a4 p.users.length k4∧c5=.slice a5 p.bools.length k5∧c6=.slice a6 p.ak.length k6∧c7=.slice a7 p.cats.length k7∧c8=.slice a8 p.conds.length k8∧c9=.slice a9 p.rules.length k9∧c10=.slice rF p.trans.length k10∧c11=.slice rE p.ay.length k11∧c12=.slice a12 p.ranges.length k12∧c13=.slice rD p.cons.length k13∧c14=.slice rC p.bg.length k14∧c15=.slice rB p.files.length k15∧c16=.slice rA p.asserts.length k16:=by
 obtain⟨a0,k0,e0,-⟩:=aj.form h.classes (by decide);obtain⟨a1,k1,e1,-⟩:=aj.form h.types (by decide);obtain⟨a2,k2,e2,-⟩:=SliceAt.form h.attrs (by decide);obtain⟨a3,k3,e3,-⟩:=SliceAt.form h.roles (by decide);obtain⟨a4,k4,e4,-⟩:=SliceAt.form h.users (by decide);obtain⟨a5,k5,e5,-⟩:=SliceAt.form h.bools (by decide);obtain⟨a6,k6,e6,-⟩:=aN.get h.ak;obtain⟨a7,k7,e7,-⟩:=aN.get h.cats;obtain⟨a8,k8,e8,-⟩:=aj.form h.conds (by decide);obtain⟨a9,k9,e9,-⟩:=SliceAt.form h.rules (by decide);obtain⟨rF,k10,e10,-⟩:=SliceAt.form h.trans (by decide);obtain⟨rE,k11,e11,-⟩:=SliceAt.form h.ay (by decide);obtain⟨a12,k12,e12,-⟩:=SliceAt.form h.ranges (by decide);obtain⟨rD,k13,e13,-⟩:=aj.form h.cons (by decide);obtain⟨rC,k14,e14,-⟩:=SliceAt.form h.bg (by decide);obtain⟨rB,k15,e15,-⟩:=SliceAt.form h.files (by decide);obtain⟨rA,k16,e16,-⟩:=SliceAt.form h.asserts (by decide);exact⟨_,_,_,_,_,_,_,_,_,_,_,_,_,_,_,_,_,_,_,_,_,_,_,_,_,_,_,_,_,_,_,_,_,_,e0,e1,e2,e3,e4,e5,e6,e7,e8,e9,e10,e11,e12,e13,e14,e15,e16⟩
theorem bd{t:TypeId}{parts:Array (Nat×Operand)}{vs:List Value}{cells:Array Value}(h:Tryz.prog.built t ((parts.toList.zip vs).map fun x=>(x.1.1,x.2))=some cells)(a:Act)(w:World)(o:Oper)(ho:o.op=.build t parts)(hv:wj a (jW (.build t parts)) vs):
 (execOp a.eval o).run Tryz.prog w=.ok (.value (.agg cells)) w:=by
 refine EZ ho rfl ?_;rw[← h];congr 1;have h1:vs=(parts.toList.map (·.2)).map a.eval:=(yF hv).symm;rw[h1,Array.toList_map];generalize parts.toList=l
 induction l with
 | nil=>rfl
 | cons x r ih=>simp only[List.map_cons,List.zip_cons_cons,ih]
theorem ri{v M:Int}(h:M=v):Ending.returned (rG [.int .i64 v])=.returned (.int .i64 M):=by rw[h];rfl
theorem rb{v M:Bool}(h:M=v):Ending.returned (rG [.bool v])=.returned (.bool M):=by rw[h];rfl
theorem bP{w:World}{B n:Nat}{u:Value}{xs:List Value}{l:List ByteArray}(h:w.ownsRow B 9 1 u n xs)(hn:n=l.length)(hx:xs=l.flatMap aR):aN w u l:=by
 subst hn hx;exact SliceAt.r_ h fun v hv=>by obtain⟨s,-,hs⟩:=List.mem_flatMap.1 hv;simp only[aR,List.mem_singleton] at hs;subst hs;rfl
theorem eD{α:Type}{f:α→ByteArray}{l:List α}{m:Nat}{y:α}(h:l[m]?=some y):((l.take (m+1)).map f).flatMap aR=((l.take m).map f).flatMap aR++[.string (f y)]:=by
 rw[List.take_add_one,h];simp[aR]
theorem aj.elt{α:Type}{k i c:Nat}{R:List Value→α→Prop}{w:World}{a:Option Addr}{l:List α}{y:α}{n:Nat}(h:aj k R w (.slice a n c) l)(hk:0<k)(hy:l[i]?=some y):∃ b off x,a=some ⟨b,off,none⟩∧R x y∧∀ j u,x[j]?=some u→w.cell? ⟨b,off+i*k+j,none⟩=some u:=by
 obtain⟨la,lk,e,-,-,hc⟩:=aj.form h hk;injection e with e1 e2 e3;subst e1;obtain⟨b,off,x,h1,h2,-,h3⟩:=hc i y hy;exact⟨b,off,x,h1,h2,h3⟩
theorem N9{op:Op}{ty:TypeId}{xs:List Operand}{vs:List Value}{v:Value}{B:Nat}{w0 w:World}{bs:List Bx}{rs:List Rw}{K:Value→List Bx→List Rw→World→Prop}(M:aQ B w0 w bs rs)(hx:∀ (a:Act) (o':Oper),o'.op=op→wj a xs vs→(execOp a.eval o').run Tryz.prog w=.ok (.value v) w)(h:K v bs rs w):
 ∃ R:Value→World→Prop,(∀ (a:Act) (o':Oper),o'.op=op→o'.type=ty→wj a xs vs→∃ v w',(execOp a.eval o').run Tryz.prog w=.ok (.value v) w'∧R v w')∧∀ v w',R v w'→∃ bs' rs',aQ B w0 w' bs' rs'∧K v bs' rs' w':=
 ⟨fun v' w'=>v'=v∧w'=w,fun a o' ho _ hv=>⟨_,_,hx a o' ho hv,rfl,rfl⟩,fun _ _ ⟨h1,h2⟩=>by subst h1 h2;exact⟨_,_,M,h⟩⟩
theorem sJ{P:Program}{a:Act}{w:World}{o:Oper}{ty yt:TypeId}{x y:Operand}{q r:Nat}(hq:q<4)(hr:r<64)(ho:o.op=.binOp .quo ty x y yt)(hx:a.eval x=.int .i64 ((64*q+r:Nat):Int))(hy:a.eval y=.int .i64 64):(execOp a.eval o).run P w=.ok (.value (.int .i64 (q:Int))) w:=by
 rw[LH ho hx hy (by decide),Int.tdiv_eq_ediv_of_nonneg (by omega),show((64*q+r:Nat):Int)/64=q by omega,wrap_i64];constructor<;>omega
theorem Ed{x r:Nat}(hx:fA x)(hr:r<64):bits .or .u64 (x:Int) ((2^r:Nat):Int)=((x|||2^r:Nat):Int):=bits_or_u64_nat _ _ hx (ze hr)
theorem Sl{P:Program}{a:Act}{w:World}{o:Oper}{ty yt:TypeId}{x y:Operand}{q r:Nat}(hr:r<64)(ho:o.op=.binOp .rem ty x y yt)(hx:a.eval x=.int .i64 ((64*q+r:Nat):Int))(hy:a.eval y=.int .i64 64):(execOp a.eval o).run P w=.ok (.value (.int .i64 (r:Int))) w:=by
 unfold execOp;simp[ho,hx,hy,eqGuard,binOp,Op.intDiv];rw[Int.tmod_eq_emod_of_nonneg (by omega)];omega
theorem R8{P:Program}{a:Act}{w:World}{o:Oper}{ty yt:TypeId}{x y:Operand}{r:Nat}(hr:r<64)(ho:o.op=.binOp .shl ty x y yt)(hx:a.eval x=.int .u64 1)(hy:a.eval y=.int .i64 (r:Int)):(execOp a.eval o).run P w=.ok (.value (.int .u64 ((2^r:Nat):Int))) w:=by
 rw[DL ho hx hy (by omega) (by simp[IntKind.bits];omega),Int.toNat_natCast,Int.one_mul,uO hr]
theorem lu{n:Int}(h:0≤n∧n<256):∃ q r:Nat,q<4∧r<64∧n=((64*q+r:Nat):Int):=⟨n.toNat/64,n.toNat%64,by omega,by omega,by omega⟩
theorem tM{s:aE}{q r:Nat}(hq:q<4)(hr:r<64):s.with ((64*q+r:Nat):Int)=s.put q (s.word q|||2^r):=by
 unfold aE.with aE.add;rw[if_pos ⟨by omega,by omega⟩,Int.toNat_natCast,show(64*q+r)/64=q by omega,show(64*q+r)%64=r by omega]
theorem sP{s:aE}{q r:Nat}(hq:q<4)(hr:r<64):s.mem ((64*q+r:Nat):Int)=(s.word q).testBit r:=by
 unfold aE.mem aE.has;rw[decide_eq_true ⟨by omega,by omega⟩,Bool.true_and,Int.toNat_natCast,show(64*q+r)/64=q by omega,show(64*q+r)%64=r by omega]
theorem XQ(w0:World)(s:aE)(hs:s.Ok)(n:Int):Calls Tryz.prog 329 #[.agg #[.int .u64 s.a,.int .u64 s.b,.int .u64 s.c,.int .u64 s.d],.int .i64 n] w0 fun e w'=>e=.returned (.agg #[.int .u64 (s.with n).a,.int .u64 (s.with n).b,.int .u64 (s.with n).c,.int .u64 (s.with n).d])∧aj7 w0.heap.size w0 w':=by
 by_cases h:0≤n∧n<256
 ·have hin:∀ w:World,Calls Tryz.prog 330 #[.int .i64 n] w fun e w'=>e=.returned (.bool true)∧aj7 w.heap.size w w':=fun w=>(Jz w n h.1 h.2).mono fun _ _ ⟨h1,h2⟩=>⟨h1,h2▸aj7.refl _ _⟩
  obtain⟨q,r,hq,hr,rfl⟩:=lu h;rw[tM hq hr];clear h;rcases(show q=0∨q=1∨q=2∨q=3 by omega) with rfl|rfl|rfl|rfl
  all_goals
   exact bM [] (fn:=Tryz.f329) Tryz.func329 rfl Tryz.ntmps329 rfl<|fun g1 w1 M1=>ei<|an m_ fun g2 w2 M2=>cl<|an (hin _) fun w3 M3=>an (fun _=>dr (by kernel_rfl)<|ei<|an (fun a w o ho hv=>sJ hq hr ho (aY hv) (cC hv))<|ei<|an ⟨rfl,by decide⟩<|lb 1<|an rfl<|ei<|an (fun a w o ho hv=>Sl hr ho (aY hv) (cC hv))<|ei<|an (fun a w o ho hv=>R8 hr ho (aY hv) (cC hv))<|ei<|an (Ed (by first|exact hs.a|exact hs.b|exact hs.c|exact hs.d) hr)<|ei<|an ⟨rfl,by decide⟩<|fun w3 fL M3=>lb 1<|an ⟨rfl,rfl⟩ fun w4 M4=>lb 1<|an rfl<|lb 0<|an ⟨rfl,rfl⟩ fun w5 M5=>ei (x:=0)<|an rfl fun M=>⟨rfl,M.below⟩) fun h=>by simp at h
 ·have hin:∀ w:World,Calls Tryz.prog 330 #[.int .i64 n] w fun e w'=>e=.returned (.bool false)∧aj7 w.heap.size w w':=fun w=>(if h0:0≤n then Ng w n h0 (fun h1=>h ⟨h0,h1⟩) else Nf w n h0:Calls Tryz.prog 330 #[.int .i64 n] w (fun e w'=>e=.returned (.bool false)∧w=w')).mono fun _ _ ⟨h1,h2⟩=>⟨h1,h2▸aj7.refl _ _⟩
  rw[show s.with n=s from if_neg h];exact bM [] (fn:=Tryz.f329) Tryz.func329 rfl Tryz.ntmps329 rfl<|fun g1 w1 M1=>ei<|an m_ fun g2 w2 M2=>cl<|an (hin _) fun w3 M3=>an (fun h=>by simp at h) fun _=>lb 1<|an rfl<|lb 0<|an ⟨rfl,rfl⟩ fun w5 M5=>ei (x:=0)<|an rfl fun M=>⟨rfl,M.below⟩
def rz:Nat→aE
 | 0=>aE.zero
 | k+1=>(rz k).with (k:Int)
def aE.all(n:Nat):aE:=rz (min n 256)
theorem wh:∀ k,(rz k).Ok
 | 0=>Kv
 | k+1=>aE.RS (wh k) _
def pX(x y:Nat):Nat:=x&&&(18446744073709551615-y)
theorem uE{x:Nat}(hx:fA x)(y:Nat):fA (pX x y):=Nat.lt_of_le_of_lt Nat.and_le_left hx
def aE.minus(a b:aE):aE:=⟨pX a.a b.a,pX a.b b.b,pX a.c b.c,pX a.d b.d⟩
def aE.within(a b:aE):Bool:=decide (a.minus b=aE.zero)
def aE.unit(s:aE):aE:=⟨pX s.a 1,s.b,s.c,s.d⟩
theorem dN(t:aE)(W:World):(Op.equalIn 10000 77 (.agg #[.int .u64 t.a,.int .u64 t.b,.int .u64 t.c,.int .u64 t.d]) (.agg #[.int .u64 0,.int .u64 0,.int .u64 0,.int .u64 0])).run Tryz.prog W=.ok (decide (t=aE.zero)) W:=by
 rw[WC];congr 1;obtain⟨a,b,c,d⟩:=t;simp[aE.zero]
theorem aj.size{α:Type}{k:Nat}{R:List Value→α→Prop}{w:World}{v:Value}{l:List α}(h:aj k R w v l)(hk:0<k):∃ a c,v=.slice a l.length c∧l.length≤c∧l.length≤9223372036854775807:=by
 obtain⟨a,c,h1,h2,h3,-⟩:=h.form hk;exact⟨a,c,h1,h2,h3⟩
theorem dJ{w:World}{v:Value}{k n:Nat}{cs:List Value}(h:SliceAt w v k n cs)(hk:0<k):∃ a c,v=.slice a n c∧n≤c∧n≤9223372036854775807:=by
 obtain⟨a,c,h1,h2,h3,-⟩:=h.form hk;exact⟨a,c,h1,h2,h3⟩
theorem aA.f1{w:World}{c0 c1 c2 c3 c4 c5 c6 c7 c8 c9 c10 c11 c12 c13 c14 c15 c16:Value}{p:aD}(h:aA w c0 c1 c2 c3 c4 c5 c6 c7 c8 c9 c10 c11 c12 c13 c14 c15 c16 p):∃ a c,c1=.slice a p.types.length c∧p.types.length≤c∧p.types.length≤9223372036854775807:=aj.size h.types (by decide)
theorem aA.f2{w:World}{c0 c1 c2 c3 c4 c5 c6 c7 c8 c9 c10 c11 c12 c13 c14 c15 c16:Value}{p:aD}(h:aA w c0 c1 c2 c3 c4 c5 c6 c7 c8 c9 c10 c11 c12 c13 c14 c15 c16 p):∃ a c,c2=.slice a p.attrs.length c∧p.attrs.length≤c∧p.attrs.length≤9223372036854775807:=dJ h.attrs (by decide)
theorem aA.f3{w:World}{c0 c1 c2 c3 c4 c5 c6 c7 c8 c9 c10 c11 c12 c13 c14 c15 c16:Value}{p:aD}(h:aA w c0 c1 c2 c3 c4 c5 c6 c7 c8 c9 c10 c11 c12 c13 c14 c15 c16 p):∃ a c,c3=.slice a p.roles.length c∧p.roles.length≤c∧p.roles.length≤9223372036854775807:=dJ h.roles (by decide)
theorem aA.f4{w:World}{c0 c1 c2 c3 c4 c5 c6 c7 c8 c9 c10 c11 c12 c13 c14 c15 c16:Value}{p:aD}(h:aA w c0 c1 c2 c3 c4 c5 c6 c7 c8 c9 c10 c11 c12 c13 c14 c15 c16 p):∃ a c,c4=.slice a p.users.length c∧p.users.length≤c∧p.users.length≤9223372036854775807:=dJ h.users (by decide)
theorem aA.f5{w:World}{c0 c1 c2 c3 c4 c5 c6 c7 c8 c9 c10 c11 c12 c13 c14 c15 c16:Value}{p:aD}(h:aA w c0 c1 c2 c3 c4 c5 c6 c7 c8 c9 c10 c11 c12 c13 c14 c15 c16 p):∃ a c,c5=.slice a p.bools.length c∧p.bools.length≤c∧p.bools.length≤9223372036854775807:=dJ h.bools (by decide)
theorem aA.f6{w:World}{c0 c1 c2 c3 c4 c5 c6 c7 c8 c9 c10 c11 c12 c13 c14 c15 c16:Value}{p:aD}(h:aA w c0 c1 c2 c3 c4 c5 c6 c7 c8 c9 c10 c11 c12 c13 c14 c15 c16 p):∃ a c,c6=.slice a p.ak.length c∧p.ak.length≤c∧p.ak.length≤9223372036854775807:=dJ h.ak (by decide)
theorem aA.f8{w:World}{c0 c1 c2 c3 c4 c5 c6 c7 c8 c9 c10 c11 c12 c13 c14 c15 c16:Value}{p:aD}(h:aA w c0 c1 c2 c3 c4 c5 c6 c7 c8 c9 c10 c11 c12 c13 c14 c15 c16 p):∃ a c,c8=.slice a p.conds.length c∧p.conds.length≤c∧p.conds.length≤9223372036854775807:=aj.size h.conds (by decide)
theorem aA.f9{w:World}{c0 c1 c2 c3 c4 c5 c6 c7 c8 c9 c10 c11 c12 c13 c14 c15 c16:Value}{p:aD}(h:aA w c0 c1 c2 c3 c4 c5 c6 c7 c8 c9 c10 c11 c12 c13 c14 c15 c16 p):∃ a c,c9=.slice a p.rules.length c∧p.rules.length≤c∧p.rules.length≤9223372036854775807:=dJ h.rules (by decide)
theorem aA.f12{w:World}{c0 c1 c2 c3 c4 c5 c6 c7 c8 c9 c10 c11 c12 c13 c14 c15 c16:Value}{p:aD}(h:aA w c0 c1 c2 c3 c4 c5 c6 c7 c8 c9 c10 c11 c12 c13 c14 c15 c16 p):∃ a c,c12=.slice a p.ranges.length c∧p.ranges.length≤c∧p.ranges.length≤9223372036854775807:=dJ h.ranges (by decide)
theorem aA.f13{w:World}{c0 c1 c2 c3 c4 c5 c6 c7 c8 c9 c10 c11 c12 c13 c14 c15 c16:Value}{p:aD}(h:aA w c0 c1 c2 c3 c4 c5 c6 c7 c8 c9 c10 c11 c12 c13 c14 c15 c16 p):∃ a c,c13=.slice a p.cons.length c∧p.cons.length≤c∧p.cons.length≤9223372036854775807:=aj.size h.cons (by decide)
theorem aA.f16{w:World}{c0 c1 c2 c3 c4 c5 c6 c7 c8 c9 c10 c11 c12 c13 c14 c15 c16:Value}{p:aD}(h:aA w c0 c1 c2 c3 c4 c5 c6 c7 c8 c9 c10 c11 c12 c13 c14 c15 c16 p):∃ a c,c16=.slice a p.asserts.length c∧p.asserts.length≤c∧p.asserts.length≤9223372036854775807:=dJ h.asserts (by decide)
def aF(i n:Int):Bool:=decide (0≤i)&&decide (i<n)
def jY(a b:iL):Bool:=decide (b.ak≤a.ak)&&decide (pX b.cats a.cats=0)
def lX(n:Nat)(k:Int):Bool:=decide (-(n:Int)≤k)&&decide (k≤(n:Int))
def bX(s:ByteArray)(i:Nat):Nat:=if h:i<s.size then (s[i]'h).toNat else 0
theorem eZ{s:ByteArray}{i:Nat}(h:i<s.size):(s[i]'h).toNat=bX s i:=by unfold bX;rw[dif_pos h]
theorem gS(s:ByteArray)(i:Nat):bX s i<256:=by
 unfold bX;split
 ·exact UInt8.toNat_lt _
 ·decide
def mB(s:ByteArray)(i:Nat):Bool:=decide ((bX s i:Int)<32)||decide ((126:Int)<bX s i)||decide ((bX s i:Int)=34)
def dg(s:ByteArray):Bool:=!(cA (mB s) s.size 0)&&decide ((s.size:Int)≤256)
def gG(x:Nat):Bool:=(decide ((65:Int)≤x)&&decide ((x:Int)≤90))||(decide ((97:Int)≤x)&&decide ((x:Int)≤122))||decide ((x:Int)=95)
def jy(x:Nat):Bool:=decide ((48:Int)≤x)&&decide ((x:Int)≤57)
def dS(s ws:ByteArray):Nat→Nat→Nat→Bool
 | 0,_,_=>false
 | k+1,fr,i=>if bX ws i=32 then (if (ws.extract fr i).toList=s.toList∧s.toList.isEmpty=false then true else dS s ws k (i+1) (i+1)) else dS s ws k fr (i+1)
def tL(s ws:ByteArray):Bool:=dS s ws ws.size 0 0
def Jy:ByteArray:=⟨#[109,111,100,117,108,101,32,99,108,97,115,115,32,116,121,112,101,32,97,108,105,97,115,32,116,121,112,101,97,116,116,114,105,98,117,116,101,32,97,116,116,114,105,98,117,116,101,32,114,111,108,101,32,116,121,112,101,115,32,114,111,108,101,97,108,108,111,119,32,114,111,108,101,95,116,114,97,110,115,105,116,105,111,110,32,117,115,101,114,32,114,111,108,101,115,32,108,101,118,101,108,32,114,97,110,103,101,32,98,111,111,108,32,116,114,117,101,32,102,97,108,115,101,32,115,101,110,115,105,116,105,118,105,116,121,32,99,97,116,101,103,111,114,121,32,97,108,108,111,119,32,97,117,100,105,116,97,108,108,111,119,32,100,111,110,116,97,117,100,105,116,32,110,101,118,101,114,97,108,108,111,119,32,116,121,112,101,95,116,114,97,110,115,105,116,105,111,110,32,116,121,112,101,95,99,104,97,110,103,101,32,116,121,112,101,95,109,101,109,98,101,114,32,114,97,110,103,101,95,116,114,97,110,115,105,116,105,111,110,32,99,111,110,115,116,114,97,105,110,32,118,97,108,105,100,97,116,101,116,114,97,110,115,32,105,102,32,101,108,115,101,32,111,112,116,105,111,110,97,108,32,114,101,113,117,105,114,101,32,115,105,100,32,102,105,108,101,99,111,110,32,112,101,114,109,105,115,115,105,118,101,32,97,115,115,101,114,116,32,115,101,108,102,32,105,110,32]⟩
def eV(s:ByteArray):Bool:=tL s Jy
def j7(s:ByteArray)(i:Nat):Bool:=!gG (bX s i)&&(decide (i=0)||!jy (bX s i))
def ow(s:ByteArray):Bool:=!(cA (j7 s) s.size 0)&&(decide ((1:Int)≤(s.size:Int))&&decide ((s.size:Int)≤32))
def jf(s:ByteArray)(i:Nat):Bool:=decide ((bX s i:Int)<33)||decide ((126:Int)<bX s i)||decide ((bX s i:Int)=34)||decide ((bX s i:Int)=47)
def cR(s:ByteArray):Bool:=!(cA (jf s) s.size 0)&&(decide ((1:Int)≤(s.size:Int))&&decide ((s.size:Int)≤32))
def kC(s:ByteArray):Bool:=ow s&&!eV s
theorem kZ(x y:ByteArray):(x.toList == y.toList)=decide (x=y):=by
 rw[Bool.eq_iff_iff,decide_eq_true_eq,beq_iff_eq];exact⟨fun h=>by rw[ByteArray.toList_eq,ByteArray.toList_eq] at h;exact ByteArray.ext (Array.toList_inj.1 h),fun h=>by rw[h]⟩
theorem vO{P:Program}{w:World}{t:TypeId}{d:TypeDesc}(h:P.underlying t=some d):(underlying t).run P w=.ok d w:=by
 unfold underlying;simp[aj_,h]
theorem EY{P:Program}{a:Act}{w:World}{o:Oper}{ss tt:TypeId}{x:Operand}{m:Nat}(ho:o.op=.convert ss tt x)(hx:a.eval x=.int .u8 (m:Int))(hs:P.underlying ss=some (.int .u8))(ht:P.underlying tt=some (.int .i32))(hm:m<256):(execOp a.eval o).run P w=.ok (.value (.int .i32 (m:Int))) w:=by
 have hw:IntKind.i32.wrap (m:Int)=m:=by
  simp[IntKind.wrap,IntKind.bits,IntKind.signed];omega
 unfold execOp;simp[ho,hx,convert,aj_,Sem.run_pure,vO hs,vO ht,Conv.intToInt,hw]
theorem BO{s:ByteArray}(h:ow s=true):1≤s.size∧s.size≤32∧jy (bX s 0)=false∧∀ i,i<s.size→gG (bX s i)=true∨jy (bX s i)=true:=by
 unfold ow at h;simp only[aj6,Bool.not_eq_true',decide_eq_true_iff] at h;obtain⟨h1,h2,h3⟩:=h
 have hb:∀ i,i<s.size→j7 s i=false:=fun i hi=>by
  cases e:j7 s i with
  | false=>rfl
  | true=>rw[(ox _ _).2 ⟨i,akb _,by omega,e⟩] at h1;cases h1
 have h0:=hb 0 (by omega);refine⟨by omega,by omega,?_,fun i hi=>?_⟩
 ·unfold j7 at h0;have e:gG (bX s 0)=true:=by simpa using h0
  cases hd:jy (bX s 0) with
  | false=>rfl
  | true=>
   unfold jy at hd;unfold gG at e;simp only[aj6,Bool.or_eq_true,decide_eq_true_iff] at hd e;omega
 ·have:=hb i hi;unfold j7 at this
  cases hl:gG (bX s i) with
  | true=>exact .inl rfl
  | false=>
   rw[hl] at this;right;simp at this;exact this.2
theorem Bp(w0:World)(x:Nat):Calls Tryz.prog 335 #[.int .i32 (x:Int)] w0 (fun(r:Ending) (w':World)=>r=.returned (.bool (jy x))∧aj7 w0.heap.size w0 w'):=by
 refine bM [] (fn:=Tryz.f335) Tryz.func335 rfl Tryz.ntmps335 rfl<|fun M=>⟨rb ?_,M.below⟩
 rfl
theorem FQ(w0:World)(x:Nat):Calls Tryz.prog 336 #[.int .i32 (x:Int)] w0 (fun(r:Ending) (w':World)=>r=.returned (.bool (gG x))∧aj7 w0.heap.size w0 w'):=by
 refine bM [] (fn:=Tryz.f336) Tryz.func336 rfl Tryz.ntmps336 rfl<|fun M=>⟨rb ?_,M.below⟩
 unfold gG;congr 1;exact Bool.or_comm _ _
theorem aQ.Ri{B:Nat}{w0 w w':World}{bs bs':List Bx}{rs rs':List Rw}(M:aQ B w0 w bs rs)(N:aQ w.heap.size w w' bs' rs'):aQ B w0 w' bs' rs':=
 ⟨M.below.trans (N.below.mono M.big),M.le,fun g cs h=>N.old g cs (M.old g cs h),N.box,fun b hb=>Nat.le_trans M.big (N.lo b hb),N.nd,fun r hr=>AF (N.row r hr) M.big,N.far,N.yZ⟩
theorem eI{P:Program}{a:Act}{w:World}{o:Oper}{ss tt:TypeId}{x:Operand}{k k':IntKind}{m:Int}(ho:o.op=.convert ss tt x)(hx:a.eval x=.int k m)(hs:P.underlying ss=some (.int k))(ht:P.underlying tt=some (.int k')):(execOp a.eval o).run P w=.ok (.value (.int k' (k'.wrap m))) w:=by
 unfold execOp;simp[ho,hx,convert,aj_,Sem.run_pure,vO hs,vO ht,Conv.intToInt]
abbrev bf (v:Value) (l:List Nat):Rw:=⟨v,5,1,l.length,byteCells l⟩
theorem Rp(v:Value)(a b:List Nat):(⟨v,5,1,a.length+b.length,byteCells a++byteCells b⟩:Rw)=bf v (a++b):=by
 rw[← byteCells_append,← akc]
def NT(B:Nat)(w0:World)(bs:List Bx)(rs:List Rw)(l:List Nat):Ending→World→Prop:=fun r w'=>∃ v',r=.returned v'∧aQ B w0 w' bs (bf v' l::rs)
abbrev aT:Nat:=1099511627776
theorem cb{B:Nat}{w0 w:World}{bs:List Bx}{rs:List Rw}{l:List Nat}{X:Prop}{f:FuncId}{args:Array Value}{K:Value→List Bx→List Rw→World→Prop}(hc:Calls Tryz.prog f args w (NT B w0 bs rs l))(h:∀ v w',aQ B w0 w' bs (bf v l::rs)→K v bs (bf v l::rs) w'):
 X∨∃ R:Value→World→Prop,(Calls Tryz.prog f args w fun e w'=>∃ v,e=.returned v∧R v w')∧∀ v w',R v w'→∃ bs' rs',aQ B w0 w' bs' rs'∧K v bs' rs' w':=
 .inr ⟨fun v w'=>aQ B w0 w' bs (bf v l::rs),hc,fun v w' h'=>⟨_,_,h',h v w' h'⟩⟩
theorem um{B:Nat}{w0 w:World}{bs:List Bx}{rs:List Rw}{v u:Value}{xs ys:List Nat}(M:aQ B w0 w bs (bf v xs::rs))(hs:aq w u ys)(hb:xs.length+ys.length≤aT):
 Calls Tryz.prog 126 #[v,u] w (NT B w0 bs rs (xs++ys)):=by
 refine d_ M [] (fn:=Tryz.f126) Tryz.func126 rfl Tryz.ntmps126 rfl<|ap 0 id rfl hs.1 ⟨by unfold maxLen;unfold aT at hb;omega,by unfold aT at hb;omega⟩ fun v1 w1 M1=>fun M=>⟨v1,rfl,M.cast rfl (by rw[Rp])⟩
theorem Ky(n:Nat):IntKind.u8.wrap (n:Int)=((n%256:Nat):Int):=by simp[IntKind.wrap,IntKind.bits,IntKind.signed]
theorem wg{B:Nat}{w0 w:World}{bs:List Bx}{rs:List Rw}{g:Nat}{l:List Nat}(M:aQ B w0 w ((g,5,(byteCells l).toArray)::bs) rs)(hl:l.length≤100000)(hx:Bytes l):aq w (.slice (some ⟨g,0,none⟩) l.length l.length) l:=
 aq.new (M.b 0 rfl) (Below.refl _ _) hl hx
theorem jT{B:Nat}{w0 w:World}{bs:List Bx}{rs:List Rw}{v:Value}{xs:List Nat}{n:Nat}(M:aQ B w0 w bs (bf v xs::rs))(hn:fA n)(hb:xs.length+10≤aT):
 Calls Tryz.prog 85 #[v,.int .u64 (n:Int)] w (NT B w0 bs rs (xs++bn n)):=by
 have CZ:=bG hn;refine d_ M [] (fn:=Tryz.f85) Tryz.func85 rfl Tryz.ntmps85 rfl<|lq (ι:=List Nat×Value×Nat) (fun x=>[(0,x.2.1),(1,.int .u64 (x.2.2:Int))]) (fun x=>bf x.2.1 x.1::rs) (fun x _=>x.1++bn x.2.2=xs++bn n∧fA x.2.2) (fun x=>x.2.2) (xs,v,n)<|an ⟨⟨rfl,rfl,trivial⟩,fun M=>⟨M,rfl,hn⟩⟩ ?_;rintro⟨ys,u,m⟩ w1 M1 ⟨hR,hm⟩;refine an (fun h=>?_) fun h=>?_
 ·have h:128≤m:=Int.ofNat_le.1 (of_decide_eq_true h);dsimp only at hR hm;have h0:m%256%128=m%128:=by omega
  have hlen:(ys++bn m).length≤xs.length+10:=by rw[hR];simp;omega
  rw[bn,if_neg (by omega)] at hlen;simp only[akc,List.length_cons] at hlen;refine ei<|an (fun a w o ho hv=>eI ho (aY hv) zL u5)<|ei (x:=((m%128+128:Nat):Int))<|an ?_ fun g w2 M2=>cb (um M2 (wg (l:=[m%128+128]) M2 (by simp) (by simp[Bytes];omega)) (by simp only[List.length_singleton];omega)) fun v3 w3 M3=>?_
  ·rw[Ky];have:=Yh (m%256) (by omega);rw[h0] at this;exact this
  refine ei (x:=.int .u64 ((m/128:Nat):Int))<|an (fun a w o ho hv=>(sZ ho (aY hv) (cC hv) (by omega) (by decide)).trans (by simp))<|bk (ys++[m%128+128],v3,m/128) ⟨rfl,rfl,trivial⟩ (fun M=>⟨M.only (.cons _ (.refl _)) (.refl _),?_,?_⟩) ?_
  ·rw[← hR,List.append_assoc]
   conv=>rhs;rw[bn,if_neg (by omega)]
   rfl
  ·unfold fA at *;dsimp only;omega
  ·dsimp only;omega
 ·have h:m<128:=Nat.lt_of_not_le fun h'=>of_decide_eq_false h (Int.ofNat_le.2 h')
  dsimp only at hR hm;have hlen:(ys++bn m).length≤xs.length+10:=by rw[hR];simp;omega
  rw[bn,if_pos (by omega)] at hlen hR;simp only[akc,List.length_cons] at hlen;exact ei (x:=.int .u8 (m:Int))<|an (fun a w o ho hv=>(eI ho (aY hv) zL u5).trans (by rw[Ky,Nat.mod_eq_of_lt (show m<256 by omega)])) fun g w2 M2=>cb (um M2 (wg (l:=[m]) M2 (by simp) (by simp[Bytes];omega)) (by simp only[List.length_singleton];omega)) fun v3 w3 M3=>fun M=>⟨v3,rfl,(M.only (.cons _ (.refl _)) (.refl _)).cast rfl (by rw[hR])⟩
theorem Mf(w:World)(s:ByteArray)(hs:s.size≤aT):∃ v w',(convert 9 42 (.string s)).run Tryz.prog w=.ok v w'∧aq w' v (cN s)∧Below w.heap.size w w':=by
 refine⟨_,_,run_bytes_of_string w 9 42 5 s u9 KG u5,?_,(Below.refl _ w).drew.alloc (Nat.le_refl _) _⟩;refine⟨⟨by simp[byteCells],by rw[gD];unfold maxLen;unfold aT at hs;omega,kQ _,.inr ⟨_,_,by rw[gD],?_,fun j u hu=>?_⟩⟩,uV s⟩
 ·rw[gD];exact grownCap_ge ..
 ·rw[Addr.add_lit,Nat.zero_add];have hg:(w.drew.alloc (.cells (bytesRow s (grownCap w s.size 0 5)) 5 ((bytesRow s (grownCap w s.size 0 5)).size,(bytesRow s (grownCap w s.size 0 5)).size+1))).heap[w.heap.size]?=some (.cells (bytesRow s (grownCap w s.size 0 5)) 5 ((bytesRow s (grownCap w s.size 0 5)).size,(bytesRow s (grownCap w s.size 0 5)).size+1)):=heap_alloc_new w.drew _;rw[cell_of_row _ _ j _ _ _ hg]
  have hj:j<s.size:=by
   have:=(aj1.1 hu).1;simpa[byteCells,cN] using this
  unfold bytesRow;rw[Array.getElem?_append_left (by simpa using hj)];simpa[byteCells,cN] using hu
theorem cvs{B:Nat}{w0 w:World}{bs:List Bx}{rs:List Rw}{ty:TypeId}{x:Operand}{s:ByteArray}{K:Value→List Bx→List Rw→World→Prop}(M:aQ B w0 w bs rs)(hs:s.size≤aT)(h:∀ v w',aq w' v (cN s)→aQ B w0 w' bs rs→K v bs rs w'):
 ∃ R:Value→World→Prop,(∀ (a:Act) (o':Oper),o'.op=.convert 9 42 x→o'.type=ty→wj a (jW (.convert 9 42 x)) [.string s]→∃ v w',(execOp a.eval o').run Tryz.prog w=.ok (.value v) w'∧R v w')∧∀ v w',R v w'→∃ bs' rs',aQ B w0 w' bs' rs'∧K v bs' rs' w':=by
 obtain⟨v,w',hr,hv,hb⟩:=Mf w s hs;refine⟨fun u w2=>u=v∧w2=w',fun a o' hop _ pW=>⟨_,_,?_,rfl,rfl⟩,?_⟩
 ·unfold execOp;simp[hop,aY pW,hr,aj_,Result.andThen]
 ·rintro v w2 ⟨rfl,rfl⟩;exact⟨_,_,M.keep hb,h _ _ hv (M.keep hb)⟩
theorem Bg{n:Nat}(h:fA n):IntKind.u64.wrap (n:Int)=(n:Int):=by unfold fA at h;simp only[IntKind.wrap,IntKind.bits,IntKind.signed];simp;omega
theorem Gf{B:Nat}{w0 w:World}{bs:List Bx}{rs:List Rw}{v:Value}{xs:List Nat}{s:ByteArray}(M:aQ B w0 w bs (bf v xs::rs))(hb:xs.length+10+s.size≤aT):
 Calls Tryz.prog 197 #[v,.string s] w (NT B w0 bs rs (xs++(bn s.size++cN s))):=by
 have hu:fA s.size:=by unfold fA;unfold aT at hb;omega
 have CZ:=bG hu;refine d_ M [] (fn:=Tryz.f197) Tryz.func197 rfl Tryz.ntmps197 rfl<|ei (x:=.int .u64 (s.size:Int))<|an (fun a w o ho hv=>(eI ho (aY hv) u3 zL).trans (by rw[Bg hu]))<|cb (jT M hu (by omega)) fun v2 w2 M2=>cvs M2 (by omega) fun v3 w3 h3 M3=>cb (um M3 h3 (by simp only[akc,gD];omega)) fun v4 w4 M4=>fun M=>⟨v4,rfl,M.cast rfl (by rw[List.append_assoc])⟩
theorem CV{B:Nat}{w0 w:World}{bs:List Bx}{rs:List Rw}{v:Value}{xs:List Nat}{m:Int}(M:aQ B w0 w bs (bf v xs::rs))(hm:gA m)(hb:xs.length+10≤aT):
 Calls Tryz.prog 199 #[v,.int .i64 m] w (NT B w0 bs rs (xs++bn (Fy m))):=by
 refine d_ M [] (fn:=Tryz.f199) Tryz.func199 rfl Tryz.ntmps199 rfl<|ei<|an (fun a w o ho hv=>eI ho (aY hv) u2 zL)<|ei<|an (fun a w o ho hv=>DL ho (aY hv) (cC hv) (by omega) (by decide))<|ei<|an (fun a w o ho hv=>sZ ho (aY hv) (cC hv) (by omega) (by decide))<|ei<|an (fun a w o ho hv=>eI ho (aY hv) u2 zL)<|ei (x:=(Fy m:Int))<|an ?_<|cb (jT M (Bf hm) hb) fun v2 w2 M2=>fun M=>⟨v2,rfl,M⟩
 exact Og hm
theorem Mi(w:World)(g:Nat)(n:Nat)(hn:n≤4):(Instr.sliceAt 77 (.pointer (some ⟨g,0,none⟩)) none (some (.int .i64 (n:Int))) none).run Tryz.prog w=.ok (.slice (some ⟨g,0,none⟩) n 4) w:=by
 obtain rfl|rfl|rfl|rfl|rfl:n=0∨n=1∨n=2∨n=3∨n=4:=by omega
 all_goals kernel_rfl
theorem csl{B:Nat}{w0 w:World}{bs:List Bx}{rs:List Rw}{ty:TypeId}{x y:Operand}{g n:Nat}{K:Value→List Bx→List Rw→World→Prop}(M:aQ B w0 w bs rs)(hn:n≤4)(h:K (.slice (some ⟨g,0,none⟩) n 4) bs rs w):
 ∃ R:Value→World→Prop,(∀ (a:Act) (o':Oper),o'.op=.slice 77 x none (some y) none→o'.type=ty→wj a (jW (.slice 77 x none (some y) none)) [.pointer (some ⟨g,0,none⟩),.int .i64 (n:Int)]→∃ v w',(execOp a.eval o').run Tryz.prog w=.ok (.value v) w'∧R v w')∧∀ v w',R v w'→∃ bs' rs',aQ B w0 w' bs' rs'∧K v bs' rs' w':=by
 refine⟨fun u w2=>u=.slice (some ⟨g,0,none⟩) n 4∧w2=w,fun a o' hop _ pW=>⟨_,_,?_,rfl,rfl⟩,?_⟩
 ·unfold execOp;simp[hop,aY pW,cC pW,Mi w g n hn,aj_,Result.andThen]
 ·rintro v w2 ⟨rfl,rfl⟩;exact⟨_,_,M,h⟩
theorem IK{B:Nat}{w0 w:World}{bs:List Bx}{rs:List Rw}{v:Value}{xs:List Nat}{a b c d:Nat}(M:aQ B w0 w bs (bf v xs::rs))(ha:fA a)(hb:fA b)(hc:fA c)(hd:fA d)(hl:xs.length+60≤aT):
 Calls Tryz.prog 198 #[v,.agg #[.int .u64 (a:Int),.int .u64 (b:Int),.int .u64 (c:Int),.int .u64 (d:Int)]] w (NT B w0 bs rs (xs++mh a b c d)):=by
 refine d_ M [] (fn:=Tryz.f198) Tryz.func198 rfl Tryz.ntmps198 rfl<|fun g1 w1 M1=>lr (ι:=Nat) (fun k=>[(5,.int .i64 (k:Int))]) (fun k _=>k≤4∧dw a b c d≤k) (fun k=>k) 4<|an ⟨⟨rfl,trivial⟩,fun M=>⟨M,Nat.le_refl _,sE a b c d⟩⟩ ?_
 intro k w2 M2 ⟨hk,hpre⟩
 obtain⟨y,hy,S5⟩:∃ y,fA y∧(0<k→([a,b,c,d]:List Nat)[k-1]?=some y):=by
  by_cases h0:0<k
  ·obtain⟨y,h1,h2⟩:=AA ha hb hc hd (j:=k-1) (by omega);exact⟨y,h2,fun _=>h1⟩
  ·exact⟨0,by unfold fA;omega,fun h=>absurd h h0⟩
 have hW:=M2.b 0 rfl;have hpos:decide (0<(k:Int))=true→0<k:=fun h=>Int.ofNat_lt.1 (of_decide_eq_true h)
 refine an (fun h=>by have:=hpos h;omega)<|ei (x:=k-1)<|an (fun h=>⟨by have:=hpos h;omega,by have:=hpos h;omega⟩)<|lc (x:=.int .u64 (y:Int))<|an (fun h=>?_)<|an (fun h=>?_) fun h=>?_
 ·rw[Nat.zero_add,Nat.mul_one,hW.cell];exact vQ (S5 (hpos h))
 ·have h1:0<k:=hpos (by simpa using(Bool.and_eq_true_iff.1 h).1);have h2:y=0:=Int.ofNat_inj.1 (of_decide_eq_true (Bool.and_eq_true_iff.1 h).2);subst h2;exact an (by omega)<|bk (k-1) ⟨congrArg (fun z=>some (Value.int .i64 z)) (show(k:Int)-1=((k-1:Nat):Int) by omega),trivial⟩ (fun M=>⟨M,by omega,Dn (S5 h1) (by omega)⟩) (show k-1<k by omega)
 ·have hk2:dw a b c d=k:=by
   refine Nat.le_antisymm hpre ?_;rcases Nat.eq_zero_or_pos k with h0|h0
   ·omega
   ·have:=Dp (S5 h0) (fun e=>by subst e;simp[h0] at h);omega
  clear h S5 hpre hy;have Wj:fA k:=by unfold fA;omega
  have CZ:=bG Wj;refine ei (x:=.int .u64 (k:Int))<|an (fun a w o ho hv=>(eI ho (aY hv) u3 zL).trans (by rw[Bg Wj]))<|cb (jT M2 Wj (by omega)) fun v3 w3 M3=>csl M3 hk<|lq (ι:=Nat×Value) (fun z=>[(0,z.2),(26,.int .i64 (z.1:Int))]) (fun z=>bf z.2 (xs++bn k++(([a,b,c,d]:List Nat).take z.1).flatMap bn)::rs) (fun z _=>z.1≤k) (fun z=>k-z.1) (0,v3)<|an ⟨⟨rfl,rfl,trivial⟩,fun M=>⟨M.cast rfl (by simp),akb _⟩⟩ ?_
  rintro⟨j,u⟩ w4 M4 hj;have hj:j≤k:=hj;have hf:=Cm (j:=j) (Nat.le_trans hj hk) ha hb hc hd;have hlen:(xs++bn k++(([a,b,c,d]:List Nat).take j).flatMap bn).length+10≤aT:=by simp only[akc];omega
  have hfin:xs++bn k++(([a,b,c,d]:List Nat).take k).flatMap bn=xs++mh a b c d:=by rw[List.append_assoc];unfold mh;rw[hk2]
  refine an (fun h=>?_) fun h=>?_
  ·have hlt:j<k:=Int.ofNat_lt.1 (of_decide_eq_true h);obtain⟨y,h1,h2⟩:=AA ha hb hc hd (j:=j) (by omega);exact ia<|an ⟨rfl,rfl,hlt⟩<|lc (x:=.int .u64 (y:Int))<|an (by rw[(M4.b 0 rfl).cell];simpa using vQ h1)<|cb (jT M4 h2 hlen) fun v5 w5 M5=>an (by omega)<|bk (j+1,v5) ⟨rfl,rfl,trivial⟩ (fun M=>⟨M.cast rfl (by rw[List.take_add_one,h1,akd,List.append_assoc (xs++bn k)];simp),hlt⟩) (by dsimp only;omega)
  ·have hge:j=k:=Nat.le_antisymm hj (Nat.le_of_not_lt fun h'=>of_decide_eq_false h (Int.ofNat_lt.2 h'));subst hge;exact fun M=>⟨u,rfl,(M.only (.cons _ (.refl _)) (.refl _)).cast rfl (congrArg (fun l=>bf u l::rs) hfin)⟩
end Go.Proofs.YtkkmjdceiocnbaaGreatDoor
namespace Go.Proofs.YtkkmjdceiocnbaaGreatDoor
open Go Go.Proofs Go.Shelf
def Gz:Go.Shelf.Ren:=⟨fun|180=>84|251=>82|252=>83|181=>194|184=>195|290=>196|324=>292|n=>n,fun|130=>152|37=>42|3=>3|75=>100|0=>0|93=>96|91=>94|131=>153|4=>4|20=>20|5=>5|80=>217|9=>9|n=>n,fun|14=>0|n=>n⟩
theorem SJ:Go.Proofs.LaysM.n180 Tryz.prog Gz:={
 mixed:=by kernel_rfl
 f180:=Tryz.func84.trans (congrArg some (by kernel_rfl))
 f181:=Tryz.func194.trans (congrArg some (by kernel_rfl))
 f184:=Tryz.func195.trans (congrArg some (by kernel_rfl))
 f251:=Tryz.func82.trans (congrArg some (by kernel_rfl))
 f252:=Tryz.func83.trans (congrArg some (by kernel_rfl))
 f290:=Tryz.func196.trans (congrArg some (by kernel_rfl))
 f324:=Tryz.func292.trans (congrArg some (by kernel_rfl))
 t0:=Tryz.underlying0
 a0:=Tryz.isAgg0
 z0:=Tryz.sizeOf0
 v0:=Tryz.zeroValue0
 t3:=Tryz.underlying3
 a3:=Tryz.isAgg3
 z3:=Tryz.sizeOf3
 v3:=Tryz.zeroValue3
 t4:=Tryz.underlying4
 a4:=Tryz.isAgg4
 z4:=Tryz.sizeOf4
 v4:=Tryz.zeroValue4
 t20:=Tryz.underlying20
 a20:=Tryz.isAgg20
 z20:=Tryz.sizeOf20
 v20:=Tryz.zeroValue20
 t37:=Tryz.underlying42
 a37:=Tryz.isAgg42
 z37:=Tryz.sizeOf42
 v37:=Tryz.zeroValue42
 t75:=Tryz.underlying100
 a75:=Tryz.isAgg100
 z75:=Tryz.sizeOf100
 v75:=Tryz.zeroValue100
 t91:=Tryz.underlying94
 a91:=Tryz.isAgg94
 z91:=Tryz.sizeOf94
 v91:=Tryz.zeroValue94
 t93:=Tryz.underlying96
 a93:=Tryz.isAgg96
 z93:=Tryz.sizeOf96
 v93:=Tryz.zeroValue96
 t130:=Tryz.underlying152
 a130:=Tryz.isAgg152
 z130:=Tryz.sizeOf152
 v130:=Tryz.zeroValue152
 t131:=Tryz.underlying153
 a131:=Tryz.isAgg153
 z131:=Tryz.sizeOf153
 v131:=Tryz.zeroValue153
 g14:=by kernel_rfl
 t5:=Tryz.underlying5
 a5:=Tryz.isAgg5
 z5:=Tryz.sizeOf5
 v5:=Tryz.zeroValue5
 t9:=Tryz.underlying9
 a9:=Tryz.isAgg9
 z9:=Tryz.sizeOf9
 v9:=Tryz.zeroValue9
 t80:=Tryz.underlying217
 a80:=Tryz.isAgg217
 z80:=Tryz.sizeOf217
 v80:=Tryz.zeroValue217
 i0:=by kernel_rfl
 i3:=by kernel_rfl
 i4:=by kernel_rfl
 i5:=by kernel_rfl
 i9:=by kernel_rfl
 i20:=by kernel_rfl
 i37:=by kernel_rfl
 i75:=by kernel_rfl
 i80:=by kernel_rfl
 i91:=by kernel_rfl
 i93:=by kernel_rfl
 i130:=by kernel_rfl
 i131:=by kernel_rfl
 m14:=by kernel_rfl }
def GA:Go.Shelf.Ren:=⟨fun|178=>33|251=>82|252=>83|181=>194|184=>195|290=>196|324=>292|n=>n,fun|130=>152|9=>9|3=>3|75=>100|0=>0|93=>96|91=>94|131=>153|4=>4|37=>42|20=>20|80=>217|5=>5|n=>n,fun|14=>0|n=>n⟩
theorem SK:Go.Proofs.LaysM.n178 Tryz.prog GA:={
 mixed:=by kernel_rfl
 f178:=Tryz.func33.trans (congrArg some (by kernel_rfl))
 f181:=Tryz.func194.trans (congrArg some (by kernel_rfl))
 f184:=Tryz.func195.trans (congrArg some (by kernel_rfl))
 f251:=Tryz.func82.trans (congrArg some (by kernel_rfl))
 f252:=Tryz.func83.trans (congrArg some (by kernel_rfl))
 f290:=Tryz.func196.trans (congrArg some (by kernel_rfl))
 f324:=Tryz.func292.trans (congrArg some (by kernel_rfl))
 t0:=Tryz.underlying0
 a0:=Tryz.isAgg0
 z0:=Tryz.sizeOf0
 v0:=Tryz.zeroValue0
 t3:=Tryz.underlying3
 a3:=Tryz.isAgg3
 z3:=Tryz.sizeOf3
 v3:=Tryz.zeroValue3
 t4:=Tryz.underlying4
 a4:=Tryz.isAgg4
 z4:=Tryz.sizeOf4
 v4:=Tryz.zeroValue4
 t9:=Tryz.underlying9
 a9:=Tryz.isAgg9
 z9:=Tryz.sizeOf9
 v9:=Tryz.zeroValue9
 t20:=Tryz.underlying20
 a20:=Tryz.isAgg20
 z20:=Tryz.sizeOf20
 v20:=Tryz.zeroValue20
 t37:=Tryz.underlying42
 a37:=Tryz.isAgg42
 z37:=Tryz.sizeOf42
 v37:=Tryz.zeroValue42
 t75:=Tryz.underlying100
 a75:=Tryz.isAgg100
 z75:=Tryz.sizeOf100
 v75:=Tryz.zeroValue100
 t91:=Tryz.underlying94
 a91:=Tryz.isAgg94
 z91:=Tryz.sizeOf94
 v91:=Tryz.zeroValue94
 t93:=Tryz.underlying96
 a93:=Tryz.isAgg96
 z93:=Tryz.sizeOf96
 v93:=Tryz.zeroValue96
 t130:=Tryz.underlying152
 a130:=Tryz.isAgg152
 z130:=Tryz.sizeOf152
 v130:=Tryz.zeroValue152
 t131:=Tryz.underlying153
 a131:=Tryz.isAgg153
 z131:=Tryz.sizeOf153
 v131:=Tryz.zeroValue153
 g14:=by kernel_rfl
 t5:=Tryz.underlying5
 a5:=Tryz.isAgg5
 z5:=Tryz.sizeOf5
 v5:=Tryz.zeroValue5
 t80:=Tryz.underlying217
 a80:=Tryz.isAgg217
 z80:=Tryz.sizeOf217
 v80:=Tryz.zeroValue217
 i0:=by kernel_rfl
 i3:=by kernel_rfl
 i4:=by kernel_rfl
 i5:=by kernel_rfl
 i9:=by kernel_rfl
 i20:=by kernel_rfl
 i37:=by kernel_rfl
 i75:=by kernel_rfl
 i80:=by kernel_rfl
 i91:=by kernel_rfl
 i93:=by kernel_rfl
 i130:=by kernel_rfl
 i131:=by kernel_rfl
 m14:=by kernel_rfl }
end Go.Proofs.YtkkmjdceiocnbaaGreatDoor
namespace Go.Proofs.YtkkmjdceiocnbaaGreatDoor
open Go Go.RowKit
def nr(bs:List Bx)(rs:List Rw):Prop:=(∀ b∈bs,b.2.1≠5∧Nat.blt b.2.1 9000=true)∧∀ r∈rs,r.e≠5
theorem nr.nil:nr [] []:=⟨by simp,by simp⟩
theorem nr.cons{bs:List Bx}{rs:List Rw}(h:nr bs rs){g t:Nat}{cs:Array Value}(ht:Nat.beq t 5=false:=by rfl)(h9:Nat.blt t 9000=true:=by rfl):nr ((g,t,cs)::bs) rs:=
 ⟨fun b hb=>(aj0.1 hb).elim (fun e=>by subst e;exact⟨fun e=>(by rw[show t=5 from e] at ht;cases ht),h9⟩) (h.1 b),h.2⟩
abbrev cH (W:Nat) (v:Value) (lr ver:Int):Bx:=(W,98,#[v,.int .i64 0,.int .i8 lr,.int .i64 ver])
abbrev Db (ver:Int):Nat→Option Value:=fun i=>if i=3 then some (.int .i64 ver) else none
def TM(B:Nat)(w0 w:World)(bs:List Bx)(rs:List Rw)(W:Nat)(ver:Int)(xs:List Nat):Prop:=∃ v lr,aQ B w0 w (cH W v lr ver::bs) (bf v xs::rs)
section
variable {B W:Nat} {w0 w w':World} {bs:List Bx} {rs:List Rw} {v:Value} {lr ver:Int} {xs ys:List Nat}
theorem Ro(M:aQ B w0 w (cH W v lr ver::bs) (bf v xs::rs)):LibA.IsBuffer 98 (Db ver) 5 B W 0 (byteCells xs) w:=by
 refine⟨M.lo _ (aj5 ..),v,lr,⟨_,M.b 0 rfl,rfl,rfl,rfl,fun i hi=>?_⟩,?_,M.far _ (aj5 ..) _ (aj5 ..)⟩
 ·unfold Db
  match i with
  | 3=>rfl
  | i+4=>simp
 ·have:=M.r 0 rfl;simpa[byteCells] using this
theorem DR(M:aQ B w0 w (cH W v lr ver::bs) (bf v xs::rs))(h5:nr bs rs)(hI:LibA.IsBuffer 98 (Db ver) 5 B W 0 (byteCells ys) w')(hb:aj7 B w w')(hk:Lib.OthersKept 5 (some W) w w'):TM B w0 w' bs rs W ver ys:=by
 obtain⟨hB,v',Yn,⟨cs,hc,h0,h1,h2,hr⟩,ho,hne⟩:=hI
 have hcs:cs=#[v',.int .i64 0,.int .i8 Yn,.int .i64 ver]:=by
  refine Array.ext_getElem? fun i=>?_
  match i with
  | 0=>exact h0
  | 1=>exact h1
  | 2=>exact h2
  | 3=>exact(hr 3 (.inr (by omega))).trans rfl
  | i+4=>rw[hr (i+4) (.inr (by omega))];simp[Db]
 subst hcs;have hnd:=M.nd;simp only[List.map_cons,List.nodup_cons] at hnd;have hW:∀ b∈bs,b.1≠W:=fun b hb e=>hnd.1 (e▸List.mem_map_of_mem hb)
 have Y7:∀ b∈bs,w'.heap[b.1]?=w.heap[b.1]?:=fun b hb=>by
  have hw:=wC.whole (M.box b (aj4 _ hb)) (h5.1 b hb).2;have h:=hk b.1 _ hw (fun e=>hW b hb (aj2 e)) (fun c fz e=>(h5.1 b hb).1 (by injection e));rw[h,hw]
 have hrow:∀ r∈rs,w'.ownsRow B r.e r.k r.v r.n r.xs∧∀ q,r.v.ownBlock=some q→∃ cur,w'.heap[q]?=some (.cells cur r.e (0,0)):=fun r hr=>by
  obtain⟨hl,h⟩:=M.row r (aj4 _ hr);rcases h with⟨h1,h2⟩|⟨g,cap,cur,h1,h2,h3,h4⟩
  ·exact⟨⟨hl,.inl ⟨h1,h2⟩⟩,fun q hq=>by rw[h1] at hq;cases hq⟩
  ·have hgW:g≠W:=fun e=>M.far r (aj4 _ hr) _ (aj5 ..) (by rw[h1,e];rfl)
   have h:=hk g _ h3 (fun e=>hgW (aj2 e)) (fun c fz e=>h5.2 r hr (by injection e));exact⟨⟨hl,.inr ⟨g,cap,cur,h1,h2,h,h4⟩⟩,fun q hq=>by rw[h1] at hq;cases hq;exact⟨cur,h⟩⟩
 have hv:∀ q,v'.ownBlock=some q→∃ cur,w'.heap[q]?=some (.cells cur 5 (0,0)):=fun q hq=>by
  obtain⟨hl,h⟩:=ho;rcases h with⟨h1,h2⟩|⟨g,cap,cur,h1,h2,h3,h4⟩
  ·rw[h1] at hq;cases hq
  ·rw[h1] at hq;cases hq;exact⟨cur,h3⟩
 refine⟨v',Yn,M.below.trans hb,M.le,fun g cs hg=>?_,?_,fun b hb=>?_,M.nd,?_,?_,?_⟩
 ·have h1:=M.old g cs hg;refine hk g _ h1 (fun e=>?_) (fun c fz e=>by injection e with _ e2;cases e2);have h2:Whole w W 98 _:=M.b 0 rfl;rw[← aj2 e] at h2;have h3:=h1.symm.trans h2;injection h3 with h3;injection h3 with _ h3;cases h3
 ·intro b hb;rcases aj0.1 hb with rfl|hb
  ·exact .inl ⟨rfl,hc⟩
  ·exact(M.box b (aj4 _ hb)).kept (Y7 b hb)
 ·rcases aj0.1 hb with rfl|hb
  ·exact hB
  ·exact M.lo b (aj4 _ hb)
 ·intro r hr;rcases aj0.1 hr with rfl|hr
  ·simpa[byteCells] using ho
  ·exact(hrow r hr).1
 ·intro r hr b hb;rcases aj0.1 hr with rfl|hr
  ·rcases aj0.1 hb with rfl|hb
   ·exact hne
   ·intro e;obtain⟨cur,hq⟩:=hv _ e;have hw:=wC.whole (M.box b (aj4 _ hb)) (h5.1 b hb).2;rw[Y7 b hb,hw] at hq;injection hq with hq;exact(h5.1 b hb).1 (by injection hq)
  ·rcases aj0.1 hb with rfl|hb
   ·exact M.far r (aj4 _ hr) (cH W v lr ver) (aj5 ..)
   ·exact M.far r (aj4 _ hr) b (aj4 _ hb)
 ·refine List.pairwise_cons.2 ⟨fun s hs=>?_,(List.pairwise_cons.1 M.yZ).2⟩
  cases hq:v'.ownBlock with
  | none=>exact .inl rfl
  | some q=>
   refine .inr fun e=>?_
   obtain⟨c1,h1⟩:=hv q hq;obtain⟨c2,h2⟩:=(hrow s hs).2 q e.symm;rw[h1] at h2;injection h2 with h2;exact h5.2 s hs (by injection h2 with _ h2;exact h2.symm)
theorem Da{u:Value}(M:aQ B w0 w (cH W v lr ver::bs) (bf v xs::rs))(h5:nr bs rs)(hs:aq w u ys)(hu:u.ownBlock≠some W)(hne:ys≠[])(hb:xs.length+ys.length≤aT):
 Calls Tryz.prog 84 #[.pointer (some ⟨W,0,none⟩),u] w fun r w'=>r=.returned (.tuple #[.int .i64 (ys.length:Int),.nilIface])∧TM B w0 w' bs rs W ver (xs++ys):=by
 have hl:0<ys.length:=List.length_pos_iff.2 hne;rcases hs.1.2.2.2 with⟨-,h0⟩|⟨a,c,rfl,hn,hc⟩
 ·omega
 have h:=Any.Buffer_Write_at SJ 98 (Db ver) B W 0 (byteCells xs) (byteCells ys) a ys.length c w (Ro M) M.big (kQ xs) (by simp[byteCells]) (fun e=>hu (by rw[← e];rfl)) hc (kQ ys) (by unfold aT at hb;simp[byteCells];omega);refine Calls.mono h fun e w' ⟨h1,h2,h3,h4⟩=>⟨h1,?_⟩
 rw[← byteCells_append] at h2;exact DR M h5 h2 h3 h4
theorem MN(s:ByteArray):Lib.byteCells s.data.toList=byteCells (cN s):=by
 simp[Lib.byteCells,byteCells,cN]
theorem xE{s:ByteArray}(M:aQ B w0 w (cH W v lr ver::bs) (bf v xs::rs))(h5:nr bs rs)(hb:xs.length+s.size≤aT):
 Calls Tryz.prog 33 #[.pointer (some ⟨W,0,none⟩),.string s] w fun r w'=>r=.returned (.tuple #[.int .i64 (s.size:Int),.nilIface])∧TM B w0 w' bs rs W ver (xs++cN s):=by
 have h:=Any.Buffer_WriteString_at SK 98 (Db ver) B W 0 (byteCells xs) s w (Ro M) M.big (kQ xs) (by unfold aT at hb;simp[byteCells];omega);refine Calls.mono h fun e w' ⟨h1,h2,h3,h4⟩=>⟨h1,?_⟩
 rw[MN,← byteCells_append] at h2;exact DR M h5 h2 h3 h4
end
abbrev Ps (α:Type):=List Nat→Except Int (α×List Nat)
def pb{α β:Type}(p:Ps α)(f:α→Ps β):Ps β:=fun l=>match p l with
 | .ok (x,r)=>f x r
 | .error e=>.error e
def pp{α:Type}(x:α):Ps α:=fun l=>.ok (x,l)
def pe{α:Type}(e:Int):Ps α:=fun _=>.error e
def sL:Ps Nat:=fun l=>if (number l).2.2=0 then .ok ((number l).1,(number l).2.1) else .error (number l).2.2
def Ss:Ps Nat:=pb sL fun n=>if n<4294967296 then pp n else pe 3
def lg:Ps Int:=pb Ss fun n=>pp (n:Int)
def wF:Ps Int:=fun l=>if (eA l).2.2=0 then (if -2147483648≤(eA l).1∧(eA l).1<2147483648 then .ok ((eA l).1,(eA l).2.1) else .error 3) else .error (eA l).2.2
def zU:Ps Bool:=pb Ss fun n=>if n≤1 then pp (n == 1) else pe 6
def iV:Ps ByteArray:=fun l=>if (pY l 256).2.2=0 then .ok (strOf (pY l 256).1,(pY l 256).2.1) else .error (pY l 256).2.2
def qN:Ps aE:=fun l=>if (rH l).2.2=0 then .ok (⟨(rH l).1.getD 0 0,(rH l).1.getD 1 0,(rH l).1.getD 2 0,(rH l).1.getD 3 0⟩,(rH l).2.1) else .error (rH l).2.2
def Ja:Ps iL:=pb lg fun s=>pb sL fun c=>pp ⟨s,c⟩
def I9:Ps mS:=pb Ja fun a=>pb Ja fun b=>pp ⟨a,b⟩
def MA:Ps eG:=pb lg fun u=>pb lg fun r=>pb lg fun t=>pb I9 fun g=>pp ⟨u,r,t,g⟩
def Af{α:Type}:Nat→Ps α→Ps (List α)
 | 0,_=>pp []
 | n+1,p=>pb p fun x=>pb (Af n p) fun xs=>pp (x::xs)
def fR{α:Type}(p:Ps α):Ps (List α):=pb Ss fun n=>Af n p
def uM:aE:=⟨0,0,0,0⟩
def ni:Nat→Ps aS
 | 0=>pb lg fun op=>if 1≤op∧op≤9 then pe 4 else pe 6
 | k+1=>pb lg fun op=>if 1≤op∧op≤9 then
  (if op=1 then pb lg fun a=>pp (.node op a 0 0 [] uM [])
  else if op=8 then pb lg fun a=>pb lg fun r=>pb lg fun b=>pp (.node op a r b [] uM [])
  else if op=9 then pb lg fun a=>pb qN fun s=>pp (.node op a 0 0 [] s [])
  else if op=2 then pb (ni k) fun x=>pp (.node op 0 0 0 [] uM [x])
  else pb (ni k) fun x=>pb (ni k) fun y=>pp (.node op 0 0 0 [] uM [x,y]))
  else pe 6
def Jd:Ps gi:=pb iV fun n=>pb (fR iV) fun l=>pp ⟨n,l⟩
def IY(v:Nat):Ps gh:=pb iV fun n=>pb (fR iV) fun l=>pb (if 2≤v then zU else pp false) fun b=>pp ⟨n,l,b⟩
def Jf:Ps fH:=pb iV fun n=>pb qN fun s=>pp ⟨n,s⟩
def I8:Ps dI:=pb iV fun n=>pb qN fun s=>pb qN fun t=>pp ⟨n,s,t⟩
def IX:Ps fq:=pb iV fun n=>pb qN fun s=>pb Ja fun d=>pb I9 fun g=>pp ⟨n,s,d,g⟩
def Je:Ps fN:=pb iV fun n=>pb zU fun b=>pp ⟨n,b⟩
def I6:Ps bY:=pb lg fun k=>pb qN fun s=>pb qN fun t=>pb zU fun f=>pb lg fun c=>pb lg fun v=>pb wF fun d=>pp ⟨k,s,t,f,c,v,d⟩
def IZ(v:Nat):Ps dH:=pb lg fun k=>pb qN fun s=>pb qN fun t=>pb lg fun c=>pb (if 2≤v then iV else pp ⟨#[]⟩) fun n=>pb lg fun r=>pb wF fun d=>pp ⟨k,s,t,c,n,r,d⟩
def I7:Ps fE:=pb qN fun s=>pb qN fun t=>pb lg fun c=>pb lg fun r=>pp ⟨s,t,c,r⟩
def I_:Ps fF:=pb qN fun s=>pb qN fun t=>pb lg fun c=>pb I9 fun g=>pp ⟨s,t,c,g⟩
def Jc:Ps ij:=pb lg fun c=>pb lg fun v=>pb zU fun b=>pb (ni 12) fun e=>pp ⟨c,v,b,e⟩
def I5:Ps fC:=pb iV fun n=>pb MA fun c=>pp ⟨n,c⟩
def Jb:Ps fG:=pb iV fun n=>pb lg fun k=>pb MA fun c=>pp ⟨n,k,c⟩
def Jg:Ps fI:=pb iV fun n=>pb lg fun k=>pb qN fun s=>pb qN fun t=>pp ⟨n,k,s,t⟩
def wY(v:Nat):Ps aD:=
 pb (fR Jd) fun a0=>pb (fR (IY v)) fun a1=>pb (fR Jf) fun a2=>pb (fR I8) fun a3=>pb (fR IX) fun a4=>pb (fR Je) fun a5=>
 pb (fR iV) fun a6=>pb (fR iV) fun a7=>pb (fR (ni 12)) fun a8=>pb (fR I6) fun a9=>pb (fR (IZ v)) fun rF=>pb (fR I7) fun rE=>
 pb (if 2≤v then fR I_ else pp []) fun a12=>pb (fR Jc) fun rD=>pb (fR I5) fun rC=>
 pb (if 3≤v then fR Jb else pp []) fun rB=>pb (if 3≤v then fR Jg else pp []) fun rA=>pp ⟨a0,a1,a2,a3,a4,a5,a6,a7,a8,a9,rF,rE,a12,rD,rC,rB,rA⟩
def eN(n:Int):List Nat:=bn (n%18446744073709551616).toNat
def eS(s:ByteArray):List Nat:=bn s.size++cN s
def eT(s:aE):List Nat:=mh s.a s.b s.c s.d
def eB(b:Bool):List Nat:=if b then [1] else [0]
def eC(n:Int):List Nat:=bn (Fy n)
def eL{α:Type}(f:α→List Nat)(l:List α):List Nat:=eN (l.length:Int)++l.flatMap f
def sq(l:iL):List Nat:=eN l.ak++bn l.cats
def uy(r:mS):List Nat:=sq r.low++sq r.high
def vD(c:eG):List Nat:=eN c.user++(eN c.role++(eN c.typ++uy c.rng))
def wA(op a rel b:Int)(s:aE):List Nat:=eN op++(if op=1 then eN a else if op=8 then eN a++(eN rel++eN b) else if op=9 then eN a++eT s else [])
mutual
def eE:aS→List Nat
 | .node op a rel b _ s kids=>wA op a rel b s++yM kids
def yM:List aS→List Nat
 | []=>[]
 | k::r=>eE k++yM r
end
theorem Rb:∀ l:List aS,yM l=l.flatMap eE
 | []=>by rw[yM];rfl
 | k::r=>by rw[yM,Rb r];rfl
theorem Rc(e:aS):eE e=wA e.op e.a e.rel e.b e.set++e.kids.flatMap eE:=by cases e;rw[eE,Rb];rfl
def kL(x:gi):List Nat:=eS x.name++eL eS x.perms
def eTyp(v:Nat)(x:gh):List Nat:=eS x.name++(eL eS x.jg++(if 2≤v then eB x.perm else []))
def kM(x:fH):List Nat:=eS x.name++eT x.types
def kJ(x:dI):List Nat:=eS x.name++(eT x.types++eT x.next)
def kF(x:fq):List Nat:=eS x.name++(eT x.roles++(sq x.dflt++uy x.rng))
def jx(x:fN):List Nat:=eS x.name++eB x.val
def kH(x:bY):List Nat:=eN x.kind++(eT x.src++(eT x.tgt++(eB x.self++(eN x.cls++(eN x.perms++eC x.cond)))))
def jX(v:Nat)(x:dH):List Nat:=eN x.kind++(eT x.src++(eT x.tgt++(eN x.cls++((if 2≤v then eS x.name else [])++(eN x.res++eC x.cond)))))
def kI(x:fE):List Nat:=eT x.roles++(eT x.types++(eN x.cls++eN x.res))
def jR(x:fF):List Nat:=eT x.src++(eT x.tgt++(eN x.cls++uy x.rng))
def kK(x:ij):List Nat:=eN x.cls++(eN x.perms++(eB x.val++eE x.expr))
def kG(x:fC):List Nat:=eS x.name++vD x.ctx
def jc(x:fG):List Nat:=eS x.pat++(eN x.kind++vD x.ctx)
def jd(x:fI):List Nat:=eS x.name++(eN x.kind++(eT x.src++eT x.tgt))
def i_(v:Nat)(p:aD):List Nat:=
 eL kL p.classes++(eL (eTyp v) p.types++(eL kM p.attrs++(eL kJ p.roles++(eL kF p.users++(eL jx p.bools ++
 (eL eS p.ak++(eL eS p.cats++(eL eE p.conds++(eL kH p.rules++(eL (jX v) p.trans++(eL kI p.ay ++
 ((if 2≤v then eL jR p.ranges else [])++(eL kK p.cons++(eL kG p.bg ++
 ((if 3≤v then eL jc p.files else [])++(if 3≤v then eL jd p.asserts else []))))))))))))))))
def dM(v:Nat)(p:aD):List Nat:=[65,67,80,66]++(bn v++i_ v p)
def eP(l:List Nat):List Nat:=l++cM (gW l)
def mR{α:Type}(p:Ps α)(xs:List Nat)(x:α):Prop:=∀ r,p (xs++r)=.ok (x,r)
section
variable {α β:Type} {p:Ps α} {f:α→Ps β} {x:α} {y:β} {xs ys:List Nat}
theorem mR.bind(h:mR p xs x)(k:mR (f x) ys y):mR (pb p f) (xs++ys) y:=fun r=>by
 unfold pb;rw[List.append_assoc,h];exact k r
theorem mR.last(h:mR p xs x)(k:mR (f x) [] y):mR (pb p f) xs y:=by
 have:=h.bind k
 rwa [List.append_nil] at this
theorem mR.pure(x:α):mR (pp x) [] x:=fun _=>rfl
theorem mR.skip(h:mR p [] x)(k:mR (f x) ys y):mR (pb p f) ys y:=by
 have:=h.bind k
 rwa [List.nil_append] at this
end
theorem En{n:Nat}(h:n<18446744073709551616):mR sL (bn n) n:=fun r=>by
 unfold sL;rw[qR _ _ h];rfl
theorem KW{n:Nat}(h:n<4294967296):mR Ss (bn n) n:=(En (by omega)).last (by rw[if_pos h];exact mR.pure _)
def qz(n:Int):Prop:=0≤n∧n<4294967296
theorem LJ{n:Int}(h:qz n):eN n=bn n.toNat:=by
 unfold eN;rw[Int.emod_eq_of_lt h.1 (by have:=h.2;omega)]
theorem fS{n:Int}(h:qz n):mR lg (eN n) n:=by
 obtain⟨h0,h1⟩:=h;rw[LJ ⟨h0,h1⟩];refine(KW (n:=n.toNat) (by omega)).last ?_;rw[show((n.toNat:Nat):Int)=n by omega];exact mR.pure _
theorem KV{n:Int}(h:-2147483648≤n∧n<2147483648):mR wF (eC n) n:=fun r=>by
 unfold wF eC;rw[Ik _ _ ⟨by omega,by omega⟩];simp[h.1,h.2]
theorem Rf(b:Bool):eB b=bn (if b then 1 else 0):=by cases b<;>rw[bn]<;>rfl
theorem Ay(b:Bool):mR zU (eB b) b:=by
 rw[Rf]
 cases b with
 | true=>exact(KW (n:=1) (by decide)).last (mR.pure _)
 | false=>exact(KW (n:=0) (by decide)).last (mR.pure _)
theorem L9(s:ByteArray)(r:List Nat)(h:s.size≤256):pY ((bn s.size++cN s)++r) 256=(cN s,r,0):=by
 have hl:=gD s;unfold pY;rw[List.append_assoc,qR _ _ (by omega)];simp only[ne_eq,not_true_eq_false,if_false];rw[if_neg (by omega),if_neg (by rw[akc];omega),← hl,List.take_left,List.drop_left]
theorem nG{s:ByteArray}(h:s.size≤256):mR iV (eS s) s:=fun r=>by
 unfold iV eS;rw[L9 s r h];simp[Bt]
theorem mK{s:aE}(h:s.Ok):mR qN (eT s) s:=fun r=>by
 unfold qN eT;rw[R9 _ _ _ _ r h.a h.b h.c h.d];simp
theorem O4{α:Type}{p:Ps α}{f:α→List Nat}:∀ l:List α,(∀ x∈l,mR p (f x) x)→mR (Af l.length p) (l.flatMap f) l
 | [],_=>mR.pure _
 | x::l,h=>by
  rw[List.flatMap_cons];exact(h x (by simp)).bind ((O4 l fun y hy=>h y (by simp[hy])).last (mR.pure _))
theorem mg{α:Type}{p:Ps α}{f:α→List Nat}{l:List α}(hl:l.length<4294967296)(h:∀ x∈l,mR p (f x) x):mR (fR p) (eL f l) l:=by
 unfold eL;rw[LJ ⟨by omega,by omega⟩];exact(KW (n:=(l.length:Int).toNat) (by omega)).bind (by rw[show(l.length:Int).toNat=l.length by omega];exact O4 l h)
structure Fu (x:iL):Prop where
 ak:qz x.ak
 cats:fA x.cats
theorem Iz{x:iL}(h:Fu x):mR Ja (sq x) x:=(fS h.ak).bind ((En h.cats).last (mR.pure _))
structure C6 (x:mS):Prop where
 low:Fu x.low
 high:Fu x.high
theorem Iy{x:mS}(h:C6 x):mR I9 (uy x) x:=(Iz h.low).bind ((Iz h.high).last (mR.pure _))
structure Fx (x:eG):Prop where
 user:qz x.user
 role:qz x.role
 typ:qz x.typ
 rng:C6 x.rng
theorem O6{x:eG}(h:Fx x):mR MA (vD x) x:=(fS h.user).bind ((fS h.role).bind ((fS h.typ).bind ((Iy h.rng).last (mR.pure _))))
inductive vJ:Nat→aS→Prop
 | name {k:Nat} {a:Int}:qz a→vJ (k+1) (.node 1 a 0 0 [] uM [])
 | cmp {k:Nat} {a r b:Int}:qz a→qz r→qz b→vJ (k+1) (.node 8 a r b [] uM [])
 | inn {k:Nat} {a:Int} {s:aE}:qz a→s.Ok→vJ (k+1) (.node 9 a 0 0 [] s [])
 | not {k:Nat} {x:aS}:vJ k x→vJ (k+1) (.node 2 0 0 0 [] uM [x])
 | two {k:Nat} {op:Int} {x y:aS}:3≤op→op≤7→vJ k x→vJ k y→vJ (k+1) (.node op 0 0 0 [] uM [x,y])
theorem O5{k:Nat}{e:aS}(h:vJ k e):mR (ni k) (eE e) e:=by
 induction h with
 | name ha=>
  rw[eE,yM,List.append_nil];unfold wA ni;exact(fS (n:=1) (by unfold qz;decide)).bind (by simp only[if_true];exact(fS ha).last (mR.pure _))
 | cmp ha hr hb=>
  rw[eE,yM,List.append_nil];unfold wA ni;exact(fS (n:=8) (by unfold qz;decide)).bind ((fS ha).bind ((fS hr).bind ((fS hb).last (mR.pure _))))
 | inn ha hs=>
  rw[eE,yM,List.append_nil];unfold wA ni;exact(fS (n:=9) (by unfold qz;decide)).bind ((fS ha).bind ((mK hs).last (mR.pure _)))
 | not _ ih=>
  rw[eE,yM,yM,List.append_nil];unfold wA ni;rw[if_neg (by decide),if_neg (by decide),if_neg (by decide),List.append_nil];exact(fS (n:=2) (by unfold qz;decide)).bind (ih.last (mR.pure _))
 | @two k op x y h3 h7 _ _ EO ihy=>
  rw[eE,yM,yM,yM,List.append_nil];unfold wA ni;rw[if_neg (by omega),if_neg (by omega),if_neg (by omega),List.append_nil];refine(fS (n:=op) (by unfold qz;omega)).bind ?_;rw[if_pos (by omega),if_neg (by omega),if_neg (by omega),if_neg (by omega),if_neg (by omega)];exact EO.bind (ihy.last (mR.pure _))
end Go.Proofs.YtkkmjdceiocnbaaGreatDoor
namespace Go.Proofs.YtkkmjdceiocnbaaGreatDoor
open Go Go.RowKit
def rI(B:Nat)(w0:World)(bs:List Bx)(rs:List Rw)(W:Nat)(ver:Int)(l:List Nat):Ending→World→Prop:=fun r w'=>r=.returned (.tuple #[])∧TM B w0 w' bs rs W ver l
theorem dV{w:World}{B:Nat}{v:Value}{l:List Nat}(h:w.ownsRow B 5 1 v l.length (byteCells l))(hx:Bytes l):aq w v l:=⟨SliceAt.r_ h (kQ l),hx⟩
section
variable {B W:Nat} {w0 w w':World} {bs:List Bx} {rs:List Rw} {v:Value} {lr ver:Int} {xs ys:List Nat}
theorem cwr{u:Value}{X:Prop}{K:Value→List Bx→List Rw→World→Prop}(M:aQ B w0 w (cH W v lr ver::bs) (bf u ys::bf v xs::rs))(h5:nr bs rs)(hy:Bytes ys)(hne:ys≠[])(hb:xs.length+ys.length≤aT)
 (h:∀ v lr w',aQ B w0 w' (cH W v lr ver::bs) (bf v (xs++ys)::rs)→K (.tuple #[.int .i64 (ys.length:Int),.nilIface]) (cH W v lr ver::bs) (bf v (xs++ys)::rs) w') :
 X∨∃ R:Value→World→Prop,(Calls Tryz.prog 84 #[.pointer (some ⟨W,0,none⟩),u] w fun e w'=>∃ v,e=.returned v∧R v w')∧∀ v w',R v w'→∃ bs' rs',aQ B w0 w' bs' rs'∧K v bs' rs' w':=by
 refine .inr ⟨fun r w'=>r=.tuple #[.int .i64 (ys.length:Int),.nilIface]∧TM B w0 w' bs rs W ver (xs++ys),Calls.mono (Da (M.only (.refl _) (.cons _ (.refl _))) h5 (dV (M.r 0 rfl) hy) ?_ hne hb) fun e w' ⟨h1,h2⟩=>⟨_,h1,rfl,h2⟩,?_⟩
 ·exact M.far _ (aj5 ..) (cH W v lr ver) (aj5 ..)
 ·rintro _ w' ⟨rfl,v',Yn,M'⟩;exact⟨_,_,M',h _ _ _ M'⟩
theorem oB(n:Nat):bn n≠[]:=by
 rw[bn];split<;>simp
theorem Ot{s:ByteArray}(M:aQ B w0 w (cH W v lr ver::bs) (bf v xs::rs))(h5:nr bs rs)(hb:xs.length+10+s.size≤aT):
 Calls Tryz.prog 88 #[.pointer (some ⟨W,0,none⟩),.string s] w (rI B w0 bs rs W ver (xs++(bn s.size++cN s))):=by
 have CZ:=bG (n:=s.size) (by unfold aT at hb;omega);refine d_ M [] (fn:=Tryz.f88) Tryz.func88 rfl Tryz.ntmps88 rfl<|sp [0,1,2,3] (.step 4 (.step 5 .done)) [] (by kernel_rfl) fun w2 hb2 M2=>cb (Gf (xs:=[]) (M2.bS 5 1) (by simp only[List.length_nil];omega)) fun v3 w3 M3=>an rfl<|cwr M3 h5 ((iT _).append (uV s)) (by simp[oB]) (by simp only[List.nil_append,akc,gD];omega) fun v4 Lh w4 M4=>an rfl<|fun M=>⟨rfl,_,_,M⟩
theorem Ou{m:Int}(M:aQ B w0 w (cH W v lr ver::bs) (bf v xs::rs))(h5:nr bs rs)(hm:gA m)(hb:xs.length+10≤aT):
 Calls Tryz.prog 109 #[.pointer (some ⟨W,0,none⟩),.int .i64 m] w (rI B w0 bs rs W ver (xs++bn (Fy m))):=by
 have CZ:=bG (Bf hm);refine d_ M [] (fn:=Tryz.f109) Tryz.func109 rfl Tryz.ntmps109 rfl<|sp [0,1,2,3] (.step 4 (.step 5 .done)) [] (by kernel_rfl)<|fun w2 hb2 M2=>cb (CV (xs:=[]) (M2.bS 5 1) hm (by simp;unfold aT;omega)) fun v3 w3 M3=>an rfl<|cwr M3 h5 (iT _) (oB _) (by simp only[List.nil_append];omega) fun v4 Lh w4 M4=>an rfl<|fun M=>⟨rfl,_,_,M⟩
theorem Bo(n:Int):fA (n%18446744073709551616).toNat:=by unfold fA;omega
theorem Kx(n:Int):IntKind.u64.wrap n=(((n%18446744073709551616).toNat:Nat):Int):=by
 rw[Int.toNat_of_nonneg (by omega)];simp[IntKind.wrap,IntKind.bits,IntKind.signed]
theorem aV(n:Int):(eN n).length≤10:=bG (Bo n)
theorem j6(n:Int):Bytes (eN n):=iT _
def GV(n:Int):Value:=.int .i64 n
theorem DI:∀ ns:List Int,(ns.flatMap eN).length≤10*ns.length
 | []=>by simp
 | n::ns=>by have:=DI ns;have:=aV n;simp only[List.flatMap_cons,akc,List.length_cons];omega
theorem bL{g:Nat}{ns:List Int}(M:aQ B w0 w (cH W v lr ver::(g,3,(ns.map GV).toArray)::bs) (bf v xs::rs))(h5:nr bs rs)(hn:ns.length≤10)(hb:xs.length+100≤aT):
 Calls Tryz.prog 34 #[.pointer (some ⟨W,0,none⟩),.slice (some ⟨g,0,none⟩) ns.length ns.length] w (rI B w0 ((g,3,(ns.map GV).toArray)::bs) rs W ver (xs++ns.flatMap eN)):=by
 have h5':nr ((g,3,(ns.map GV).toArray)::bs) rs:=h5.cons;refine d_ M [] (fn:=Tryz.f34) Tryz.func34 rfl Tryz.ntmps34 rfl<|lp (ι:=Nat×Value×Int) (fun z=>[(8,.int .i64 (z.1:Int))]) (fun z=>cH W z.2.1 z.2.2 ver::(g,3,(ns.map GV).toArray)::bs) (fun z=>bf z.2.1 (xs++(ns.take z.1).flatMap eN)::rs) (fun z _=>z.1≤ns.length) (fun z=>ns.length-z.1) (0,v,lr)<|an ⟨⟨rfl,trivial⟩,fun M=>⟨M.cast rfl (by simp),akb _⟩⟩ ?_;rintro⟨j,u,l⟩ w1 M1 hj;have hj:j≤ns.length:=hj;refine an (fun h=>?_) fun h=>?_
 ·have hlt:j<ns.length:=Int.ofNat_lt.1 (of_decide_eq_true h);obtain⟨n,hn1⟩:∃ n,ns[j]?=some n:=⟨_,ake hlt⟩
  have hlen:(xs++(ns.take j).flatMap eN).length+(eN n).length≤aT:=by
   have:=DI (ns.take j);have:=aV n;simp only[akc,aj8] at *;omega
  exact ia<|an ⟨rfl,rfl,hlt⟩<|lc (x:=.int .i64 n)<|an (by rw[(M1.b 1 rfl).cell];simp[hn1,GV])<|sp [0,1,2,3,4] (.step 5 (.step 6 .done)) [] (by kernel_rfl)<|ei (x:=.int .u64 ((n%18446744073709551616).toNat:Int))<|an (fun a w o ho hv=>(eI ho (aY hv) u3 zL).trans (by rw[Kx]))<|fun w2 hb2 M2=>cb (jT (xs:=[]) (M2.bS 5 1) (Bo n) (by simp;unfold aT;omega)) fun v3 w3 M3=>an rfl<|cwr M3 h5' (iT _) (oB _) hlen fun v4 Lh w4 M4=>an rfl<|an (by omega)<|bk (j+1,v4,Lh) ⟨rfl,trivial⟩ (fun M=>⟨M.cast rfl (by rw[List.take_add_one,hn1,akd,← List.append_assoc];simp[eN]),hlt⟩) (by dsimp only;omega)
 ·have hge:j=ns.length:=Nat.le_antisymm hj (Nat.le_of_not_lt fun h'=>of_decide_eq_false h (Int.ofNat_lt.2 h'));subst hge;exact fun M=>⟨rfl,u,l,M.cast rfl (congrArg (fun t=>bf u (xs++t.flatMap eN)::rs) akf)⟩
theorem _root_.Go.Proofs.YtkkmjdceiocnbaaGreatDoor.aQ.wE{bs':List Bx}(M:aQ B w0 w bs rs)(hp:bs.Perm bs'):aQ B w0 w bs' rs:=
 ⟨M.below,M.le,M.old,fun b h=>M.box b (hp.mem_iff.2 h),fun b h=>M.lo b (hp.mem_iff.2 h),(hp.map (·.1)).nodup_iff.1 M.nd,M.row,fun r h b hb=>M.far r h b (hp.mem_iff.2 hb),M.yZ⟩
theorem qM{α:Type}{x:α}:∀ {L:List α} {i:Nat},L[i]?=some x→L.Perm (x::L.eraseIdx i)
 | [],_,h=>by simp at h
 | a::L,0,h=>by
  simp at h;subst h;exact .refl _
 | a::L,i+1,h=>((qM (L:=L) (i:=i) (by simpa using h)).cons a).trans (.swap ..)
theorem xZ{α:Type}{L:List α}{i:Nat}{x y:α}(h:L[i]?=some x):(y::L.eraseIdx i).Perm (L.set i y):=by
 obtain⟨hi,rfl⟩:=aj1.1 h;have h2:(L.set i y)[i]?=some y:=by simp[hi]
 have:=qM h2;rw[List.eraseIdx_set_eq] at this;exact this.symm
theorem fB{L:List Bx}{X:Prop}{f:FuncId}{args:Array Value}{l:List Nat}{K:Value→List Bx→List Rw→World→Prop}(i:Nat)(M:aQ B w0 w L (bf v xs::rs))(hi:L[i]?=some (cH W v lr ver))
 (hc:aQ B w0 w (cH W v lr ver::L.eraseIdx i) (bf v xs::rs)→Calls Tryz.prog f args w (rI B w0 (L.eraseIdx i) rs W ver l))
 (h:∀ v lr w',wk L i (cH W v lr ver) fun L'=>aQ B w0 w' L' (bf v l::rs)→K (.tuple #[]) L' (bf v l::rs) w') :
 X∨∃ R:Value→World→Prop,(Calls Tryz.prog f args w fun e w'=>∃ v,e=.returned v∧R v w')∧∀ v w',R v w'→∃ bs' rs',aQ B w0 w' bs' rs'∧K v bs' rs' w':=by
 refine .inr ⟨fun r w'=>r=.tuple #[]∧TM B w0 w' (L.eraseIdx i) rs W ver l,(hc (M.wE (qM hi))).mono fun e w' ⟨h1,h2⟩=>⟨_,h1,rfl,h2⟩,?_⟩;rintro _ w' ⟨rfl,v',Yn,M'⟩;have M2:=M'.wE (xZ hi);exact⟨_,_,M2,qm (h _ _ _) M2⟩
theorem Ec{n:Nat}(h:n<4294967296):(eN (n:Int))=bn n:=by unfold eN;congr 1;omega
theorem Oo{n:Nat}(M:aQ B w0 w (cH W v lr ver::bs) (bf v xs::rs))(h5:nr bs rs)(hn:n<4294967296)(hb:xs.length+100≤aT):
 Calls Tryz.prog 108 #[.pointer (some ⟨W,0,none⟩),.int .u32 (n:Int)] w (rI B w0 bs rs W ver (xs++eN (n:Int))):=by
 refine d_ M [] (fn:=Tryz.f108) Tryz.func108 rfl Tryz.ntmps108 rfl<|ei (x:=.int .i64 (n:Int))<|an (fun a w o ho hv=>(eI ho (aY hv) Ib u3).trans (by rw[show IntKind.i64.wrap (n:Int)=n by simp[IntKind.wrap,IntKind.bits,IntKind.signed];omega]))<|fun g2 w2 M2=>fB 1 M2 rfl (fun M=>bL (ns:=[(n:Int)]) M h5 (by simp) hb) fun v3 pQ w3 M3=>fun M=>⟨rfl,v3,pQ,(M.only (.cons _ (.refl _)) (.refl _)).cast rfl (by simp)⟩
theorem cwi{L:List Bx}{u:Value}{X:Prop}{K:Value→List Bx→List Rw→World→Prop}(i:Nat)(M:aQ B w0 w L (bf u ys::bf v xs::rs))(hi:L[i]?=some (cH W v lr ver))(h5:nr (L.eraseIdx i) rs)(hy:Bytes ys)(hne:ys≠[])(hb:xs.length+ys.length≤aT)
 (h:∀ v lr w',wk L i (cH W v lr ver) fun L'=>aQ B w0 w' L' (bf v (xs++ys)::rs)→K (.tuple #[.int .i64 (ys.length:Int),.nilIface]) L' (bf v (xs++ys)::rs) w') :
 X∨∃ R:Value→World→Prop,(Calls Tryz.prog 84 #[.pointer (some ⟨W,0,none⟩),u] w fun e w'=>∃ v,e=.returned v∧R v w')∧∀ v w',R v w'→∃ bs' rs',aQ B w0 w' bs' rs'∧K v bs' rs' w':=by
 have M0:=M.wE (qM hi);refine .inr ⟨fun r w'=>r=.tuple #[.int .i64 (ys.length:Int),.nilIface]∧TM B w0 w' (L.eraseIdx i) rs W ver (xs++ys),Calls.mono (Da (M0.only (.refl _) (.cons _ (.refl _))) h5 (dV (M0.r 0 rfl) hy) ?_ hne hb) fun e w' ⟨h1,h2⟩=>⟨_,h1,rfl,h2⟩,?_⟩
 ·exact M0.far _ (aj5 ..) (cH W v lr ver) (aj5 ..)
 ·rintro _ w' ⟨rfl,v',Yn,M'⟩;have M2:=M'.wE (xZ hi);exact⟨_,_,M2,qm (h _ _ _) M2⟩
theorem E4(b:Bool):eN (if b then 1 else 0)=eB b:=by
 cases b<;>(unfold eN eB;rw[bn];rfl)
theorem D6{b:Bool}(M:aQ B w0 w (cH W v lr ver::bs) (bf v xs::rs))(h5:nr bs rs)(hb:xs.length+100≤aT):
 Calls Tryz.prog 92 #[.pointer (some ⟨W,0,none⟩),.bool b] w (rI B w0 bs rs W ver (xs++eB b)):=by
 refine d_ M [] (fn:=Tryz.f92) Tryz.func92 rfl Tryz.ntmps92 rfl<|an (fun h=>?_) fun h=>?_
 ·have h:b=true:=h;subst h;exact fun g2 w2 M2=>fB 1 M2 rfl (fun M=>bL (ns:=[1]) M h5 (by simp) hb) fun v3 pQ w3 M3=>fun M=>⟨rfl,v3,pQ,(M.only (.cons _ (.refl _)) (.refl _)).cast rfl (by rw[← E4];simp)⟩
 ·have h:b=false:=h;subst h;exact fun g2 w2 M2=>fB 1 M2 rfl (fun M=>bL (ns:=[0]) M h5 (by simp) hb) fun v3 pQ w3 M3=>fun M=>⟨rfl,v3,pQ,(M.only (.cons _ (.refl _)) (.refl _)).cast rfl (by rw[← E4];simp)⟩
theorem D5{l:iL}(M:aQ B w0 w (cH W v lr ver::bs) (bf v xs::rs))(h5:nr bs rs)(hc:fA l.cats)(hb:xs.length+200≤aT):
 Calls Tryz.prog 100 #[.pointer (some ⟨W,0,none⟩),.agg #[.int .i64 l.ak,.int .u64 (l.cats:Int)]] w (rI B w0 bs rs W ver (xs++sq l)):=by
 have h1:=aV l.ak;have h2:=bG hc;refine d_ M [] (fn:=Tryz.f100) Tryz.func100 rfl Tryz.ntmps100 rfl<|fun g1 w1 M1=>lb 0<|an rfl<|fun g2 w2 M2=>fB 2 M2 rfl (fun M=>bL (ns:=[l.ak]) M h5.cons (by simp) (by omega)) fun v3 pQ w3 M3=>sp [0,1,2,3] (.step 4 (.step 5 (.step 6 .done))) [] (by kernel_rfl)<|fun w4 uq M4=>lb 1<|an rfl<|an rfl<|cb (jT (xs:=[]) (M4.bS 5 1) hc (by simp;unfold aT;omega)) fun v5 w5 M5=>an rfl<|cwi 2 M5 rfl h5.cons.cons (iT _) (oB _) (by simp only[List.nil_append,akc,List.flatMap_cons,List.flatMap_nil,List.length_nil];omega) fun v6 MJ w6 M6=>an rfl<|fun M=>⟨rfl,v6,MJ,(M.only (.cons _ (.cons _ (.refl _))) (.refl _)).cast rfl (by unfold sq;rw[← List.append_assoc];simp)⟩
theorem H_{r:mS}(M:aQ B w0 w (cH W v lr ver::bs) (bf v xs::rs))(h5:nr bs rs)(hc:fA r.low.cats)(hd:fA r.high.cats)(hb:xs.length+300≤aT):
 Calls Tryz.prog 101 #[.pointer (some ⟨W,0,none⟩),.agg #[.int .i64 r.low.ak,.int .u64 (r.low.cats:Int),.int .i64 r.high.ak,.int .u64 (r.high.cats:Int)]] w (rI B w0 bs rs W ver (xs++uy r)):=by
 have h1:=aV r.low.ak;have h2:=bG hc;refine d_ M [] (fn:=Tryz.f101) Tryz.func101 rfl Tryz.ntmps101 rfl<|fun g1 w1 M1=>lb 0<|an rfl<|fB 1 M1 rfl (fun M=>D5 (l:=r.low) M h5.cons hc (by omega)) fun v3 pQ w3 M3=>lb 0<|an rfl<|fB 1 M3 rfl (fun M=>D5 (l:=r.high) M h5.cons hd (by unfold sq;simp only[akc];omega)) fun v4 Lh w4 M4=>fun M=>⟨rfl,v4,Lh,(M.only (.cons _ (.refl _)) (.refl _)).cast rfl (by unfold uy;rw[← List.append_assoc])⟩
theorem Dg{c:eG}(M:aQ B w0 w (cH W v lr ver::bs) (bf v xs::rs))(h5:nr bs rs)(hc:fA c.rng.low.cats)(hd:fA c.rng.high.cats)(hb:xs.length+400≤aT):
 Calls Tryz.prog 120 #[.pointer (some ⟨W,0,none⟩),.agg c.cells.toArray] w (rI B w0 bs rs W ver (xs++vD c)):=by
 have h1:=aV c.user;have h2:=aV c.role;have h3:=aV c.typ;refine d_ M [] (fn:=Tryz.f120) Tryz.func120 rfl Tryz.ntmps120 rfl<|fun g1 w1 M1=>lb 0<|an rfl<|lb 0<|an rfl<|lb 0<|an rfl<|fun g2 w2 M2=>fB 2 M2 rfl (fun M=>bL (ns:=[c.user,c.role,c.typ]) M h5.cons (by simp) (by omega)) fun v3 pQ w3 M3=>lb 1<|an rfl<|fB 2 M3 rfl (fun M=>H_ (r:=c.rng) M h5.cons.cons hc hd (by simp only[akc,List.flatMap_cons,List.flatMap_nil,List.length_nil];omega)) fun v4 Lh w4 M4=>fun M=>⟨rfl,v4,Lh,(M.only (.cons _ (.cons _ (.refl _))) (.refl _)).cast rfl (by unfold vD;simp only[List.flatMap_cons,List.flatMap_nil,List.append_assoc,List.append_nil])⟩
end
theorem fZ{α:Type}(f:α→List Nat){l:List α}{j:Nat}{y:α}(h:l[j]?=some y):((l.take j).flatMap f).length+(f y).length≤(l.flatMap f).length:=by
 have e:l=l.take j++(y::l.drop (j+1)):=by
  obtain⟨hj,rfl⟩:=aj1.1 h;simp
 conv=>rhs;rw[e]
 simp only[akd,List.flatMap_cons,akc];omega
theorem jw{s:aE}(h:s.Ok):(eT s).length≤50:=by
 have:=Cm (j:=dw s.a s.b s.c s.d) (sE _ _ _ _) h.a h.b h.c h.d;have:=bG (n:=dw s.a s.b s.c s.d) (by have:=sE s.a s.b s.c s.d;omega);unfold eT mh;simp only[akc];omega
theorem qc{s:aE}:Bytes (eT s):=by
 unfold eT mh
 exact(iT _).append fun x hx=>by
  obtain⟨y,-,hy⟩:=List.mem_flatMap.1 hx;exact iT y x hy
theorem ZE{s:aE}:eT s≠[]:=by simp[eT,mh,oB]
theorem F6:∀ ss:List aE,(ss.flatMap aE.cells).length=ss.length*4
 | []=>rfl
 | s::ss=>by rw[List.flatMap_cons,akc,F6 ss,List.length_cons];show 4+_=_;omega
theorem OP(ss:List aE):((ss.flatMap aE.cells).toArray.toList.all (·.oneCell'))=true:=by
 simp[aE.cells];exact fun _ _=>⟨rfl,rfl,rfl,rfl⟩
section
variable {B W:Nat} {w0 w w':World} {bs:List Bx} {rs:List Rw} {v:Value} {lr ver:Int} {xs ys:List Nat}
theorem tN{g:Nat}{ss:List aE}(M:aQ B w0 w (cH W v lr ver::(g,77,(ss.flatMap aE.cells).toArray)::bs) (bf v xs::rs))(h5:nr bs rs)(hs:∀ s∈ss,s.Ok)(hn:ss.length≤2)(hb:xs.length+200≤aT):
 Calls Tryz.prog 95 #[.pointer (some ⟨W,0,none⟩),.slice (some ⟨g,0,none⟩) ss.length ss.length] w (rI B w0 ((g,77,(ss.flatMap aE.cells).toArray)::bs) rs W ver (xs++ss.flatMap eT)):=by
 have h5':nr ((g,77,(ss.flatMap aE.cells).toArray)::bs) rs:=h5.cons
 have hlen:(ss.flatMap eT).length≤100:=by
  match ss,hs,hn with
  | [],_,_=>simp
  | [a],hs,_=>have:=jw (hs a (by simp));simp;omega
  | [a,b],hs,_=>have:=jw (hs a (by simp));have:=jw (hs b (by simp));simp;omega
 refine d_ M [] (fn:=Tryz.f95) Tryz.func95 rfl Tryz.ntmps95 rfl<|lp (ι:=Nat×Value×Int) (fun z=>[(8,.int .i64 (z.1:Int))]) (fun z=>cH W z.2.1 z.2.2 ver::(g,77,(ss.flatMap aE.cells).toArray)::bs) (fun z=>bf z.2.1 (xs++(ss.take z.1).flatMap eT)::rs) (fun z _=>z.1≤ss.length) (fun z=>ss.length-z.1) (0,v,lr)<|an ⟨⟨rfl,trivial⟩,fun M=>⟨M.cast rfl (by simp),akb _⟩⟩ ?_;rintro⟨j,u,l⟩ w1 M1 hj;have hj:j≤ss.length:=hj;refine an (fun h=>?_) fun h=>?_
 ·have hlt:j<ss.length:=Int.ofNat_lt.1 (of_decide_eq_true h);obtain⟨s,hn1⟩:∃ s,ss[j]?=some s:=⟨_,ake hlt⟩;have Uh:=hs s (aj3 hn1);have hl2:=fZ eT hn1;have iZ:(xs++(ss.take j).flatMap eT).length+(eT s).length≤aT:=by simp only[akc];omega
  obtain⟨b,off,e,hc⟩:=(M1.slice 1 rfl (k:=4) (n:=ss.length) (F6 ss) (OP ss) (by unfold maxLen;omega)).elt (f:=aE.cells) (fun _=>rfl) (by decide) hn1 hlt;cases e;exact ia<|an ⟨rfl,rfl,hlt⟩<|lc (x:=s.cells)<|an hc<|ei<|an m_ fun g3 w2 M2=>lb 0<|an ⟨rfl,rfl⟩ fun w3 M3=>sp [0,1,2] (.step 3 (.step 4 (.step 5 .done))) [] (by kernel_rfl)<|fun w4 uq M4=>lb 0<|an rfl<|an rfl<|cb (IK (xs:=[]) (M4.bS 5 1) Uh.a Uh.b Uh.c Uh.d (by simp;unfold aT;omega)) fun v5 w5 M5=>an rfl<|cwi 1 M5 rfl h5'.cons qc ZE iZ fun v6 MJ w6 M6=>an rfl<|an (by omega)<|bk (j+1,v6,MJ) ⟨rfl,trivial⟩ (fun M=>⟨(M.only (.cons _ (.refl _)) (.refl _)).cast rfl (by rw[List.take_add_one,hn1,akd,← List.append_assoc];simp[eT]),hlt⟩) (by dsimp only;omega)
 ·have hge:j=ss.length:=Nat.le_antisymm hj (Nat.le_of_not_lt fun h'=>of_decide_eq_false h (Int.ofNat_lt.2 h'));subst hge;exact fun M=>⟨rfl,u,l,M.cast rfl (congrArg (fun t=>bf u (xs++t.flatMap eT)::rs) akf)⟩
theorem Al{tv:Value}{l:List ByteArray}(M:Mm w0 w (cH W v lr ver::bs) (bf v xs::rs))(h5:nr bs rs)(hv:aN w0 tv l)(hb:xs.length+(eL eS l).length+200≤aT):
 Calls Tryz.prog 89 #[.pointer (some ⟨W,0,none⟩),tv] w (rI w0.heap.size w0 bs rs W ver (xs++eL eS l)):=by
 obtain⟨la,lc',rfl,hl1,hl2,-⟩:=SliceAt.form hv (by decide);have hle:(eL eS l).length=(eN (l.length:Int)).length+(l.flatMap eS).length:=by unfold eL;rw[akc]
 have hne:=aV (l.length:Int);refine d_ M [] (fn:=Tryz.f89) Tryz.func89 rfl Tryz.ntmps89 rfl<|fun g1 w1 M1=>fB 1 M1 rfl (fun M=>bL (ns:=[(l.length:Int)]) M h5 (by simp) (by omega)) fun v3 pQ w3 M3=>lp (ι:=Nat×Value×Int) (fun z=>[(13,.int .i64 (z.1:Int))]) (fun z=>(g1,3,#[.int .i64 (l.length:Int)])::cH W z.2.1 z.2.2 ver::bs) (fun z=>bf z.2.1 (xs++(eN (l.length:Int)++(l.take z.1).flatMap eS))::rs) (fun z _=>z.1≤l.length) (fun z=>l.length-z.1) (0,v3,pQ)<|an ⟨⟨rfl,trivial⟩,fun M=>⟨M.cast rfl (by simp),akb _⟩⟩ ?_
 rintro⟨j,u,q⟩ w4 M4 hj;have hj:j≤l.length:=hj;refine an (fun h=>?_) fun h=>?_
 ·have hlt:j<l.length:=Int.ofNat_lt.1 (of_decide_eq_true h);obtain⟨s,hn1⟩:∃ s,l[j]?=some s:=⟨_,ake hlt⟩;have iZ:=fZ eS hn1;have hes:(eS s).length=(bn s.size).length+s.size:=by unfold eS;rw[akc,gD]
  obtain⟨b,off,e,hc⟩:=hv.elt (f:=aR) (fun _=>rfl) (by decide) hn1 hlt;have hpn:1≤(bn s.size).length:=List.length_pos_iff.2 (oB _);exact ia<|an ⟨e,rfl,hlt⟩<|lc (x:=.string s)<|an (bZ M4.below hc 0 _ rfl)<|fB 1 M4 rfl (fun M=>Ot M h5.cons (by simp only[akc] at *;omega)) fun v6 MJ w6 M6=>an (by omega)<|bk (j+1,v6,MJ) ⟨rfl,trivial⟩ (fun M=>⟨M.cast rfl (by rw[List.take_add_one,hn1,akd];simp[eS]),hlt⟩) (by dsimp only;omega)
 ·have hge:j=l.length:=Nat.le_antisymm hj (Nat.le_of_not_lt fun h'=>of_decide_eq_false h (Int.ofNat_lt.2 h'));subst hge;exact fun M=>⟨rfl,u,q,(M.only (.cons _ (.refl _)) (.refl _)).cast rfl (congrArg (fun t=>bf u (xs++(eN (l.length:Int)++t.flatMap eS))::rs) akf)⟩
end
theorem SliceAt.front{w:World}{a:Addr}{k n c i:Nat}{cs:List Value}(h:SliceAt w (.slice (some a) n c) k n cs)(hi:i≤n):SliceAt w (.slice (some a) i c) k i (cs.take (i*k)):=by
 obtain⟨h1,h2,h3,⟨h4,h5⟩|⟨a',c',h4,h5,h6⟩⟩:=h
 ·cases h4
 ·cases h4;refine⟨?_,by omega,fun u hu=>h3 u (List.mem_of_mem_take hu),.inr ⟨a,c,rfl,by omega,fun j u hj=>?_⟩⟩
  ·rw[aj8,h1];exact Nat.min_eq_left (Nat.mul_le_mul_right k hi)
  ·rw[List.getElem?_take] at hj;split at hj
   ·exact h6 j u hj
   ·cases hj
theorem L_(l:List ByteArray)(i:Nat):(l.flatMap aR).take (i*1)=(l.take i).flatMap aR:=by
 rw[Nat.mul_one]
 induction l generalizing i with
 | nil=>simp
 | cons x l ih=>
  cases i with
  | zero=>simp
  | succ i=>simp[aR,List.flatMap_cons,ih]
theorem aN.front{w:World}{a:Addr}{n c i:Nat}{l:List ByteArray}(h:aN w (.slice (some a) n c) l)(hn:n=l.length)(hi:i≤n):aN w (.slice (some a) i c) (l.take i):=by
 subst hn;have h1:=SliceAt.front h hi;rw[L_] at h1;unfold aN;rw[aj8,Nat.min_eq_left hi];exact h1
theorem aN.open{w:World}{v:Value}{l:List ByteArray}(h:aN w v l):∃ a c,v=.slice a l.length c∧l.length≤c∧l.length≤9223372036854775807∧∀ i s,l[i]?=some s→∃ b off,a=some ⟨b,off,none⟩∧w.cell? ⟨b,off+i,none⟩=some (.string s):=by
 obtain⟨a,c,h1,h2,h3,h4⟩:=SliceAt.form h (by decide);refine⟨a,c,h1,h2,h3,fun i s hs=>?_⟩;have hi:=(aj1.1 hs).1;obtain⟨b,off,ha,hc⟩:=h4 i hi;have h5:=hc 0 (.string s) (by rw[Lz FW hs 0 (by decide)];rfl);simp only[Nat.mul_one,Nat.add_zero] at h5;exact⟨b,off,ha,h5⟩
def xk(l:List ByteArray)(s:ByteArray)(i:Nat):Bool:=match l[i]? with
 | some x=>decide (x.toList=s.toList)
 | none=>false
def hasB(l:List ByteArray)(s:ByteArray):Bool:=cA (xk l s) l.length 0
theorem rP{l:List ByteArray}{s x:ByteArray}{i:Nat}(h:l[i]?=some x):xk l s i=decide (x.toList=s.toList):=by unfold xk;rw[h]
def fW(l o:List ByteArray)(i:Nat):Int:=match l[i]? with
 | some s=>if kC s=true then (if hasB (l.take i) s=true then 12 else if hasB o s=true then 12 else 0) else 10
 | none=>0
def aU(l o:List ByteArray):Int:=ah (fW l o) l.length 0
theorem qv{l o:List ByteArray}{s:ByteArray}{i:Nat}(h:l[i]?=some s):fW l o i=if kC s=true then (if hasB (l.take i) s=true then 12 else if hasB o s=true then 12 else 0) else 10:=by unfold fW;rw[h]
theorem qx{P:Program}{a:Act}{w:World}{o:Oper}{t e:TypeId}{x hi:Operand}{g off n c h k:Nat}{hk:IntKind}(ho:o.op=.slice t x none (some hi) none)(hx:a.eval x=.slice (some ⟨g,off,none⟩) n c)(hh:a.eval hi=.int hk (h:Int))(hhc:h≤c)(hc:0<c)
 (hu:P.underlying t=some (.slice e)) (hs:(P.info? e).map (·.size)=some k):(execOp a.eval o).run P w=.ok (.value (.slice (some ⟨g,off,none⟩) h c)) w:=by
 have hadd:(⟨g,off,none⟩:Addr).add 0=⟨g,off,none⟩:=by unfold Addr.add;split<;>simp_all
 have h1:(0:Int)≤(h:Int)∧(h:Int)≤(c:Int):=by omega
 have hne:¬ c=0:=by omega
 unfold execOp;simp[ho,hx,hh,Instr.sliceAt,aj_,run_underlying hu w,Result.andThen_ok,Instr.slice,Instr.sliceBounds,Instr.sliceBound,asIntOf,Sem.run_pure,h1,run_sizeOf hs,hne,hadd];intro h';omega
end Go.Proofs.YtkkmjdceiocnbaaGreatDoor

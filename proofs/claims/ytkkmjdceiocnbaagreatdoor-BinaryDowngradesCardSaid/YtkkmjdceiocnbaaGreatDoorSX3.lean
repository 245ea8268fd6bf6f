import Derived.Test.YtkkmjdceiocnbaaGreatDoorSX2
open Array renaming getD_eq_getD_getElem?→aiI
open Bool renaming and_eq_true→aiB
open Go renaming wpList_nil→aiF
open Go.RowKit renaming Below→aiv
open List renaming mem_cons→aiw,getElem?_append_left→aix,getElem?_eq_some_iff→aiy,mem_cons_self→aiz,mem_cons_of_mem→aiA,all_eq_true→aiC,mem_of_getElem?→aiD,getElem?_eq_getElem→aiG,length_take→aiH
open Nat renaming eq_of_beq_eq_true→aiu
open Option.some renaming inj→aiE
set_option maxRecDepth 100000
set_option maxHeartbeats 8000000
set_option linter.unusedSectionVars false
set_option linter.unusedSimpArgs false
set_option linter.unusedVariables false
namespace Go.Proofs.YtkkmjdceiocnbaaGreatDoor
open Go Go.RowKit
variable [DS]
def Wg(o:Oper):Nat:=match o.op with
 | .assign _=>3
 | .move _|.pick _ _ _|.nilCheck _|.load _ _|.binOp _ _ _ _ _|.unOp _ _ _|.fieldAddr _ _ _|.indexAddr _ _ _|.index _ _ _|.extract _ _|.convert _ _ _|.makeFunc _ _ _|.build _ _|.field _ _ _|.buildSlice _ _ _|.slice _ _ _ _ _=>0
 | .alloc _|.box _ _=>1
 | .call c=>(match c.callee with|.value _=>0|.builtin .len=>0|.builtin .min=>0|.builtin .max=>0|_=>2)
 | _=>2
def mN(d:Nat):List Operand→Bool
 | []=>false
 | .tmp q::r=>bif Nat.beq d q then true else mN d r
 | _::r=>mN d r
def QO(o:Oper):List (List Operand)→Bool
 | []=>false
 | x::r=>(match o.dst with|some d=>bif mN d x then true else QO o r|none=>false)
def Uh:Bool→List (List Operand)→List Oper→Nat
 | _,_,[]=>0
 | u,seen,o::r=>match Wg o with
  | 0=>Uh u (gb o.op::seen) r+1
  | 1=>(match u with|true=>0|false=>Uh true (gb o.op::seen) r+1)
  | 3=>bif QO o seen then 0 else Uh u (gb o.op::seen) r+1
  | _=>0
def iH(k:Nat)(L:List Oper):List Nat:=(L.take k).filterMap (·.dst)
def Ui(slots:List Nat)(o:Oper):Operand→Bool
 | .tmp q=>!slots.contains q||o.after.toList.any fun e=>Region.binds .any e&&(slots[e.on]? == some q)
 | _=>true
def BS(slots:List Nat)(o:Oper):Bool:=(gb o.op).all (Ui slots o)&&(match o.guard with
 | none=>true
 | some (j,_)=>o.after.toList.any fun e=>Region.binds .any e&&(e.on == j))
def Xl(N:Nat)(L:List Oper)(k:Nat):Bool:=
 ordered 0 L&&(En k L&&((L.take k).all (fun o=>o.dst.isSome)&&((L.take k).all (BS (iH k L))&&((iH k L).all (fun s=>decide (s<N))&&decide (iH k L).Nodup))))
def FT(ds:List Nat):Slots→(Slots→Prop)→Prop
 | [],f=>f []
 | (s,v)::r,f=>bif jC s ds then FT ds r f else FT ds r fun l=>f ((s,v)::l)
theorem iT{x:Nat}{l:List Nat}:jC x l=true↔x∈l:=by
 induction l with
 | nil=>simp[jC]
 | cons y r ih=>
  unfold jC
  cases h:Nat.beq x y with
  | true=>simp[aiu h]
  | false=>
   have hne:x≠y:=fun e=>by rw[e,Nat.beq_refl] at h;cases h
   simp[ih,hne]
theorem rV{ds:List Nat}:∀ {l:Slots} {f:Slots→Prop},FT ds l f→∃ l',f l'∧∀ q,look q l'=bif jC q ds then none else look q l
 | [],f,h=>⟨[],h,fun q=>by cases jC q ds<;>rfl⟩
 | (s,v)::r,f,h=>by
  unfold FT at h
  cases hm:jC s ds with
  | true=>
   rw[hm] at h;obtain⟨l',h1,h2⟩:=rV h;refine⟨l',h1,fun q=>?_⟩;rw[h2,bT]
   cases hq:jC q ds with
   | true=>rfl
   | false=>
    have:(q == s)=false:=by
     cases e:q == s with
     | false=>rfl
     | true=>have e':q=s:=by simpa using e
             rw[e',hm] at hq;cases hq
    rw[this];rfl
  | false=>
   rw[hm] at h;obtain⟨l',h1,h2⟩:=rV h;refine⟨_,h1,fun q=>?_⟩;rw[bT,bT,h2]
   cases e:q == s with
   | false=>rfl
   | true=>
    have e':q=s:=by simpa using e
    rw[e',hm];rfl
structure UK where
 d:Nat
 j:Nat
 ty:TypeId
 cs:Array Value
 sl:Option Nat
structure lE where
 d:Nat
 j:Nat
 R:Value→World→Prop
def Vd(s:Option Nat)(g:Nat):Value:=match s with
 | none=>.pointer (some ⟨g,0,none⟩)
 | some len=>.slice (some ⟨g,0,none⟩) len len
section
variable (B:Nat) (w0:World) (N:Nat) (l:Slots) (bs:List Bx) (rs:List Rw) (w:World) (K:Slots→List Bx→List Rw→World→Prop)
def cD(o:Oper)(n:Nat)(m:List eV)(π:Pa)(t:Bool)(f:FuncId)(vs:List Value)(k:eV→Prop):Prop:=bif jC f KL then False else bif Nat.blt f NF then dK N m o.dst fun d=>∃ v,ob π t (∀ w',aiv w.heap.size w w'→aC B w0 w' bs rs→Calls Tryz.prog f vs.toArray w' fun e w''=>e=.returned v∧aiv w'.heap.size w' w'') (k ⟨d,n,π,t,v⟩)
 else False
def gR(π:Pa)(t:Bool)(R:Value→World→Prop):Value→World→Prop:=match π with
 | []=>R
 | _::_=>fun v w=>t=true→R v w
def cRl(o:Oper)(n:Nat)(m:List eV)(π:Pa)(t:Bool)(f:FuncId)(vs:List Value)(k:lE→Prop):Prop:=bif jC f KL then False else bif Nat.blt f NF then dK N m o.dst fun d=>∃ R:Value→World→Prop,mX R∧ob π t (∀ w',aiv w.heap.size w w'→aC B w0 w' bs rs→Calls Tryz.prog f vs.toArray w' fun e w''=>∃ v,e=.returned v∧(R v w''∧aiv w'.heap.size w' w'')) (k ⟨d,n,gR π t R⟩)
 else False
def Uw(R:World→Prop)(P:Option (World→Prop)):Option (World→Prop):=match P with
 | none=>some R
 | some P=>some fun w=>R w∧P w
def JK(P:Option (World→Prop))(w:World)(q:Prop):Prop:=match P with
 | none=>q
 | some P=>P w→q
def EB(xs:List Operand):List lE→List eV→Option (World→Prop)→(List eV→Option (World→Prop)→Prop)→Prop
 | [],m,P,f=>f m P
 | ⟨d,j,R⟩::r,m,P,f=>bif mN d xs then ∀ u,EB xs r (⟨d,j,[],true,u⟩::m) (Uw (R u) P) f else EB xs r m P f
def EC(xs:List Operand):List lE→(List lE→Prop)→Prop
 | [],f=>f []
 | ⟨d,j,R⟩::r,f=>bif mN d xs then EC xs r f else EC xs r fun r'=>f (⟨d,j,R⟩::r')
def LJ(xs:List Operand):List lE→Bool
 | []=>false
 | A::r=>bif mN A.d xs then true else LJ xs r
def cU(o:Oper)(n:Nat)(m:List eV)(π:Pa)(t:Bool)(f:FuncId)(xs:List Operand)(rel:List lE)(k:eV→List lE→Prop):Prop:=bif jC f KL then False else bif Nat.blt f NF then bif LJ xs rel then dK N m o.dst fun d=>∃ v,EB xs rel m none (fun m' P=>EH l m' π xs fun vs=>(t=true→∀ w',aiv w.heap.size w w'→aC B w0 w' bs rs→JK P w' (Calls Tryz.prog f vs.toArray w' fun e w''=>e=.returned v∧aiv w'.heap.size w' w'')))∧EC xs rel fun r=>k ⟨d,n,π,t,v⟩ r
 else False else False
def cV(o:Oper)(n:Nat)(m:List eV)(π:Pa)(t:Bool)(f:FuncId)(xs:List Operand)(rel:List lE)(k:List lE→Prop):Prop:=bif jC f KL then False else bif Nat.blt f NF then bif LJ xs rel then dK N m o.dst fun d=>∃ R':Value→World→Prop,mX R'∧EB xs rel m none (fun m' P=>EH l m' π xs fun vs=>(t=true→∀ w',aiv w.heap.size w w'→aC B w0 w' bs rs→JK P w' (Calls Tryz.prog f vs.toArray w' fun e w''=>∃ v,e=.returned v∧(R' v w''∧aiv w'.heap.size w' w''))))∧EC xs rel fun r=>k (⟨d,n,gR π t R'⟩::r)
 else False else False
def obI(π:Pa)(t:Bool)(p:Prop):Prop:=match π with
 | []=>p
 | _::_=>t=true→p
theorem Sh{π:Pa}{t:Bool}{p:Prop}(h:obI π t p)(ht:t=true):p:=by
 cases π with
 | nil=>exact h
 | cons=>exact h ht
def fD(o:Oper)(n:Nat)(m:List eV)(π:Pa)(t:Bool)(rel:List lE)(k:List lE→Prop):Prop:=dK N m o.dst fun d=>∃ R':Value→World→Prop,mX R'∧EB (gb o.op) rel m none (fun m' P=>EH l m' π (gb o.op) fun vs=>obI π t (∀ (w1:World) (a:Act) (o':Oper),aiv w.heap.size w w1→aC B w0 w1 bs rs→JK P w1 (o'.op=o.op→q6 a (gb o.op) vs →
  ∃ v w2,(execOp a.eval o').run Tryz.prog w1=.ok (.value v) w2∧R' v w2∧aiv w1.heap.size w1 w2)))∧EC (gb o.op) rel fun r=>k (⟨d,n,gR π t R'⟩::r)
def alN(a:Option UK)(p:Prop):Prop:=match a with
 | none=>p
 | some _=>False
abbrev Oi:=List Oper→Nat→List eV→Option UK→List lE→Bool→Prop
def R_:List lE→List eV→Option (World→Prop)→(List eV→Option (World→Prop)→Prop)→Prop
 | [],m,P,f=>f m P
 | ⟨d,j,R⟩::r,m,P,f=>bif kg d m then ∀ u,R_ r (⟨d,j,[],true,u⟩::m) (Uw (R u) P) f else False
def vF:Oi:=fun L n m al rel _=>R_ rel m none fun m' P=>match al with
 | none=>∀ w',JK P w' (aiv w.heap.size w w'→aC B w0 w' bs rs→vc none B w0 N l L n m' bs rs w' K)
 | some ⟨d,j,ty,cs,s⟩=>bif kg d m' then ∀ g w',JK P w' (aiv w.heap.size w w'→aC B w0 w' ((g,ty,cs)::bs) rs→vc none B w0 N l L n (⟨d,j,[],true,Vd s g⟩::m') ((g,ty,cs)::bs) rs w' K) else False
section
variable (F:Oi)
def vd:Nat→List Oper→Nat→List eV→Option UK→List lE→Bool→Prop
 | 0,L,n,m,al,rel,us=>F L n m al rel us
 | _+1,[],_,_,_,_,_=>False
 | k+1,o::r,n,m,al,rel,us=>gK m o.guard fun π t=>match o.op with
  | .load ty x=>dK N m o.dst fun d=>oG l m π x fun u=>Bh u (wC π t fun v=>vd k r (n+1) (⟨d,n,π,t,v⟩::m) al rel us) fun g off=>zk ty (fun D=>X8 π t bs w D g off fun v=>vd k r (n+1) (⟨d,n,π,t,v⟩::m) al rel us) TT
  | .alloc ty=>Fo π (alN al (dK N m o.dst fun d=>∃ z,(Tryz.prog.info? ty).bind (·.zero)=some z∧bif Nat.blt ty 9000 then Kc z fun cs=>vd k r (n+1) m (some ⟨d,n,ty,cs,none⟩) rel us else False))
  | .box ty x=>Fo π (alN al (dK N m o.dst fun d=>oG l m π x fun u=>bif Nat.blt ty 9000 then Kc u fun cs=>vd k r (n+1) m (some ⟨d,n,ty,cs,none⟩) rel us else False))
  | .buildSlice ty len parts=>(Fo π (alN al (dK N m o.dst fun d=>zk ty (fun D=>match D with
   | .sl e kk _=>bif rR 0 parts.toList then qg parts.toList len (bif Nat.blt 0 (len*kk) then bif Nat.ble (len*kk) 16777216 then bif Nat.blt e 9000 then EH l m π (parts.toList.map (·.2)) fun vs=>QB kk vs fun cs=>vd k r (n+1) m (some ⟨d,n,e,cs.toArray,some len⟩) rel us
    else False else False else False) else False
   | _=>False) TT))∨fD B w0 N l bs rs w o n m π t rel (fun rel=>vd k r (n+1) m al rel true))
  | .call c=>(match c.callee with
   | .value (.func f)=>(EH l m π c.args.toList fun vs=>cD B w0 N bs rs w o n m π t f vs fun e=>vd k r (n+1) (e::m) al rel us) ∨
    cU B w0 N l bs rs w o n m π t f c.args.toList rel (fun e rel=>vd k r (n+1) (e::m) al rel us) ∨
    (EH l m π c.args.toList fun vs=>cRl B w0 N bs rs w o n m π t f vs fun A=>vd k r (n+1) m al (A::rel) true) ∨
    cV B w0 N l bs rs w o n m π t f c.args.toList rel (fun rel=>vd k r (n+1) m al rel true)
   | .value y=>oG l m π y fun u=>(match u with
    | .func (.func f) first cap=>EH l m π c.args.toList fun vs=>kJ first.toList vs fun xs=>kJ xs cap.toList fun ys=>cD B w0 N bs rs w o n m π t f ys fun e=>vd k r (n+1) (e::m) al rel us
    | _=>False)
   | _=>dK N m o.dst fun d=>pop l m π t (fun v=>vd k r (n+1) (⟨d,n,π,t,v⟩::m) al rel us) (.call c))
  | op=>bif LJ (gb op) rel then fD B w0 N l bs rs w o n m π t rel (fun rel=>vd k r (n+1) m al rel true) else dK N m o.dst fun d=>pop l m π t (fun v=>vd k r (n+1) (⟨d,n,π,t,v⟩::m) al rel us) op
end
end
structure Ce (slots:List Nat) (gp:List Good) (m:List eV) (n:Nat):Prop where
 L:jS m n
 len:gp.length=n
 at_:∀ e∈m,slots[e.j]?=some e.s∧gp[e.j]?=some (PU (gd e.t e.v))
theorem Ce.put{slots:List Nat}{gp:List Good}{m:List eV}{n:Nat}(D:Ce slots gp m n){d:Nat}(hs:slots[n]?=some d){π:Pa}(hp:∀ x∈π,∃ e∈m,e.j=x.1){t:Bool}(ht:t=true↔∀ x∈π,Cond m x){v:Value}:Ce slots (gp++[PU (gd t v)]) (⟨d,n,π,t,v⟩::m) (n+1):=by
 refine⟨D.L.put hp ht,by simp[D.len],fun e he=>?_⟩;rcases aiw.1 he with rfl|he
 ·exact⟨hs,by simp[← D.len]⟩
 ·obtain⟨h1,h2⟩:=D.at_ e he;exact⟨h1,by rw[aix (aiy.1 h2).1];exact h2⟩
theorem Ce.skip{slots:List Nat}{gp:List Good}{m:List eV}{n:Nat}(D:Ce slots gp m n)(g:Good):Ce slots (gp++[g]) m (n+1):=
 ⟨D.L.mono (Nat.le_succ n),by simp[D.len],fun e he=>⟨(D.at_ e he).1,by rw[aix (aiy.1 (D.at_ e he).2).1];exact(D.at_ e he).2⟩⟩
theorem p8{d:Nat}:∀ {xs:List Operand},mN d xs=true→Operand.tmp d∈xs
 | .tmp q::r,h=>by
  unfold mN at h
  cases hb:Nat.beq d q with
  | true=>rw[aiu hb];exact aiz ..
  | false=>rw[hb] at h;exact aiA _ (p8 h)
 | .const _::r,h=>aiA _ (p8 h)
 | .global _::r,h=>aiA _ (p8 h)
 | .func _::r,h=>aiA _ (p8 h)
theorem BR{slots:List Nat}{o:Oper}(jj:BS slots o=true)(hnd:slots.Nodup){j d:Nat}(hj:slots[j]?=some d)(hx:Operand.tmp d∈gb o.op):∃ gr,(⟨j,gr⟩:Edge)∈o.after.toList∧Region.binds .any ⟨j,gr⟩=true:=by
 unfold BS at jj;rw[aiB,aiC] at jj;have h3:=jj.1 _ hx;simp only[Ui] at h3;have h5:slots.contains d=true:=by simpa using aiD hj
 rw[h5,Bool.not_true,Bool.false_or,List.any_eq_true] at h3;obtain⟨ed,h6,h7⟩:=h3;rw[aiB,beq_iff_eq] at h7;have h8:ed.on=j:=qc hnd h7.2 hj;obtain⟨on,gr⟩:=ed;simp only at h8;subst h8;exact⟨gr,h6,h7.1⟩
theorem Qj{l:Slots}{m:List eV}{π:Pa}{a:Act}{xs:List Operand}{vs:List Value}(h:y9 (Ar l m π) xs vs)(E:∀ x∈xs,∀ v,Ar l m π x v→a.eval x=v):q6 a xs vs:=by
 induction h with
 | nil=>exact .nil
 | cons h1 _ ih=>exact .cons (E _ (aiz ..) _ h1) (ih fun x hx=>E x (aiA _ hx))
theorem DK{slots:List Nat}{gp G':List Good}{m:List eV}{n:Nat}(D:Ce slots gp m n)(hnd:slots.Nodup){ops:Array Oper}(lC:∀ (i:Nat) (s:Nat),slots[i]?=some s→(ops[i]?).bind (fun o=>o.dst)=some s){o:Oper}(jj:BS slots o=true){l:Slots}(hl:∀ q v,look q l=some v→slots.contains q=false){a a0:Act}{N:Nat}(F0:Fs a0 N l){w:World}
 (Hz:∀ k,(∃ gr,(⟨k,gr⟩:Edge)∈o.after.toList∧Region.binds .any ⟨k,gr⟩=true)→∀ s g,slots[k]?=some s→(gp++G')[k]?=some g→∃ v,At a s v∧g v w)
 (hrest:∀ j u,slots.contains j=false→At a0 j u→At a j u) :
 (∀ x∈gb o.op,∀ π' v,Ar l m π' x v→(∀ y∈π',Cond m y)→a.eval x=v) ∧
 ∀ e∈m,(∃ b,o.guard=some (e.j,b))→(ops[e.j]?).bind (·.dst)=some e.s∧At a e.s (gd e.t e.v):=by
 unfold BS at jj;rw[aiB,aiC] at jj
 have hat:∀ e∈m,(∃ gr,(⟨e.j,gr⟩:Edge)∈o.after.toList∧Region.binds .any ⟨e.j,gr⟩=true)→At a e.s (gd e.t e.v):=fun e he hk=>by
  obtain⟨h1,h2⟩:=D.at_ e he;obtain⟨v,h3,rfl⟩:=Hz _ hk _ _ h1 (by rw[aix (aiy.1 h2).1];exact h2);exact h3
 constructor
 ·intro x hx π' v Hw hc
  cases x with
  | tmp q=>
   rcases Hw with⟨e,he,rfl,rfl,hs⟩|⟨h1,h2⟩
   ·have ht:e.t=true:=(D.L.tv e he).2 fun y hy=>hc y (vT hs y hy)
    refine((hat e he ?_).on ht).ev;have h3:=jj.1 _ hx;simp only[Ui] at h3;obtain⟨h4,-⟩:=D.at_ e he;have h5:slots.contains e.s=true:=by simpa using aiD h4
    rw[h5,Bool.not_true,Bool.false_or,List.any_eq_true] at h3;obtain⟨ed,h6,h7⟩:=h3;rw[aiB,beq_iff_eq] at h7;have h8:ed.on=e.j:=qc hnd h7.2 h4;obtain⟨on,gr⟩:=ed;simp only at h8;subst h8;exact⟨gr,h6,h7.1⟩
   ·exact(hrest q v (hl q v h2) (F0.at_ q v h2)).ev
  | const u=>exact Hw
  | global=>exact Hw.elim
  | func f=>exact Hw
 ·rintro e he ⟨b,hg⟩;refine⟨lC _ _ (D.at_ e he).1,hat e he ?_⟩;have h3:=jj.2;rw[hg] at h3;simp only[List.any_eq_true,aiB,beq_iff_eq] at h3;obtain⟨⟨on,gr⟩,h6,h7,h8⟩:=h3;simp only at h8;subst h8;exact⟨gr,h6,h7⟩
structure Fin (slots:List Nat) (G:List Good) (m:List eV) (al:Option UK) (rel:List lE) (us:Bool) (n:Nat) (w:World):Prop where
 D:Ce slots G m n
 Vc:∀ A,al=some A→slots[A.j]?=some A.d∧G[A.j]?=some (Made w (Vd A.sl) A.ty A.cs)∧Nat.blt A.ty 9000=true∧A.j<n∧∀ e∈m,e.j≠A.j
 cov:al=none→us=false→∀ i,i<n→∃ e∈m,e.j=i
 EA:∀ A∈rel,slots[A.j]?=some A.d∧G[A.j]?=some A.R∧A.j<n∧(∀ e∈m,e.j≠A.j)∧∀ C,al=some C→C.j≠A.j
 tZ:(rel.map (·.j)).Nodup
section
variable {slots:List Nat} {gp:List Good} {m:List eV} {al:Option UK} {rel rel':List lE} {us:Bool} {n:Nat} {w:World}
theorem Fin.sub(F:Fin slots gp m al rel us n w)(h:rel'.Sublist rel):Fin slots gp m al rel' us n w:=⟨F.D,F.Vc,F.cov,fun A hA=>F.EA A (h.subset hA),(h.map _).nodup F.tZ⟩
theorem yS{g g':Good}{j:Nat}(h:gp[j]?=some g):(gp++[g'])[j]?=some g:=by rw[aix (aiy.1 h).1];exact h
theorem Fin.put(F:Fin slots gp m al rel us n w){g:Good}{e0:eV}(h0:e0.j=n)(D:Ce slots (gp++[g]) (e0::m) (n+1)):Fin slots (gp++[g]) (e0::m) al rel us (n+1) w:=by
 refine⟨D,fun A hA=>?_,fun ha hr i hi=>?_,fun A hA=>?_,F.tZ⟩
 ·obtain⟨c1,c2,c3,c4,c5⟩:=F.Vc A hA;refine⟨c1,yS c2,c3,by omega,fun e he=>?_⟩;rcases aiw.1 he with rfl|he
  ·omega
  ·exact c5 e he
 ·by_cases h:i=n
  ·exact⟨e0,aiz ..,h0.trans h.symm⟩
  ·obtain⟨e,h1,h2⟩:=F.cov ha hr i (by omega);exact⟨e,aiA _ h1,h2⟩
 ·obtain⟨c1,c2,c4,c5,c6⟩:=F.EA A hA;refine⟨c1,yS c2,by omega,fun e he=>?_,c6⟩;rcases aiw.1 he with rfl|he
  ·omega
  ·exact c5 e he
theorem Fin.abp(F:Fin slots gp m al rel us n w){d:Nat}{R:Value→World→Prop}(hs:slots[n]?=some d):Fin slots (gp++[R]) m al (⟨d,n,R⟩::rel) true (n+1) w:=by
 refine⟨F.D.skip _,fun A hA=>?_,(fun _ h=>by cases h),fun A hA=>?_,?_⟩
 ·obtain⟨c1,c2,c3,c4,c5⟩:=F.Vc A hA;exact⟨c1,yS c2,c3,by omega,c5⟩
 ·rcases aiw.1 hA with rfl|hA
  ·refine⟨hs,by simp[← F.D.len],Nat.lt_succ_self n,fun e he=>?_,fun C hC=>?_⟩
   ·have:=F.D.L.lt e he;simp only;omega
   ·have:=(F.Vc C hC).2.2.2.1;simp only;omega
  ·obtain⟨c1,c2,c4,c5,c6⟩:=F.EA A hA;exact⟨c1,yS c2,by omega,c5,c6⟩
 ·rw[List.map_cons,List.nodup_cons];refine⟨fun h=>?_,F.tZ⟩;obtain⟨A,hA,e⟩:=List.mem_map.1 h;have:=(F.EA A hA).2.2.1;simp only at e;omega
theorem Fin.abq(F:Fin slots gp m none rel us n w){d:Nat}{ty:TypeId}{cs:Array Value}{s:Option Nat}(hs:slots[n]?=some d)(hty:Nat.blt ty 9000=true):Fin slots (gp++[Made w (Vd s) ty cs]) m (some ⟨d,n,ty,cs,s⟩) rel us (n+1) w:=by
 refine⟨F.D.skip _,fun A hA=>?_,(fun h=>by cases h),fun A hA=>?_,F.tZ⟩
 ·obtain rfl:=aiE hA;refine⟨hs,by simp[← F.D.len],hty,Nat.lt_succ_self n,fun e he=>?_⟩;have:=F.D.L.lt e he;simp only;omega
 ·obtain⟨c1,c2,c4,c5,c6⟩:=F.EA A hA;refine⟨c1,yS c2,by omega,c5,fun C hC=>?_⟩;obtain rfl:=aiE hC;simp only;omega
theorem sM{xs:List Operand}:∀ {rel:List lE} {f:List lE→Prop},EC xs rel f→∃ rel',f rel'∧rel'.Sublist rel
 | [],_,h=>⟨[],h,.slnil⟩
 | ⟨d,j,R⟩::r,f,h=>by
  unfold EC at h
  cases hb:mN d xs with
  | true=>
   rw[hb] at h;obtain⟨r',h1,h2⟩:=sM h;exact⟨r',h1,h2.cons _⟩
  | false=>
   rw[hb] at h;obtain⟨r',h1,h2⟩:=sM (f:=fun r'=>f (⟨d,j,R⟩::r')) h;exact⟨_,h1,h2.cons_cons _⟩
theorem sL{xs:List Operand}{a:Act}{w1:World}{f:List eV→Option (World→Prop)→Prop}:∀ {rel:List lE} {m:List eV} {P:Option (World→Prop)},(∀ p,P=some p→p w1)→(∀ A∈rel,mN A.d xs=true→∃ u,At a A.d u∧A.R u w1)→EB xs rel m P f →
 ∃ m' P',f m' P'∧(∀ p,P'=some p→p w1)∧(∀ e∈m',e∈m∨At a e.s e.v)∧∀ e∈m,e∈m'
 | [],m,P,hP,_,h=>⟨m,P,h,hP,fun e he=>.inl he,fun _ he=>he⟩
 | ⟨d,j,R⟩::r,m,P,hP,hr,h=>by
  unfold EB at h
  cases hb:mN d xs with
  | false=>
   rw[hb] at h;exact sL hP (fun A hA=>hr A (aiA _ hA)) h
  | true=>
   rw[hb] at h;obtain⟨u,h1,h2⟩:=hr _ (aiz ..) hb
   have hP':∀ p,Uw (R u) P=some p→p w1:=fun p hp=>by
    cases P with
    | none=>obtain rfl:=aiE hp;exact h2
    | some q=>obtain rfl:=aiE hp;exact⟨h2,hP q rfl⟩
   obtain⟨m',P',k1,k2,k3,k4⟩:=sL hP' (fun A hA=>hr A (aiA _ hA)) (h u);refine⟨m',P',k1,k2,fun e he=>?_,fun e he=>k4 e (aiA _ he)⟩;rcases k3 e he with h|h
   ·rcases aiw.1 h with rfl|h
    ·exact .inr h1
    ·exact .inl h
   ·exact .inr h
theorem tq{P:Option (World→Prop)}{w:World}{q:Prop}(h:JK P w q)(hP:∀ p,P=some p→p w):q:=by
 cases P with
 | none=>exact h
 | some p=>exact h (hP p rfl)
theorem WX{π:Pa}{t:Bool}{R:Value→World→Prop}{v:Value}{w:World}(h:R v w):gR π t R v w:=by
 cases π with
 | nil=>exact h
 | cons=>exact fun _=>h
theorem TN{π:Pa}{R:Value→World→Prop}{v:Value}{w:World}(h:π≠[]):gR π false R v w:=by
 cases π with
 | nil=>exact absurd rfl h
 | cons=>exact fun h=>by cases h
theorem Mj{π:Pa}{t:Bool}{R:Value→World→Prop}(h:mX R):mX (gR π t R):=by
 cases π with
 | nil=>exact h
 | cons=>exact fun v w w' h1 hb ht=>h v w w' (h1 ht) hb
end
section
variable {N:Nat} {l:Slots} {B:Nat} {w0 w:World} {bs:List Bx} {rs:List Rw} {F:Oi} {slots:List Nat} {ops:Array Oper} {a0:Act}
def RB(N:Nat)(l:Slots)(B:Nat)(w0 w:World)(bs:List Bx)(rs:List Rw)(F:Oi)(slots:List Nat)(ops:Array Oper)(a0:Act)(gp:List Good)(L:List Oper)(k n:Nat):Prop:=
 ∃ G' m' al' rel' us',oh (gp++G')∧G'.length=k∧oo Tryz.prog ops slots (gp++G') (aiv w.heap.size w) a0 N (L.take k) G'∧Fin slots (gp++G') m' al' rel' us' (n+k) w∧vd B w0 N l bs rs w F 0 (L.drop k) (n+k) m' al' rel' us'
theorem QJ(M:aC B w0 w bs rs)(hnd:slots.Nodup)(lC:∀ (i s:Nat),slots[i]?=some s→(ops[i]?).bind (fun o=>o.dst)=some s)(hl:∀ q v,look q l=some v→slots.contains q=false)(F0:Fs a0 N l):
 ∀ {k:Nat} {L:List Oper} {n:Nat} {m:List eV} {al:Option UK} {rel:List lE} {us:Bool} {gp:List Good},vd B w0 N l bs rs w F k L n m al rel us→Fin slots gp m al rel us n w→(∀ i o,(L.take k)[i]?=some o→BS slots o=true∧slots[n+i]?=o.dst)→k≤L.length→oh gp →
  RB N l B w0 w bs rs F slots ops a0 gp L k n:=by
 intro k
 induction k with
 | zero=>intro L n m al rel us gp h hF _ _ hla;exact⟨[],m,al,rel,us,by simpa using hla,rfl,trivial,by simpa using hF,h⟩
 | succ k ih=>
  intro L n m al rel us gp h hF jj hkl hla
  cases L with
  | nil=>simp at hkl
  | cons o r=>
   have aal:k≤r.length:=by simpa using hkl
   have Q7:=jj 0 o (by simp)
   have WE:∀ i o,(r.take k)[i]?=some o→BS slots o=true∧slots[n+1+i]?=o.dst:=fun i o' hi=>by
    have:=jj (i+1) o' (by simpa using hi)
    rwa [show n+1+i=n+(i+1) by omega]
   have one:∀ (g:Good) (m1:List eV) (al1:Option UK) (sN:List lE) (YP:Bool),mX g→Fin slots (gp++[g]) m1 al1 sN YP (n+1) w→vd B w0 N l bs rs w F k r (n+1) m1 al1 sN YP →
    (∀ (a:Act) (w1:World) (Q':Exit→Act→World→Prop),Fr a N→aiv w.heap.size w w1 →
     (∀ x∈gb o.op,∀ π' v,Ar l m π' x v→(∀ y∈π',Cond m y)→a.eval x=v)→(∀ e∈m,(∃ b,o.guard=some (e.j,b))→(ops[e.j]?).bind (·.dst)=some e.s∧At a e.s (gd e.t e.v)) →
     (∀ A∈rel,mN A.d (gb o.op)=true→∃ u,At a A.d u∧A.R u w1) →
     (∀ v a' w',aiv w1.heap.size w1 w'→g v w'→Put a (o.dst.getD 0) v a'→Q' .normal a' w')→wpList Tryz.prog ops Q' [o] a w1) →
    RB N l B w0 w bs rs F slots ops a0 gp (o::r) (k+1) n:=by
    intro g m1 al1 sN YP hg hF1 h1 hst
    have aac:oh (gp++[g]):=by
     clear ih h hF hF1 h1 hst
     induction gp with
     | nil=>exact⟨hg,trivial⟩
     | cons x r ih=>exact⟨hla.1,ih hla.2⟩
    obtain⟨G',m',al',rel',us',k1,k2,k3,k4,k5⟩:=ih h1 hF1 WE aal aac;refine⟨g::G',m',al',rel',us',by simpa using k1,by simp[k2],⟨?_,by simpa using k3⟩,by simpa[show n+(k+1)=n+1+k by omega] using k4,by simpa[show n+(k+1)=n+1+k by omega] using k5⟩;intro a w1 Q' hf hb Hz hrest hK;obtain⟨E,yp⟩:=DK hF.D hnd lC Q7.1 hl F0 (G':=g::G') Hz hrest;refine hst a w1 Q' hf hb E yp (fun A hA hop=>?_) hK;obtain⟨c1,c2,c4,c5,-⟩:=hF.EA A hA;refine Hz A.j ?_ _ _ c1 (by rw[aix (aiy.1 c2).1];exact c2);exact BR Q7.1 hnd c1 (p8 hop)
   obtain⟨π,t,h,hp,ht,h0,hgd⟩:=HY hF.D.L h;have MJ:∀ {d:Nat},o.dst=some d→slots[n]?=some d:=fun hd=>by have:=Q7.2;rw[hd] at this;simpa using this
   have off:∀ {d:Nat} {a:Act} {w1:World} {g:Good} {Q':Exit→Act→World→Prop},Region.wanted o (yielded ops a.tmps)=false→o.dst=some d→Nat.blt d N=true→Fr a N→g undef w1→(∀ v a' w',aiv w1.heap.size w1 w'→g v w'→Put a (o.dst.getD 0) v a'→Q' .normal a' w')→wpList Tryz.prog ops Q' [o] a w1:=
    fun hw hd hN hf hg hK=>AF hw hd hf (by simpa using hN) fun a' p=>aiF (hK undef a' _ (Below.refl _ _) hg (by rw[hd];exact p))
   have val:∀ {d:Nat} {v:Value} {sN:List lE},sN.Sublist rel→o.dst=some d→Nat.blt d N=true→vd B w0 N l bs rs w F k r (n+1) (⟨d,n,π,t,v⟩::m) al sN us →
    (t=true→∀ (a:Act) (w1:World) (Q':Exit→Act→World→Prop),Fr a N→aiv w.heap.size w w1→Region.wanted o (yielded ops a.tmps)=true→(∀ x∈gb o.op,∀ π' v,Ar l m π' x v→(∀ y∈π',Cond m y)→a.eval x=v) →
     (∀ A∈rel,mN A.d (gb o.op)=true→∃ u,At a A.d u∧A.R u w1)→(∀ v' a' w',aiv w1.heap.size w1 w'→PU v v' w'→Put a (o.dst.getD 0) v' a'→Q' .normal a' w')→wpList Tryz.prog ops Q' [o] a w1) →
    RB N l B w0 w bs rs F slots ops a0 gp (o::r) (k+1) n:=by
    intro d v sN hsub hd hN h1 hr;refine one (PU (gd t v)) _ _ _ _ (Dg _) ((hF.sub hsub).put rfl (hF.D.put (MJ hd) hp ht)) h1 fun a w1 Q' hf hb E yp hrel hK=>?_
    have hw:=qE hgd yp
    cases t with
    | true=>exact hr rfl a w1 Q' hf hb hw E hrel hK
    | false=>exact off hw hd hN hf rfl hK
   have JV:∀ {op:Op} {d:Nat},o.op=op→o.dst=some d→Nat.blt d N=true→pop l m π t (fun v=>vd B w0 N l bs rs w F k r (n+1) (⟨d,n,π,t,v⟩::m) al rel us) op→RB N l B w0 w bs rs F slots ops a0 gp (o::r) (k+1) n:=fun hop hd hN h=>by
    obtain⟨v,h1,h2⟩:=ES hF.D.L ht h;exact val (.refl _) hd hN h1 fun bt a w1 Q' hf hb hw E _ hK=>dv hw (h2 a w1 o hop (hop▸E) bt) hd hf hN hK rfl
   have new:∀ {d:Nat} {ty:TypeId} {cs:Array Value} {s:Option Nat},π=[]→al=none→o.dst=some d→Nat.blt d N=true→Nat.blt ty 9000=true→vd B w0 N l bs rs w F k r (n+1) m (some ⟨d,n,ty,cs,s⟩) rel us →
    (∀ (a:Act) (w1:World),(∀ x∈gb o.op,∀ π' v,Ar l m π' x v→(∀ y∈π',Cond m y)→a.eval x=v)→(execOp a.eval o).run Tryz.prog w1=.ok (.value (Vd s w1.heap.size)) (w1.alloc (.cells cs ty))) →
    RB N l B w0 w bs rs F slots ops a0 gp (o::r) (k+1) n:=by
    intro d ty cs s hπ hal hd hN hty h1 hr;subst hal;refine one (Made w (Vd s) ty cs) _ _ _ _ (Fx _ _ _ _) (hF.abq (MJ hd) hty) h1 fun a w1 Q' hf hb E yp _ hK=>?_
    have hw:=(qE hgd yp).trans (h0 hπ);exact dn (f:=Vd s) hw (hr a w1 E) hd hf hN hK fun b w' nn=>Ma hb b w' nn
   have Rt:∀ {f:FuncId} {vs:List Value},cD B w0 N bs rs w o n m π t f vs (fun e=>vd B w0 N l bs rs w F k r (n+1) (e::m) al rel us) →
    (t=true→Jj Tryz.prog f=true→∀ (a:Act) (w1:World),(∀ x∈gb o.op,∀ π' v,Ar l m π' x v→(∀ y∈π',Cond m y)→a.eval x=v)→(execOp a.eval o).run Tryz.prog w1=.ok (.enter f vs.toArray) w1) →
    RB N l B w0 w bs rs F slots ops a0 gp (o::r) (k+1) n:=by
    intro f vs h hr;unfold cD at h
    cases hm:jC f KL with
    | true=>rw[hm] at h;exact h.elim
    | false=>
     rw[hm] at h;obtain⟨hb,h⟩:=bA h;obtain⟨d,hd,hN,hfr,v,h⟩:=iF h;obtain⟨h1,h2⟩:=gJ h;have hok:=xO hb hm;exact val (.refl _) hd hN h2 fun bt a w1 Q' hf hb hw E _ hK=>dc hw (hr bt hok a w1 E) (h1 bt w1 hb (M.keep hb)) hd hf hN hK fun _=>rfl
   have newR:∀ {d:Nat} {R':Value→World→Prop} {sN:List lE},sN.Sublist rel→o.dst=some d→Nat.blt d N=true→mX R'→vd B w0 N l bs rs w F k r (n+1) m al (⟨d,n,gR π t R'⟩::sN) true →
    (t=true→∀ (a:Act) (w1:World) (Q':Exit→Act→World→Prop),Fr a N→aiv w.heap.size w w1→Region.wanted o (yielded ops a.tmps)=true→(∀ x∈gb o.op,∀ π' v,Ar l m π' x v→(∀ y∈π',Cond m y)→a.eval x=v) →
     (∀ A∈rel,mN A.d (gb o.op)=true→∃ u,At a A.d u∧A.R u w1)→(∀ v' a' w',aiv w1.heap.size w1 w'→R' v' w'→Put a (o.dst.getD 0) v' a'→Q' .normal a' w')→wpList Tryz.prog ops Q' [o] a w1) →
    RB N l B w0 w bs rs F slots ops a0 gp (o::r) (k+1) n:=by
    intro d R' sN hsub hd hN hR' h2 hst;refine one (gR π t R') _ _ _ _ (Mj hR') ((hF.sub hsub).abp (MJ hd)) h2 fun a w1 Q' hf hb E yp hrel hK=>?_
    have hw:=qE hgd yp
    cases t with
    | true=>exact hst rfl a w1 Q' hf hb hw E hrel fun v a' w' hb' hv hp=>hK v a' w' hb' (WX hv) hp
    | false=>exact off hw hd hN hf (TN fun h=>by cases h0 h) hK
   have evR:∀ {a:Act} {m':List eV} {xs:List Operand} {vs:List Value} {π':Pa},(∀ y∈π',Cond m y)→(∀ e∈m',e∈m∨At a e.s e.v)→(∀ e∈m,e∈m')→y9 (Ar l m' π') xs vs→(∀ x∈xs,x∈gb o.op) →
    (∀ x∈gb o.op,∀ π' v,Ar l m π' x v→(∀ y∈π',Cond m y)→a.eval x=v)→q6 a xs vs:=fun {a m' xs vs π'} hc h1 h2 h3 hx E=>Qj h3 fun x hxs v Hw=>by
    cases x with
    | tmp q=>
     rcases Hw with⟨e,he,rfl,rfl,hsub⟩|⟨h5,h6⟩
     ·rcases h1 e he with he|he
      ·exact E _ (hx _ hxs) π' _ (.inl ⟨e,he,rfl,rfl,hsub⟩) hc
      ·exact he.ev
     ·exact E _ (hx _ hxs) π' _ (.inr ⟨fun e he=>h5 e (h2 e he),h6⟩) hc
    | const u=>exact Hw
    | global=>exact Hw.elim
    | func f=>exact Hw
   have hfD:fD B w0 N l bs rs w o n m π t rel (fun rel=>vd B w0 N l bs rs w F k r (n+1) m al rel true)→RB N l B w0 w bs rs F slots ops a0 gp (o::r) (k+1) n:=fun hB=>by
    unfold fD at hB;obtain⟨d,hd,hN,hfr,R',hR',h1,h2⟩:=iF hB;obtain⟨sN,h2,hsub⟩:=sM h2;refine newR hsub hd hN hR' h2 fun bt a w1 Q' hf hb hw E hrel hK=>?_
    obtain⟨m',P',k1,k2,k3,k4⟩:=sL (fun _ h=>by cases h) hrel h1;obtain⟨vs,h3,h4⟩:=j5 k1;obtain⟨v,w2,h5,h6,h7⟩:=tq (Sh h4 bt w1 a o hb (M.keep hb)) k2 rfl (evR (ht.1 bt) k3 k4 h3 (fun x hx=>hx) E);exact kM hw h5 hd hf (by simpa using hN) fun a' p=>aiF (hK v a' w2 h7 h6 (by rw[hd];exact p))
   split at h
   ·rename_i ty x hop;obtain⟨d,hd,hN,hfr,h⟩:=iF h;obtain⟨u,h1,h⟩:=bR h;rcases oH h with⟨g,off',rfl,hq⟩|h
    case inr=>
     obtain⟨h2,h3⟩:=Nf h;exact val (.refl _) hd hN h3 fun bt=>(h2 bt).elim
    obtain⟨D,hD,h⟩:=kD hq;obtain⟨v,h2,h3⟩:=Mh M h hD;exact val (.refl _) hd hN h2 fun bt a w1 Q' hf hb hw E _ hK=>dv hw (h3 bt w1 hb a o x hop (E x (by rw[hop];simp[gb]) _ _ h1 (ht.1 bt))) hd hf hN hK rfl
   ·rename_i ty hop;obtain⟨hπ,h⟩:=j9 h
    cases al with
    | some A=>exact h.elim
    | none=>
     obtain⟨d,hd,hN,hfr,z,hz,h⟩:=iF h;obtain⟨hty,h⟩:=bA h;exact new hπ rfl hd hN hty (tP h) fun a w1 _=>tH hop hz
   ·rename_i ty x hop;obtain⟨hπ,h⟩:=j9 h
    cases al with
    | some A=>exact h.elim
    | none=>
     obtain⟨d,hd,hN,hfr,h⟩:=iF h;obtain⟨u,h1,h⟩:=bR h;obtain⟨hty,h⟩:=bA h;exact new hπ rfl hd hN hty (tP h) fun a w1 E=>Nu hop (E x (by rw[hop];simp[gb]) _ _ h1 (by rw[hπ];simp))
   ·rename_i ty len parts hop;rcases h with hA|hB
    case inr=>exact hfD hB
    obtain⟨hπ,hA⟩:=j9 hA
    cases al with
    | some A=>exact hA.elim
    | none=>
     obtain⟨d,hd,hN,hfr,h⟩:=iF hA;obtain⟨D,hD,h⟩:=kD h;split at h
     ·obtain⟨hps,h⟩:=bA h;obtain⟨hlen,h⟩:=jc h;obtain⟨b0,h⟩:=bA h;obtain⟨b1,h⟩:=bA h;obtain⟨b2,h⟩:=bA h;obtain⟨vs,h1,h⟩:=j5 h;obtain⟨h2,h3⟩:=B0 h;exact new hπ rfl hd hN b2 h2 fun a w1 E=>qH hop hD hps hlen (by simpa using b0) (by simpa using b1) (uz h1 (by rw[hπ];simp) (by rw[hop] at E;exact E)) h3
     ·exact h.elim
   ·rename_i c hop;split at h
    ·rename_i f qm;have e3:c={ callee:=.value (.func f),args:=c.args,argTypes:=c.argTypes }:=by cases c;simp only at qm;rw[qm]
     have ML:gb o.op=c.args.toList:=by rw[hop];simp only[gb,qm];rfl
     rcases h with h|h|h|h
     case inr.inr.inr=>
      unfold cV at h
      cases hm:jC f KL with
      | true=>rw[hm] at h;exact h.elim
      | false=>
       rw[hm] at h;obtain⟨hb,h⟩:=bA h;obtain⟨hu,h⟩:=bA h;have hok:=xO hb hm;obtain⟨d,hd,hN,hfr,R',hR',h1,h2⟩:=iF h;obtain⟨sN,h2,hsub⟩:=sM h2;refine newR hsub hd hN hR' h2 fun bt a w1 Q' hf hb hw E hrel hK=>?_
       obtain⟨m',P',k1,k2,k3,k4⟩:=sL (fun _ h=>by cases h) (fun A hA hx=>hrel A hA (by rw[ML];exact hx)) h1;obtain⟨vs,h3,h4⟩:=j5 k1;exact dx hw (qK hok (hop.trans (congrArg Op.call e3)) (ko (evR (ht.1 bt) k3 k4 h3 (by rw[ML];exact fun x hx=>hx) E))) (tq (h4 bt w1 hb (M.keep hb)) k2) hd hf hN hK
     case inr.inl=>
      unfold cU at h
      cases hm:jC f KL with
      | true=>rw[hm] at h;exact h.elim
      | false=>
       rw[hm] at h;obtain⟨hb,h⟩:=bA h;obtain⟨hu,h⟩:=bA h;have hok:=xO hb hm;obtain⟨d,hd,hN,hfr,v,h1,h2⟩:=iF h;obtain⟨sN,h2,hsub⟩:=sM h2;refine val hsub hd hN h2 fun bt a w1 Q' hf hb hw E hrel hK=>?_
       obtain⟨m',P',k1,k2,k3,k4⟩:=sL (fun _ h=>by cases h) (fun A hA hx=>hrel A hA (by rw[ML];exact hx)) h1;obtain⟨vs,h3,h4⟩:=j5 k1;exact dc hw (qK hok (hop.trans (congrArg Op.call e3)) (ko (evR (ht.1 bt) k3 k4 h3 (by rw[ML];exact fun x hx=>hx) E))) (tq (h4 bt w1 hb (M.keep hb)) k2) hd hf hN hK fun _=>rfl
     case inr.inr.inl=>
      obtain⟨vs,h1,h⟩:=j5 h;unfold cRl at h
      cases hm:jC f KL with
      | true=>rw[hm] at h;exact h.elim
      | false=>
       rw[hm] at h;obtain⟨hb,h⟩:=bA h;have hok:=xO hb hm;obtain⟨d,hd,hN,hfr,R,hR,h⟩:=iF h;obtain⟨hc,h2⟩:=gJ h;exact newR (.refl _) hd hN hR h2 fun bt a w1 Q' hf hb hw E _ hK=>dx hw (qK hok (hop.trans (congrArg Op.call e3)) (ko (uz h1 (ht.1 bt) fun x hx=>E x (by rw[ML];exact hx)))) (hc bt w1 hb (M.keep hb)) hd hf hN hK
     obtain⟨vs,h1,h⟩:=j5 h;refine Rt h fun bt hok a w1 E=>?_
     exact qK hok (hop.trans (congrArg Op.call e3)) (ko (uz h1 (ht.1 bt) fun x hx=>E x (by rw[hop];simp only[gb,qm];exact hx)))
    ·rename_i y hy qm;obtain⟨u,h1,h⟩:=bR h;split at h
     ·rename_i f first cap
      obtain⟨vs,h2,h⟩:=j5 h;have h:=cG (cG h);refine Rt h fun bt hok a w1 E=>?_
      have e3:c={ callee:=.value y,args:=c.args,argTypes:=c.argTypes }:=by cases c;simp only at qm;rw[qm]
      have Wt:gb o.op=y::c.args.toList:=by
       rw[hop];simp only[gb,qm];cases y<;>first|rfl|exact absurd rfl (hy _)
      refine C2 hok (hop.trans (congrArg Op.call e3)) (E y (by rw[Wt];exact aiz ..) _ _ h1 (ht.1 bt)) ?_;rw[ko (uz h2 (ht.1 bt) fun x hx=>E x (by rw[Wt];exact aiA _ hx))];apply Array.toList_inj.1;simp
     ·exact h.elim
    ·obtain⟨d,hd,hN,hfr,h⟩:=iF h;exact JV hop hd hN h
   all_goals
    cases hu:LJ (gb o.op) rel with
    | true=>rw[hu] at h;exact hfD h
    | false=>
     rw[hu] at h;obtain⟨d,hd,hN,hfr,h⟩:=iF h;exact JV rfl hd hN h
end
end Go.Proofs.YtkkmjdceiocnbaaGreatDoor
namespace Go.Proofs.YtkkmjdceiocnbaaGreatDoor
open Go Go.RowKit
variable [DS]
def rX(o:Oper)(j:Nat):Bool:=o.after.toList.any fun e=>Region.binds .any e&&(e.on == j)
def VY(o:Oper):Bool:=o.guard.isNone
def VU(N:Nat)(L:List Oper)(k:Nat):Bool:=
 ordered 0 L&&((L.take (k+2)).all (fun o=>o.dst.isSome)&&((L.take k).all (BS (iH (k+2) L))&&((iH (k+2) L).all (fun s=>decide (s<N))&&(decide (iH (k+2) L).Nodup&&(decide (L.length=k+4) &&
  ((L.drop k).all VY&&((L.drop (k+2)).all (BS (iH (k+2) L)))))))))
section
variable (B:Nat) (w0:World) (N:Nat) (l:Slots) (bs:List Bx) (rs:List Rw) (w:World) (K:Slots→List Bx→List Rw→World→Prop)
def vP:Oi:=fun L _ m al _ us=>match L,al,us with
 | [a1,a2,s1,s2],none,false=>(match a1.op,a2.op,s1.op,s2.op with
  | .alloc vQ,.alloc vO,.store t1 (.tmp x1) y1,.store t2 (.tmp x2) y2=>dK N m a1.dst fun d1=>dK N m a2.dst fun d2=>bif Nat.beq x1 d1 then bif Nat.beq x2 d2 then (match s1.dst,s2.dst with
   | none,none=>∃ z1 z2,((Tryz.prog.info? vQ).bind (·.zero)=some z1∧(Tryz.prog.info? vO).bind (·.zero)=some z2)∧oG l m [] y1 fun u1=>oG l m [] y2 fun u2=>zk t1 (fun D1=>zk t2 (fun D2=>bif Nat.blt vQ 9000 then bif Nat.blt vO 9000 then qg (aU u1) (jI D1) (qg (aU z1) (jI D1) (qg (aU u2) (jI D2) (qg (aU z2) (jI D2)
     (((aU u1).all (·.oneCell')=true∧(aU u2).all (·.oneCell')=true)∧∀ g1 g2 w',aiv w.heap.size w w'→aC B w0 w' ((g1,vQ,(aU u1).toArray)::(g2,vO,(aU u2).toArray)::bs) rs →
       mh m l fun l'=>K ((d1,.pointer (some ⟨g1,0,none⟩))::(d2,.pointer (some ⟨g2,0,none⟩))::l') ((g1,vQ,(aU u1).toArray)::(g2,vO,(aU u2).toArray)::bs) rs w')))) else False else False) TT) TT
   | _,_=>False) else False else False
  | _,_,_,_=>False)
 | _,_,_=>False
end
structure PI (L:List Oper) (k:Nat) (slots:List Nat) (G:List Good) (N:Nat) (a0:Act) (w:World) (d1 d2 vQ vO:Nat) (z1 z2 c1 c2:Array Value) (Lf:Nat→Bool) (b:Act) (u:World):Prop where
 fr:Fr b N
 inv:aiv w.heap.size w u
 done:∀ i,i<k→Lf i=true→∀ s g,slots[i]?=some s→G[i]?=some g→∃ v,At b s v∧g v u
 rest:∀ j x,slots.contains j=false→At a0 j x→At b j x
 o1:Lf (k+2)=true→Lf k=true
 o2:Lf (k+3)=true→Lf (k+1)=true
 one:Lf k=true→∃ g,At b d1 (.pointer (some ⟨g,0,none⟩))∧w.heap.size≤g∧Whole u g vQ (if Lf (k+2)=true then c1 else z1)
 two:Lf (k+1)=true→∃ g,At b d2 (.pointer (some ⟨g,0,none⟩))∧w.heap.size≤g∧Whole u g vO (if Lf (k+3)=true then c2 else z2)
 ne:Lf k=true→Lf (k+1)=true→∀ g,At b d1 (.pointer (some ⟨g,0,none⟩))→At b d2 (.pointer (some ⟨g,0,none⟩))→False
theorem At.JY{a:Act}{s:Nat}{v u:Value}(h:At a s v)(h':At a s u):v=u:=aiE (h.symm.trans h')
theorem qJ{g g':Nat}(h:Value.pointer (some ⟨g,0,none⟩)=.pointer (some ⟨g',0,none⟩)):g=g':=by
 injection h with h;injection h with h;injection h
section
variable {B:Nat} {w0 w:World} {N:Nat} {l:Slots} {bs:List Bx} {rs:List Rw} {K:Slots→List Bx→List Rw→World→Prop} {Q:Exit→Act→World→Prop} {a:Act} {id:Nat} {L:List Oper}
theorem f_{Lf:Nat→Bool}{i j:Nat}(h:j≠i):upd Lf i j=Lf j:=by
 have:(j == i)=false:=by simpa using h
 simp[upd,this]
theorem Cv{Lf:Nat→Bool}{i:Nat}:upd Lf i i=true:=by simp[upd]
theorem ET{k:Nat}{slots:List Nat}{G:List Good}{d1 d2 vQ vO:Nat}{u1 u2 z1 z2:Value}{a1 a2 s1 s2:Oper}{t1 t2:TypeId}{y1 y2:Operand}{D1 D2:TD}
 (hL:L.length=k+4) (hnd:slots.Nodup) (hsl:slots.length=k+2) (hlt:∀ s∈slots,s<N)
 (hG:G.length=k) (Qa:∀ g∈G,∃ v,g=PU v) (hst:oo Tryz.prog L.toArray slots G (aiv w.heap.size w) a N (L.take k) G)
 (fT:ordered 0 L=true) (gL:∀ (i:Nat) (o:Oper),i<k+2→L[i]?=some o→slots[i]?=o.dst)
 (e1:L[k]?=some a1) (e2:L[k+1]?=some a2) (e3:L[k+2]?=some s1) (e4:L[k+3]?=some s2)
 (p1:a1.op=.alloc vQ) (p2:a2.op=.alloc vO) (p3:s1.op=.store t1 (.tmp d1) y1) (p4:s2.op=.store t2 (.tmp d2) y2)
 (g1:a1.guard=none) (g2:a2.guard=none) (g3:s1.guard=none) (g4:s2.guard=none) (q1:a1.dst=some d1) (q2:a2.dst=some d2) (q3:s1.dst=none) (q4:s2.dst=none)
 (hz1:(Tryz.prog.info? vQ).bind (·.zero)=some z1) (hz2:(Tryz.prog.info? vO).bind (·.zero)=some z2)
 (hD1:jZ Tryz.prog t1 D1=true) (hD2:jZ Tryz.prog t2 D2=true) (n1:(aU u1).length=jI D1) (n2:(aU z1).length=jI D1) (n3:(aU u2).length=jI D2) (n4:(aU z2).length=jI D2)
 (c1:(aU u1).all (·.oneCell')=true) (c2:(aU u2).all (·.oneCell')=true)
 (hy1:∀ (b:Act) (u:World) (Lf:Nat→Bool),PI L k slots G N a w d1 d2 vQ vO z1.cells z2.cells (aU u1).toArray (aU u2).toArray Lf b u→(∀ e∈s1.after.toList,Region.binds .any e=true→Lf e.on=true)→b.eval y1=u1∧Lf k=true)
 (UZ:∀ (b:Act) (u:World) (Lf:Nat→Bool),PI L k slots G N a w d1 d2 vQ vO z1.cells z2.cells (aU u1).toArray (aU u2).toArray Lf b u→(∀ e∈s2.after.toList,Region.binds .any e=true→Lf e.on=true)→b.eval y2=u2∧Lf (k+1)=true) :
 ∀ (i:Nat) (o:Oper),L[i]?=some o→∀ (Lf:Nat→Bool) (b:Act) (u:World) (Q':Exit→Act→World→Prop),PI L k slots G N a w d1 d2 vQ vO z1.cells z2.cells (aU u1).toArray (aU u2).toArray Lf b u→Lf i=false →
  (∀ e∈o.after.toList,Region.binds .any e=true→Lf e.on=true)→(∀ b u,PI L k slots G N a w d1 d2 vQ vO z1.cells z2.cells (aU u1).toArray (aU u2).toArray (upd Lf i) b u→Q' .normal b u)→wpList Tryz.prog L.toArray Q' [o] b u:=by
 have O6:slots[k]?=some d1:=by rw[gL k a1 (by omega) e1,q1]
 have O5:slots[k+1]?=some d2:=by rw[gL (k+1) a2 (by omega) e2,q2]
 have Wn:∀ {i j s s':Nat},slots[i]?=some s→slots[j]?=some s'→i≠j→s≠s':=fun h1 h2 hne e=>hne (qc hnd (e▸h1) h2)
 have Q_:∀ (i:Nat) (g:Good),G[i]?=some g→i<k∧mX g:=fun i g hg=>⟨hG▸(aiy.1 hg).1,by obtain⟨v,rfl⟩:=Qa g (aiD hg);exact Dg v⟩
 have hN:∀ {i s:Nat},slots[i]?=some s→s<N:=fun h=>hlt _ (aiD h)
 have hin:∀ {i s:Nat},slots[i]?=some s→slots.contains s=true:=fun h=>by simpa using aiD h
 have UQ:∀ {Lf:Nat→Bool} {i j:Nat},Lf j=true→upd Lf i j=true:=fun h=>by simp[upd,h]
 have put:∀ {i s:Nat} {v:Value} {Lf:Nat→Bool} {b b':Act} {u u':World},PI L k slots G N a w d1 d2 vQ vO z1.cells z2.cells (aU u1).toArray (aU u2).toArray Lf b u→i<k+2→slots[i]?=some s→Lf i=false→Put b s v b'→aiv u.heap.size u u' →
  (∀ g,G[i]?=some g→g v u')→(i=k→∃ g,v=.pointer (some ⟨g,0,none⟩)∧w.heap.size≤g∧Whole u' g vQ z1.cells∧u.heap.size≤g)→(i=k+1→∃ g,v=.pointer (some ⟨g,0,none⟩)∧w.heap.size≤g∧Whole u' g vO z2.cells∧u.heap.size≤g) →
  PI L k slots G N a w d1 d2 vQ vO z1.cells z2.cells (aU u1).toArray (aU u2).toArray (upd Lf i) b' u':=by
  intro i s v Lf b b' u u' I hi hs Ox hp hb hg hk1 hk2;have old:∀ {j s':Nat} {x:Value},slots[j]?=some s'→j≠i→At b s' x→At b' s' x:=fun h1 hne h2=>hp.old (by simpa using Wn h1 hs hne) h2
  have hx2:upd Lf i (k+2)=Lf (k+2):=f_ (by omega);have ZI:upd Lf i (k+3)=Lf (k+3):=f_ (by omega);refine⟨hp.fr I.fr,I.inv.trans (hb.mono I.inv.size),?_,?_,?_,?_,?_,?_,?_⟩
  ·intro j hj DA s' g hs' hg';by_cases hji:j=i
   ·subst hji;obtain rfl:s=s':=aiE (hs.symm.trans hs');exact⟨v,hp.now,hg g hg'⟩
   ·rw[f_ hji] at DA;obtain⟨x,h1,h2⟩:=I.done j hj DA s' g hs' hg';exact⟨x,old hs' hji h1,(Q_ j g hg').2 _ _ _ h2 hb⟩
  ·intro j x hj hx;have:j≠s:=fun e=>by rw[e,hin hs] at hj;cases hj
   exact hp.old (by simpa using this) (I.rest j x hj hx)
  ·intro h;rw[hx2] at h;exact UQ (I.o1 h)
  ·intro h;rw[ZI] at h;exact UQ (I.o2 h)
  ·intro h;by_cases hik:i=k
   ·subst hik;obtain rfl:s=d1:=aiE (hs.symm.trans O6);obtain⟨g,rfl,h1,h2,-⟩:=hk1 rfl
    have h3:Lf (i+2)=false:=by
     cases h4:Lf (i+2) with
     | false=>rfl
     | true=>rw[I.o1 h4] at Ox;cases Ox
    exact⟨g,hp.now,h1,by rw[hx2,h3];exact h2⟩
   ·rw[f_ (Ne.symm hik)] at h;obtain⟨g,h1,h2,h3⟩:=I.one h;exact⟨g,old O6 (Ne.symm hik) h1,h2,by rw[hx2];exact Whole.under hb h3 h3.lt⟩
  ·intro h;by_cases hik:i=k+1
   ·subst hik;obtain rfl:s=d2:=aiE (hs.symm.trans O5);obtain⟨g,rfl,h1,h2,-⟩:=hk2 rfl
    have h3:Lf (k+3)=false:=by
     cases h4:Lf (k+3) with
     | false=>rfl
     | true=>rw[I.o2 h4] at Ox;cases Ox
    exact⟨g,hp.now,h1,by rw[ZI,h3];exact h2⟩
   ·rw[f_ (Ne.symm hik)] at h;obtain⟨g,h1,h2,h3⟩:=I.two h;exact⟨g,old O5 (Ne.symm hik) h1,h2,by rw[ZI];exact Whole.under hb h3 h3.lt⟩
  ·intro ha hb' g h1 h2;by_cases hik:i=k
   ·subst hik;obtain rfl:s=d1:=aiE (hs.symm.trans O6);obtain⟨g',rfl,-,-,h5⟩:=hk1 rfl;rw[f_ (by omega)] at hb';obtain⟨g2,h6,-,h7⟩:=I.two hb';obtain rfl:=qJ (hp.now.JY h1);obtain rfl:=qJ ((old O5 (by omega) h6).JY h2);have:=h7.lt;omega
   ·by_cases Ts:i=k+1
    ·subst Ts;obtain rfl:s=d2:=aiE (hs.symm.trans O5);obtain⟨g',rfl,-,-,h5⟩:=hk2 rfl;rw[f_ (by omega)] at ha;obtain⟨g2,h6,-,h7⟩:=I.one ha;obtain rfl:=qJ (hp.now.JY h2);obtain rfl:=qJ ((old O6 (by omega) h6).JY h1);have:=h7.lt;omega
    ·rw[f_ (Ne.symm hik)] at ha;rw[f_ (Ne.symm Ts)] at hb';obtain⟨x1,h3,-,-⟩:=I.one ha;obtain⟨x2,h4,-,-⟩:=I.two hb';obtain rfl:=qJ ((old O6 (Ne.symm hik) h3).JY h1);obtain rfl:=qJ ((old O5 (Ne.symm Ts) h4).JY h2);exact I.ne ha hb' _ h3 h4
 have VJ:∀ {Lf:Nat→Bool} {b:Act} {u u':World} {i g:Nat},PI L k slots G N a w d1 d2 vQ vO z1.cells z2.cells (aU u1).toArray (aU u2).toArray Lf b u→w.heap.size≤g→uL u u' g→(i=k+2∧Lf k=true∧At b d1 (.pointer (some ⟨g,0,none⟩))∧Whole u' g vQ (aU u1).toArray)∨(i=k+3∧Lf (k+1)=true∧At b d2 (.pointer (some ⟨g,0,none⟩))∧Whole u' g vO (aU u2).toArray) →
  PI L k slots G N a w d1 d2 vQ vO z1.cells z2.cells (aU u1).toArray (aU u2).toArray (upd Lf i) b u':=by
  intro Lf b u u' i g I hg s hcase;refine⟨I.fr,I.inv.trans (s.below hg),?_,I.rest,?_,?_,?_,?_,?_⟩
  ·intro j hj DA s' g' hs' hg';rw[f_ (by rcases hcase with⟨rfl,-⟩|⟨rfl,-⟩<;>omega)] at DA;obtain⟨x,h1,h2⟩:=I.done j hj DA s' g' hs' hg';obtain⟨v,rfl⟩:=Qa g' (aiD hg');exact⟨x,h1,h2⟩
  ·intro h;rcases hcase with⟨rfl,hk,-⟩|⟨rfl,-⟩
   ·exact UQ hk
   ·rw[f_ (by omega)] at h;exact UQ (I.o1 h)
  ·intro h;rcases hcase with⟨rfl,-⟩|⟨rfl,hk,-⟩
   ·rw[f_ (by omega)] at h;exact UQ (I.o2 h)
   ·exact UQ hk
  ·intro h;rcases hcase with⟨rfl,hk,hat,hW⟩|⟨rfl,hk,hat,hW⟩
   ·exact⟨g,hat,hg,by rw[Cv,if_pos rfl];exact hW⟩
   ·rw[f_ (by omega)] at h;obtain⟨x,h1,h2,h3⟩:=I.one h;refine⟨x,h1,h2,?_⟩;rw[f_ (by omega)];exact s.whole h3 fun e=>I.ne h hk x h1 (e▸hat)
  ·intro h;rcases hcase with⟨rfl,hk,hat,hW⟩|⟨rfl,hk,hat,hW⟩
   ·rw[f_ (by omega)] at h;obtain⟨x,h1,h2,h3⟩:=I.two h;refine⟨x,h1,h2,?_⟩;rw[f_ (by omega)];exact s.whole h3 fun e=>I.ne hk h x (e▸hat) h1
   ·exact⟨g,hat,hg,by rw[Cv,if_pos rfl];exact hW⟩
  ·intro h1 h2;have hne:k≠i∧k+1≠i:=by rcases hcase with⟨rfl,-⟩|⟨rfl,-⟩<;>omega
   rw[f_ hne.1] at h1;rw[f_ hne.2] at h2;exact I.ne h1 h2
 intro i o ho Lf b u Q' I Ox jj hK;have JX:=(aiy.1 ho).1;rw[hL] at JX;by_cases hik:i<k
 ·obtain⟨s,hs⟩:∃ s,slots[i]?=some s:=⟨_,aiG (by omega)⟩;have hd:o.dst=some s:=by rw[← gL i o (by omega) ho,hs]
  refine BQ (L.take k) G hst i o (by rw[List.getElem?_take,if_pos hik];exact ho) b u Q' I.fr I.inv (fun j ⟨gr,hj,hb⟩ s g hs hg=>?_) I.rest ?_
  ·have hji:j<i:=by have:=jf 0 L fT i o ho _ hj hb;simpa using this
   exact I.done j (by omega) (jj _ hj hb) s g hs hg
  ·intro v b' u' hb hg hp;rw[hd] at hp;exact hK b' u' (put I (by omega) hs Ox hp hb (fun g h=>hg g h) (fun e=>by omega) (fun e=>by omega))
 ·by_cases h0:i=k
  ·subst h0;obtain rfl:a1=o:=aiE (e1.symm.trans ho);exact wN (f:=fun n=>.pointer (some ⟨n,0,none⟩)) (dN g1) (tH p1 hz1) q1 I.fr (hN O6) fun g b' u' n p=>aiF (hK _ _ (put I (by omega) O6 Ox p n.below (fun g' hg'=>absurd (Q_ _ _ hg').1 (by omega)) (fun _=>⟨g,rfl,n.at_▸I.inv.size,n.whole,n.at_▸Nat.le_refl _⟩) (fun e=>by omega)))
  ·by_cases h1:i=k+1
   ·subst h1;obtain rfl:a2=o:=aiE (e2.symm.trans ho);exact wN (f:=fun n=>.pointer (some ⟨n,0,none⟩)) (dN g2) (tH p2 hz2) q2 I.fr (hN O5) fun g b' u' n p=>aiF (hK _ _ (put I (by omega) O5 Ox p n.below (fun g' hg'=>absurd (Q_ _ _ hg').1 (by omega)) (fun e=>by omega) (fun _=>⟨g,rfl,n.at_▸I.inv.size,n.whole,n.at_▸Nat.le_refl _⟩)))
   ·by_cases h2:i=k+2
    ·subst h2;obtain rfl:s1=o:=aiE (e3.symm.trans ho);obtain⟨hv,hk⟩:=hy1 b u Lf I jj;obtain⟨g,hat,hge,hW⟩:=I.one hk;rw[Ox] at hW;have hsz:z1.cells.size=(aU u1).length:=by rw[← Array.length_toList,lI,n2,n1]
     exact pP (dN g3) p3 hat.ev hv hW (lI u1) (by rw[Nat.zero_add,if_neg (by decide),hsz];exact Nat.le_refl _) ((vR hD1).trans (by rw[n1])) c1 rfl q3 fun u' s hW'=>aiF (hK _ _ (VJ I hge s (.inl ⟨rfl,hk,hat,by rw[if_neg (by decide)] at hW';rw[qD _ _ hsz] at hW';exact hW'⟩)))
    ·obtain rfl:i=k+3:=by omega
     obtain rfl:s2=o:=aiE (e4.symm.trans ho);obtain⟨hv,hk⟩:=UZ b u Lf I jj;obtain⟨g,hat,hge,hW⟩:=I.two hk;rw[Ox] at hW;have hsz:z2.cells.size=(aU u2).length:=by rw[← Array.length_toList,lI,n4,n3]
     exact pP (dN g4) p4 hat.ev hv hW (lI u2) (by rw[Nat.zero_add,if_neg (by decide),hsz];exact Nat.le_refl _) ((vR hD2).trans (by rw[n3])) c2 rfl q4 fun u' s hW'=>aiF (hK _ _ (VJ I hge s (.inr ⟨rfl,hk,hat,by rw[if_neg (by decide)] at hW';rw[qD _ _ hsz] at hW';exact hW'⟩)))
end
end Go.Proofs.YtkkmjdceiocnbaaGreatDoor
namespace Go.Proofs.YtkkmjdceiocnbaaGreatDoor
open Go Go.RowKit
variable [DS]
def UR:Nat→List Oper→(List Nat→Prop)→Prop
 | 0,_,f=>f []
 | k+1,o::r,f=>(match o.dst with|some d=>UR k r fun s=>f (d::s)|none=>False)
 | _+1,[],_=>False
theorem Es:∀ {k:Nat} {L:List Oper} {f:List Nat→Prop},UR k L f→k≤L.length∧(L.take k).map (fun o=>o.dst)=(iH k L).map some∧f (iH k L)
 | 0,_,_,h=>⟨Nat.zero_le _,by simp[iH],by simpa[iH,UR] using h⟩
 | k+1,o::r,f,h=>by
  unfold UR at h;split at h
  ·rename_i d hd;obtain⟨h1,h2,h3⟩:=Es h;have e:iH (k+1) (o::r)=d::iH k r:=by simp[iH,hd]
   rw[e];exact⟨by simpa using h1,by simp[hd,h2],h3⟩
  ·exact h.elim
 | _+1,[],_,h=>h.elim
def vr(B:Nat)(w0:World)(N:Nat)(L:List Oper)(l:Slots)(bs:List Bx)(rs:List Rw)(w:World)(K:Slots→List Bx→List Rw→World→Prop):Prop:=
 Xl N L (Uh false [] L)=true∧UR (Uh false [] L) L fun ds=>FT ds l fun l'=>vd B w0 N l' bs rs w (vF B w0 N l' bs rs w K) (Uh false [] L) L 0 [] none [] false
section
variable {B:Nat} {w0 w:World} {N:Nat} {l:Slots} {bs:List Bx} {rs:List Rw} {K:Slots→List Bx→List Rw→World→Prop} {Q:Exit→Act→World→Prop} {a:Act} {id:Nat} {L:List Oper}
theorem J3{m:List eV}{n:Nat}(h:jS m n){d j:Nat}(hj:j<n)(hu:∀ e∈m,e.j≠j){v:Value}:jS (⟨d,j,[],true,v⟩::m) n:=by
 have key:∀ x,(∃ e∈m,e.j=x.1)→(Cond (⟨d,j,[],true,v⟩::m) x↔Cond m x):=fun x ⟨e',h4,h5⟩=>by
  constructor
  ·rintro⟨e,he,h1,h2,h3⟩;rcases aiw.1 he with rfl|he
   ·exact absurd (h5.trans h1.symm) (hu e' h4)
   ·exact⟨e,he,h1,h2,h3⟩
  ·rintro⟨e,he,h1⟩;exact⟨e,aiA _ he,h1⟩
 refine⟨?_,?_,?_,?_⟩
 ·intro e he;rcases aiw.1 he with rfl|he
  ·exact hj
  ·exact h.lt e he
 ·intro e he e' he' hjj;rcases aiw.1 he with rfl|he<;>rcases aiw.1 he' with rfl|he'
  ·rfl
  ·exact absurd hjj.symm (hu e' he')
  ·exact absurd hjj (hu e he)
  ·exact h.uniq e he e' he' hjj
 ·intro e he x hx;rcases aiw.1 he with rfl|he
  ·cases hx
  ·obtain⟨e',h1,h2⟩:=h.pm e he x hx;exact⟨e',aiA _ h1,h2⟩
 ·intro e he;rcases aiw.1 he with rfl|he
  ·simp
  ·rw[h.tv e he];exact⟨fun h' x hx=>(key x (h.pm e he x hx)).2 (h' x hx),fun h' x hx=>(key x (h.pm e he x hx)).1 (h' x hx)⟩
theorem Vq(F:Fs a N l)(M:aC B w0 w bs rs)(h:vr B w0 N L l bs rs w K)(next:∀ a l' bs' rs' w',Fs a N l'→aC B w0 w' bs' rs'→K l' bs' rs' w'→Q .normal a w'):(Code.region id L.toArray true).wp Tryz.prog Q a w:=by
 obtain⟨hok,h⟩:=h;obtain⟨hkl,hsl,h⟩:=Es h;obtain⟨l',h,hlk⟩:=rV h;generalize Uh false [] L=k at hok hkl hsl h hlk;generalize ur:iH k L=slots at hsl h hlk;unfold Xl at hok;simp only[aiB,decide_eq_true_eq,aiC,ur] at hok;obtain⟨fT,htail,gL,jj,hbd,hnd⟩:=hok
 have hlen:slots.length=k:=by
  have:=congrArg List.length hsl;simp only[List.length_map,aiH] at this;omega
 have hat:∀ (i:Nat) (o:Oper),(L.take k)[i]?=some o→slots[i]?=o.dst:=fun i o hi=>by
  have h1:=congrArg (fun x=>x[i]?) hsl;simp only[List.getElem?_map,hi,Option.map_some] at h1
  cases hs:slots[i]? with
  | none=>rw[hs] at h1;cases h1
  | some s=>rw[hs] at h1;exact(aiE h1).symm
 have lC:∀ (i s:Nat),slots[i]?=some s→(L.toArray[i]?).bind (fun o=>o.dst)=some s:=fun i s hs=>by
  have hi:i<k:=hlen▸(aiy.1 hs).1;have Wy:i<L.length:=Nat.lt_of_lt_of_le hi hkl;have h1:(L.take k)[i]?=some L[i]:=by rw[List.getElem?_take,if_pos hi,aiG Wy]
  have h2:=hat i _ h1;rw[hs] at h2;simp[Wy,← h2]
 have hl':∀ q v,look q l'=some v→slots.contains q=false∧look q l=some v:=fun q v hq=>by
  rw[hlk] at hq
  cases hm:jC q slots with
  | true=>rw[hm] at hq;cases hq
  | false=>
   rw[hm] at hq;refine⟨?_,hq⟩
   cases hc:slots.contains q with
   | false=>rfl
   | true=>
    have:q∈slots:=by simpa using hc
    rw[iT.2 this] at hm;cases hm
 have F0:Fs a N l':=⟨F.fr,fun q v hq=>F.at_ q v (hl' q v hq).2⟩
 obtain⟨G,m,al,rel,us,hla,Q_,hst,hF,hv⟩:=QJ (ops:=L.toArray) M hnd lC (fun q v hq=>(hl' q v hq).1) F0 (gp:=[]) h ⟨⟨.nil 0,rfl,by simp⟩,(fun _ h=>by cases h),(fun _ _ i h=>absurd h (Nat.not_lt_zero i)),(fun _ h=>by cases h),.nil⟩
  (fun i o hi=>⟨jj o (aiD hi),by rw[Nat.zero_add];exact hat i o hi⟩) hkl trivial
 rw[List.nil_append] at hla hst hF;rw[Nat.zero_add] at hF hv;refine wL k slots G (aiv w.heap.size w) (by kernel_rfl) fT htail hsl hnd (by simpa using hbd) (by rw[Q_,hlen]) F.fr (Below.refl _ _).drew (fun _ _ h hb=>h.trans (hb.mono h.size)) hla ?_ ?_
 ·exact hst
 ·intro a' w' D;have hgood:∀ (i s:Nat) (g:Good),slots[i]?=some s→G[i]?=some g→∃ v,At a' s v∧g v w':=fun i s g hs hg=>D.done i rfl s g hs hg
  have I0:Inv L.toArray a' N l' m k:=by
   refine⟨D.fr,hF.D.L,fun e he=>lC _ _ (hF.D.at_ e he).1,fun e he=>?_,fun q v _ hq=>D.rest q v (hl' q v hq).1 (F0.at_ q v hq)⟩;obtain⟨v,h1,rfl⟩:=hgood _ _ _ (hF.D.at_ e he).1 (hF.D.at_ e he).2;exact h1
  have hrest:∀ i o,(L.drop k)[i]?=some o→L.toArray[k+i]?=some o:=fun i o hi=>by simpa using hi
  have hput:∀ {m':List eV} {d j:Nat} {v:Value},Inv L.toArray a' N l' m' k→j<k→(∀ e∈m',e.j≠j)→slots[j]?=some d→At a' d v→Inv L.toArray a' N l' (⟨d,j,[],true,v⟩::m') k:=by
   intro m' d j v I0 c4 c5 c1 h1;refine⟨I0.fr,J3 I0.L c4 c5,?_,?_,?_⟩
   ·intro e he;rcases aiw.1 he with rfl|he
    ·exact lC _ _ c1
    ·exact I0.dst e he
   ·intro e he;rcases aiw.1 he with rfl|he
    ·exact h1
    ·exact I0.at_ e he
   ·intro q u hq hl;exact I0.base q u (fun e he=>hq e (aiA _ he)) hl
  have hfin:∀ {rel':List lE} {m':List eV} {P:Option (World→Prop)} {f:List eV→Option (World→Prop)→Prop},Inv L.toArray a' N l' m' k→(∀ A∈rel',A.j<k∧slots[A.j]?=some A.d∧(∀ e∈m',e.j≠A.j)∧(∀ C,al=some C→C.j≠A.j)∧∃ u,At a' A.d u∧A.R u w')→(rel'.map (·.j)).Nodup→(∀ C,al=some C→∀ e∈m',e.j≠C.j)→(∀ p,P=some p→p w')→R_ rel' m' P f →
   ∃ m'' P',f m'' P'∧(∀ p,P'=some p→p w')∧Inv L.toArray a' N l' m'' k∧∀ C,al=some C→∀ e∈m'',e.j≠C.j:=by
   intro rel'
   induction rel' with
   | nil=>intro m' P f I _ _ hC hP h;exact⟨m',P,h,hP,I,hC⟩
   | cons A r ih=>
    intro m' P f I hA hn hC hP h;obtain⟨d,j,R⟩:=A;obtain⟨hfr,h⟩:=bA h;obtain⟨b4,b1,b5,b6,u,k1,k2⟩:=hA _ (aiz ..);rw[List.map_cons,List.nodup_cons] at hn;refine ih (hput I b4 b5 b1 k1) (fun A' hA'=>?_) hn.2 (fun C hC' e he=>?_) (fun p hp=>?_) (h u)
    ·obtain⟨c4,c1,c5,c6,c7⟩:=hA A' (aiA _ hA');refine⟨c4,c1,fun e he=>?_,c6,c7⟩;rcases aiw.1 he with rfl|he
     ·exact fun e=>hn.1 (List.mem_map.2 ⟨A',hA',e.symm⟩)
     ·exact c5 e he
    ·rcases aiw.1 he with rfl|he
     ·exact fun e=>b6 C hC' e.symm
     ·exact hC C hC' e he
    ·cases P with
     | none=>obtain rfl:=aiE hp;exact k2
     | some q=>obtain rfl:=aiE hp;exact⟨k2,hP q rfl⟩
  obtain⟨m',P',k1,k2,I1,hC⟩:=hfin I0 (fun A hA=>by
   obtain⟨b1,b2,b4,b5,b6⟩:=hF.EA A hA;exact⟨b4,b1,b5,b6,hgood _ _ _ b1 b2⟩) hF.tZ (fun C hC e he=>(hF.Vc C hC).2.2.2.2 e he) (fun _ h=>by cases h) hv
  cases al with
  | none=>exact AU hrest I1 (M.keep D.inv) (tq (k1 w') k2 D.inv (M.keep D.inv)) next
  | some A=>
   obtain⟨d,j,ty,cs,s⟩:=A;obtain⟨c1,c2,c3,c4,c5⟩:=hF.Vc _ rfl;obtain⟨hfr,k1⟩:=bA k1;obtain⟨v,h1,g,rfl,h2,h3⟩:=hgood _ _ _ c1 c2;have M':=M.newAt D.inv h2 h3 c3;exact AU hrest (hput I1 c4 (hC _ rfl) c1 h1) M' (tq (k1 g w') k2 D.inv M') next
end
def kP:List Oper→Nat
 | _::y::z::u::v::r=>kP (y::z::u::v::r)+1
 | _=>0
def vp(B:Nat)(w0:World)(N:Nat)(L:List Oper)(l:Slots)(bs:List Bx)(rs:List Rw)(w:World)(K:Slots→List Bx→List Rw→World→Prop):Prop:=
 VU N L (kP L)=true∧UR (kP L+2) L fun ds=>FT ds l fun l'=>vd B w0 N l' bs rs w (vP B w0 N l' bs rs w K) (kP L) L 0 [] none [] false
section
variable {B:Nat} {w0 w:World} {N:Nat} {l:Slots} {bs:List Bx} {rs:List Rw} {K:Slots→List Bx→List Rw→World→Prop} {Q:Exit→Act→World→Prop} {a:Act} {id:Nat} {L:List Oper}
theorem Ds{P:Program}{ops:Array Oper}{I:(Nat→Bool)→Act→World→Prop}{l:List Oper}
 (h:∀ (i:Nat) (o:Oper),l[i]?=some o→∀ (Lf:Nat→Bool) (b:Act) (u:World) (Q':Exit→Act→World→Prop),I Lf b u→Lf i=false→(∀ e∈o.after.toList,Region.binds .any e=true→Lf e.on=true)→(∀ b u,I (upd Lf i) b u→Q' .normal b u)→wpList P ops Q' [o] b u) :
 ∀ (r:List Oper) (m:Nat),(∀ i o,r[i]?=some o→l[m+i]?=some o)→om P ops I m r:=by
 intro r
 induction r with
 | nil=>intro m _;trivial
 | cons o r ih=>
  intro m hr;refine⟨h m o (hr 0 o rfl),ih (m+1) fun i o' ho'=>?_⟩;have:=hr (i+1) o' (by simpa using ho')
  rwa [show m+1+i=m+(i+1) by omega]
theorem Vr(F:Fs a N l)(M:aC B w0 w bs rs)(h:vp B w0 N L l bs rs w K)(next:∀ a l' bs' rs' w',Fs a N l'→aC B w0 w' bs' rs'→K l' bs' rs' w'→Q .normal a w'):(Code.region id L.toArray true).wp Tryz.prog Q a w:=by
 obtain⟨hok,h⟩:=h;obtain⟨hkl,hsl,h⟩:=Es h;obtain⟨l',h,hlk⟩:=rV h;generalize kP L=k at hok hkl hsl h hlk;generalize ur:iH (k+2) L=slots at hsl h hlk;unfold VU at hok;simp only[aiB,decide_eq_true_eq,aiC,ur] at hok;obtain⟨fT,gL,jj,hbd,hnd,hlen,hgd,HJ⟩:=hok
 have Q0:slots.length=k+2:=by
  have:=congrArg List.length hsl;simp only[List.length_map,aiH] at this;omega
 have M_:∀ (i:Nat) (o:Oper),i<k+2→L[i]?=some o→slots[i]?=o.dst:=fun i o hi ho=>by
  have h1:=congrArg (fun x=>x[i]?) hsl;simp only[List.getElem?_map,List.getElem?_take,if_pos hi,ho,Option.map_some] at h1
  cases hs:slots[i]? with
  | none=>rw[hs] at h1;cases h1
  | some s=>rw[hs] at h1;exact(aiE h1).symm
 have lC:∀ (i s:Nat),slots[i]?=some s→(L.toArray[i]?).bind (fun o=>o.dst)=some s:=fun i s hs=>by
  have hi:i<k+2:=Q0▸(aiy.1 hs).1;have Wy:i<L.length:=by omega
  have h2:=M_ i _ hi (aiG Wy);rw[hs] at h2;simp[Wy,← h2]
 have hl':∀ q v,look q l'=some v→slots.contains q=false∧look q l=some v:=fun q v hq=>by
  rw[hlk] at hq
  cases hm:jC q slots with
  | true=>rw[hm] at hq;cases hq
  | false=>
   rw[hm] at hq;refine⟨?_,hq⟩
   cases hc:slots.contains q with
   | false=>rfl
   | true=>
    have:q∈slots:=by simpa using hc
    rw[iT.2 this] at hm;cases hm
 have F0:Fs a N l':=⟨F.fr,fun q v hq=>F.at_ q v (hl' q v hq).2⟩
 obtain⟨G,m,al,rel,us,hla,Q_,hst,hF,hv⟩:=QJ (ops:=L.toArray) M hnd lC (fun q v hq=>(hl' q v hq).1) F0 (gp:=[]) h ⟨⟨.nil 0,rfl,by simp⟩,(fun _ h=>by cases h),(fun _ _ i h=>absurd h (Nat.not_lt_zero i)),(fun _ h=>by cases h),.nil⟩
  (fun i o hi=>⟨jj o (aiD hi),by
   have hik:i<k:=by have:=(aiy.1 hi).1;rw[aiH] at this;omega
   rw[Nat.zero_add];exact M_ i o (by omega) (by rw[List.getElem?_take,if_pos hik] at hi;exact hi)⟩) (by omega) trivial
 rw[List.nil_append] at hla hst hF;rw[Nat.zero_add] at hF hv;replace hv:vP B w0 N l' bs rs w K (L.drop k) k m al rel us:=hv;unfold vP at hv;split at hv
 case h_2=>exact hv.elim
 rename_i a1 a2 s1 s2 Hy;split at hv
 case h_2=>exact hv.elim
 rename_i vQ vO t1 x1 y1 t2 x2 y2 p1 p2 p3 p4;obtain⟨d1,q1,b1,b1',hv⟩:=iF hv;obtain⟨d2,q2,b2,b2',hv⟩:=iF hv;obtain⟨hx1,hv⟩:=bA hv;obtain⟨hx2,hv⟩:=bA hv;obtain rfl:=aiu hx1;obtain rfl:=aiu hx2;split at hv
 case h_2=>exact hv.elim
 rename_i q3 q4;obtain⟨z1,z2,⟨hz1,hz2⟩,hv⟩:=hv;obtain⟨u1,r1,hv⟩:=bR hv;obtain⟨u2,r2,hv⟩:=bR hv;obtain⟨D1,hD1,hv⟩:=kD hv;obtain⟨D2,hD2,hv⟩:=kD hv;obtain⟨t9,hv⟩:=bA hv;obtain⟨t9',hv⟩:=bA hv;obtain⟨n1,hv⟩:=jc hv;obtain⟨n2,hv⟩:=jc hv;obtain⟨n3,hv⟩:=jc hv;obtain⟨n4,⟨c1,c2⟩,hv⟩:=jc hv;have at_:∀ i o,(L.drop k)[i]?=some o→L[k+i]?=some o:=fun i o hi=>by simpa using hi
 rw[Hy] at at_ hgd;have e1:=at_ 0 a1 rfl;have e2:=at_ 1 a2 rfl;have e3:=at_ 2 s1 rfl;have e4:=at_ 3 s2 rfl;have g1:a1.guard=none:=by have:=hgd a1 (by simp);simpa[VY] using this
 have g2:a2.guard=none:=by have:=hgd a2 (by simp);simpa[VY] using this
 have g3:s1.guard=none:=by have:=hgd s1 (by simp);simpa[VY] using this
 have g4:s2.guard=none:=by have:=hgd s2 (by simp);simpa[VY] using this
 have hd2:L.drop (k+2)=[s1,s2]:=by rw[← List.drop_drop,Hy];rfl
 rw[hd2] at HJ
 have Qa:∀ g∈G,∃ v,g=PU v:=fun g hg=>by
  obtain⟨i,hi⟩:=List.getElem?_of_mem hg;obtain⟨e,he,rfl⟩:=hF.cov rfl rfl i (Q_▸(aiy.1 hi).1);have:=(hF.D.at_ e he).2;rw[hi] at this;exact⟨_,aiE this⟩
 have O6:slots[k]?=some x1:=by rw[M_ k a1 (by omega) e1,q1]
 have O5:slots[k+1]?=some x2:=by rw[M_ (k+1) a2 (by omega) e2,q2]
 have ev:∀ {y:Operand} {u:Value} {s:Oper},Ar l' m [] y u→s∈[s1,s2]→y∈gb s.op→∀ (b:Act) (u':World) (Lf:Nat→Bool),PI L k slots G N a w x1 x2 vQ vO z1.cells z2.cells (aU u1).toArray (aU u2).toArray Lf b u'→(∀ e∈s.after.toList,Region.binds .any e=true→Lf e.on=true)→b.eval y=u:=by
  intro y u s Hw hs hy b u' Lf I Tw
  cases y with
  | tmp q=>
   rcases Hw with⟨e,he,rfl,rfl,hsub⟩|⟨h1,h2⟩
   ·have ht:e.t=true:=(hF.D.L.tv e he).2 fun y hy=>absurd (vT hsub y hy) (by simp)
    obtain⟨f1,f2⟩:=hF.D.at_ e he;obtain⟨gr,f3,f4⟩:=BR (HJ s hs) hnd f1 hy;obtain⟨v,f5,rfl⟩:=I.done e.j (hF.D.L.lt e he) (Tw _ f3 f4) _ _ f1 f2;exact(f5.on ht).ev
   ·exact(I.rest q u (hl' q u h2).1 (F0.at_ q u h2)).ev
  | const c=>exact Hw
  | global=>exact Hw.elim
  | func f=>exact Hw
 refine mY (by kernel_rfl) fT (PI L k slots G N a w x1 x2 vQ vO z1.cells z2.cells (aU u1).toArray (aU u2).toArray) ?_ (Ds (ET hlen hnd Q0 (fun s hs=>by simpa using hbd s hs) Q_ Qa hst fT M_ e1 e2 e3 e4 p1 p2 p3 p4 g1 g2 g3 g4 q1 q2 q3 q4 hz1 hz2 hD1 hD2 n1 n2 n3 n4 c1 c2
  (fun b u Lf I Tw=>⟨ev r1 (by simp) (by rw[p3];simp[gb]) b u Lf I Tw,by obtain⟨gr,f3,f4⟩:=BR (HJ s1 (by simp)) hnd O6 (by rw[p3];simp[gb]);exact Tw _ f3 f4⟩)
  (fun b u Lf I Tw=>⟨ev r2 (by simp) (by rw[p4];simp[gb]) b u Lf I Tw,by obtain⟨gr,f3,f4⟩:=BR (HJ s2 (by simp)) hnd O5 (by rw[p4];simp[gb]);exact Tw _ f3 f4⟩)) L 0 (fun i o ho=>by simpa using ho)) ?_
 ·exact⟨F.fr,(Below.refl _ _).drew,(fun _ _ h=>by cases h),fun _ _ _ h=>h,(fun h=>by cases h),(fun h=>by cases h),(fun h=>by cases h),(fun h=>by cases h),fun h=>by cases h⟩
 ·intro Lf a' w' I hall;obtain⟨v1,f1,f2,f3⟩:=I.one (hall _ (by omega));obtain⟨v2,f4,f5,f6⟩:=I.two (hall _ (by omega));rw[if_pos (hall _ (by omega))] at f3 f6;have hne:v1≠v2:=fun e=>I.ne (hall _ (by omega)) (hall _ (by omega)) v1 f1 (e▸f4)
  have M':aC B w0 w' ((v1,vQ,(aU u1).toArray)::(v2,vO,(aU u2).toArray)::bs) rs:=M.SG I.inv (b1:=(v1,vQ,(aU u1).toArray)) (b2:=(v2,vO,(aU u2).toArray)) (.inl ⟨t9,f3⟩) f2 (.inl ⟨t9',f6⟩) f5 hne
  have I0:Inv L.toArray a' N l' m k:=by
   refine⟨I.fr,hF.D.L,fun e he=>lC _ _ (hF.D.at_ e he).1,fun e he=>?_,fun q v _ hq=>I.rest q v (hl' q v hq).1 (F0.at_ q v hq)⟩;obtain⟨v,h1,rfl⟩:=I.done e.j (hF.D.L.lt e he) (hall _ (by have:=hF.D.L.lt e he;omega)) _ _ (hF.D.at_ e he).1 (hF.D.at_ e he).2;exact h1
  obtain⟨l'',k1,F'⟩:=I0.WY (hv v1 v2 w' I.inv M');exact next _ _ _ _ _ ((F'.add f4).add f1) M' k1
end
abbrev KK:=Exit→Slots→List Bx→List Rw→World→Prop
def Xm:List Oper→List Nat→(List Nat→Prop)→Prop
 | [],acc,f=>f acc
 | o::r,acc,f=>(match o.dst with|some d=>Xm r (d::acc) f|none=>Xm r acc f)
theorem NH{f:List Nat→Prop}:∀ {L:List Oper} {acc:List Nat},Xm L acc f→∃ ds,f ds
 | [],acc,h=>⟨acc,h⟩
 | o::r,acc,h=>by
  unfold Xm at h;split at h<;>exact NH h
def Qw:Code→List Nat→(List Nat→Prop)→Prop
 | .region _ ops _,acc,f=>Xm ops.toList acc f
 | .seq a b,acc,f=>Qw a acc fun acc=>Qw b acc f
 | .cond _ a b,acc,f=>Qw a acc fun acc=>Qw b acc f
 | .block _ c,acc,f=>Qw c acc f
 | .loop c,acc,f=>Qw c acc f
 | _,acc,f=>f acc
theorem qu:∀ {c:Code} {acc:List Nat} {f:List Nat→Prop},Qw c acc f→∃ ds,f ds
 | .region _ _ _,_,_,h=>NH h
 | .seq a b,_,_,h=>by obtain⟨_,h⟩:=qu (c:=a) h;exact qu (c:=b) h
 | .cond _ a b,_,_,h=>by obtain⟨_,h⟩:=qu (c:=a) h;exact qu (c:=b) h
 | .block _ c,_,_,h=>qu (c:=c) h
 | .loop c,_,_,h=>qu (c:=c) h
 | .skip,_,_,h=>⟨_,h⟩
 | .rangeFunc _ _ _ _,_,_,h=>⟨_,h⟩
 | .exit _,_,_,h=>⟨_,h⟩
 | .scope _,_,_,h=>⟨_,h⟩
 | .label _,_,_,h=>⟨_,h⟩
 | .goto _,_,_,h=>⟨_,h⟩
 | .ret,_,_,h=>⟨_,h⟩
 | .refuse _,_,_,h=>⟨_,h⟩
def QW:List Nat→Slots→(Slots→Prop)→Prop
 | _,[],f=>f []
 | ds,(s,v)::r,f=>bif jC s ds then QW ds r f else QW (s::ds) r fun l=>f ((s,v)::l)
theorem uo:∀ {l:Slots} {ds:List Nat} {f:Slots→Prop},QW ds l f→∃ l',f l'∧(∀ q v,look q l'=some v→look q l=some v)∧∀ q∈ds,look q l'=none
 | [],ds,f,h=>⟨[],h,fun _ _ h=>h,fun _ _=>rfl⟩
 | (s,v)::r,ds,f,h=>by
  unfold QW at h
  cases hm:jC s ds with
  | true=>
   rw[hm] at h;obtain⟨l',h1,h2,h3⟩:=uo h;refine⟨l',h1,fun q u hq=>?_,h3⟩;rw[bT]
   cases e:q == s with
   | true=>
    have e':q=s:=by simpa using e
    rw[h3 q (e'▸iT.1 hm)] at hq;cases hq
   | false=>exact h2 q u hq
  | false=>
   rw[hm] at h;obtain⟨l',h1,h2,h3⟩:=uo h;refine⟨_,h1,fun q u hq=>?_,fun q hq=>?_⟩
   ·rw[bT] at hq ⊢
    cases e:q == s with
    | true=>rw[e] at hq;exact hq
    | false=>rw[e] at hq;exact h2 q u hq
   ·rw[bT]
    cases e:q == s with
    | true=>
     have e':q=s:=by simpa using e
     rw[iT.2 (e'▸hq)] at hm;cases hm
    | false=>exact h3 q (aiA _ hq)
def Uv:Slots→Slots→Slots
 | [],r=>r
 | x::l,r=>x::Uv l r
theorem Db{q:Nat}{r:Slots}:∀ {l:Slots} {v:Value},look q (Uv l r)=some v→look q l=some v∨look q r=some v
 | [],_,h=>.inr h
 | (s,u)::l,v,h=>by
  rw[Uv,bT] at h;rw[bT]
  cases e:q == s with
  | true=>rw[e] at h;exact .inl h
  | false=>rw[e] at h;exact Db h
theorem Fs.kept{a:Act}{N:Nat}{l C kl:Slots}(F:Fs a N l)(hs:Sub l C)(hk:∀ q v,look q kl=some v→look q l=some v):Fs a N (Uv C kl):=by
 refine⟨F.fr,fun q v h=>?_⟩;rcases Db h with h|h
 ·exact(F.sub hs).at_ q v h
 ·exact F.at_ q v (hk q v h)
def fid:Code→Option Nat
 | .region id _ _=>some id
 | .seq a b=>(match fid a with|some i=>some i|none=>fid b)
 | .block _ c=>fid c
 | .loop c=>fid c
 | .cond _ a _=>fid a
 | _=>none
def jn(i:Option Nat)(J:List Nat):Bool:=match i with
 | some i=>jC i J
 | none=>false
def Wk(B:Nat)(w0:World){ι:Type}(C:ι→Slots)(qX:ι→List Bx)(pN:ι→List Rw)(R:ι→World→Prop)(l:Slots)(bs:List Bx)(rs:List Rw)(w:World)(x:ι):Prop:=
 Sub l (C x)∧(aC B w0 w bs rs→aC B w0 w (qX x) (pN x)∧R x w)
section
variable (KP:PK) (B:Nat) (w0:World) (N:Nat) (J:List Nat)
def zj:Code→Slots→List Bx→List Rw→World→KK→Prop
 | .skip,l,bs,rs,w,K=>K .normal l bs rs w
 | .label _,l,bs,rs,w,K=>K .normal l bs rs w
 | .exit id,l,bs,rs,w,K=>K (.exit id) l bs rs w
 | .ret,l,bs,rs,w,K=>K .ret l bs rs w
 | .region id ops dr,l,bs,rs,w,K=>(match dr with
  | false=>vc KP B w0 N l ops.toList 0 [] bs rs w (K .normal)
  | true=>vr B w0 N ops.toList l bs rs w (K .normal)∨vp B w0 N ops.toList l bs rs w (K .normal) ∨
   (∀ (a:Act) (Q:Exit→Act→World→Prop),Fs a N l→aC B w0 w bs rs→(∀ Pn,KP=some Pn→∀ a' ch w',Fr a' N→Pn ch w'→Q (.panic ch) a' w')→(∀ a' l' bs' rs' w',Fs a' N l'→aC B w0 w' bs' rs'→K .normal l' bs' rs' w'→Q .normal a' w')→(Code.region id ops true).wp Tryz.prog Q a w))
 | .seq x y,l,bs,rs,w,K=>bif jn (fid y) J then
  Qw x [] fun ds=>QW ds l fun kl=>∃ (ι:Type) (C:ι→Slots) (qX:ι→List Bx) (pN:ι→List Rw) (R:ι→World→Prop),
   zj x l bs rs w (fun e l' bs' rs' w'=>match e with
    | .normal=>QW ds l' fun kl'=>kl'=kl∧∃ x,Wk B w0 C qX pN R l' bs' rs' w' x
    | e=>K e l' bs' rs' w') ∧
   ∀ x w',aC B w0 w' (qX x) (pN x)→R x w'→zj y (Uv (C x) kl) (qX x) (pN x) w' K
  else zj x l bs rs w fun e l' bs' rs' w'=>match e with
   | .normal=>zj y l' bs' rs' w' K
   | e=>K e l' bs' rs' w'
 | .cond c x y,l,bs,rs,w,K=>oG l [] [] c fun v=>match v with
  | .bool b=>(b=true→zj x l bs rs w K)∧(b=false→zj y l bs rs w K)
  | _=>False
 | .block id c,l,bs,rs,w,K=>zj c l bs rs w fun e l' bs' rs' w'=>match e with
  | .exit i=>bif Nat.beq i id then K .normal l' bs' rs' w' else K (.exit i) l' bs' rs' w'
  | e=>K e l' bs' rs' w'
 | .loop c,l,bs,rs,w,K=>Qw c [] fun ds=>QW ds l fun kl=>∃ (ι:Type) (C:ι→Slots) (qX:ι→List Bx) (pN:ι→List Rw) (R:ι→World→Prop) (μ:ι→Nat) (x:ι),
  Wk B w0 C qX pN R l bs rs w x ∧
  ∀ x w',aC B w0 w' (qX x) (pN x)→R x w'→zj c (Uv (C x) kl) (qX x) (pN x) w' fun e l' bs' rs' w''=>match e with
   | .normal=>QW ds l' fun kl'=>kl'=kl∧∃ x',Wk B w0 C qX pN R l' bs' rs' w'' x'∧μ x'<μ x
   | e=>K e l' bs' rs' w''
 | _,_,_,_,_,_=>False
end
theorem gF{KP:PK}{B:Nat}{w0:World}{N:Nat}{J:List Nat}:∀ {c:Code} {l:Slots} {bs:List Bx} {rs:List Rw} {w:World} {K:KK} {Q:Exit→Act→World→Prop} {a:Act},zj KP B w0 N J c l bs rs w K→Fs a N l→aC B w0 w bs rs→(∀ Pn,KP=some Pn→∀ a' ch w',Fr a' N→Pn ch w'→Q (.panic ch) a' w') →
 (∀ e a l bs rs w,Fs a N l→aC B w0 w bs rs→K e l bs rs w→Q e a w)→c.wp Tryz.prog Q a w:=by
 intro c
 induction c with
 | skip=>intro l bs rs w K Q a h F M hP hQ;exact wp_skip (hQ _ _ _ _ _ _ F M h)
 | label=>intro l bs rs w K Q a h F M hP hQ;exact wp_label (hQ _ _ _ _ _ _ F M h)
 | exit=>intro l bs rs w K Q a h F M hP hQ;exact wp_exit (hQ _ _ _ _ _ _ F M h)
 | ret=>intro l bs rs w K Q a h F M hP hQ;exact wp_ret (hQ _ _ _ _ _ _ F M h)
 | region id ops dr=>
  intro l bs rs w K Q a h F M hP hQ
  cases dr with
  | false=>exact wp_region_list (GX (ops:=ops) (fun i o hi=>by simpa using hi) (Inv.start F) M h (fun Pn WR a' ch w' ⟨_,_,I⟩ h=>hP Pn WR a' ch w' I.fr h) fun a l' bs' rs' w' F' M' hk=>hQ _ _ _ _ _ _ F' M' hk)
  | true=>
   rcases h with h|h|h
   ·have:=Vq (id:=id) F M h (Q:=Q) fun a l' bs' rs' w' F' M' hk=>hQ _ _ _ _ _ _ F' M' hk
    rwa [Array.toArray_toList] at this
   ·have:=Vr (id:=id) F M h (Q:=Q) fun a l' bs' rs' w' F' M' hk=>hQ _ _ _ _ _ _ F' M' hk
    rwa [Array.toArray_toList] at this
   ·exact h a Q F M hP fun a l' bs' rs' w' F' M' hk=>hQ _ _ _ _ _ _ F' M' hk
 | seq x y Dt ihy=>
  intro l bs rs w K Q a h F M hP hQ;unfold zj at h
  cases hj:jn (fid y) J with
  | false=>
   rw[hj] at h;refine wp_seq (Dt h F M hP fun e a l' bs' rs' w' F' M' hk=>?_)
   cases e with
   | normal=>exact ihy hk F' M' hP hQ
   | _=>exact hQ _ _ _ _ _ _ F' M' hk
  | true=>
   rw[hj] at h;obtain⟨ds,h⟩:=qu h;obtain⟨kl,⟨ι,C,qX,pN,R,h1,h2⟩,-,-⟩:=uo h;refine wp_seq (Dt h1 F M hP fun e a l' bs' rs' w' F' M' hk=>?_)
   cases e with
   | normal=>
    obtain⟨kl',⟨rfl,x,hs,hR⟩,hkl,-⟩:=uo hk;obtain⟨M',hR⟩:=hR M';exact ihy (h2 x w' M' hR) (F'.kept hs hkl) M' hP hQ
   | _=>exact hQ _ _ _ _ _ _ F' M' hk
 | cond c x y Dt ihy=>
  intro l bs rs w K Q a h F M hP hQ;obtain⟨v,h1,h⟩:=bR h;have hv:a.eval c=v:=(Inv.start (ops:=#[]) F).E h1 (by simp)
  cases v with
  | bool b=>exact wp_cond_split hv (fun hb=>Dt (h.1 hb) F M hP hQ) (fun hb=>ihy (h.2 hb) F M hP hQ)
  | _=>exact h.elim
 | block id c ih=>
  intro l bs rs w K Q a h F M hP hQ;refine wp_block (ih h F M hP fun e a l' bs' rs' w' F' M' hk=>?_)
  cases e with
  | exit i=>
   show if i=id then Q .normal a w' else Q (.exit i) a w'
   have hk:bif Nat.beq i id then K .normal l' bs' rs' w' else K (.exit i) l' bs' rs' w':=hk
   cases hb:Nat.beq i id with
   | true=>
    rw[hb] at hk;rw[if_pos (aiu hb)];exact hQ _ _ _ _ _ _ F' M' hk
   | false=>
    rw[hb] at hk;rw[if_neg fun e=>by rw[e,Nat.beq_refl] at hb;cases hb];exact hQ _ _ _ _ _ _ F' M' hk
  | _=>exact hQ _ _ _ _ _ _ F' M' hk
 | loop c ih=>
  intro l bs rs w K Q a h F M hP hQ;obtain⟨ds,h⟩:=qu h;obtain⟨kl,⟨ι,C,qX,pN,R,μ,x,⟨hs,hR⟩,h2⟩,hkl,-⟩:=uo h;obtain⟨M,hR⟩:=hR M;refine OJ (fun x a w=>Fs a N (Uv (C x) kl)∧aC B w0 w (qX x) (pN x)∧R x w) μ x ⟨F.kept hs hkl,M,hR⟩ ?_;rintro x a w ⟨F,M,hR⟩;refine ih (h2 x w M hR) F M hP fun e a l' bs' rs' w' F' M' hk=>?_
  cases e with
  | normal=>
   obtain⟨kl',⟨rfl,x',⟨hs,hR⟩,hμ⟩,hkl,-⟩:=uo hk;obtain⟨M',hR⟩:=hR M';exact⟨x',⟨F'.kept hs hkl,M',hR⟩,hμ⟩
  | _=>exact hQ _ _ _ _ _ _ F' M' hk
 | rangeFunc=>intro l bs rs w K Q a h;exact h.elim
 | scope=>intro l bs rs w K Q a h;exact h.elim
 | goto=>intro l bs rs w K Q a h;exact h.elim
 | refuse=>intro l bs rs w K Q a h;exact h.elim
def X4(l:Slots):List ResultVar→(List Value→Prop)→Prop
 | [],f=>f []
 | .tmp s::r,f=>(match look s l with|some v=>X4 l r fun vs=>f (v::vs)|none=>False)
 | _::_,_=>False
theorem LH{a:Act}{N:Nat}{l:Slots}(F:Fs a N l):∀ {rv:List ResultVar} {f:List Value→Prop},X4 l rv f→∃ vs,f vs∧y9 (fun r v=>∃ s,r=.tmp s∧At a s v) rv vs
 | [],_,h=>⟨[],h,.nil⟩
 | .tmp s::r,f,h=>by
  unfold X4 at h;split at h
  ·rename_i v hv;obtain⟨vs,h1,h2⟩:=LH F h;exact⟨_,h1,.cons ⟨s,rfl,F.at_ s v hv⟩ h2⟩
  ·exact h.elim
 | .cell _ _::_,_,h=>h.elim
def AX:List Value→Value
 | [v]=>v
 | vs=>.tuple vs.toArray
def N_(bs:List Bx)(g n:Nat)(k:List Value→Prop):Prop:=∃ i,p9 bs i fun b=>bif Nat.blt b.2.1 9000 then b.1=g∧qg b.2.2.toList n (k b.2.2.toList) else False
def D5(l:Slots)(bs:List Bx)(s:Nat)(ty:TypeId)(k:List Value→Prop):Prop:=match look s l with
 | some v=>Bh v False fun g off=>bif Nat.beq off 0 then zk ty (fun D=>match D with|.st n _=>N_ bs g n k|.arr n _ m=>N_ bs g (n*m) k|_=>False) TT else False
 | none=>False
theorem D4{bs:List Bx}{rs:List Rw}{g n:Nat}{k:List Value→Prop}{B:Nat}{w0 w:World}(M:aC B w0 w bs rs)(h:N_ bs g n k):∃ t cs,Whole w g t cs∧n=cs.size∧k cs.toList:=by
 obtain⟨i,hq⟩:=h;obtain⟨⟨b,T,cs⟩,hb,hq1⟩:=fL hq;obtain⟨hT,h2,hq2⟩:=bA hq1;obtain⟨hl,hq3⟩:=jc hq2;obtain rfl:b=g:=h2;exact⟨T,cs,M.b i hb hT,by rw[← hl,Array.length_toList],hq3⟩
theorem yP{l:Slots}{bs:List Bx}{rs:List Rw}{s:Nat}{ty:TypeId}{k:List Value→Prop}{B:Nat}{w0 w:World}(M:aC B w0 w bs rs)(h:D5 l bs s ty k):
 ∃ (g:Nat) (cs:Array Value),look s l=some (.pointer (some ⟨g,0,none⟩))∧(loadVar ty ⟨g,0,none⟩).run Tryz.prog w=.ok (.agg cs) w∧k cs.toList:=by
 unfold D5 at h;split at h
 ·rename_i v hv;rcases oH h with⟨g,off,rfl,hq⟩|h
  case inr=>exact h.elim
  obtain⟨h0,hq'⟩:=bA hq;obtain rfl:off=0:=aiu h0;obtain⟨D,hD,hq⟩:=kD hq';split at hq
  ·obtain⟨t,cs,hW,hn,hk⟩:=D4 M hq;obtain⟨fs,hu,hs,-⟩:=Lj hD;exact⟨_,_,hv,run_loadVar_row w g t ty cs (0,0) (.struct fs) hW hu rfl (by rw[hs,hn]),hk⟩
  ·obtain⟨t,cs,hW,hn,hk⟩:=D4 M hq;obtain⟨hu,-,hs⟩:=Em hD;exact⟨_,_,hv,run_loadVar_row w g t ty cs (0,0) _ hW hu rfl (by rw[hs,hn]),hk⟩
  ·exact hq.elim
 ·exact h.elim
def Pc(B:Nat)(w0:World)(R:Ending→World→Prop)(l:Slots)(bs:List Bx)(rs:List Rw)(w:World):List ResultVar→Prop
 | [.cell s ty]=>D5 l bs s ty fun cs=>aC B w0 w bs rs→R (.returned (.agg cs.toArray)) w
 | [.cell s ty,.tmp u]=>(match look u l with|some v=>D5 l bs s ty fun cs=>aC B w0 w bs rs→R (.returned (.tuple #[.agg cs.toArray,v])) w|none=>False)
 | L=>bif Nat.ble L.length 3 then X4 l L fun vs=>aC B w0 w bs rs→R (.returned (AX vs)) w else False
def Ez(fn:Func)(B:Nat)(w0:World)(R:Ending→World→Prop):KK:=fun e l bs rs w=>match e with
 | .normal=>Pc B w0 R l bs rs w fn.results.toList
 | .ret=>Pc B w0 R l bs rs w fn.results.toList
 | _=>False
theorem Pb{fn:Func}{R:Ending→World→Prop}{a:Act}{w:World}{N:Nat}(h3:Nat.ble fn.results.toList.length 3=true)(hf:Fr a N){vs:List Value}(h:y9 (fun r v=>∃ s,r=.tmp s∧At a s v) fn.results.toList vs)(hR:R (.returned (AX vs)) w)(hD:DS.ds=[]:=by rfl):bodyPost Tryz.prog fn R .ret a w:=by
 generalize hl:fn.results.toList=L at h h3;have hres:fn.results=L.toArray:=by rw[← hl]
 clear hl
 match h with
 | .nil=>exact GW (hD:=hD) hres hf hR
 | .cons ⟨s,e,h1⟩ .nil=>subst e;exact KT (hD:=hD) hres hf h1 hR
 | .cons ⟨s,e,h1⟩ (.cons ⟨s',e',h2⟩ .nil)=>subst e e';exact GV (hD:=hD) hres hf h1 h2 hR
 | .cons ⟨s,e,h1⟩ (.cons ⟨s',e',h2⟩ (.cons ⟨s'',e'',h4⟩ .nil))=>subst e e' e'';exact GU (hD:=hD) hres hf h1 h2 h4 hR
 | .cons _ (.cons _ (.cons _ (.cons _ _)))=>simp at h3
theorem gj{fn:Func}{R:Ending→World→Prop}{a:Act}{N:Nat}{l:Slots}{bs:List Bx}{rs:List Rw}{B:Nat}{w0 w:World}(F:Fs a N l)(M:aC B w0 w bs rs)(h:Pc B w0 R l bs rs w fn.results.toList)(hD:DS.ds=[]:=by rfl):bodyPost Tryz.prog fn R .ret a w:=by
 generalize hL:fn.results.toList=L at h;unfold Pc at h;split at h
 ·rename_i s ty;have hr:fn.results=#[.cell s ty]:=by rw[← Array.toList_inj,hL]
  obtain⟨g,cs,hv,hl,h⟩:=yP M h;refine⟨F.fr.defers.trans hD,_,?_,h M⟩;have h2:a.tmps.getD s undef=.pointer (some ⟨g,0,none⟩):=F.e s hv;rw[aiI] at h2;simp[results,hr,h2,asAddr,hl]
 ·rename_i s ty u;have hr:fn.results=#[.cell s ty,.tmp u]:=by rw[← Array.toList_inj,hL]
  split at h
  ·rename_i v hv2;obtain⟨g,cs,hv,hl,h⟩:=yP M h;refine⟨F.fr.defers.trans hD,_,?_,h M⟩;have h2:a.tmps.getD s undef=.pointer (some ⟨g,0,none⟩):=F.e s hv;have k2:a.tmps.getD u undef=v:=F.e u hv2;rw[aiI] at h2 k2;simp[results,hr,h2,k2,asAddr,hl]
  ·exact h.elim
 ·subst hL;obtain⟨h3,hk⟩:=bA h;obtain⟨vs,h1,h2⟩:=LH F hk;exact Pb (hD:=hD) h3 F.fr h2 (h1 M)
theorem bU{f:FuncId}{fn:Func}{c:Code}{N:Nat}(J:List Nat){vs:List Value}{R:Ending→World→Prop}{w0:World}(hf:Tryz.prog.funcs[f]?=some fn)(hb:fn.body=some c)(hn:fn.ntmps=N)(hN:Nat.ble vs.length N=true)
 (h:zj none w0.heap.size w0 N J c (FW 0 vs) [] [] w0 (Ez fn w0.heap.size w0 R)) (hD:DS.ds=[]:=by rfl):Calls Tryz.prog f vs.toArray w0 R:=by
 refine en (hD:=hD) hf hb hn (by simpa using hN) rfl fun a F=>gF h F (Mm.start w0) (fun _ h=>by cases h) fun e a l bs rs w F M hk=>?_
 cases e with
 | normal=>exact pQ (gj (hD:=hD) F M hk)
 | ret=>exact gj (hD:=hD) F M hk
 | _=>exact hk.elim
theorem Vu{f:FuncId}{fn:Func}{c:Code}{N:Nat}(J:List Nat){vs:List Value}{R:Ending→World→Prop}{w0:World}(hf:Tryz.prog.funcs[f]?=some fn)(hb:fn.body=some c)(hn:fn.ntmps=N)(hN:Nat.ble vs.length N=true)
 (h:zj (some fun ch w=>R (.panicked ch) w) w0.heap.size w0 N J c (FW 0 vs) [] [] w0 (Ez fn w0.heap.size w0 R)) (hD:DS.ds=[]:=by rfl):Calls Tryz.prog f vs.toArray w0 R:=by
 refine en (hD:=hD) hf hb hn (by simpa using hN) rfl fun a F=>gF h F (Mm.start w0) (fun Pn hP a' ch w' hf h=>?_) fun e a l bs rs w F M hk=>?_
 ·obtain rfl:=aiE hP;exact⟨hf.defers.trans hD,h⟩
 cases e with
 | normal=>exact pQ (gj (hD:=hD) F M hk)
 | ret=>exact gj (hD:=hD) F M hk
 | _=>exact hk.elim
theorem dY{f:FuncId}{fn:Func}{c:Code}{N:Nat}{B:Nat}{w0 w:World}{bs:List Bx}{rs:List Rw}(M:aC B w0 w bs rs)(J:List Nat){vs:List Value}{R:Ending→World→Prop}(hf:Tryz.prog.funcs[f]?=some fn)(hb:fn.body=some c)(hn:fn.ntmps=N)(hN:Nat.ble vs.length N=true)
 (h:zj (some fun ch w=>R (.panicked ch) w) B w0 N J c (FW 0 vs) bs rs w (Ez fn B w0 R)) (hD:DS.ds=[]:=by rfl):Calls Tryz.prog f vs.toArray w R:=by
 refine en (hD:=hD) hf hb hn (by simpa using hN) rfl fun a F=>gF h F M (fun Pn hP a' ch w' hf h=>?_) fun e a l bs rs w F M hk=>?_
 ·obtain rfl:=aiE hP;exact⟨hf.defers.trans hD,h⟩
 cases e with
 | normal=>exact pQ (gj (hD:=hD) F M hk)
 | ret=>exact gj (hD:=hD) F M hk
 | _=>exact hk.elim
theorem bY{f:FuncId}{fn:Func}{c:Code}{N:Nat}{B:Nat}{w0 w:World}{bs:List Bx}{rs:List Rw}(M:aC B w0 w bs rs)(J:List Nat){vs:List Value}{R:Ending→World→Prop}(hf:Tryz.prog.funcs[f]?=some fn)(hb:fn.body=some c)(hn:fn.ntmps=N)(hN:Nat.ble vs.length N=true)
 (h:zj none B w0 N J c (FW 0 vs) bs rs w (Ez fn B w0 R)) (hD:DS.ds=[]:=by rfl):Calls Tryz.prog f vs.toArray w R:=by
 refine en (hD:=hD) hf hb hn (by simpa using hN) rfl fun a F=>gF h F M (fun Pn hP=>by cases hP) fun e a l bs rs w F M hk=>?_
 cases e with
 | normal=>exact pQ (gj (hD:=hD) F M hk)
 | ret=>exact gj (hD:=hD) F M hk
 | _=>exact hk.elim
theorem an{p q:Prop}(h:p)(k:q):p∧q:=⟨h,k⟩
theorem ei{α:Sort _}{p:α→Prop}{x:α}(h:p x):∃ x,p x:=⟨x,h⟩
theorem ia{p:Nat→Nat→Nat→Prop}{b off i:Nat}(h:p b off i):∃ b off i,p b off i:=⟨b,off,i,h⟩
theorem lb{p:Nat→Prop}{X:Prop}(i:Nat)(h:p i):(∃ i,p i)∨X:=.inl ⟨i,h⟩
theorem lc{α:Type}{p:α→Prop}{X:Prop}{x:α}(h:p x):X∨∃ x,p x:=.inr ⟨x,h⟩
theorem cl{p:Value→Prop}{X:Prop}{v:Value}(h:p v):(∃ v,p v)∨X:=.inl ⟨v,h⟩
theorem cg{p:(Value→World→Prop)→Prop}{X:Prop}{R:Value→World→Prop}(h:p R):X∨∃ R,p R:=.inr ⟨R,h⟩
theorem Xn{X:Prop}{f:FuncId}{args:Array Value}{B:Nat}{w0 w:World}{Pn:List PanicEntry→World→Prop}{K:Value→List Bx→List Rw→World→Prop}(hc:Calls Tryz.prog f args w fun e w'=>∃ ch,e=.panicked ch∧Pn ch w'):
 X∨∃ R:Value→World→Prop,Calls Tryz.prog f args w (pY (some Pn) R)∧∀ v w',R v w'→∃ bs' rs',aC B w0 w' bs' rs'∧K v bs' rs' w':=
 .inr ⟨fun _ _=>False,hc.mono fun _ _ h=>.inr h,fun _ _ h=>h.elim⟩
theorem Yk{X:Prop}{f:FuncId}{args:Array Value}{B:Nat}{w0 w:World}{KP:PK}{v:Value}{Q:World→Prop}{K:Value→List Bx→List Rw→World→Prop}(hc:Calls Tryz.prog f args w fun e w'=>e=.returned v∧Q w')(h:∀ w',Q w'→∃ bs' rs',aC B w0 w' bs' rs'∧K v bs' rs' w'):
 X∨∃ R:Value→World→Prop,Calls Tryz.prog f args w (pY KP R)∧∀ v w',R v w'→∃ bs' rs',aC B w0 w' bs' rs'∧K v bs' rs' w':=by
 refine .inr ⟨fun u w'=>u=v∧Q w',hc.mono fun e w' h=>?_,fun u w' ⟨e,h'⟩=>e▸h w' h'⟩
 cases KP with
 | none=>exact⟨v,h.1,rfl,h.2⟩
 | some Pn=>exact .inl ⟨v,h.1,rfl,h.2⟩
theorem Rp{X:Prop}{f:FuncId}{args:Array Value}{B:Nat}{w0 w:World}{KP:PK}{R:Value→World→Prop}{K:Value→List Bx→List Rw→World→Prop}(hc:Calls Tryz.prog f args w fun e w'=>∃ v,e=.returned v∧R v w')(h:∀ v w',R v w'→∃ bs' rs',aC B w0 w' bs' rs'∧K v bs' rs' w'):
 X∨∃ R:Value→World→Prop,Calls Tryz.prog f args w (pY KP R)∧∀ v w',R v w'→∃ bs' rs',aC B w0 w' bs' rs'∧K v bs' rs' w':=by
 refine .inr ⟨R,hc.mono fun e w' h=>?_,h⟩
 cases KP with
 | none=>exact h
 | some Pn=>exact .inl h
theorem cw{B:Nat}{w0 w:World}{bs:List Bx}{rs:List Rw}{X:Prop}{f:FuncId}{args:Array Value}{e kk n:Nat}{xs:List Value}{K:Value→List Bx→List Rw→World→Prop}(M:aC B w0 w bs rs)
 (hc:Calls Tryz.prog f args w fun r w'=>∃ u,r=.returned u∧(w'.ownsRow w.heap.size e kk u n xs∧aiv w.heap.size w w')) (h:∀ u w',aC B w0 w' bs (⟨u,e,kk,n,xs⟩::rs)→K u bs (⟨u,e,kk,n,xs⟩::rs) w') :
 X∨∃ R:Value→World→Prop,(Calls Tryz.prog f args w fun e w'=>∃ v,e=.returned v∧R v w')∧∀ v w',R v w'→∃ bs' rs',aC B w0 w' bs' rs'∧K v bs' rs' w':=
 .inr ⟨_,hc,fun u w' hR=>⟨_,_,M.qo (r:=⟨u,e,kk,n,xs⟩) hR.2 hR.1,h u w' (M.qo (r:=⟨u,e,kk,n,xs⟩) hR.2 hR.1)⟩⟩
theorem dr{p q X:Prop}(h:p)(k:q):(p∧q)∨X:=.inl ⟨h,k⟩
theorem cv{X Y Z:Prop}{p:(Value→World→Prop)→Prop}(R:Value→World→Prop)(h:p R):X∨Y∨Z∨∃ R,p R:=.inr (.inr (.inr ⟨R,h⟩))
theorem cu{X Y:Prop}{p:Value→Prop}{v:Value}(h:p v):X∨(∃ v,p v)∨Y:=.inr (.inl ⟨v,h⟩)
theorem aQ{a:Act}{x:Operand}{xs:List Operand}{v:Value}{vs:List Value}:q6 a (x::xs) (v::vs)→a.eval x=v
 | .cons h _=>h
theorem cO{a:Act}{x y:Operand}{xs:List Operand}{u v:Value}{vs:List Value}:q6 a (x::y::xs) (u::v::vs)→a.eval y=v
 | .cons _ (.cons h _)=>h
theorem abK{a:Act}{x y z:Operand}{xs:List Operand}{u v s:Value}{vs:List Value}:q6 a (x::y::z::xs) (u::v::s::vs)→a.eval z=s
 | .cons _ (.cons _ (.cons h _))=>h
theorem bl{p q:Prop}(h:p):p∨q:=.inl h
theorem br{X:Prop}{p:(Value→World→Prop)→Prop}(R:Value→World→Prop)(h:p R):X∨∃ R,p R:=.inr ⟨R,h⟩
def abM(w:World)(e:TypeId)(R:Value→World→Prop):Value→World→Prop:=fun v w2=>∃ u g,v=.slice (some ⟨g,0,none⟩) 1 1∧Whole w2 g e #[u]∧w.heap.size≤g∧u.ownBlock≠some g∧R u w2
theorem b1{B:Nat}{w0 w:World}{bs:List Bx}{rs:List Rw}{t e b:Nat}{x:Operand}{R:Value→World→Prop}{u:Value}(hR:mX R)(h1:∀ u w,R u w→u.cells=#[u])(h2:∀ u w q,R u w→u.ownBlock=some q→q<w.heap.size)(hD:jZ Tryz.prog t (.sl e 1 b)=true):
 ∀ (w1:World) (a:Act) (o':Oper),aiv w.heap.size w w1→aC B w0 w1 bs rs→R u w1→o'.op=.buildSlice t 1 #[(0,x)]→q6 a (gb (.buildSlice t 1 #[(0,x)])) [u] →
  ∃ v w2,(execOp a.eval o').run Tryz.prog w1=.ok (.value v) w2∧abM w e R v w2∧aiv w1.heap.size w1 w2:=fun w1 a o' hb _ hu hop oO=>by
 have hc:=h1 u w1 hu;have hr:=qH (w:=w1) hop hD rfl rfl (by decide) (by decide) oO (by simp[hc]);have hbl:aiv w1.heap.size w1 (w1.alloc (.cells ([u].flatMap fun v=>v.cells.toList).toArray e)):=(Below.refl _ w1).alloc (Nat.le_refl _) _;have hl:([u].flatMap fun v=>v.cells.toList).toArray=#[u]:=by simp[hc]
 refine⟨_,_,hr,⟨u,w1.heap.size,rfl,hl▸Whole.new w1 e _,hb.size,fun hq=>Nat.lt_irrefl _ (h2 u w1 _ hu hq),hR _ _ _ hu hbl⟩,hbl⟩
def Oj(w:World)(e n:Nat)(cs:List Value):Value→World→Prop:=fun v w2=>∃ g,v=.slice (some ⟨g,0,none⟩) n n∧Whole w2 g e cs.toArray∧w.heap.size≤g
theorem xX{w:World}{e n:Nat}{cs:List Value}:mX (Oj w e n cs):=fun _ _ _ ⟨g,h1,h2,h3⟩ hb=>⟨g,h1,Whole.under hb h2 h2.lt,h3⟩
theorem bK{w:World}{t e kk b len:Nat}{parts:Array (Nat×Operand)}{vs:List Value}{p:World→Prop}(hD:jZ Tryz.prog t (.sl e kk b)=true)(hp:rR 0 parts.toList=true)(hl:parts.toList.length=len)(h0:0<len*kk)(h1:len*kk≤2^24)(hc:∀ v∈vs,v.cells.size=kk){cs:List Value}(hcs:(vs.flatMap fun v=>v.cells.toList)=cs)
 (w1:World) (a:Act) (o':Oper) (hb:aiv w.heap.size w w1) (_:p w1) (hop:o'.op=.buildSlice t len parts) (oO:q6 a (gb (.buildSlice t len parts)) vs) :
  ∃ v w2,(execOp a.eval o').run Tryz.prog w1=.ok (.value v) w2∧Oj w e len cs v w2∧aiv w1.heap.size w1 w2:=by
 subst hcs;exact⟨_,_,qH (w:=w1) hop hD hp hl h0 h1 oO hc,⟨w1.heap.size,rfl,Whole.new w1 e _,hb.size⟩,(Below.refl _ w1).alloc (Nat.le_refl _) _⟩
theorem aC.perm{B:Nat}{w0 w:World}{bs:List Bx}{rs rs':List Rw}(M:aC B w0 w bs rs)(hp:rs.Perm rs'):aC B w0 w bs rs':=by
 refine⟨M.below,M.le,M.old,M.box,M.lo,M.nd,fun r h=>M.row r (hp.mem_iff.2 h),fun r h=>M.far r (hp.mem_iff.2 h),(hp.pairwise_iff fun {r s} h=>?_).1 M.tZ⟩;rcases h with h|h
 ·cases hs:s.v.ownBlock with
  | none=>exact .inl rfl
  | some q=>exact .inr (by rw[h];simp)
 ·exact .inr fun e=>h e.symm
theorem sr{X Y:Prop}{B:Nat}{w0:World}{rs:List Rw}{D:TD}{g off e n cap:Nat}{xs:List Value}{v:Value}{k:List Rw→Prop}(i j:Nat)(h:rs[i]?=some ⟨.slice (some ⟨g,0,none⟩) n cap,e,jI D,n,xs⟩∧off=j*jI D∧j<n)(h1:(aU v).all (·.oneCell')=true)
 (h2:qg (aU v) (jI D) (pW rs i ⟨.slice (some ⟨g,0,none⟩) n cap,e,jI D,n,xs.take off++aU v++xs.drop (off+jI D)⟩ k)) (hW:Nat.beq e 59=false∨w0.heap.size≤B:=by first|exact .inl rfl|exact .inr (Nat.le_refl _)):X∨YW B w0 rs D g off v k∨Y:=
 .inr (.inl ⟨i,j,e,n,cap,xs,h,h1,hW,h2⟩)
theorem ap{B:Nat}{w0 w:World}{bs zA:List Bx}{rs zn:List Rw}{u v:Value}{e kk Io nn mm:Nat}{xs news:List Value}{k:Value→List Bx→List Rw→World→Prop}(i:Nat)(hM:aC B w0 w bs rs→aC B w0 w zA zn)(hr:zn[i]?=some ⟨v,e,kk,nn,xs⟩)(hs:SliceAt w u kk mm news)
 (hb:nn+mm≤maxLen∧(nn+mm)*Io≤140737488355328) (h:∀ v' w',pW zn i ⟨v',e,kk,nn+mm,xs++news⟩ fun rs'=>aC B w0 w' zA rs'→k v' zA rs' w') (hW:Nat.beq e 59=false∨w0.heap.size≤B:=by first|exact .inl rfl|exact .inr (Nat.le_refl _)):apO B w0 bs rs w u v e kk Io k:=
 ⟨zA,zn,i,nn,xs,mm,news,hM,hr,hs,hb,hW,h⟩
theorem lp{p:(ι:Type)→(ι→Slots)→(ι→List Bx)→(ι→List Rw)→(ι→World→Prop)→(ι→Nat)→ι→Prop}{ι:Type}(C:ι→Slots)(qX:ι→List Bx)(pN:ι→List Rw)(R:ι→World→Prop)(μ:ι→Nat)(x:ι)(h:p ι C qX pN R μ x):
 ∃ (ι:Type) (C:ι→Slots) (qX:ι→List Bx) (pN:ι→List Rw) (R:ι→World→Prop) (μ:ι→Nat) (x:ι),p ι C qX pN R μ x:=⟨ι,C,qX,pN,R,μ,x,h⟩
theorem lq{p:(ι:Type)→(ι→Slots)→(ι→List Bx)→(ι→List Rw)→(ι→World→Prop)→(ι→Nat)→ι→Prop}{ι:Type}(C:ι→Slots){bs:List Bx}(pN:ι→List Rw)(R:ι→World→Prop)(μ:ι→Nat)(x:ι)(h:p ι C (fun _=>bs) pN R μ x):
 ∃ (ι:Type) (C:ι→Slots) (qX:ι→List Bx) (pN:ι→List Rw) (R:ι→World→Prop) (μ:ι→Nat) (x:ι),p ι C qX pN R μ x:=⟨ι,C,_,pN,R,μ,x,h⟩
theorem lr{p:(ι:Type)→(ι→Slots)→(ι→List Bx)→(ι→List Rw)→(ι→World→Prop)→(ι→Nat)→ι→Prop}{ι:Type}(C:ι→Slots){bs:List Bx}{rs:List Rw}(R:ι→World→Prop)(μ:ι→Nat)(x:ι)(h:p ι C (fun _=>bs) (fun _=>rs) R μ x):
 ∃ (ι:Type) (C:ι→Slots) (qX:ι→List Bx) (pN:ι→List Rw) (R:ι→World→Prop) (μ:ι→Nat) (x:ι),p ι C qX pN R μ x:=⟨ι,C,_,_,R,μ,x,h⟩
theorem bk{B:Nat}{w0 w:World}{ι:Type}{C:ι→Slots}{qX:ι→List Bx}{pN:ι→List Rw}{R:ι→World→Prop}{l kl:Slots}{bs:List Bx}{rs:List Rw}{μ:ι→Nat}{m:Nat}(x:ι)(hs:Sub l (C x))(hM:aC B w0 w bs rs→aC B w0 w (qX x) (pN x)∧R x w)(hm:μ x<m):
 kl=kl∧∃ x,Wk B w0 C qX pN R l bs rs w x∧μ x<m:=⟨rfl,x,⟨hs,hM⟩,hm⟩
theorem jo{p:(ι:Type)→(ι→Slots)→(ι→List Bx)→(ι→List Rw)→(ι→World→Prop)→Prop}{ι:Type}(C:ι→Slots)(qX:ι→List Bx)(pN:ι→List Rw)(R:ι→World→Prop)(h:p ι C qX pN R):
 ∃ (ι:Type) (C:ι→Slots) (qX:ι→List Bx) (pN:ι→List Rw) (R:ι→World→Prop),p ι C qX pN R:=⟨ι,C,qX,pN,R,h⟩
theorem je{B:Nat}{w0 w:World}{ι:Type}{C:ι→Slots}{qX:ι→List Bx}{pN:ι→List Rw}{R:ι→World→Prop}{l kl:Slots}{bs:List Bx}{rs:List Rw}(x:ι)(hs:Sub l (C x))(hM:aC B w0 w bs rs→aC B w0 w (qX x) (pN x)∧R x w):
 kl=kl∧∃ x,Wk B w0 C qX pN R l bs rs w x:=⟨rfl,x,hs,hM⟩
end Go.Proofs.YtkkmjdceiocnbaaGreatDoor

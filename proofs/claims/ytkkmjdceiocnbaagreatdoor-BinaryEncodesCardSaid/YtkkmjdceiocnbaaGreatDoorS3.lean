import Derived.Test.YtkkmjdceiocnbaaGreatDoorS2
open Array renaming getD_eq_getD_getElem?→ajZ
open Bool renaming and_eq_true→ajS
open Go renaming wpList_nil→ajW
open Go.RowKit renaming Below→ajM
open List renaming mem_cons→ajN,getElem?_append_left→ajO,getElem?_eq_some_iff→ajP,mem_cons_self→ajQ,mem_cons_of_mem→ajR,all_eq_true→ajT,mem_of_getElem?→ajU,getElem?_eq_getElem→ajX,length_take→ajY
open Nat renaming eq_of_beq_eq_true→ajL
open Option.some renaming inj→ajV
set_option maxRecDepth 100000
set_option maxHeartbeats 8000000
set_option linter.unusedSectionVars false
set_option linter.unusedSimpArgs false
set_option linter.unusedVariables false
namespace Go.Proofs.YtkkmjdceiocnbaaGreatDoor
open Go Go.RowKit
variable [DS]
def Yx(o:Oper):Nat:=match o.op with
 | .assign _=>3
 | .move _|.pick _ _ _|.nilCheck _|.load _ _|.binOp _ _ _ _ _|.unOp _ _ _|.fieldAddr _ _ _|.indexAddr _ _ _|.index _ _ _|.extract _ _|.convert _ _ _|.makeFunc _ _ _|.build _ _|.field _ _ _|.buildSlice _ _ _|.slice _ _ _ _ _=>0
 | .alloc _|.box _ _=>1
 | .call c=>(match c.callee with|.value _=>0|.builtin .len=>0|.builtin .min=>0|.builtin .max=>0|_=>2)
 | _=>2
def rL(d:Nat):List Operand→Bool
 | []=>false
 | .tmp q::r=>bif Nat.beq d q then true else rL d r
 | _::r=>rL d r
def TY(o:Oper):List (List Operand)→Bool
 | []=>false
 | x::r=>(match o.dst with|some d=>bif rL d x then true else TY o r|none=>false)
def WR:Bool→List (List Operand)→List Oper→Nat
 | _,_,[]=>0
 | u,seen,o::r=>match Yx o with
  | 0=>WR u (jW o.op::seen) r+1
  | 1=>(match u with|true=>0|false=>WR true (jW o.op::seen) r+1)
  | 3=>bif TY o seen then 0 else WR u (jW o.op::seen) r+1
  | _=>0
def lZ(k:Nat)(L:List Oper):List Nat:=(L.take k).filterMap (·.dst)
def WS(slots:List Nat)(o:Oper):Operand→Bool
 | .tmp q=>!slots.contains q||o.after.toList.any fun e=>Region.binds .any e&&(slots[e.on]? == some q)
 | _=>true
def E7(slots:List Nat)(o:Oper):Bool:=(jW o.op).all (WS slots o)&&(match o.guard with
 | none=>true
 | some (j,_)=>o.after.toList.any fun e=>Region.binds .any e&&(e.on == j))
def ZF(N:Nat)(L:List Oper)(k:Nat):Bool:=
 ordered 0 L&&(Ig k L&&((L.take k).all (fun o=>o.dst.isSome)&&((L.take k).all (E7 (lZ k L))&&((lZ k L).all (fun s=>decide (s<N))&&decide (lZ k L).Nodup))))
def JO(ds:List Nat):Slots→(Slots→Prop)→Prop
 | [],f=>f []
 | (s,v)::r,f=>bif nj s ds then JO ds r f else JO ds r fun l=>f ((s,v)::l)
theorem mF{x:Nat}{l:List Nat}:nj x l=true↔x∈l:=by
 induction l with
 | nil=>simp[nj]
 | cons y r ih=>
  unfold nj
  cases h:Nat.beq x y with
  | true=>simp[ajL h]
  | false=>
   have hne:x≠y:=fun e=>by rw[e,Nat.beq_refl] at h;cases h
   simp[ih,hne]
theorem xu{ds:List Nat}:∀ {l:Slots} {f:Slots→Prop},JO ds l f→∃ l',f l'∧∀ q,look q l'=bif nj q ds then none else look q l
 | [],f,h=>⟨[],h,fun q=>by cases nj q ds<;>rfl⟩
 | (s,v)::r,f,h=>by
  unfold JO at h
  cases hm:nj s ds with
  | true=>
   rw[hm] at h;obtain⟨l',h1,h2⟩:=xu h;refine⟨l',h1,fun q=>?_⟩;rw[h2,dQ]
   cases hq:nj q ds with
   | true=>rfl
   | false=>
    have:(q == s)=false:=by
     cases e:q == s with
     | false=>rfl
     | true=>have e':q=s:=by simpa using e
             rw[e',hm] at hq;cases hq
    rw[this];rfl
  | false=>
   rw[hm] at h;obtain⟨l',h1,h2⟩:=xu h;refine⟨_,h1,fun q=>?_⟩;rw[dQ,dQ,h2]
   cases e:q == s with
   | false=>rfl
   | true=>
    have e':q=s:=by simpa using e
    rw[e',hm];rfl
structure Xf where
 d:Nat
 j:Nat
 ty:TypeId
 cs:Array Value
 sl:Option Nat
structure qp where
 d:Nat
 j:Nat
 R:Value→World→Prop
def XG(s:Option Nat)(g:Nat):Value:=match s with
 | none=>.pointer (some ⟨g,0,none⟩)
 | some len=>.slice (some ⟨g,0,none⟩) len len
section
variable (B:Nat) (w0:World) (N:Nat) (l:Slots) (bs:List Bx) (rs:List Rw) (w:World) (K:Slots→List Bx→List Rw→World→Prop)
def cD(o:Oper)(n:Nat)(m:List iP)(π:Pa)(t:Bool)(f:FuncId)(vs:List Value)(k:iP→Prop):Prop:=bif nj f Oa then False else bif Nat.blt f NF then dK N m o.dst fun d=>∃ v,ob π t (∀ w',ajM w.heap.size w w'→aQ B w0 w' bs rs→Calls Tryz.prog f vs.toArray w' fun e w''=>e=.returned v∧ajM w'.heap.size w' w'') (k ⟨d,n,π,t,v⟩)
 else False
def gR(π:Pa)(t:Bool)(R:Value→World→Prop):Value→World→Prop:=match π with
 | []=>R
 | _::_=>fun v w=>t=true→R v w
def cRl(o:Oper)(n:Nat)(m:List iP)(π:Pa)(t:Bool)(f:FuncId)(vs:List Value)(k:qp→Prop):Prop:=bif nj f Oa then False else bif Nat.blt f NF then dK N m o.dst fun d=>∃ R:Value→World→Prop,qg R∧ob π t (∀ w',ajM w.heap.size w w'→aQ B w0 w' bs rs→Calls Tryz.prog f vs.toArray w' fun e w''=>∃ v,e=.returned v∧(R v w''∧ajM w'.heap.size w' w'')) (k ⟨d,n,gR π t R⟩)
 else False
def W6(R:World→Prop)(P:Option (World→Prop)):Option (World→Prop):=match P with
 | none=>some R
 | some P=>some fun w=>R w∧P w
def Ni(P:Option (World→Prop))(w:World)(q:Prop):Prop:=match P with
 | none=>q
 | some P=>P w→q
def Iw(xs:List Operand):List qp→List iP→Option (World→Prop)→(List iP→Option (World→Prop)→Prop)→Prop
 | [],m,P,f=>f m P
 | ⟨d,j,R⟩::r,m,P,f=>bif rL d xs then ∀ u,Iw xs r (⟨d,j,[],true,u⟩::m) (W6 (R u) P) f else Iw xs r m P f
def Ix(xs:List Operand):List qp→(List qp→Prop)→Prop
 | [],f=>f []
 | ⟨d,j,R⟩::r,f=>bif rL d xs then Ix xs r f else Ix xs r fun r'=>f (⟨d,j,R⟩::r')
def O1(xs:List Operand):List qp→Bool
 | []=>false
 | A::r=>bif rL A.d xs then true else O1 xs r
def cU(o:Oper)(n:Nat)(m:List iP)(π:Pa)(t:Bool)(f:FuncId)(xs:List Operand)(rel:List qp)(k:iP→List qp→Prop):Prop:=bif nj f Oa then False else bif Nat.blt f NF then bif O1 xs rel then dK N m o.dst fun d=>∃ v,Iw xs rel m none (fun m' P=>KX l m' π xs fun vs=>(t=true→∀ w',ajM w.heap.size w w'→aQ B w0 w' bs rs→Ni P w' (Calls Tryz.prog f vs.toArray w' fun e w''=>e=.returned v∧ajM w'.heap.size w' w'')))∧Ix xs rel fun r=>k ⟨d,n,π,t,v⟩ r
 else False else False
def cV(o:Oper)(n:Nat)(m:List iP)(π:Pa)(t:Bool)(f:FuncId)(xs:List Operand)(rel:List qp)(k:List qp→Prop):Prop:=bif nj f Oa then False else bif Nat.blt f NF then bif O1 xs rel then dK N m o.dst fun d=>∃ R':Value→World→Prop,qg R'∧Iw xs rel m none (fun m' P=>KX l m' π xs fun vs=>(t=true→∀ w',ajM w.heap.size w w'→aQ B w0 w' bs rs→Ni P w' (Calls Tryz.prog f vs.toArray w' fun e w''=>∃ v,e=.returned v∧(R' v w''∧ajM w'.heap.size w' w''))))∧Ix xs rel fun r=>k (⟨d,n,gR π t R'⟩::r)
 else False else False
def obI(π:Pa)(t:Bool)(p:Prop):Prop:=match π with
 | []=>p
 | _::_=>t=true→p
theorem Vg{π:Pa}{t:Bool}{p:Prop}(h:obI π t p)(ht:t=true):p:=by
 cases π with
 | nil=>exact h
 | cons=>exact h ht
def fD(o:Oper)(n:Nat)(m:List iP)(π:Pa)(t:Bool)(rel:List qp)(k:List qp→Prop):Prop:=dK N m o.dst fun d=>∃ R':Value→World→Prop,qg R'∧Iw (jW o.op) rel m none (fun m' P=>KX l m' π (jW o.op) fun vs=>obI π t (∀ (w1:World) (a:Act) (o':Oper),ajM w.heap.size w w1→aQ B w0 w1 bs rs→Ni P w1 (o'.op=o.op→wj a (jW o.op) vs →
  ∃ v w2,(execOp a.eval o').run Tryz.prog w1=.ok (.value v) w2∧R' v w2∧ajM w1.heap.size w1 w2)))∧Ix (jW o.op) rel fun r=>k (⟨d,n,gR π t R'⟩::r)
def alN(a:Option Xf)(p:Prop):Prop:=match a with
 | none=>p
 | some _=>False
abbrev Ru:=List Oper→Nat→List iP→Option Xf→List qp→Bool→Prop
def Vc:List qp→List iP→Option (World→Prop)→(List iP→Option (World→Prop)→Prop)→Prop
 | [],m,P,f=>f m P
 | ⟨d,j,R⟩::r,m,P,f=>bif oH d m then ∀ u,Vc r (⟨d,j,[],true,u⟩::m) (W6 (R u) P) f else False
def vF:Ru:=fun L n m al rel _=>Vc rel m none fun m' P=>match al with
 | none=>∀ w',Ni P w' (ajM w.heap.size w w'→aQ B w0 w' bs rs→vc none B w0 N l L n m' bs rs w' K)
 | some ⟨d,j,ty,cs,s⟩=>bif oH d m' then ∀ g w',Ni P w' (ajM w.heap.size w w'→aQ B w0 w' ((g,ty,cs)::bs) rs→vc none B w0 N l L n (⟨d,j,[],true,XG s g⟩::m') ((g,ty,cs)::bs) rs w' K) else False
section
variable (F:Ru)
def vd:Nat→List Oper→Nat→List iP→Option Xf→List qp→Bool→Prop
 | 0,L,n,m,al,rel,us=>F L n m al rel us
 | _+1,[],_,_,_,_,_=>False
 | k+1,o::r,n,m,al,rel,us=>gK m o.guard fun π t=>match o.op with
  | .load ty x=>dK N m o.dst fun d=>tY l m π x fun u=>Eu u (AZ π t fun v=>vd k r (n+1) (⟨d,n,π,t,v⟩::m) al rel us) fun g off=>CS ty (fun D=>ldK π t bs w D g off fun v=>vd k r (n+1) (⟨d,n,π,t,v⟩::m) al rel us) TT
  | .alloc ty=>Jr π (alN al (dK N m o.dst fun d=>∃ z,(Tryz.prog.info? ty).bind (·.zero)=some z∧bif Nat.blt ty 9000 then NK z fun cs=>vd k r (n+1) m (some ⟨d,n,ty,cs,none⟩) rel us else False))
  | .box ty x=>Jr π (alN al (dK N m o.dst fun d=>tY l m π x fun u=>bif Nat.blt ty 9000 then NK u fun cs=>vd k r (n+1) m (some ⟨d,n,ty,cs,none⟩) rel us else False))
  | .buildSlice ty len parts=>(Jr π (alN al (dK N m o.dst fun d=>CS ty (fun D=>match D with
   | .sl e kk _=>bif uf 0 parts.toList then wz parts.toList len (bif Nat.blt 0 (len*kk) then bif Nat.ble (len*kk) 16777216 then bif Nat.blt e 9000 then KX l m π (parts.toList.map (·.2)) fun vs=>TG kk vs fun cs=>vd k r (n+1) m (some ⟨d,n,e,cs.toArray,some len⟩) rel us
    else False else False else False) else False
   | _=>False) TT))∨fD B w0 N l bs rs w o n m π t rel (fun rel=>vd k r (n+1) m al rel true))
  | .call c=>(match c.callee with
   | .value (.func f)=>(KX l m π c.args.toList fun vs=>cD B w0 N bs rs w o n m π t f vs fun e=>vd k r (n+1) (e::m) al rel us) ∨
    cU B w0 N l bs rs w o n m π t f c.args.toList rel (fun e rel=>vd k r (n+1) (e::m) al rel us) ∨
    (KX l m π c.args.toList fun vs=>cRl B w0 N bs rs w o n m π t f vs fun A=>vd k r (n+1) m al (A::rel) true) ∨
    cV B w0 N l bs rs w o n m π t f c.args.toList rel (fun rel=>vd k r (n+1) m al rel true)
   | .value y=>tY l m π y fun u=>(match u with
    | .func (.func f) first cap=>KX l m π c.args.toList fun vs=>pO first.toList vs fun xs=>pO xs cap.toList fun ys=>cD B w0 N bs rs w o n m π t f ys fun e=>vd k r (n+1) (e::m) al rel us
    | _=>False)
   | _=>dK N m o.dst fun d=>pop l m π t (fun v=>vd k r (n+1) (⟨d,n,π,t,v⟩::m) al rel us) (.call c))
  | op=>bif O1 (jW op) rel then fD B w0 N l bs rs w o n m π t rel (fun rel=>vd k r (n+1) m al rel true) else dK N m o.dst fun d=>pop l m π t (fun v=>vd k r (n+1) (⟨d,n,π,t,v⟩::m) al rel us) op
end
end
structure Fw (slots:List Nat) (gp:List Good) (m:List iP) (n:Nat):Prop where
 L:oq m n
 len:gp.length=n
 at_:∀ e∈m,slots[e.j]?=some e.s∧gp[e.j]?=some (S2 (gd e.t e.v))
theorem Fw.put{slots:List Nat}{gp:List Good}{m:List iP}{n:Nat}(D:Fw slots gp m n){d:Nat}(hs:slots[n]?=some d){π:Pa}(hp:∀ x∈π,∃ e∈m,e.j=x.1){t:Bool}(ht:t=true↔∀ x∈π,Cond m x){v:Value}:Fw slots (gp++[S2 (gd t v)]) (⟨d,n,π,t,v⟩::m) (n+1):=by
 refine⟨D.L.put hp ht,by simp[D.len],fun e he=>?_⟩;rcases ajN.1 he with rfl|he
 ·exact⟨hs,by simp[← D.len]⟩
 ·obtain⟨h1,h2⟩:=D.at_ e he;exact⟨h1,by rw[ajO (ajP.1 h2).1];exact h2⟩
theorem Fw.skip{slots:List Nat}{gp:List Good}{m:List iP}{n:Nat}(D:Fw slots gp m n)(g:Good):Fw slots (gp++[g]) m (n+1):=
 ⟨D.L.mono (Nat.le_succ n),by simp[D.len],fun e he=>⟨(D.at_ e he).1,by rw[ajO (ajP.1 (D.at_ e he).2).1];exact(D.at_ e he).2⟩⟩
theorem vf{d:Nat}:∀ {xs:List Operand},rL d xs=true→Operand.tmp d∈xs
 | .tmp q::r,h=>by
  unfold rL at h
  cases hb:Nat.beq d q with
  | true=>rw[ajL hb];exact ajQ ..
  | false=>rw[hb] at h;exact ajR _ (vf h)
 | .const _::r,h=>ajR _ (vf h)
 | .global _::r,h=>ajR _ (vf h)
 | .func _::r,h=>ajR _ (vf h)
theorem E6{slots:List Nat}{o:Oper}(mN:E7 slots o=true)(hnd:slots.Nodup){j d:Nat}(hj:slots[j]?=some d)(hx:Operand.tmp d∈jW o.op):∃ gr,(⟨j,gr⟩:Edge)∈o.after.toList∧Region.binds .any ⟨j,gr⟩=true:=by
 unfold E7 at mN;rw[ajS,ajT] at mN;have h3:=mN.1 _ hx;simp only[WS] at h3;have h5:slots.contains d=true:=by simpa using ajU hj
 rw[h5,Bool.not_true,Bool.false_or,List.any_eq_true] at h3;obtain⟨ed,h6,h7⟩:=h3;rw[ajS,beq_iff_eq] at h7;have h8:ed.on=j:=vh hnd h7.2 hj;obtain⟨on,gr⟩:=ed;simp only at h8;subst h8;exact⟨gr,h6,h7.1⟩
theorem Td{l:Slots}{m:List iP}{π:Pa}{a:Act}{xs:List Operand}{vs:List Value}(h:CP (DV l m π) xs vs)(E:∀ x∈xs,∀ v,DV l m π x v→a.eval x=v):wj a xs vs:=by
 induction h with
 | nil=>exact .nil
 | cons h1 _ ih=>exact .cons (E _ (ajQ ..) _ h1) (ih fun x hx=>E x (ajR _ hx))
theorem Hg{slots:List Nat}{gp G':List Good}{m:List iP}{n:Nat}(D:Fw slots gp m n)(hnd:slots.Nodup){ops:Array Oper}(qo:∀ (i:Nat) (s:Nat),slots[i]?=some s→(ops[i]?).bind (fun o=>o.dst)=some s){o:Oper}(mN:E7 slots o=true){l:Slots}(hl:∀ q v,look q l=some v→slots.contains q=false){a a0:Act}{N:Nat}(F0:Fs a0 N l){w:World}
 (Lr:∀ k,(∃ gr,(⟨k,gr⟩:Edge)∈o.after.toList∧Region.binds .any ⟨k,gr⟩=true)→∀ s g,slots[k]?=some s→(gp++G')[k]?=some g→∃ v,At a s v∧g v w)
 (hrest:∀ j u,slots.contains j=false→At a0 j u→At a j u) :
 (∀ x∈jW o.op,∀ π' v,DV l m π' x v→(∀ y∈π',Cond m y)→a.eval x=v) ∧
 ∀ e∈m,(∃ b,o.guard=some (e.j,b))→(ops[e.j]?).bind (·.dst)=some e.s∧At a e.s (gd e.t e.v):=by
 unfold E7 at mN;rw[ajS,ajT] at mN
 have hat:∀ e∈m,(∃ gr,(⟨e.j,gr⟩:Edge)∈o.after.toList∧Region.binds .any ⟨e.j,gr⟩=true)→At a e.s (gd e.t e.v):=fun e he hk=>by
  obtain⟨h1,h2⟩:=D.at_ e he;obtain⟨v,h3,rfl⟩:=Lr _ hk _ _ h1 (by rw[ajO (ajP.1 h2).1];exact h2);exact h3
 constructor
 ·intro x hx π' v Ln hc
  cases x with
  | tmp q=>
   rcases Ln with⟨e,he,rfl,rfl,hs⟩|⟨h1,h2⟩
   ·have ht:e.t=true:=(D.L.tv e he).2 fun y hy=>hc y (Aw hs y hy)
    refine((hat e he ?_).on ht).ev;have h3:=mN.1 _ hx;simp only[WS] at h3;obtain⟨h4,-⟩:=D.at_ e he;have h5:slots.contains e.s=true:=by simpa using ajU h4
    rw[h5,Bool.not_true,Bool.false_or,List.any_eq_true] at h3;obtain⟨ed,h6,h7⟩:=h3;rw[ajS,beq_iff_eq] at h7;have h8:ed.on=e.j:=vh hnd h7.2 h4;obtain⟨on,gr⟩:=ed;simp only at h8;subst h8;exact⟨gr,h6,h7.1⟩
   ·exact(hrest q v (hl q v h2) (F0.at_ q v h2)).ev
  | const u=>exact Ln
  | global=>exact Ln.elim
  | func f=>exact Ln
 ·rintro e he ⟨b,hg⟩;refine⟨qo _ _ (D.at_ e he).1,hat e he ?_⟩;have h3:=mN.2;rw[hg] at h3;simp only[List.any_eq_true,ajS,beq_iff_eq] at h3;obtain⟨⟨on,gr⟩,h6,h7,h8⟩:=h3;simp only at h8;subst h8;exact⟨gr,h6,h7⟩
structure Fin (slots:List Nat) (G:List Good) (m:List iP) (al:Option Xf) (rel:List qp) (us:Bool) (n:Nat) (w:World):Prop where
 D:Fw slots G m n
 XF:∀ A,al=some A→slots[A.j]?=some A.d∧G[A.j]?=some (Made w (XG A.sl) A.ty A.cs)∧Nat.blt A.ty 9000=true∧A.j<n∧∀ e∈m,e.j≠A.j
 cov:al=none→us=false→∀ i,i<n→∃ e∈m,e.j=i
 Iu:∀ A∈rel,slots[A.j]?=some A.d∧G[A.j]?=some A.R∧A.j<n∧(∀ e∈m,e.j≠A.j)∧∀ C,al=some C→C.j≠A.j
 yZ:(rel.map (·.j)).Nodup
section
variable {slots:List Nat} {gp:List Good} {m:List iP} {al:Option Xf} {rel rel':List qp} {us:Bool} {n:Nat} {w:World}
theorem Fin.sub(F:Fin slots gp m al rel us n w)(h:rel'.Sublist rel):Fin slots gp m al rel' us n w:=⟨F.D,F.XF,F.cov,fun A hA=>F.Iu A (h.subset hA),(h.map _).nodup F.yZ⟩
theorem CF{g g':Good}{j:Nat}(h:gp[j]?=some g):(gp++[g'])[j]?=some g:=by rw[ajO (ajP.1 h).1];exact h
theorem Fin.put(F:Fin slots gp m al rel us n w){g:Good}{e0:iP}(h0:e0.j=n)(D:Fw slots (gp++[g]) (e0::m) (n+1)):Fin slots (gp++[g]) (e0::m) al rel us (n+1) w:=by
 refine⟨D,fun A hA=>?_,fun ha hr i hi=>?_,fun A hA=>?_,F.yZ⟩
 ·obtain⟨c1,c2,c3,c4,c5⟩:=F.XF A hA;refine⟨c1,CF c2,c3,by omega,fun e he=>?_⟩;rcases ajN.1 he with rfl|he
  ·omega
  ·exact c5 e he
 ·by_cases h:i=n
  ·exact⟨e0,ajQ ..,h0.trans h.symm⟩
  ·obtain⟨e,h1,h2⟩:=F.cov ha hr i (by omega);exact⟨e,ajR _ h1,h2⟩
 ·obtain⟨c1,c2,c4,c5,c6⟩:=F.Iu A hA;refine⟨c1,CF c2,by omega,fun e he=>?_,c6⟩;rcases ajN.1 he with rfl|he
  ·omega
  ·exact c5 e he
theorem Fin.adT(F:Fin slots gp m al rel us n w){d:Nat}{R:Value→World→Prop}(hs:slots[n]?=some d):Fin slots (gp++[R]) m al (⟨d,n,R⟩::rel) true (n+1) w:=by
 refine⟨F.D.skip _,fun A hA=>?_,(fun _ h=>by cases h),fun A hA=>?_,?_⟩
 ·obtain⟨c1,c2,c3,c4,c5⟩:=F.XF A hA;exact⟨c1,CF c2,c3,by omega,c5⟩
 ·rcases ajN.1 hA with rfl|hA
  ·refine⟨hs,by simp[← F.D.len],Nat.lt_succ_self n,fun e he=>?_,fun C hC=>?_⟩
   ·have:=F.D.L.lt e he;simp only;omega
   ·have:=(F.XF C hC).2.2.2.1;simp only;omega
  ·obtain⟨c1,c2,c4,c5,c6⟩:=F.Iu A hA;exact⟨c1,CF c2,by omega,c5,c6⟩
 ·rw[List.map_cons,List.nodup_cons];refine⟨fun h=>?_,F.yZ⟩;obtain⟨A,hA,e⟩:=List.mem_map.1 h;have:=(F.Iu A hA).2.2.1;simp only at e;omega
theorem Fin.adU(F:Fin slots gp m none rel us n w){d:Nat}{ty:TypeId}{cs:Array Value}{s:Option Nat}(hs:slots[n]?=some d)(hty:Nat.blt ty 9000=true):Fin slots (gp++[Made w (XG s) ty cs]) m (some ⟨d,n,ty,cs,s⟩) rel us (n+1) w:=by
 refine⟨F.D.skip _,fun A hA=>?_,(fun h=>by cases h),fun A hA=>?_,F.yZ⟩
 ·obtain rfl:=ajV hA;refine⟨hs,by simp[← F.D.len],hty,Nat.lt_succ_self n,fun e he=>?_⟩;have:=F.D.L.lt e he;simp only;omega
 ·obtain⟨c1,c2,c4,c5,c6⟩:=F.Iu A hA;refine⟨c1,CF c2,by omega,c5,fun C hC=>?_⟩;obtain rfl:=ajV hC;simp only;omega
theorem xX{xs:List Operand}:∀ {rel:List qp} {f:List qp→Prop},Ix xs rel f→∃ rel',f rel'∧rel'.Sublist rel
 | [],_,h=>⟨[],h,.slnil⟩
 | ⟨d,j,R⟩::r,f,h=>by
  unfold Ix at h
  cases hb:rL d xs with
  | true=>
   rw[hb] at h;obtain⟨r',h1,h2⟩:=xX h;exact⟨r',h1,h2.cons _⟩
  | false=>
   rw[hb] at h;obtain⟨r',h1,h2⟩:=xX (f:=fun r'=>f (⟨d,j,R⟩::r')) h;exact⟨_,h1,h2.cons_cons _⟩
theorem xV{xs:List Operand}{a:Act}{w1:World}{f:List iP→Option (World→Prop)→Prop}:∀ {rel:List qp} {m:List iP} {P:Option (World→Prop)},(∀ p,P=some p→p w1)→(∀ A∈rel,rL A.d xs=true→∃ u,At a A.d u∧A.R u w1)→Iw xs rel m P f →
 ∃ m' P',f m' P'∧(∀ p,P'=some p→p w1)∧(∀ e∈m',e∈m∨At a e.s e.v)∧∀ e∈m,e∈m'
 | [],m,P,hP,_,h=>⟨m,P,h,hP,fun e he=>.inl he,fun _ he=>he⟩
 | ⟨d,j,R⟩::r,m,P,hP,hr,h=>by
  unfold Iw at h
  cases hb:rL d xs with
  | false=>
   rw[hb] at h;exact xV hP (fun A hA=>hr A (ajR _ hA)) h
  | true=>
   rw[hb] at h;obtain⟨u,h1,h2⟩:=hr _ (ajQ ..) hb
   have hP':∀ p,W6 (R u) P=some p→p w1:=fun p hp=>by
    cases P with
    | none=>obtain rfl:=ajV hp;exact h2
    | some q=>obtain rfl:=ajV hp;exact⟨h2,hP q rfl⟩
   obtain⟨m',P',k1,k2,k3,k4⟩:=xV hP' (fun A hA=>hr A (ajR _ hA)) (h u);refine⟨m',P',k1,k2,fun e he=>?_,fun e he=>k4 e (ajR _ he)⟩;rcases k3 e he with h|h
   ·rcases ajN.1 h with rfl|h
    ·exact .inr h1
    ·exact .inl h
   ·exact .inr h
theorem yB{P:Option (World→Prop)}{w:World}{q:Prop}(h:Ni P w q)(hP:∀ p,P=some p→p w):q:=by
 cases P with
 | none=>exact h
 | some p=>exact h (hP p rfl)
theorem Zk{π:Pa}{t:Bool}{R:Value→World→Prop}{v:Value}{w:World}(h:R v w):gR π t R v w:=by
 cases π with
 | nil=>exact h
 | cons=>exact fun _=>h
theorem Wx{π:Pa}{R:Value→World→Prop}{v:Value}{w:World}(h:π≠[]):gR π false R v w:=by
 cases π with
 | nil=>exact absurd rfl h
 | cons=>exact fun h=>by cases h
theorem PV{π:Pa}{t:Bool}{R:Value→World→Prop}(h:qg R):qg (gR π t R):=by
 cases π with
 | nil=>exact h
 | cons=>exact fun v w w' h1 hb ht=>h v w w' (h1 ht) hb
end
section
variable {N:Nat} {l:Slots} {B:Nat} {w0 w:World} {bs:List Bx} {rs:List Rw} {F:Ru} {slots:List Nat} {ops:Array Oper} {a0:Act}
def UF(N:Nat)(l:Slots)(B:Nat)(w0 w:World)(bs:List Bx)(rs:List Rw)(F:Ru)(slots:List Nat)(ops:Array Oper)(a0:Act)(gp:List Good)(L:List Oper)(k n:Nat):Prop:=
 ∃ G' m' al' rel' us',tD (gp++G')∧G'.length=k∧tG Tryz.prog ops slots (gp++G') (ajM w.heap.size w) a0 N (L.take k) G'∧Fin slots (gp++G') m' al' rel' us' (n+k) w∧vd B w0 N l bs rs w F 0 (L.drop k) (n+k) m' al' rel' us'
theorem TW(M:aQ B w0 w bs rs)(hnd:slots.Nodup)(qo:∀ (i s:Nat),slots[i]?=some s→(ops[i]?).bind (fun o=>o.dst)=some s)(hl:∀ q v,look q l=some v→slots.contains q=false)(F0:Fs a0 N l):
 ∀ {k:Nat} {L:List Oper} {n:Nat} {m:List iP} {al:Option Xf} {rel:List qp} {us:Bool} {gp:List Good},vd B w0 N l bs rs w F k L n m al rel us→Fin slots gp m al rel us n w→(∀ i o,(L.take k)[i]?=some o→E7 slots o=true∧slots[n+i]?=o.dst)→k≤L.length→tD gp →
  UF N l B w0 w bs rs F slots ops a0 gp L k n:=by
 intro k
 induction k with
 | zero=>intro L n m al rel us gp h hF _ _ hla;exact⟨[],m,al,rel,us,by simpa using hla,rfl,trivial,by simpa using hF,h⟩
 | succ k ih=>
  intro L n m al rel us gp h hF mN hkl hla
  cases L with
  | nil=>simp at hkl
  | cons o r=>
   have acM:k≤r.length:=by simpa using hkl
   have RD:=mN 0 o (by simp)
   have Y5:∀ i o,(r.take k)[i]?=some o→E7 slots o=true∧slots[n+1+i]?=o.dst:=fun i o' hi=>by
    have:=mN (i+1) o' (by simpa using hi)
    rwa [show n+1+i=n+(i+1) by omega]
   have one:∀ (g:Good) (m1:List iP) (al1:Option Xf) (xY:List qp) (us1:Bool),qg g→Fin slots (gp++[g]) m1 al1 xY us1 (n+1) w→vd B w0 N l bs rs w F k r (n+1) m1 al1 xY us1 →
    (∀ (a:Act) (w1:World) (Q':Exit→Act→World→Prop),Fr a N→ajM w.heap.size w w1 →
     (∀ x∈jW o.op,∀ π' v,DV l m π' x v→(∀ y∈π',Cond m y)→a.eval x=v)→(∀ e∈m,(∃ b,o.guard=some (e.j,b))→(ops[e.j]?).bind (·.dst)=some e.s∧At a e.s (gd e.t e.v)) →
     (∀ A∈rel,rL A.d (jW o.op)=true→∃ u,At a A.d u∧A.R u w1) →
     (∀ v a' w',ajM w1.heap.size w1 w'→g v w'→Put a (o.dst.getD 0) v a'→Q' .normal a' w')→wpList Tryz.prog ops Q' [o] a w1) →
    UF N l B w0 w bs rs F slots ops a0 gp (o::r) (k+1) n:=by
    intro g m1 al1 xY us1 hg hF1 h1 hst
    have acF:tD (gp++[g]):=by
     clear ih h hF hF1 h1 hst
     induction gp with
     | nil=>exact⟨hg,trivial⟩
     | cons x r ih=>exact⟨hla.1,ih hla.2⟩
    obtain⟨G',m',al',rel',us',k1,k2,k3,k4,k5⟩:=ih h1 hF1 Y5 acM acF;refine⟨g::G',m',al',rel',us',by simpa using k1,by simp[k2],⟨?_,by simpa using k3⟩,by simpa[show n+(k+1)=n+1+k by omega] using k4,by simpa[show n+(k+1)=n+1+k by omega] using k5⟩;intro a w1 Q' hf hb Lr hrest hK;obtain⟨E,Cd⟩:=Hg hF.D hnd qo RD.1 hl F0 (G':=g::G') Lr hrest;refine hst a w1 Q' hf hb E Cd (fun A hA hop=>?_) hK;obtain⟨c1,c2,c4,c5,-⟩:=hF.Iu A hA;refine Lr A.j ?_ _ _ c1 (by rw[ajO (ajP.1 c2).1];exact c2);exact E6 RD.1 hnd c1 (vf hop)
   obtain⟨π,t,h,hp,ht,h0,hgd⟩:=Lw hF.D.L h;have Qs:∀ {d:Nat},o.dst=some d→slots[n]?=some d:=fun hd=>by have:=RD.2;rw[hd] at this;simpa using this
   have off:∀ {d:Nat} {a:Act} {w1:World} {g:Good} {Q':Exit→Act→World→Prop},Region.wanted o (yielded ops a.tmps)=false→o.dst=some d→Nat.blt d N=true→Fr a N→g undef w1→(∀ v a' w',ajM w1.heap.size w1 w'→g v w'→Put a (o.dst.getD 0) v a'→Q' .normal a' w')→wpList Tryz.prog ops Q' [o] a w1:=
    fun hw hd hN hf hg hK=>D4 hw hd hf (by simpa using hN) fun a' p=>ajW (hK undef a' _ (Below.refl _ _) hg (by rw[hd];exact p))
   have val:∀ {d:Nat} {v:Value} {xY:List qp},xY.Sublist rel→o.dst=some d→Nat.blt d N=true→vd B w0 N l bs rs w F k r (n+1) (⟨d,n,π,t,v⟩::m) al xY us →
    (t=true→∀ (a:Act) (w1:World) (Q':Exit→Act→World→Prop),Fr a N→ajM w.heap.size w w1→Region.wanted o (yielded ops a.tmps)=true→(∀ x∈jW o.op,∀ π' v,DV l m π' x v→(∀ y∈π',Cond m y)→a.eval x=v) →
     (∀ A∈rel,rL A.d (jW o.op)=true→∃ u,At a A.d u∧A.R u w1)→(∀ v' a' w',ajM w1.heap.size w1 w'→S2 v v' w'→Put a (o.dst.getD 0) v' a'→Q' .normal a' w')→wpList Tryz.prog ops Q' [o] a w1) →
    UF N l B w0 w bs rs F slots ops a0 gp (o::r) (k+1) n:=by
    intro d v xY hsub hd hN h1 hr;refine one (S2 (gd t v)) _ _ _ _ (GD _) ((hF.sub hsub).put rfl (hF.D.put (Qs hd) hp ht)) h1 fun a w1 Q' hf hb E Cd hrel hK=>?_
    have hw:=vM hgd Cd
    cases t with
    | true=>exact hr rfl a w1 Q' hf hb hw E hrel hK
    | false=>exact off hw hd hN hf rfl hK
   have Ns:∀ {op:Op} {d:Nat},o.op=op→o.dst=some d→Nat.blt d N=true→pop l m π t (fun v=>vd B w0 N l bs rs w F k r (n+1) (⟨d,n,π,t,v⟩::m) al rel us) op→UF N l B w0 w bs rs F slots ops a0 gp (o::r) (k+1) n:=fun hop hd hN h=>by
    obtain⟨v,h1,h2⟩:=IU hF.D.L ht h;exact val (.refl _) hd hN h1 fun ct a w1 Q' hf hb hw E _ hK=>dv hw (h2 a w1 o hop (hop▸E) ct) hd hf hN hK rfl
   have new:∀ {d:Nat} {ty:TypeId} {cs:Array Value} {s:Option Nat},π=[]→al=none→o.dst=some d→Nat.blt d N=true→Nat.blt ty 9000=true→vd B w0 N l bs rs w F k r (n+1) m (some ⟨d,n,ty,cs,s⟩) rel us →
    (∀ (a:Act) (w1:World),(∀ x∈jW o.op,∀ π' v,DV l m π' x v→(∀ y∈π',Cond m y)→a.eval x=v)→(execOp a.eval o).run Tryz.prog w1=.ok (.value (XG s w1.heap.size)) (w1.alloc (.cells cs ty))) →
    UF N l B w0 w bs rs F slots ops a0 gp (o::r) (k+1) n:=by
    intro d ty cs s hπ hal hd hN hty h1 hr;subst hal;refine one (Made w (XG s) ty cs) _ _ _ _ (Ju _ _ _ _) (hF.adU (Qs hd) hty) h1 fun a w1 Q' hf hb E Cd _ hK=>?_
    have hw:=(vM hgd Cd).trans (h0 hπ);exact dn (f:=XG s) hw (hr a w1 E) hd hf hN hK fun b w' nn=>PF hb b w' nn
   have Uz:∀ {f:FuncId} {vs:List Value},cD B w0 N bs rs w o n m π t f vs (fun e=>vd B w0 N l bs rs w F k r (n+1) (e::m) al rel us) →
    (t=true→Du Tryz.prog f=true→∀ (a:Act) (w1:World),(∀ x∈jW o.op,∀ π' v,DV l m π' x v→(∀ y∈π',Cond m y)→a.eval x=v)→(execOp a.eval o).run Tryz.prog w1=.ok (.enter f vs.toArray) w1) →
    UF N l B w0 w bs rs F slots ops a0 gp (o::r) (k+1) n:=by
    intro f vs h hr;unfold cD at h
    cases hm:nj f Oa with
    | true=>rw[hm] at h;exact h.elim
    | false=>
     rw[hm] at h;obtain⟨hb,h⟩:=cB h;obtain⟨d,hd,hN,hfr,v,h⟩:=lW h;obtain⟨h1,h2⟩:=kr h;have hok:=BK hb hm;exact val (.refl _) hd hN h2 fun ct a w1 Q' hf hb hw E _ hK=>dc hw (hr ct hok a w1 E) (h1 ct w1 hb (M.keep hb)) hd hf hN hK fun _=>rfl
   have newR:∀ {d:Nat} {R':Value→World→Prop} {xY:List qp},xY.Sublist rel→o.dst=some d→Nat.blt d N=true→qg R'→vd B w0 N l bs rs w F k r (n+1) m al (⟨d,n,gR π t R'⟩::xY) true →
    (t=true→∀ (a:Act) (w1:World) (Q':Exit→Act→World→Prop),Fr a N→ajM w.heap.size w w1→Region.wanted o (yielded ops a.tmps)=true→(∀ x∈jW o.op,∀ π' v,DV l m π' x v→(∀ y∈π',Cond m y)→a.eval x=v) →
     (∀ A∈rel,rL A.d (jW o.op)=true→∃ u,At a A.d u∧A.R u w1)→(∀ v' a' w',ajM w1.heap.size w1 w'→R' v' w'→Put a (o.dst.getD 0) v' a'→Q' .normal a' w')→wpList Tryz.prog ops Q' [o] a w1) →
    UF N l B w0 w bs rs F slots ops a0 gp (o::r) (k+1) n:=by
    intro d R' xY hsub hd hN hR' h2 hst;refine one (gR π t R') _ _ _ _ (PV hR') ((hF.sub hsub).adT (Qs hd)) h2 fun a w1 Q' hf hb E Cd hrel hK=>?_
    have hw:=vM hgd Cd
    cases t with
    | true=>exact hst rfl a w1 Q' hf hb hw E hrel fun v a' w' hb' hv hp=>hK v a' w' hb' (Zk hv) hp
    | false=>exact off hw hd hN hf (Wx fun h=>by cases h0 h) hK
   have evR:∀ {a:Act} {m':List iP} {xs:List Operand} {vs:List Value} {π':Pa},(∀ y∈π',Cond m y)→(∀ e∈m',e∈m∨At a e.s e.v)→(∀ e∈m,e∈m')→CP (DV l m' π') xs vs→(∀ x∈xs,x∈jW o.op) →
    (∀ x∈jW o.op,∀ π' v,DV l m π' x v→(∀ y∈π',Cond m y)→a.eval x=v)→wj a xs vs:=fun {a m' xs vs π'} hc h1 h2 h3 hx E=>Td h3 fun x hxs v Ln=>by
    cases x with
    | tmp q=>
     rcases Ln with⟨e,he,rfl,rfl,hsub⟩|⟨h5,h6⟩
     ·rcases h1 e he with he|he
      ·exact E _ (hx _ hxs) π' _ (.inl ⟨e,he,rfl,rfl,hsub⟩) hc
      ·exact he.ev
     ·exact E _ (hx _ hxs) π' _ (.inr ⟨fun e he=>h5 e (h2 e he),h6⟩) hc
    | const u=>exact Ln
    | global=>exact Ln.elim
    | func f=>exact Ln
   have hfD:fD B w0 N l bs rs w o n m π t rel (fun rel=>vd B w0 N l bs rs w F k r (n+1) m al rel true)→UF N l B w0 w bs rs F slots ops a0 gp (o::r) (k+1) n:=fun hB=>by
    unfold fD at hB;obtain⟨d,hd,hN,hfr,R',hR',h1,h2⟩:=lW hB;obtain⟨xY,h2,hsub⟩:=xX h2;refine newR hsub hd hN hR' h2 fun ct a w1 Q' hf hb hw E hrel hK=>?_
    obtain⟨m',P',k1,k2,k3,k4⟩:=xV (fun _ h=>by cases h) hrel h1;obtain⟨vs,h3,h4⟩:=pV k1;obtain⟨v,w2,h5,h6,h7⟩:=yB (Vg h4 ct w1 a o hb (M.keep hb)) k2 rfl (evR (ht.1 ct) k3 k4 h3 (fun x hx=>hx) E);exact pS hw h5 hd hf (by simpa using hN) fun a' p=>ajW (hK v a' w2 h7 h6 (by rw[hd];exact p))
   split at h
   ·rename_i ty x hop;obtain⟨d,hd,hN,hfr,h⟩:=lW h;obtain⟨u,h1,h⟩:=dL h;rcases tZ h with⟨g,off',rfl,hq⟩|h
    case inr=>
     obtain⟨h2,h3⟩:=QN h;exact val (.refl _) hd hN h3 fun ct=>(h2 ct).elim
    obtain⟨D,hD,h⟩:=oU hq;obtain⟨v,h2,h3⟩:=PS M h hD;exact val (.refl _) hd hN h2 fun ct a w1 Q' hf hb hw E _ hK=>dv hw (h3 ct w1 hb a o x hop (E x (by rw[hop];simp[jW]) _ _ h1 (ht.1 ct))) hd hf hN hK rfl
   ·rename_i ty hop;obtain⟨hπ,h⟩:=oD h
    cases al with
    | some A=>exact h.elim
    | none=>
     obtain⟨d,hd,hN,hfr,z,hz,h⟩:=lW h;obtain⟨hty,h⟩:=cB h;exact new hπ rfl hd hN hty (yR h) fun a w1 _=>yL hop hz
   ·rename_i ty x hop;obtain⟨hπ,h⟩:=oD h
    cases al with
    | some A=>exact h.elim
    | none=>
     obtain⟨d,hd,hN,hfr,h⟩:=lW h;obtain⟨u,h1,h⟩:=dL h;obtain⟨hty,h⟩:=cB h;exact new hπ rfl hd hN hty (yR h) fun a w1 E=>Q8 hop (E x (by rw[hop];simp[jW]) _ _ h1 (by rw[hπ];simp))
   ·rename_i ty len parts hop;rcases h with hA|hB
    case inr=>exact hfD hB
    obtain⟨hπ,hA⟩:=oD hA
    cases al with
    | some A=>exact hA.elim
    | none=>
     obtain⟨d,hd,hN,hfr,h⟩:=lW hA;obtain⟨D,hD,h⟩:=oU h;split at h
     ·obtain⟨hps,h⟩:=cB h;obtain⟨hlen,h⟩:=mJ h;obtain⟨b0,h⟩:=cB h;obtain⟨b1,h⟩:=cB h;obtain⟨b2,h⟩:=cB h;obtain⟨vs,h1,h⟩:=pV h;obtain⟨h2,h3⟩:=Fj h;exact new hπ rfl hd hN b2 h2 fun a w1 E=>qt hop hD hps hlen (by simpa using b0) (by simpa using b1) (zy h1 (by rw[hπ];simp) (by rw[hop] at E;exact E)) h3
     ·exact h.elim
   ·rename_i c hop;split at h
    ·rename_i f vu;have e3:c={ callee:=.value (.func f),args:=c.args,argTypes:=c.argTypes }:=by cases c;simp only at vu;rw[vu]
     have Qu:jW o.op=c.args.toList:=by rw[hop];simp only[jW,vu];rfl
     rcases h with h|h|h|h
     case inr.inr.inr=>
      unfold cV at h
      cases hm:nj f Oa with
      | true=>rw[hm] at h;exact h.elim
      | false=>
       rw[hm] at h;obtain⟨hb,h⟩:=cB h;obtain⟨hu,h⟩:=cB h;have hok:=BK hb hm;obtain⟨d,hd,hN,hfr,R',hR',h1,h2⟩:=lW h;obtain⟨xY,h2,hsub⟩:=xX h2;refine newR hsub hd hN hR' h2 fun ct a w1 Q' hf hb hw E hrel hK=>?_
       obtain⟨m',P',k1,k2,k3,k4⟩:=xV (fun _ h=>by cases h) (fun A hA hx=>hrel A hA (by rw[Qu];exact hx)) h1;obtain⟨vs,h3,h4⟩:=pV k1;exact dx hw (rM hok (hop.trans (congrArg Op.call e3)) (oI (evR (ht.1 ct) k3 k4 h3 (by rw[Qu];exact fun x hx=>hx) E))) (yB (h4 ct w1 hb (M.keep hb)) k2) hd hf hN hK
     case inr.inl=>
      unfold cU at h
      cases hm:nj f Oa with
      | true=>rw[hm] at h;exact h.elim
      | false=>
       rw[hm] at h;obtain⟨hb,h⟩:=cB h;obtain⟨hu,h⟩:=cB h;have hok:=BK hb hm;obtain⟨d,hd,hN,hfr,v,h1,h2⟩:=lW h;obtain⟨xY,h2,hsub⟩:=xX h2;refine val hsub hd hN h2 fun ct a w1 Q' hf hb hw E hrel hK=>?_
       obtain⟨m',P',k1,k2,k3,k4⟩:=xV (fun _ h=>by cases h) (fun A hA hx=>hrel A hA (by rw[Qu];exact hx)) h1;obtain⟨vs,h3,h4⟩:=pV k1;exact dc hw (rM hok (hop.trans (congrArg Op.call e3)) (oI (evR (ht.1 ct) k3 k4 h3 (by rw[Qu];exact fun x hx=>hx) E))) (yB (h4 ct w1 hb (M.keep hb)) k2) hd hf hN hK fun _=>rfl
     case inr.inr.inl=>
      obtain⟨vs,h1,h⟩:=pV h;unfold cRl at h
      cases hm:nj f Oa with
      | true=>rw[hm] at h;exact h.elim
      | false=>
       rw[hm] at h;obtain⟨hb,h⟩:=cB h;have hok:=BK hb hm;obtain⟨d,hd,hN,hfr,R,hR,h⟩:=lW h;obtain⟨hc,h2⟩:=kr h;exact newR (.refl _) hd hN hR h2 fun ct a w1 Q' hf hb hw E _ hK=>dx hw (rM hok (hop.trans (congrArg Op.call e3)) (oI (zy h1 (ht.1 ct) fun x hx=>E x (by rw[Qu];exact hx)))) (hc ct w1 hb (M.keep hb)) hd hf hN hK
     obtain⟨vs,h1,h⟩:=pV h;refine Uz h fun ct hok a w1 E=>?_
     exact rM hok (hop.trans (congrArg Op.call e3)) (oI (zy h1 (ht.1 ct) fun x hx=>E x (by rw[hop];simp only[jW,vu];exact hx)))
    ·rename_i y hy vu;obtain⟨u,h1,h⟩:=dL h;split at h
     ·rename_i f first cap
      obtain⟨vs,h2,h⟩:=pV h;have h:=fP (fP h);refine Uz h fun ct hok a w1 E=>?_
      have e3:c={ callee:=.value y,args:=c.args,argTypes:=c.argTypes }:=by cases c;simp only at vu;rw[vu]
      have YL:jW o.op=y::c.args.toList:=by
       rw[hop];simp only[jW,vu];cases y<;>first|rfl|exact absurd rfl (hy _)
      refine Gp hok (hop.trans (congrArg Op.call e3)) (E y (by rw[YL];exact ajQ ..) _ _ h1 (ht.1 ct)) ?_;rw[oI (zy h2 (ht.1 ct) fun x hx=>E x (by rw[YL];exact ajR _ hx))];apply Array.toList_inj.1;simp
     ·exact h.elim
    ·obtain⟨d,hd,hN,hfr,h⟩:=lW h;exact Ns hop hd hN h
   all_goals
    cases hu:O1 (jW o.op) rel with
    | true=>rw[hu] at h;exact hfD h
    | false=>
     rw[hu] at h;obtain⟨d,hd,hN,hfr,h⟩:=lW h;exact Ns rfl hd hN h
end
end Go.Proofs.YtkkmjdceiocnbaaGreatDoor
namespace Go.Proofs.YtkkmjdceiocnbaaGreatDoor
open Go Go.RowKit
variable [DS]
def xw(o:Oper)(j:Nat):Bool:=o.after.toList.any fun e=>Region.binds .any e&&(e.on == j)
def Yf(o:Oper):Bool:=o.guard.isNone
def Yc(N:Nat)(L:List Oper)(k:Nat):Bool:=
 ordered 0 L&&((L.take (k+2)).all (fun o=>o.dst.isSome)&&((L.take k).all (E7 (lZ (k+2) L))&&((lZ (k+2) L).all (fun s=>decide (s<N))&&(decide (lZ (k+2) L).Nodup&&(decide (L.length=k+4) &&
  ((L.drop k).all Yf&&((L.drop (k+2)).all (E7 (lZ (k+2) L)))))))))
section
variable (B:Nat) (w0:World) (N:Nat) (l:Slots) (bs:List Bx) (rs:List Rw) (w:World) (K:Slots→List Bx→List Rw→World→Prop)
def vP:Ru:=fun L _ m al _ us=>match L,al,us with
 | [a1,a2,s1,s2],none,false=>(match a1.op,a2.op,s1.op,s2.op with
  | .alloc Ar,.alloc Aq,.store t1 (.tmp x1) y1,.store t2 (.tmp x2) y2=>dK N m a1.dst fun d1=>dK N m a2.dst fun d2=>bif Nat.beq x1 d1 then bif Nat.beq x2 d2 then (match s1.dst,s2.dst with
   | none,none=>∃ z1 z2,((Tryz.prog.info? Ar).bind (·.zero)=some z1∧(Tryz.prog.info? Aq).bind (·.zero)=some z2)∧tY l m [] y1 fun u1=>tY l m [] y2 fun u2=>CS t1 (fun D1=>CS t2 (fun D2=>bif Nat.blt Ar 9000 then bif Nat.blt Aq 9000 then wz (bH u1) (qj D1) (wz (bH z1) (qj D1) (wz (bH u2) (qj D2) (wz (bH z2) (qj D2)
     (((bH u1).all (·.oneCell')=true∧(bH u2).all (·.oneCell')=true)∧∀ g1 g2 w',ajM w.heap.size w w'→aQ B w0 w' ((g1,Ar,(bH u1).toArray)::(g2,Aq,(bH u2).toArray)::bs) rs →
       qY m l fun l'=>K ((d1,.pointer (some ⟨g1,0,none⟩))::(d2,.pointer (some ⟨g2,0,none⟩))::l') ((g1,Ar,(bH u1).toArray)::(g2,Aq,(bH u2).toArray)::bs) rs w')))) else False else False) TT) TT
   | _,_=>False) else False else False
  | _,_,_,_=>False)
 | _,_,_=>False
end
structure PI (L:List Oper) (k:Nat) (slots:List Nat) (G:List Good) (N:Nat) (a0:Act) (w:World) (d1 d2 Ar Aq:Nat) (z1 z2 c1 c2:Array Value) (Lf:Nat→Bool) (b:Act) (u:World):Prop where
 fr:Fr b N
 inv:ajM w.heap.size w u
 done:∀ i,i<k→Lf i=true→∀ s g,slots[i]?=some s→G[i]?=some g→∃ v,At b s v∧g v u
 rest:∀ j x,slots.contains j=false→At a0 j x→At b j x
 o1:Lf (k+2)=true→Lf k=true
 o2:Lf (k+3)=true→Lf (k+1)=true
 one:Lf k=true→∃ g,At b d1 (.pointer (some ⟨g,0,none⟩))∧w.heap.size≤g∧Whole u g Ar (if Lf (k+2)=true then c1 else z1)
 two:Lf (k+1)=true→∃ g,At b d2 (.pointer (some ⟨g,0,none⟩))∧w.heap.size≤g∧Whole u g Aq (if Lf (k+3)=true then c2 else z2)
 ne:Lf k=true→Lf (k+1)=true→∀ g,At b d1 (.pointer (some ⟨g,0,none⟩))→At b d2 (.pointer (some ⟨g,0,none⟩))→False
theorem At.Nw{a:Act}{s:Nat}{v u:Value}(h:At a s v)(h':At a s u):v=u:=ajV (h.symm.trans h')
theorem vR{g g':Nat}(h:Value.pointer (some ⟨g,0,none⟩)=.pointer (some ⟨g',0,none⟩)):g=g':=by
 injection h with h;injection h with h;injection h
section
variable {B:Nat} {w0 w:World} {N:Nat} {l:Slots} {bs:List Bx} {rs:List Rw} {K:Slots→List Bx→List Rw→World→Prop} {Q:Exit→Act→World→Prop} {a:Act} {id:Nat} {L:List Oper}
theorem jV{Lf:Nat→Bool}{i j:Nat}(h:j≠i):upd Lf i j=Lf j:=by
 have:(j == i)=false:=by simpa using h
 simp[upd,this]
theorem FN{Lf:Nat→Bool}{i:Nat}:upd Lf i i=true:=by simp[upd]
theorem IW{k:Nat}{slots:List Nat}{G:List Good}{d1 d2 Ar Aq:Nat}{u1 u2 z1 z2:Value}{a1 a2 s1 s2:Oper}{t1 t2:TypeId}{y1 y2:Operand}{D1 D2:TD}
 (hL:L.length=k+4) (hnd:slots.Nodup) (hsl:slots.length=k+2) (hlt:∀ s∈slots,s<N)
 (hG:G.length=k) (S8:∀ g∈G,∃ v,g=S2 v) (hst:tG Tryz.prog L.toArray slots G (ajM w.heap.size w) a N (L.take k) G)
 (jQ:ordered 0 L=true) (kD:∀ (i:Nat) (o:Oper),i<k+2→L[i]?=some o→slots[i]?=o.dst)
 (e1:L[k]?=some a1) (e2:L[k+1]?=some a2) (e3:L[k+2]?=some s1) (e4:L[k+3]?=some s2)
 (p1:a1.op=.alloc Ar) (p2:a2.op=.alloc Aq) (p3:s1.op=.store t1 (.tmp d1) y1) (p4:s2.op=.store t2 (.tmp d2) y2)
 (g1:a1.guard=none) (g2:a2.guard=none) (g3:s1.guard=none) (g4:s2.guard=none) (q1:a1.dst=some d1) (q2:a2.dst=some d2) (q3:s1.dst=none) (q4:s2.dst=none)
 (hz1:(Tryz.prog.info? Ar).bind (·.zero)=some z1) (hz2:(Tryz.prog.info? Aq).bind (·.zero)=some z2)
 (hD1:nE Tryz.prog t1 D1=true) (hD2:nE Tryz.prog t2 D2=true) (n1:(bH u1).length=qj D1) (n2:(bH z1).length=qj D1) (n3:(bH u2).length=qj D2) (n4:(bH z2).length=qj D2)
 (c1:(bH u1).all (·.oneCell')=true) (c2:(bH u2).all (·.oneCell')=true)
 (hy1:∀ (b:Act) (u:World) (Lf:Nat→Bool),PI L k slots G N a w d1 d2 Ar Aq z1.cells z2.cells (bH u1).toArray (bH u2).toArray Lf b u→(∀ e∈s1.after.toList,Region.binds .any e=true→Lf e.on=true)→b.eval y1=u1∧Lf k=true)
 (VZ:∀ (b:Act) (u:World) (Lf:Nat→Bool),PI L k slots G N a w d1 d2 Ar Aq z1.cells z2.cells (bH u1).toArray (bH u2).toArray Lf b u→(∀ e∈s2.after.toList,Region.binds .any e=true→Lf e.on=true)→b.eval y2=u2∧Lf (k+1)=true) :
 ∀ (i:Nat) (o:Oper),L[i]?=some o→∀ (Lf:Nat→Bool) (b:Act) (u:World) (Q':Exit→Act→World→Prop),PI L k slots G N a w d1 d2 Ar Aq z1.cells z2.cells (bH u1).toArray (bH u2).toArray Lf b u→Lf i=false →
  (∀ e∈o.after.toList,Region.binds .any e=true→Lf e.on=true)→(∀ b u,PI L k slots G N a w d1 d2 Ar Aq z1.cells z2.cells (bH u1).toArray (bH u2).toArray (upd Lf i) b u→Q' .normal b u)→wpList Tryz.prog L.toArray Q' [o] b u:=by
 have Sd:slots[k]?=some d1:=by rw[kD k a1 (by omega) e1,q1]
 have Sc:slots[k+1]?=some d2:=by rw[kD (k+1) a2 (by omega) e2,q2]
 have YF:∀ {i j s s':Nat},slots[i]?=some s→slots[j]?=some s'→i≠j→s≠s':=fun h1 h2 hne e=>hne (vh hnd (e▸h1) h2)
 have Uq:∀ (i:Nat) (g:Good),G[i]?=some g→i<k∧qg g:=fun i g hg=>⟨hG▸(ajP.1 hg).1,by obtain⟨v,rfl⟩:=S8 g (ajU hg);exact GD v⟩
 have hN:∀ {i s:Nat},slots[i]?=some s→s<N:=fun h=>hlt _ (ajU h)
 have hin:∀ {i s:Nat},slots[i]?=some s→slots.contains s=true:=fun h=>by simpa using ajU h
 have Xk:∀ {Lf:Nat→Bool} {i j:Nat},Lf j=true→upd Lf i j=true:=fun h=>by simp[upd,h]
 have put:∀ {i s:Nat} {v:Value} {Lf:Nat→Bool} {b b':Act} {u u':World},PI L k slots G N a w d1 d2 Ar Aq z1.cells z2.cells (bH u1).toArray (bH u2).toArray Lf b u→i<k+2→slots[i]?=some s→Lf i=false→Put b s v b'→ajM u.heap.size u u' →
  (∀ g,G[i]?=some g→g v u')→(i=k→∃ g,v=.pointer (some ⟨g,0,none⟩)∧w.heap.size≤g∧Whole u' g Ar z1.cells∧u.heap.size≤g)→(i=k+1→∃ g,v=.pointer (some ⟨g,0,none⟩)∧w.heap.size≤g∧Whole u' g Aq z2.cells∧u.heap.size≤g) →
  PI L k slots G N a w d1 d2 Ar Aq z1.cells z2.cells (bH u1).toArray (bH u2).toArray (upd Lf i) b' u':=by
  intro i s v Lf b b' u u' I hi hs RG hp hb hg hk1 hk2;have old:∀ {j s':Nat} {x:Value},slots[j]?=some s'→j≠i→At b s' x→At b' s' x:=fun h1 hne h2=>hp.old (by simpa using YF h1 hs hne) h2
  have hx2:upd Lf i (k+2)=Lf (k+2):=jV (by omega);have hx3:upd Lf i (k+3)=Lf (k+3):=jV (by omega);refine⟨hp.fr I.fr,I.inv.trans (hb.mono I.inv.size),?_,?_,?_,?_,?_,?_,?_⟩
  ·intro j hj G2 s' g hs' hg';by_cases hji:j=i
   ·subst hji;obtain rfl:s=s':=ajV (hs.symm.trans hs');exact⟨v,hp.now,hg g hg'⟩
   ·rw[jV hji] at G2;obtain⟨x,h1,h2⟩:=I.done j hj G2 s' g hs' hg';exact⟨x,old hs' hji h1,(Uq j g hg').2 _ _ _ h2 hb⟩
  ·intro j x hj hx;have:j≠s:=fun e=>by rw[e,hin hs] at hj;cases hj
   exact hp.old (by simpa using this) (I.rest j x hj hx)
  ·intro h;rw[hx2] at h;exact Xk (I.o1 h)
  ·intro h;rw[hx3] at h;exact Xk (I.o2 h)
  ·intro h;by_cases hik:i=k
   ·subst hik;obtain rfl:s=d1:=ajV (hs.symm.trans Sd);obtain⟨g,rfl,h1,h2,-⟩:=hk1 rfl
    have h3:Lf (i+2)=false:=by
     cases h4:Lf (i+2) with
     | false=>rfl
     | true=>rw[I.o1 h4] at RG;cases RG
    exact⟨g,hp.now,h1,by rw[hx2,h3];exact h2⟩
   ·rw[jV (Ne.symm hik)] at h;obtain⟨g,h1,h2,h3⟩:=I.one h;exact⟨g,old Sd (Ne.symm hik) h1,h2,by rw[hx2];exact Whole.under hb h3 h3.lt⟩
  ·intro h;by_cases hik:i=k+1
   ·subst hik;obtain rfl:s=d2:=ajV (hs.symm.trans Sc);obtain⟨g,rfl,h1,h2,-⟩:=hk2 rfl
    have h3:Lf (k+3)=false:=by
     cases h4:Lf (k+3) with
     | false=>rfl
     | true=>rw[I.o2 h4] at RG;cases RG
    exact⟨g,hp.now,h1,by rw[hx3,h3];exact h2⟩
   ·rw[jV (Ne.symm hik)] at h;obtain⟨g,h1,h2,h3⟩:=I.two h;exact⟨g,old Sc (Ne.symm hik) h1,h2,by rw[hx3];exact Whole.under hb h3 h3.lt⟩
  ·intro ha hb' g h1 h2;by_cases hik:i=k
   ·subst hik;obtain rfl:s=d1:=ajV (hs.symm.trans Sd);obtain⟨g',rfl,-,-,h5⟩:=hk1 rfl;rw[jV (by omega)] at hb';obtain⟨g2,h6,-,h7⟩:=I.two hb';obtain rfl:=vR (hp.now.Nw h1);obtain rfl:=vR ((old Sc (by omega) h6).Nw h2);have:=h7.lt;omega
   ·by_cases Wl:i=k+1
    ·subst Wl;obtain rfl:s=d2:=ajV (hs.symm.trans Sc);obtain⟨g',rfl,-,-,h5⟩:=hk2 rfl;rw[jV (by omega)] at ha;obtain⟨g2,h6,-,h7⟩:=I.one ha;obtain rfl:=vR (hp.now.Nw h2);obtain rfl:=vR ((old Sd (by omega) h6).Nw h1);have:=h7.lt;omega
    ·rw[jV (Ne.symm hik)] at ha;rw[jV (Ne.symm Wl)] at hb';obtain⟨x1,h3,-,-⟩:=I.one ha;obtain⟨x2,h4,-,-⟩:=I.two hb';obtain rfl:=vR ((old Sd (Ne.symm hik) h3).Nw h1);obtain rfl:=vR ((old Sc (Ne.symm Wl) h4).Nw h2);exact I.ne ha hb' _ h3 h4
 have X7:∀ {Lf:Nat→Bool} {b:Act} {u u':World} {i g:Nat},PI L k slots G N a w d1 d2 Ar Aq z1.cells z2.cells (bH u1).toArray (bH u2).toArray Lf b u→w.heap.size≤g→zG u u' g→(i=k+2∧Lf k=true∧At b d1 (.pointer (some ⟨g,0,none⟩))∧Whole u' g Ar (bH u1).toArray)∨(i=k+3∧Lf (k+1)=true∧At b d2 (.pointer (some ⟨g,0,none⟩))∧Whole u' g Aq (bH u2).toArray) →
  PI L k slots G N a w d1 d2 Ar Aq z1.cells z2.cells (bH u1).toArray (bH u2).toArray (upd Lf i) b u':=by
  intro Lf b u u' i g I hg s hcase;refine⟨I.fr,I.inv.trans (s.below hg),?_,I.rest,?_,?_,?_,?_,?_⟩
  ·intro j hj G2 s' g' hs' hg';rw[jV (by rcases hcase with⟨rfl,-⟩|⟨rfl,-⟩<;>omega)] at G2;obtain⟨x,h1,h2⟩:=I.done j hj G2 s' g' hs' hg';obtain⟨v,rfl⟩:=S8 g' (ajU hg');exact⟨x,h1,h2⟩
  ·intro h;rcases hcase with⟨rfl,hk,-⟩|⟨rfl,-⟩
   ·exact Xk hk
   ·rw[jV (by omega)] at h;exact Xk (I.o1 h)
  ·intro h;rcases hcase with⟨rfl,-⟩|⟨rfl,hk,-⟩
   ·rw[jV (by omega)] at h;exact Xk (I.o2 h)
   ·exact Xk hk
  ·intro h;rcases hcase with⟨rfl,hk,hat,hW⟩|⟨rfl,hk,hat,hW⟩
   ·exact⟨g,hat,hg,by rw[FN,if_pos rfl];exact hW⟩
   ·rw[jV (by omega)] at h;obtain⟨x,h1,h2,h3⟩:=I.one h;refine⟨x,h1,h2,?_⟩;rw[jV (by omega)];exact s.whole h3 fun e=>I.ne h hk x h1 (e▸hat)
  ·intro h;rcases hcase with⟨rfl,hk,hat,hW⟩|⟨rfl,hk,hat,hW⟩
   ·rw[jV (by omega)] at h;obtain⟨x,h1,h2,h3⟩:=I.two h;refine⟨x,h1,h2,?_⟩;rw[jV (by omega)];exact s.whole h3 fun e=>I.ne hk h x (e▸hat) h1
   ·exact⟨g,hat,hg,by rw[FN,if_pos rfl];exact hW⟩
  ·intro h1 h2;have hne:k≠i∧k+1≠i:=by rcases hcase with⟨rfl,-⟩|⟨rfl,-⟩<;>omega
   rw[jV hne.1] at h1;rw[jV hne.2] at h2;exact I.ne h1 h2
 intro i o ho Lf b u Q' I RG mN hK;have ET:=(ajP.1 ho).1;rw[hL] at ET;by_cases hik:i<k
 ·obtain⟨s,hs⟩:∃ s,slots[i]?=some s:=⟨_,ajX (by omega)⟩;have hd:o.dst=some s:=by rw[← kD i o (by omega) ho,hs]
  refine E5 (L.take k) G hst i o (by rw[List.getElem?_take,if_pos hik];exact ho) b u Q' I.fr I.inv (fun j ⟨gr,hj,hb⟩ s g hs hg=>?_) I.rest ?_
  ·have hji:j<i:=by have:=mL 0 L jQ i o ho _ hj hb;simpa using this
   exact I.done j (by omega) (mN _ hj hb) s g hs hg
  ·intro v b' u' hb hg hp;rw[hd] at hp;exact hK b' u' (put I (by omega) hs RG hp hb (fun g h=>hg g h) (fun e=>by omega) (fun e=>by omega))
 ·by_cases h0:i=k
  ·subst h0;obtain rfl:a1=o:=ajV (e1.symm.trans ho);exact Bk (f:=fun n=>.pointer (some ⟨n,0,none⟩)) (gB g1) (yL p1 hz1) q1 I.fr (hN Sd) fun g b' u' n p=>ajW (hK _ _ (put I (by omega) Sd RG p n.below (fun g' hg'=>absurd (Uq _ _ hg').1 (by omega)) (fun _=>⟨g,rfl,n.at_▸I.inv.size,n.whole,n.at_▸Nat.le_refl _⟩) (fun e=>by omega)))
  ·by_cases h1:i=k+1
   ·subst h1;obtain rfl:a2=o:=ajV (e2.symm.trans ho);exact Bk (f:=fun n=>.pointer (some ⟨n,0,none⟩)) (gB g2) (yL p2 hz2) q2 I.fr (hN Sc) fun g b' u' n p=>ajW (hK _ _ (put I (by omega) Sc RG p n.below (fun g' hg'=>absurd (Uq _ _ hg').1 (by omega)) (fun e=>by omega) (fun _=>⟨g,rfl,n.at_▸I.inv.size,n.whole,n.at_▸Nat.le_refl _⟩)))
   ·by_cases h2:i=k+2
    ·subst h2;obtain rfl:s1=o:=ajV (e3.symm.trans ho);obtain⟨hv,hk⟩:=hy1 b u Lf I mN;obtain⟨g,hat,hge,hW⟩:=I.one hk;rw[RG] at hW;have hsz:z1.cells.size=(bH u1).length:=by rw[← Array.length_toList,qy,n2,n1]
     exact uP (gB g3) p3 hat.ev hv hW (qy u1) (by rw[Nat.zero_add,if_neg (by decide),hsz];exact Nat.le_refl _) ((Au hD1).trans (by rw[n1])) c1 rfl q3 fun u' s hW'=>ajW (hK _ _ (X7 I hge s (.inl ⟨rfl,hk,hat,by rw[if_neg (by decide)] at hW';rw[vL _ _ hsz] at hW';exact hW'⟩)))
    ·obtain rfl:i=k+3:=by omega
     obtain rfl:s2=o:=ajV (e4.symm.trans ho);obtain⟨hv,hk⟩:=VZ b u Lf I mN;obtain⟨g,hat,hge,hW⟩:=I.two hk;rw[RG] at hW;have hsz:z2.cells.size=(bH u2).length:=by rw[← Array.length_toList,qy,n4,n3]
     exact uP (gB g4) p4 hat.ev hv hW (qy u2) (by rw[Nat.zero_add,if_neg (by decide),hsz];exact Nat.le_refl _) ((Au hD2).trans (by rw[n3])) c2 rfl q4 fun u' s hW'=>ajW (hK _ _ (X7 I hge s (.inr ⟨rfl,hk,hat,by rw[if_neg (by decide)] at hW';rw[vL _ _ hsz] at hW';exact hW'⟩)))
end
end Go.Proofs.YtkkmjdceiocnbaaGreatDoor
namespace Go.Proofs.YtkkmjdceiocnbaaGreatDoor
open Go Go.RowKit
variable [DS]
def Xl:Nat→List Oper→(List Nat→Prop)→Prop
 | 0,_,f=>f []
 | k+1,o::r,f=>(match o.dst with|some d=>Xl k r fun s=>f (d::s)|none=>False)
 | _+1,[],_=>False
theorem Ij:∀ {k:Nat} {L:List Oper} {f:List Nat→Prop},Xl k L f→k≤L.length∧(L.take k).map (fun o=>o.dst)=(lZ k L).map some∧f (lZ k L)
 | 0,_,_,h=>⟨Nat.zero_le _,by simp[lZ],by simpa[lZ,Xl] using h⟩
 | k+1,o::r,f,h=>by
  unfold Xl at h;split at h
  ·rename_i d hd;obtain⟨h1,h2,h3⟩:=Ij h;have e:lZ (k+1) (o::r)=d::lZ k r:=by simp[lZ,hd]
   rw[e];exact⟨by simpa using h1,by simp[hd,h2],h3⟩
  ·exact h.elim
 | _+1,[],_,h=>h.elim
def vr(B:Nat)(w0:World)(N:Nat)(L:List Oper)(l:Slots)(bs:List Bx)(rs:List Rw)(w:World)(K:Slots→List Bx→List Rw→World→Prop):Prop:=
 ZF N L (WR false [] L)=true∧Xl (WR false [] L) L fun ds=>JO ds l fun l'=>vd B w0 N l' bs rs w (vF B w0 N l' bs rs w K) (WR false [] L) L 0 [] none [] false
section
variable {B:Nat} {w0 w:World} {N:Nat} {l:Slots} {bs:List Bx} {rs:List Rw} {K:Slots→List Bx→List Rw→World→Prop} {Q:Exit→Act→World→Prop} {a:Act} {id:Nat} {L:List Oper}
theorem Ny{m:List iP}{n:Nat}(h:oq m n){d j:Nat}(hj:j<n)(hu:∀ e∈m,e.j≠j){v:Value}:oq (⟨d,j,[],true,v⟩::m) n:=by
 have key:∀ x,(∃ e∈m,e.j=x.1)→(Cond (⟨d,j,[],true,v⟩::m) x↔Cond m x):=fun x ⟨e',h4,h5⟩=>by
  constructor
  ·rintro⟨e,he,h1,h2,h3⟩;rcases ajN.1 he with rfl|he
   ·exact absurd (h5.trans h1.symm) (hu e' h4)
   ·exact⟨e,he,h1,h2,h3⟩
  ·rintro⟨e,he,h1⟩;exact⟨e,ajR _ he,h1⟩
 refine⟨?_,?_,?_,?_⟩
 ·intro e he;rcases ajN.1 he with rfl|he
  ·exact hj
  ·exact h.lt e he
 ·intro e he e' he' hjj;rcases ajN.1 he with rfl|he<;>rcases ajN.1 he' with rfl|he'
  ·rfl
  ·exact absurd hjj.symm (hu e' he')
  ·exact absurd hjj (hu e he)
  ·exact h.uniq e he e' he' hjj
 ·intro e he x hx;rcases ajN.1 he with rfl|he
  ·cases hx
  ·obtain⟨e',h1,h2⟩:=h.pm e he x hx;exact⟨e',ajR _ h1,h2⟩
 ·intro e he;rcases ajN.1 he with rfl|he
  ·simp
  ·rw[h.tv e he];exact⟨fun h' x hx=>(key x (h.pm e he x hx)).2 (h' x hx),fun h' x hx=>(key x (h.pm e he x hx)).1 (h' x hx)⟩
theorem XR(F:Fs a N l)(M:aQ B w0 w bs rs)(h:vr B w0 N L l bs rs w K)(next:∀ a l' bs' rs' w',Fs a N l'→aQ B w0 w' bs' rs'→K l' bs' rs' w'→Q .normal a w'):(Code.region id L.toArray true).wp Tryz.prog Q a w:=by
 obtain⟨hok,h⟩:=h;obtain⟨hkl,hsl,h⟩:=Ij h;obtain⟨l',h,hlk⟩:=xu h;generalize WR false [] L=k at hok hkl hsl h hlk;generalize zq:lZ k L=slots at hsl h hlk;unfold ZF at hok;simp only[ajS,decide_eq_true_eq,ajT,zq] at hok;obtain⟨jQ,htail,kD,mN,hbd,hnd⟩:=hok
 have hlen:slots.length=k:=by
  have:=congrArg List.length hsl;simp only[List.length_map,ajY] at this;omega
 have hat:∀ (i:Nat) (o:Oper),(L.take k)[i]?=some o→slots[i]?=o.dst:=fun i o hi=>by
  have h1:=congrArg (fun x=>x[i]?) hsl;simp only[List.getElem?_map,hi,Option.map_some] at h1
  cases hs:slots[i]? with
  | none=>rw[hs] at h1;cases h1
  | some s=>rw[hs] at h1;exact(ajV h1).symm
 have qo:∀ (i s:Nat),slots[i]?=some s→(L.toArray[i]?).bind (fun o=>o.dst)=some s:=fun i s hs=>by
  have hi:i<k:=hlen▸(ajP.1 hs).1;have YZ:i<L.length:=Nat.lt_of_lt_of_le hi hkl;have h1:(L.take k)[i]?=some L[i]:=by rw[List.getElem?_take,if_pos hi,ajX YZ]
  have h2:=hat i _ h1;rw[hs] at h2;simp[YZ,← h2]
 have hl':∀ q v,look q l'=some v→slots.contains q=false∧look q l=some v:=fun q v hq=>by
  rw[hlk] at hq
  cases hm:nj q slots with
  | true=>rw[hm] at hq;cases hq
  | false=>
   rw[hm] at hq;refine⟨?_,hq⟩
   cases hc:slots.contains q with
   | false=>rfl
   | true=>
    have:q∈slots:=by simpa using hc
    rw[mF.2 this] at hm;cases hm
 have F0:Fs a N l':=⟨F.fr,fun q v hq=>F.at_ q v (hl' q v hq).2⟩
 obtain⟨G,m,al,rel,us,hla,Uq,hst,hF,hv⟩:=TW (ops:=L.toArray) M hnd qo (fun q v hq=>(hl' q v hq).1) F0 (gp:=[]) h ⟨⟨.nil 0,rfl,by simp⟩,(fun _ h=>by cases h),(fun _ _ i h=>absurd h (Nat.not_lt_zero i)),(fun _ h=>by cases h),.nil⟩
  (fun i o hi=>⟨mN o (ajU hi),by rw[Nat.zero_add];exact hat i o hi⟩) hkl trivial
 rw[List.nil_append] at hla hst hF;rw[Nat.zero_add] at hF hv;refine Bh k slots G (ajM w.heap.size w) (by kernel_rfl) jQ htail hsl hnd (by simpa using hbd) (by rw[Uq,hlen]) F.fr (Below.refl _ _).drew (fun _ _ h hb=>h.trans (hb.mono h.size)) hla ?_ ?_
 ·exact hst
 ·intro a' w' D;have hgood:∀ (i s:Nat) (g:Good),slots[i]?=some s→G[i]?=some g→∃ v,At a' s v∧g v w':=fun i s g hs hg=>D.done i rfl s g hs hg
  have I0:Inv L.toArray a' N l' m k:=by
   refine⟨D.fr,hF.D.L,fun e he=>qo _ _ (hF.D.at_ e he).1,fun e he=>?_,fun q v _ hq=>D.rest q v (hl' q v hq).1 (F0.at_ q v hq)⟩;obtain⟨v,h1,rfl⟩:=hgood _ _ _ (hF.D.at_ e he).1 (hF.D.at_ e he).2;exact h1
  have hrest:∀ i o,(L.drop k)[i]?=some o→L.toArray[k+i]?=some o:=fun i o hi=>by simpa using hi
  have hput:∀ {m':List iP} {d j:Nat} {v:Value},Inv L.toArray a' N l' m' k→j<k→(∀ e∈m',e.j≠j)→slots[j]?=some d→At a' d v→Inv L.toArray a' N l' (⟨d,j,[],true,v⟩::m') k:=by
   intro m' d j v I0 c4 c5 c1 h1;refine⟨I0.fr,Ny I0.L c4 c5,?_,?_,?_⟩
   ·intro e he;rcases ajN.1 he with rfl|he
    ·exact qo _ _ c1
    ·exact I0.dst e he
   ·intro e he;rcases ajN.1 he with rfl|he
    ·exact h1
    ·exact I0.at_ e he
   ·intro q u hq hl;exact I0.base q u (fun e he=>hq e (ajR _ he)) hl
  have hfin:∀ {rel':List qp} {m':List iP} {P:Option (World→Prop)} {f:List iP→Option (World→Prop)→Prop},Inv L.toArray a' N l' m' k→(∀ A∈rel',A.j<k∧slots[A.j]?=some A.d∧(∀ e∈m',e.j≠A.j)∧(∀ C,al=some C→C.j≠A.j)∧∃ u,At a' A.d u∧A.R u w')→(rel'.map (·.j)).Nodup→(∀ C,al=some C→∀ e∈m',e.j≠C.j)→(∀ p,P=some p→p w')→Vc rel' m' P f →
   ∃ m'' P',f m'' P'∧(∀ p,P'=some p→p w')∧Inv L.toArray a' N l' m'' k∧∀ C,al=some C→∀ e∈m'',e.j≠C.j:=by
   intro rel'
   induction rel' with
   | nil=>intro m' P f I _ _ hC hP h;exact⟨m',P,h,hP,I,hC⟩
   | cons A r ih=>
    intro m' P f I hA hn hC hP h;obtain⟨d,j,R⟩:=A;obtain⟨hfr,h⟩:=cB h;obtain⟨b4,b1,b5,b6,u,k1,k2⟩:=hA _ (ajQ ..);rw[List.map_cons,List.nodup_cons] at hn;refine ih (hput I b4 b5 b1 k1) (fun A' hA'=>?_) hn.2 (fun C hC' e he=>?_) (fun p hp=>?_) (h u)
    ·obtain⟨c4,c1,c5,c6,c7⟩:=hA A' (ajR _ hA');refine⟨c4,c1,fun e he=>?_,c6,c7⟩;rcases ajN.1 he with rfl|he
     ·exact fun e=>hn.1 (List.mem_map.2 ⟨A',hA',e.symm⟩)
     ·exact c5 e he
    ·rcases ajN.1 he with rfl|he
     ·exact fun e=>b6 C hC' e.symm
     ·exact hC C hC' e he
    ·cases P with
     | none=>obtain rfl:=ajV hp;exact k2
     | some q=>obtain rfl:=ajV hp;exact⟨k2,hP q rfl⟩
  obtain⟨m',P',k1,k2,I1,hC⟩:=hfin I0 (fun A hA=>by
   obtain⟨b1,b2,b4,b5,b6⟩:=hF.Iu A hA;exact⟨b4,b1,b5,b6,hgood _ _ _ b1 b2⟩) hF.yZ (fun C hC e he=>(hF.XF C hC).2.2.2.2 e he) (fun _ h=>by cases h) hv
  cases al with
  | none=>exact Ea hrest I1 (M.keep D.inv) (yB (k1 w') k2 D.inv (M.keep D.inv)) next
  | some A=>
   obtain⟨d,j,ty,cs,s⟩:=A;obtain⟨c1,c2,c3,c4,c5⟩:=hF.XF _ rfl;obtain⟨hfr,k1⟩:=cB k1;obtain⟨v,h1,g,rfl,h2,h3⟩:=hgood _ _ _ c1 c2;have M':=M.newAt D.inv h2 h3 c3;exact Ea hrest (hput I1 c4 (hC _ rfl) c1 h1) M' (yB (k1 g w') k2 D.inv M') next
end
def kP:List Oper→Nat
 | _::y::z::u::v::r=>kP (y::z::u::v::r)+1
 | _=>0
def vp(B:Nat)(w0:World)(N:Nat)(L:List Oper)(l:Slots)(bs:List Bx)(rs:List Rw)(w:World)(K:Slots→List Bx→List Rw→World→Prop):Prop:=
 Yc N L (kP L)=true∧Xl (kP L+2) L fun ds=>JO ds l fun l'=>vd B w0 N l' bs rs w (vP B w0 N l' bs rs w K) (kP L) L 0 [] none [] false
section
variable {B:Nat} {w0 w:World} {N:Nat} {l:Slots} {bs:List Bx} {rs:List Rw} {K:Slots→List Bx→List Rw→World→Prop} {Q:Exit→Act→World→Prop} {a:Act} {id:Nat} {L:List Oper}
theorem GR{P:Program}{ops:Array Oper}{I:(Nat→Bool)→Act→World→Prop}{l:List Oper}
 (h:∀ (i:Nat) (o:Oper),l[i]?=some o→∀ (Lf:Nat→Bool) (b:Act) (u:World) (Q':Exit→Act→World→Prop),I Lf b u→Lf i=false→(∀ e∈o.after.toList,Region.binds .any e=true→Lf e.on=true)→(∀ b u,I (upd Lf i) b u→Q' .normal b u)→wpList P ops Q' [o] b u) :
 ∀ (r:List Oper) (m:Nat),(∀ i o,r[i]?=some o→l[m+i]?=some o)→tE P ops I m r:=by
 intro r
 induction r with
 | nil=>intro m _;trivial
 | cons o r ih=>
  intro m hr;refine⟨h m o (hr 0 o rfl),ih (m+1) fun i o' ho'=>?_⟩;have:=hr (i+1) o' (by simpa using ho')
  rwa [show m+1+i=m+(i+1) by omega]
theorem XS(F:Fs a N l)(M:aQ B w0 w bs rs)(h:vp B w0 N L l bs rs w K)(next:∀ a l' bs' rs' w',Fs a N l'→aQ B w0 w' bs' rs'→K l' bs' rs' w'→Q .normal a w'):(Code.region id L.toArray true).wp Tryz.prog Q a w:=by
 obtain⟨hok,h⟩:=h;obtain⟨hkl,hsl,h⟩:=Ij h;obtain⟨l',h,hlk⟩:=xu h;generalize kP L=k at hok hkl hsl h hlk;generalize zq:lZ (k+2) L=slots at hsl h hlk;unfold Yc at hok;simp only[ajS,decide_eq_true_eq,ajT,zq] at hok;obtain⟨jQ,kD,mN,hbd,hnd,hlen,hgd,Ls⟩:=hok
 have Ui:slots.length=k+2:=by
  have:=congrArg List.length hsl;simp only[List.length_map,ajY] at this;omega
 have QG:∀ (i:Nat) (o:Oper),i<k+2→L[i]?=some o→slots[i]?=o.dst:=fun i o hi ho=>by
  have h1:=congrArg (fun x=>x[i]?) hsl;simp only[List.getElem?_map,List.getElem?_take,if_pos hi,ho,Option.map_some] at h1
  cases hs:slots[i]? with
  | none=>rw[hs] at h1;cases h1
  | some s=>rw[hs] at h1;exact(ajV h1).symm
 have qo:∀ (i s:Nat),slots[i]?=some s→(L.toArray[i]?).bind (fun o=>o.dst)=some s:=fun i s hs=>by
  have hi:i<k+2:=Ui▸(ajP.1 hs).1;have YZ:i<L.length:=by omega
  have h2:=QG i _ hi (ajX YZ);rw[hs] at h2;simp[YZ,← h2]
 have hl':∀ q v,look q l'=some v→slots.contains q=false∧look q l=some v:=fun q v hq=>by
  rw[hlk] at hq
  cases hm:nj q slots with
  | true=>rw[hm] at hq;cases hq
  | false=>
   rw[hm] at hq;refine⟨?_,hq⟩
   cases hc:slots.contains q with
   | false=>rfl
   | true=>
    have:q∈slots:=by simpa using hc
    rw[mF.2 this] at hm;cases hm
 have F0:Fs a N l':=⟨F.fr,fun q v hq=>F.at_ q v (hl' q v hq).2⟩
 obtain⟨G,m,al,rel,us,hla,Uq,hst,hF,hv⟩:=TW (ops:=L.toArray) M hnd qo (fun q v hq=>(hl' q v hq).1) F0 (gp:=[]) h ⟨⟨.nil 0,rfl,by simp⟩,(fun _ h=>by cases h),(fun _ _ i h=>absurd h (Nat.not_lt_zero i)),(fun _ h=>by cases h),.nil⟩
  (fun i o hi=>⟨mN o (ajU hi),by
   have hik:i<k:=by have:=(ajP.1 hi).1;rw[ajY] at this;omega
   rw[Nat.zero_add];exact QG i o (by omega) (by rw[List.getElem?_take,if_pos hik] at hi;exact hi)⟩) (by omega) trivial
 rw[List.nil_append] at hla hst hF;rw[Nat.zero_add] at hF hv;replace hv:vP B w0 N l' bs rs w K (L.drop k) k m al rel us:=hv;unfold vP at hv;split at hv
 case h_2=>exact hv.elim
 rename_i a1 a2 s1 s2 Lq;split at hv
 case h_2=>exact hv.elim
 rename_i Ar Aq t1 x1 y1 t2 x2 y2 p1 p2 p3 p4;obtain⟨d1,q1,b1,b1',hv⟩:=lW hv;obtain⟨d2,q2,b2,b2',hv⟩:=lW hv;obtain⟨hx1,hv⟩:=cB hv;obtain⟨hx2,hv⟩:=cB hv;obtain rfl:=ajL hx1;obtain rfl:=ajL hx2;split at hv
 case h_2=>exact hv.elim
 rename_i q3 q4;obtain⟨z1,z2,⟨hz1,hz2⟩,hv⟩:=hv;obtain⟨u1,r1,hv⟩:=dL hv;obtain⟨u2,r2,hv⟩:=dL hv;obtain⟨D1,hD1,hv⟩:=oU hv;obtain⟨D2,hD2,hv⟩:=oU hv;obtain⟨t9,hv⟩:=cB hv;obtain⟨t9',hv⟩:=cB hv;obtain⟨n1,hv⟩:=mJ hv;obtain⟨n2,hv⟩:=mJ hv;obtain⟨n3,hv⟩:=mJ hv;obtain⟨n4,⟨c1,c2⟩,hv⟩:=mJ hv;have at_:∀ i o,(L.drop k)[i]?=some o→L[k+i]?=some o:=fun i o hi=>by simpa using hi
 rw[Lq] at at_ hgd;have e1:=at_ 0 a1 rfl;have e2:=at_ 1 a2 rfl;have e3:=at_ 2 s1 rfl;have e4:=at_ 3 s2 rfl;have g1:a1.guard=none:=by have:=hgd a1 (by simp);simpa[Yf] using this
 have g2:a2.guard=none:=by have:=hgd a2 (by simp);simpa[Yf] using this
 have g3:s1.guard=none:=by have:=hgd s1 (by simp);simpa[Yf] using this
 have g4:s2.guard=none:=by have:=hgd s2 (by simp);simpa[Yf] using this
 have hd2:L.drop (k+2)=[s1,s2]:=by rw[← List.drop_drop,Lq];rfl
 rw[hd2] at Ls
 have S8:∀ g∈G,∃ v,g=S2 v:=fun g hg=>by
  obtain⟨i,hi⟩:=List.getElem?_of_mem hg;obtain⟨e,he,rfl⟩:=hF.cov rfl rfl i (Uq▸(ajP.1 hi).1);have:=(hF.D.at_ e he).2;rw[hi] at this;exact⟨_,ajV this⟩
 have Sd:slots[k]?=some x1:=by rw[QG k a1 (by omega) e1,q1]
 have Sc:slots[k+1]?=some x2:=by rw[QG (k+1) a2 (by omega) e2,q2]
 have ev:∀ {y:Operand} {u:Value} {s:Oper},DV l' m [] y u→s∈[s1,s2]→y∈jW s.op→∀ (b:Act) (u':World) (Lf:Nat→Bool),PI L k slots G N a w x1 x2 Ar Aq z1.cells z2.cells (bH u1).toArray (bH u2).toArray Lf b u'→(∀ e∈s.after.toList,Region.binds .any e=true→Lf e.on=true)→b.eval y=u:=by
  intro y u s Ln hs hy b u' Lf I Wn
  cases y with
  | tmp q=>
   rcases Ln with⟨e,he,rfl,rfl,hsub⟩|⟨h1,h2⟩
   ·have ht:e.t=true:=(hF.D.L.tv e he).2 fun y hy=>absurd (Aw hsub y hy) (by simp)
    obtain⟨f1,f2⟩:=hF.D.at_ e he;obtain⟨gr,f3,f4⟩:=E6 (Ls s hs) hnd f1 hy;obtain⟨v,f5,rfl⟩:=I.done e.j (hF.D.L.lt e he) (Wn _ f3 f4) _ _ f1 f2;exact(f5.on ht).ev
   ·exact(I.rest q u (hl' q u h2).1 (F0.at_ q u h2)).ev
  | const c=>exact Ln
  | global=>exact Ln.elim
  | func f=>exact Ln
 refine rX (by kernel_rfl) jQ (PI L k slots G N a w x1 x2 Ar Aq z1.cells z2.cells (bH u1).toArray (bH u2).toArray) ?_ (GR (IW hlen hnd Ui (fun s hs=>by simpa using hbd s hs) Uq S8 hst jQ QG e1 e2 e3 e4 p1 p2 p3 p4 g1 g2 g3 g4 q1 q2 q3 q4 hz1 hz2 hD1 hD2 n1 n2 n3 n4 c1 c2
  (fun b u Lf I Wn=>⟨ev r1 (by simp) (by rw[p3];simp[jW]) b u Lf I Wn,by obtain⟨gr,f3,f4⟩:=E6 (Ls s1 (by simp)) hnd Sd (by rw[p3];simp[jW]);exact Wn _ f3 f4⟩)
  (fun b u Lf I Wn=>⟨ev r2 (by simp) (by rw[p4];simp[jW]) b u Lf I Wn,by obtain⟨gr,f3,f4⟩:=E6 (Ls s2 (by simp)) hnd Sc (by rw[p4];simp[jW]);exact Wn _ f3 f4⟩)) L 0 (fun i o ho=>by simpa using ho)) ?_
 ·exact⟨F.fr,(Below.refl _ _).drew,(fun _ _ h=>by cases h),fun _ _ _ h=>h,(fun h=>by cases h),(fun h=>by cases h),(fun h=>by cases h),(fun h=>by cases h),fun h=>by cases h⟩
 ·intro Lf a' w' I hall;obtain⟨v1,f1,f2,f3⟩:=I.one (hall _ (by omega));obtain⟨v2,f4,f5,f6⟩:=I.two (hall _ (by omega));rw[if_pos (hall _ (by omega))] at f3 f6;have hne:v1≠v2:=fun e=>I.ne (hall _ (by omega)) (hall _ (by omega)) v1 f1 (e▸f4)
  have M':aQ B w0 w' ((v1,Ar,(bH u1).toArray)::(v2,Aq,(bH u2).toArray)::bs) rs:=M.VA I.inv (b1:=(v1,Ar,(bH u1).toArray)) (b2:=(v2,Aq,(bH u2).toArray)) (.inl ⟨t9,f3⟩) f2 (.inl ⟨t9',f6⟩) f5 hne
  have I0:Inv L.toArray a' N l' m k:=by
   refine⟨I.fr,hF.D.L,fun e he=>qo _ _ (hF.D.at_ e he).1,fun e he=>?_,fun q v _ hq=>I.rest q v (hl' q v hq).1 (F0.at_ q v hq)⟩;obtain⟨v,h1,rfl⟩:=I.done e.j (hF.D.L.lt e he) (hall _ (by have:=hF.D.L.lt e he;omega)) _ _ (hF.D.at_ e he).1 (hF.D.at_ e he).2;exact h1
  obtain⟨l'',k1,F'⟩:=I0.Zl (hv v1 v2 w' I.inv M');exact next _ _ _ _ _ ((F'.add f4).add f1) M' k1
end
abbrev KK:=Exit→Slots→List Bx→List Rw→World→Prop
def ZG:List Oper→List Nat→(List Nat→Prop)→Prop
 | [],acc,f=>f acc
 | o::r,acc,f=>(match o.dst with|some d=>ZG r (d::acc) f|none=>ZG r acc f)
theorem Rg{f:List Nat→Prop}:∀ {L:List Oper} {acc:List Nat},ZG L acc f→∃ ds,f ds
 | [],acc,h=>⟨acc,h⟩
 | o::r,acc,h=>by
  unfold ZG at h;split at h<;>exact Rg h
def Tw:Code→List Nat→(List Nat→Prop)→Prop
 | .region _ ops _,acc,f=>ZG ops.toList acc f
 | .seq a b,acc,f=>Tw a acc fun acc=>Tw b acc f
 | .cond _ a b,acc,f=>Tw a acc fun acc=>Tw b acc f
 | .block _ c,acc,f=>Tw c acc f
 | .loop c,acc,f=>Tw c acc f
 | _,acc,f=>f acc
theorem vE:∀ {c:Code} {acc:List Nat} {f:List Nat→Prop},Tw c acc f→∃ ds,f ds
 | .region _ _ _,_,_,h=>Rg h
 | .seq a b,_,_,h=>by obtain⟨_,h⟩:=vE (c:=a) h;exact vE (c:=b) h
 | .cond _ a b,_,_,h=>by obtain⟨_,h⟩:=vE (c:=a) h;exact vE (c:=b) h
 | .block _ c,_,_,h=>vE (c:=c) h
 | .loop c,_,_,h=>vE (c:=c) h
 | .skip,_,_,h=>⟨_,h⟩
 | .rangeFunc _ _ _ _,_,_,h=>⟨_,h⟩
 | .exit _,_,_,h=>⟨_,h⟩
 | .scope _,_,_,h=>⟨_,h⟩
 | .label _,_,_,h=>⟨_,h⟩
 | .goto _,_,_,h=>⟨_,h⟩
 | .ret,_,_,h=>⟨_,h⟩
 | .refuse _,_,_,h=>⟨_,h⟩
def Ue:List Nat→Slots→(Slots→Prop)→Prop
 | _,[],f=>f []
 | ds,(s,v)::r,f=>bif nj s ds then Ue ds r f else Ue (s::ds) r fun l=>f ((s,v)::l)
theorem zm:∀ {l:Slots} {ds:List Nat} {f:Slots→Prop},Ue ds l f→∃ l',f l'∧(∀ q v,look q l'=some v→look q l=some v)∧∀ q∈ds,look q l'=none
 | [],ds,f,h=>⟨[],h,fun _ _ h=>h,fun _ _=>rfl⟩
 | (s,v)::r,ds,f,h=>by
  unfold Ue at h
  cases hm:nj s ds with
  | true=>
   rw[hm] at h;obtain⟨l',h1,h2,h3⟩:=zm h;refine⟨l',h1,fun q u hq=>?_,h3⟩;rw[dQ]
   cases e:q == s with
   | true=>
    have e':q=s:=by simpa using e
    rw[h3 q (e'▸mF.1 hm)] at hq;cases hq
   | false=>exact h2 q u hq
  | false=>
   rw[hm] at h;obtain⟨l',h1,h2,h3⟩:=zm h;refine⟨_,h1,fun q u hq=>?_,fun q hq=>?_⟩
   ·rw[dQ] at hq ⊢
    cases e:q == s with
    | true=>rw[e] at hq;exact hq
    | false=>rw[e] at hq;exact h2 q u hq
   ·rw[dQ]
    cases e:q == s with
    | true=>
     have e':q=s:=by simpa using e
     rw[mF.2 (e'▸hq)] at hm;cases hm
    | false=>exact h3 q (ajR _ hq)
def W5:Slots→Slots→Slots
 | [],r=>r
 | x::l,r=>x::W5 l r
theorem Gx{q:Nat}{r:Slots}:∀ {l:Slots} {v:Value},look q (W5 l r)=some v→look q l=some v∨look q r=some v
 | [],_,h=>.inr h
 | (s,u)::l,v,h=>by
  rw[W5,dQ] at h;rw[dQ]
  cases e:q == s with
  | true=>rw[e] at h;exact .inl h
  | false=>rw[e] at h;exact Gx h
theorem Fs.kept{a:Act}{N:Nat}{l C kl:Slots}(F:Fs a N l)(hs:Sub l C)(hk:∀ q v,look q kl=some v→look q l=some v):Fs a N (W5 C kl):=by
 refine⟨F.fr,fun q v h=>?_⟩;rcases Gx h with h|h
 ·exact(F.sub hs).at_ q v h
 ·exact F.at_ q v (hk q v h)
def fid:Code→Option Nat
 | .region id _ _=>some id
 | .seq a b=>(match fid a with|some i=>some i|none=>fid b)
 | .block _ c=>fid c
 | .loop c=>fid c
 | .cond _ a _=>fid a
 | _=>none
def jn(i:Option Nat)(J:List Nat):Bool:=match i with
 | some i=>nj i J
 | none=>false
def YC(B:Nat)(w0:World){ι:Type}(C:ι→Slots)(wB:ι→List Bx)(uK:ι→List Rw)(R:ι→World→Prop)(l:Slots)(bs:List Bx)(rs:List Rw)(w:World)(x:ι):Prop:=
 Sub l (C x)∧(aQ B w0 w bs rs→aQ B w0 w (wB x) (uK x)∧R x w)
section
variable (KP:PK) (B:Nat) (w0:World) (N:Nat) (J:List Nat)
def Bn:Code→Slots→List Bx→List Rw→World→KK→Prop
 | .skip,l,bs,rs,w,K=>K .normal l bs rs w
 | .label _,l,bs,rs,w,K=>K .normal l bs rs w
 | .exit id,l,bs,rs,w,K=>K (.exit id) l bs rs w
 | .ret,l,bs,rs,w,K=>K .ret l bs rs w
 | .region id ops dr,l,bs,rs,w,K=>(match dr with
  | false=>vc KP B w0 N l ops.toList 0 [] bs rs w (K .normal)
  | true=>vr B w0 N ops.toList l bs rs w (K .normal)∨vp B w0 N ops.toList l bs rs w (K .normal) ∨
   (∀ (a:Act) (Q:Exit→Act→World→Prop),Fs a N l→aQ B w0 w bs rs→(∀ Pn,KP=some Pn→∀ a' ch w',Fr a' N→Pn ch w'→Q (.panic ch) a' w')→(∀ a' l' bs' rs' w',Fs a' N l'→aQ B w0 w' bs' rs'→K .normal l' bs' rs' w'→Q .normal a' w')→(Code.region id ops true).wp Tryz.prog Q a w))
 | .seq x y,l,bs,rs,w,K=>bif jn (fid y) J then
  Tw x [] fun ds=>Ue ds l fun kl=>∃ (ι:Type) (C:ι→Slots) (wB:ι→List Bx) (uK:ι→List Rw) (R:ι→World→Prop),
   Bn x l bs rs w (fun e l' bs' rs' w'=>match e with
    | .normal=>Ue ds l' fun kl'=>kl'=kl∧∃ x,YC B w0 C wB uK R l' bs' rs' w' x
    | e=>K e l' bs' rs' w') ∧
   ∀ x w',aQ B w0 w' (wB x) (uK x)→R x w'→Bn y (W5 (C x) kl) (wB x) (uK x) w' K
  else Bn x l bs rs w fun e l' bs' rs' w'=>match e with
   | .normal=>Bn y l' bs' rs' w' K
   | e=>K e l' bs' rs' w'
 | .cond c x y,l,bs,rs,w,K=>tY l [] [] c fun v=>match v with
  | .bool b=>(b=true→Bn x l bs rs w K)∧(b=false→Bn y l bs rs w K)
  | _=>False
 | .block id c,l,bs,rs,w,K=>Bn c l bs rs w fun e l' bs' rs' w'=>match e with
  | .exit i=>bif Nat.beq i id then K .normal l' bs' rs' w' else K (.exit i) l' bs' rs' w'
  | e=>K e l' bs' rs' w'
 | .loop c,l,bs,rs,w,K=>Tw c [] fun ds=>Ue ds l fun kl=>∃ (ι:Type) (C:ι→Slots) (wB:ι→List Bx) (uK:ι→List Rw) (R:ι→World→Prop) (μ:ι→Nat) (x:ι),
  YC B w0 C wB uK R l bs rs w x ∧
  ∀ x w',aQ B w0 w' (wB x) (uK x)→R x w'→Bn c (W5 (C x) kl) (wB x) (uK x) w' fun e l' bs' rs' w''=>match e with
   | .normal=>Ue ds l' fun kl'=>kl'=kl∧∃ x',YC B w0 C wB uK R l' bs' rs' w'' x'∧μ x'<μ x
   | e=>K e l' bs' rs' w''
 | _,_,_,_,_,_=>False
end
theorem jl{KP:PK}{B:Nat}{w0:World}{N:Nat}{J:List Nat}:∀ {c:Code} {l:Slots} {bs:List Bx} {rs:List Rw} {w:World} {K:KK} {Q:Exit→Act→World→Prop} {a:Act},Bn KP B w0 N J c l bs rs w K→Fs a N l→aQ B w0 w bs rs→(∀ Pn,KP=some Pn→∀ a' ch w',Fr a' N→Pn ch w'→Q (.panic ch) a' w') →
 (∀ e a l bs rs w,Fs a N l→aQ B w0 w bs rs→K e l bs rs w→Q e a w)→c.wp Tryz.prog Q a w:=by
 intro c
 induction c with
 | skip=>intro l bs rs w K Q a h F M hP hQ;exact wp_skip (hQ _ _ _ _ _ _ F M h)
 | label=>intro l bs rs w K Q a h F M hP hQ;exact wp_label (hQ _ _ _ _ _ _ F M h)
 | exit=>intro l bs rs w K Q a h F M hP hQ;exact wp_exit (hQ _ _ _ _ _ _ F M h)
 | ret=>intro l bs rs w K Q a h F M hP hQ;exact wp_ret (hQ _ _ _ _ _ _ F M h)
 | region id ops dr=>
  intro l bs rs w K Q a h F M hP hQ
  cases dr with
  | false=>exact wp_region_list (KD (ops:=ops) (fun i o hi=>by simpa using hi) (Inv.start F) M h (fun Pn Zd a' ch w' ⟨_,_,I⟩ h=>hP Pn Zd a' ch w' I.fr h) fun a l' bs' rs' w' F' M' hk=>hQ _ _ _ _ _ _ F' M' hk)
  | true=>
   rcases h with h|h|h
   ·have:=XR (id:=id) F M h (Q:=Q) fun a l' bs' rs' w' F' M' hk=>hQ _ _ _ _ _ _ F' M' hk
    rwa [Array.toArray_toList] at this
   ·have:=XS (id:=id) F M h (Q:=Q) fun a l' bs' rs' w' F' M' hk=>hQ _ _ _ _ _ _ F' M' hk
    rwa [Array.toArray_toList] at this
   ·exact h a Q F M hP fun a l' bs' rs' w' F' M' hk=>hQ _ _ _ _ _ _ F' M' hk
 | seq x y EO ihy=>
  intro l bs rs w K Q a h F M hP hQ;unfold Bn at h
  cases hj:jn (fid y) J with
  | false=>
   rw[hj] at h;refine wp_seq (EO h F M hP fun e a l' bs' rs' w' F' M' hk=>?_)
   cases e with
   | normal=>exact ihy hk F' M' hP hQ
   | _=>exact hQ _ _ _ _ _ _ F' M' hk
  | true=>
   rw[hj] at h;obtain⟨ds,h⟩:=vE h;obtain⟨kl,⟨ι,C,wB,uK,R,h1,h2⟩,-,-⟩:=zm h;refine wp_seq (EO h1 F M hP fun e a l' bs' rs' w' F' M' hk=>?_)
   cases e with
   | normal=>
    obtain⟨kl',⟨rfl,x,hs,hR⟩,hkl,-⟩:=zm hk;obtain⟨M',hR⟩:=hR M';exact ihy (h2 x w' M' hR) (F'.kept hs hkl) M' hP hQ
   | _=>exact hQ _ _ _ _ _ _ F' M' hk
 | cond c x y EO ihy=>
  intro l bs rs w K Q a h F M hP hQ;obtain⟨v,h1,h⟩:=dL h;have hv:a.eval c=v:=(Inv.start (ops:=#[]) F).E h1 (by simp)
  cases v with
  | bool b=>exact wp_cond_split hv (fun hb=>EO (h.1 hb) F M hP hQ) (fun hb=>ihy (h.2 hb) F M hP hQ)
  | _=>exact h.elim
 | block id c ih=>
  intro l bs rs w K Q a h F M hP hQ;refine wp_block (ih h F M hP fun e a l' bs' rs' w' F' M' hk=>?_)
  cases e with
  | exit i=>
   show if i=id then Q .normal a w' else Q (.exit i) a w'
   have hk:bif Nat.beq i id then K .normal l' bs' rs' w' else K (.exit i) l' bs' rs' w':=hk
   cases hb:Nat.beq i id with
   | true=>
    rw[hb] at hk;rw[if_pos (ajL hb)];exact hQ _ _ _ _ _ _ F' M' hk
   | false=>
    rw[hb] at hk;rw[if_neg fun e=>by rw[e,Nat.beq_refl] at hb;cases hb];exact hQ _ _ _ _ _ _ F' M' hk
  | _=>exact hQ _ _ _ _ _ _ F' M' hk
 | loop c ih=>
  intro l bs rs w K Q a h F M hP hQ;obtain⟨ds,h⟩:=vE h;obtain⟨kl,⟨ι,C,wB,uK,R,μ,x,⟨hs,hR⟩,h2⟩,hkl,-⟩:=zm h;obtain⟨M,hR⟩:=hR M;refine RR (fun x a w=>Fs a N (W5 (C x) kl)∧aQ B w0 w (wB x) (uK x)∧R x w) μ x ⟨F.kept hs hkl,M,hR⟩ ?_;rintro x a w ⟨F,M,hR⟩;refine ih (h2 x w M hR) F M hP fun e a l' bs' rs' w' F' M' hk=>?_
  cases e with
  | normal=>
   obtain⟨kl',⟨rfl,x',⟨hs,hR⟩,hμ⟩,hkl,-⟩:=zm hk;obtain⟨M',hR⟩:=hR M';exact⟨x',⟨F'.kept hs hkl,M',hR⟩,hμ⟩
  | _=>exact hQ _ _ _ _ _ _ F' M' hk
 | rangeFunc=>intro l bs rs w K Q a h;exact h.elim
 | scope=>intro l bs rs w K Q a h;exact h.elim
 | goto=>intro l bs rs w K Q a h;exact h.elim
 | refuse=>intro l bs rs w K Q a h;exact h.elim
def rsK(l:Slots):List ResultVar→(List Value→Prop)→Prop
 | [],f=>f []
 | .tmp s::r,f=>(match look s l with|some v=>rsK l r fun vs=>f (v::vs)|none=>False)
 | _::_,_=>False
theorem O0{a:Act}{N:Nat}{l:Slots}(F:Fs a N l):∀ {rv:List ResultVar} {f:List Value→Prop},rsK l rv f→∃ vs,f vs∧CP (fun r v=>∃ s,r=.tmp s∧At a s v) rv vs
 | [],_,h=>⟨[],h,.nil⟩
 | .tmp s::r,f,h=>by
  unfold rsK at h;split at h
  ·rename_i v hv;obtain⟨vs,h1,h2⟩:=O0 F h;exact⟨_,h1,.cons ⟨s,rfl,F.at_ s v hv⟩ h2⟩
  ·exact h.elim
 | .cell _ _::_,_,h=>h.elim
def rG:List Value→Value
 | [v]=>v
 | vs=>.tuple vs.toArray
def Rn(bs:List Bx)(g n:Nat)(k:List Value→Prop):Prop:=∃ i,vg bs i fun b=>bif Nat.blt b.2.1 9000 then b.1=g∧wz b.2.2.toList n (k b.2.2.toList) else False
def Hs(l:Slots)(bs:List Bx)(s:Nat)(ty:TypeId)(k:List Value→Prop):Prop:=match look s l with
 | some v=>Eu v False fun g off=>bif Nat.beq off 0 then CS ty (fun D=>match D with|.st n _=>Rn bs g n k|.arr n _ m=>Rn bs g (n*m) k|_=>False) TT else False
 | none=>False
theorem Hr{bs:List Bx}{rs:List Rw}{g n:Nat}{k:List Value→Prop}{B:Nat}{w0 w:World}(M:aQ B w0 w bs rs)(h:Rn bs g n k):∃ t cs,Whole w g t cs∧n=cs.size∧k cs.toList:=by
 obtain⟨i,hq⟩:=h;obtain⟨⟨b,T,cs⟩,hb,hq1⟩:=jt hq;obtain⟨hT,h2,hq2⟩:=cB hq1;obtain⟨hl,hq3⟩:=mJ hq2;obtain rfl:b=g:=h2;exact⟨T,cs,M.b i hb hT,by rw[← hl,Array.length_toList],hq3⟩
theorem CD{l:Slots}{bs:List Bx}{rs:List Rw}{s:Nat}{ty:TypeId}{k:List Value→Prop}{B:Nat}{w0 w:World}(M:aQ B w0 w bs rs)(h:Hs l bs s ty k):
 ∃ (g:Nat) (cs:Array Value),look s l=some (.pointer (some ⟨g,0,none⟩))∧(loadVar ty ⟨g,0,none⟩).run Tryz.prog w=.ok (.agg cs) w∧k cs.toList:=by
 unfold Hs at h;split at h
 ·rename_i v hv;rcases tZ h with⟨g,off,rfl,hq⟩|h
  case inr=>exact h.elim
  obtain⟨h0,hq'⟩:=cB hq;obtain rfl:off=0:=ajL h0;obtain⟨D,hD,hq⟩:=oU hq';split at hq
  ·obtain⟨t,cs,hW,hn,hk⟩:=Hr M hq;obtain⟨fs,hu,hs,-⟩:=OH hD;exact⟨_,_,hv,run_loadVar_row w g t ty cs (0,0) (.struct fs) hW hu rfl (by rw[hs,hn]),hk⟩
  ·obtain⟨t,cs,hW,hn,hk⟩:=Hr M hq;obtain⟨hu,-,hs⟩:=Ie hD;exact⟨_,_,hv,run_loadVar_row w g t ty cs (0,0) _ hW hu rfl (by rw[hs,hn]),hk⟩
  ·exact hq.elim
 ·exact h.elim
def Si(B:Nat)(w0:World)(R:Ending→World→Prop)(l:Slots)(bs:List Bx)(rs:List Rw)(w:World):List ResultVar→Prop
 | [.cell s ty]=>Hs l bs s ty fun cs=>aQ B w0 w bs rs→R (.returned (.agg cs.toArray)) w
 | [.cell s ty,.tmp u]=>(match look u l with|some v=>Hs l bs s ty fun cs=>aQ B w0 w bs rs→R (.returned (.tuple #[.agg cs.toArray,v])) w|none=>False)
 | L=>bif Nat.ble L.length 3 then rsK l L fun vs=>aQ B w0 w bs rs→R (.returned (rG vs)) w else False
def F9(fn:Func)(B:Nat)(w0:World)(R:Ending→World→Prop):KK:=fun e l bs rs w=>match e with
 | .normal=>Si B w0 R l bs rs w fn.results.toList
 | .ret=>Si B w0 R l bs rs w fn.results.toList
 | _=>False
theorem Sh{fn:Func}{R:Ending→World→Prop}{a:Act}{w:World}{N:Nat}(h3:Nat.ble fn.results.toList.length 3=true)(hf:Fr a N){vs:List Value}(h:CP (fun r v=>∃ s,r=.tmp s∧At a s v) fn.results.toList vs)(hR:R (.returned (rG vs)) w)(hD:DS.ds=[]:=by rfl):bodyPost Tryz.prog fn R .ret a w:=by
 generalize hl:fn.results.toList=L at h h3;have hres:fn.results=L.toArray:=by rw[← hl]
 clear hl
 match h with
 | .nil=>exact KC (hD:=hD) hres hf hR
 | .cons ⟨s,e,h1⟩ .nil=>subst e;exact Oj (hD:=hD) hres hf h1 hR
 | .cons ⟨s,e,h1⟩ (.cons ⟨s',e',h2⟩ .nil)=>subst e e';exact KA (hD:=hD) hres hf h1 h2 hR
 | .cons ⟨s,e,h1⟩ (.cons ⟨s',e',h2⟩ (.cons ⟨s'',e'',h4⟩ .nil))=>subst e e' e'';exact Kz (hD:=hD) hres hf h1 h2 h4 hR
 | .cons _ (.cons _ (.cons _ (.cons _ _)))=>simp at h3
theorem iM{fn:Func}{R:Ending→World→Prop}{a:Act}{N:Nat}{l:Slots}{bs:List Bx}{rs:List Rw}{B:Nat}{w0 w:World}(F:Fs a N l)(M:aQ B w0 w bs rs)(h:Si B w0 R l bs rs w fn.results.toList)(hD:DS.ds=[]:=by rfl):bodyPost Tryz.prog fn R .ret a w:=by
 generalize hL:fn.results.toList=L at h;unfold Si at h;split at h
 ·rename_i s ty;have hr:fn.results=#[.cell s ty]:=by rw[← Array.toList_inj,hL]
  obtain⟨g,cs,hv,hl,h⟩:=CD M h;refine⟨F.fr.defers.trans hD,_,?_,h M⟩;have h2:a.tmps.getD s undef=.pointer (some ⟨g,0,none⟩):=F.e s hv;rw[ajZ] at h2;simp[results,hr,h2,asAddr,hl]
 ·rename_i s ty u;have hr:fn.results=#[.cell s ty,.tmp u]:=by rw[← Array.toList_inj,hL]
  split at h
  ·rename_i v hv2;obtain⟨g,cs,hv,hl,h⟩:=CD M h;refine⟨F.fr.defers.trans hD,_,?_,h M⟩;have h2:a.tmps.getD s undef=.pointer (some ⟨g,0,none⟩):=F.e s hv;have k2:a.tmps.getD u undef=v:=F.e u hv2;rw[ajZ] at h2 k2;simp[results,hr,h2,k2,asAddr,hl]
  ·exact h.elim
 ·subst hL;obtain⟨h3,hk⟩:=cB h;obtain⟨vs,h1,h2⟩:=O0 F hk;exact Sh (hD:=hD) h3 F.fr h2 (h1 M)
theorem bM{f:FuncId}{fn:Func}{c:Code}{N:Nat}(J:List Nat){vs:List Value}{R:Ending→World→Prop}{w0:World}(hf:Tryz.prog.funcs[f]?=some fn)(hb:fn.body=some c)(hn:fn.ntmps=N)(hN:Nat.ble vs.length N=true)
 (h:Bn none w0.heap.size w0 N J c (HZ 0 vs) [] [] w0 (F9 fn w0.heap.size w0 R)) (hD:DS.ds=[]:=by rfl):Calls Tryz.prog f vs.toArray w0 R:=by
 refine en (hD:=hD) hf hb hn (by simpa using hN) rfl fun a F=>jl h F (Mm.start w0) (fun _ h=>by cases h) fun e a l bs rs w F M hk=>?_
 cases e with
 | normal=>exact tK (iM (hD:=hD) F M hk)
 | ret=>exact iM (hD:=hD) F M hk
 | _=>exact hk.elim
theorem XV{f:FuncId}{fn:Func}{c:Code}{N:Nat}(J:List Nat){vs:List Value}{R:Ending→World→Prop}{w0:World}(hf:Tryz.prog.funcs[f]?=some fn)(hb:fn.body=some c)(hn:fn.ntmps=N)(hN:Nat.ble vs.length N=true)
 (h:Bn (some fun ch w=>R (.panicked ch) w) w0.heap.size w0 N J c (HZ 0 vs) [] [] w0 (F9 fn w0.heap.size w0 R)) (hD:DS.ds=[]:=by rfl):Calls Tryz.prog f vs.toArray w0 R:=by
 refine en (hD:=hD) hf hb hn (by simpa using hN) rfl fun a F=>jl h F (Mm.start w0) (fun Pn hP a' ch w' hf h=>?_) fun e a l bs rs w F M hk=>?_
 ·obtain rfl:=ajV hP;exact⟨hf.defers.trans hD,h⟩
 cases e with
 | normal=>exact tK (iM (hD:=hD) F M hk)
 | ret=>exact iM (hD:=hD) F M hk
 | _=>exact hk.elim
theorem iy{f:FuncId}{fn:Func}{c:Code}{N:Nat}{B:Nat}{w0 w:World}{bs:List Bx}{rs:List Rw}(M:aQ B w0 w bs rs)(J:List Nat){vs:List Value}{R:Ending→World→Prop}(hf:Tryz.prog.funcs[f]?=some fn)(hb:fn.body=some c)(hn:fn.ntmps=N)(hN:Nat.ble vs.length N=true)
 (h:Bn (some fun ch w=>R (.panicked ch) w) B w0 N J c (HZ 0 vs) bs rs w (F9 fn B w0 R)) (hD:DS.ds=[]:=by rfl):Calls Tryz.prog f vs.toArray w R:=by
 refine en (hD:=hD) hf hb hn (by simpa using hN) rfl fun a F=>jl h F M (fun Pn hP a' ch w' hf h=>?_) fun e a l bs rs w F M hk=>?_
 ·obtain rfl:=ajV hP;exact⟨hf.defers.trans hD,h⟩
 cases e with
 | normal=>exact tK (iM (hD:=hD) F M hk)
 | ret=>exact iM (hD:=hD) F M hk
 | _=>exact hk.elim
theorem d_{f:FuncId}{fn:Func}{c:Code}{N:Nat}{B:Nat}{w0 w:World}{bs:List Bx}{rs:List Rw}(M:aQ B w0 w bs rs)(J:List Nat){vs:List Value}{R:Ending→World→Prop}(hf:Tryz.prog.funcs[f]?=some fn)(hb:fn.body=some c)(hn:fn.ntmps=N)(hN:Nat.ble vs.length N=true)
 (h:Bn none B w0 N J c (HZ 0 vs) bs rs w (F9 fn B w0 R)) (hD:DS.ds=[]:=by rfl):Calls Tryz.prog f vs.toArray w R:=by
 refine en (hD:=hD) hf hb hn (by simpa using hN) rfl fun a F=>jl h F M (fun Pn hP=>by cases hP) fun e a l bs rs w F M hk=>?_
 cases e with
 | normal=>exact tK (iM (hD:=hD) F M hk)
 | ret=>exact iM (hD:=hD) F M hk
 | _=>exact hk.elim
theorem an{p q:Prop}(h:p)(k:q):p∧q:=⟨h,k⟩
theorem ei{α:Sort _}{p:α→Prop}{x:α}(h:p x):∃ x,p x:=⟨x,h⟩
theorem ia{p:Nat→Nat→Nat→Prop}{b off i:Nat}(h:p b off i):∃ b off i,p b off i:=⟨b,off,i,h⟩
theorem lb{p:Nat→Prop}{X:Prop}(i:Nat)(h:p i):(∃ i,p i)∨X:=.inl ⟨i,h⟩
theorem lc{α:Type}{p:α→Prop}{X:Prop}{x:α}(h:p x):X∨∃ x,p x:=.inr ⟨x,h⟩
theorem cl{p:Value→Prop}{X:Prop}{v:Value}(h:p v):(∃ v,p v)∨X:=.inl ⟨v,h⟩
theorem cg{p:(Value→World→Prop)→Prop}{X:Prop}{R:Value→World→Prop}(h:p R):X∨∃ R,p R:=.inr ⟨R,h⟩
theorem ZO{X:Prop}{f:FuncId}{args:Array Value}{B:Nat}{w0 w:World}{Pn:List PanicEntry→World→Prop}{K:Value→List Bx→List Rw→World→Prop}(hc:Calls Tryz.prog f args w fun e w'=>∃ ch,e=.panicked ch∧Pn ch w'):
 X∨∃ R:Value→World→Prop,Calls Tryz.prog f args w (u_ (some Pn) R)∧∀ v w',R v w'→∃ bs' rs',aQ B w0 w' bs' rs'∧K v bs' rs' w':=
 .inr ⟨fun _ _=>False,hc.mono fun _ _ h=>.inr h,fun _ _ h=>h.elim⟩
theorem cpo{X:Prop}{f:FuncId}{args:Array Value}{B:Nat}{w0 w:World}{KP:PK}{v:Value}{Q:World→Prop}{K:Value→List Bx→List Rw→World→Prop}(hc:Calls Tryz.prog f args w fun e w'=>e=.returned v∧Q w')(h:∀ w',Q w'→∃ bs' rs',aQ B w0 w' bs' rs'∧K v bs' rs' w'):
 X∨∃ R:Value→World→Prop,Calls Tryz.prog f args w (u_ KP R)∧∀ v w',R v w'→∃ bs' rs',aQ B w0 w' bs' rs'∧K v bs' rs' w':=by
 refine .inr ⟨fun u w'=>u=v∧Q w',hc.mono fun e w' h=>?_,fun u w' ⟨e,h'⟩=>e▸h w' h'⟩
 cases KP with
 | none=>exact⟨v,h.1,rfl,h.2⟩
 | some Pn=>exact .inl ⟨v,h.1,rfl,h.2⟩
theorem Uy{X:Prop}{f:FuncId}{args:Array Value}{B:Nat}{w0 w:World}{KP:PK}{R:Value→World→Prop}{K:Value→List Bx→List Rw→World→Prop}(hc:Calls Tryz.prog f args w fun e w'=>∃ v,e=.returned v∧R v w')(h:∀ v w',R v w'→∃ bs' rs',aQ B w0 w' bs' rs'∧K v bs' rs' w'):
 X∨∃ R:Value→World→Prop,Calls Tryz.prog f args w (u_ KP R)∧∀ v w',R v w'→∃ bs' rs',aQ B w0 w' bs' rs'∧K v bs' rs' w':=by
 refine .inr ⟨R,hc.mono fun e w' h=>?_,h⟩
 cases KP with
 | none=>exact h
 | some Pn=>exact .inl h
theorem cw{B:Nat}{w0 w:World}{bs:List Bx}{rs:List Rw}{X:Prop}{f:FuncId}{args:Array Value}{e kk n:Nat}{xs:List Value}{K:Value→List Bx→List Rw→World→Prop}(M:aQ B w0 w bs rs)
 (hc:Calls Tryz.prog f args w fun r w'=>∃ u,r=.returned u∧(w'.ownsRow w.heap.size e kk u n xs∧ajM w.heap.size w w')) (h:∀ u w',aQ B w0 w' bs (⟨u,e,kk,n,xs⟩::rs)→K u bs (⟨u,e,kk,n,xs⟩::rs) w') :
 X∨∃ R:Value→World→Prop,(Calls Tryz.prog f args w fun e w'=>∃ v,e=.returned v∧R v w')∧∀ v w',R v w'→∃ bs' rs',aQ B w0 w' bs' rs'∧K v bs' rs' w':=
 .inr ⟨_,hc,fun u w' hR=>⟨_,_,M.sj (r:=⟨u,e,kk,n,xs⟩) hR.2 hR.1,h u w' (M.sj (r:=⟨u,e,kk,n,xs⟩) hR.2 hR.1)⟩⟩
theorem dr{p q X:Prop}(h:p)(k:q):(p∧q)∨X:=.inl ⟨h,k⟩
theorem cv{X Y Z:Prop}{p:(Value→World→Prop)→Prop}(R:Value→World→Prop)(h:p R):X∨Y∨Z∨∃ R,p R:=.inr (.inr (.inr ⟨R,h⟩))
theorem cu{X Y:Prop}{p:Value→Prop}{v:Value}(h:p v):X∨(∃ v,p v)∨Y:=.inr (.inl ⟨v,h⟩)
theorem aY{a:Act}{x:Operand}{xs:List Operand}{v:Value}{vs:List Value}:wj a (x::xs) (v::vs)→a.eval x=v
 | .cons h _=>h
theorem cC{a:Act}{x y:Operand}{xs:List Operand}{u v:Value}{vs:List Value}:wj a (x::y::xs) (u::v::vs)→a.eval y=v
 | .cons _ (.cons h _)=>h
theorem aec{a:Act}{x y z:Operand}{xs:List Operand}{u v s:Value}{vs:List Value}:wj a (x::y::z::xs) (u::v::s::vs)→a.eval z=s
 | .cons _ (.cons _ (.cons h _))=>h
def aed(w:World)(e:TypeId)(R:Value→World→Prop):Value→World→Prop:=fun v w2=>∃ u g,v=.slice (some ⟨g,0,none⟩) 1 1∧Whole w2 g e #[u]∧w.heap.size≤g∧u.ownBlock≠some g∧R u w2
theorem b1{B:Nat}{w0 w:World}{bs:List Bx}{rs:List Rw}{t e b:Nat}{x:Operand}{R:Value→World→Prop}{u:Value}(hR:qg R)(h1:∀ u w,R u w→u.cells=#[u])(h2:∀ u w q,R u w→u.ownBlock=some q→q<w.heap.size)(hD:nE Tryz.prog t (.sl e 1 b)=true):
 ∀ (w1:World) (a:Act) (o':Oper),ajM w.heap.size w w1→aQ B w0 w1 bs rs→R u w1→o'.op=.buildSlice t 1 #[(0,x)]→wj a (jW (.buildSlice t 1 #[(0,x)])) [u] →
  ∃ v w2,(execOp a.eval o').run Tryz.prog w1=.ok (.value v) w2∧aed w e R v w2∧ajM w1.heap.size w1 w2:=fun w1 a o' hb _ hu hop pW=>by
 have hc:=h1 u w1 hu;have hr:=qt (w:=w1) hop hD rfl rfl (by decide) (by decide) pW (by simp[hc]);have hbl:ajM w1.heap.size w1 (w1.alloc (.cells ([u].flatMap fun v=>v.cells.toList).toArray e)):=(Below.refl _ w1).alloc (Nat.le_refl _) _;have hl:([u].flatMap fun v=>v.cells.toList).toArray=#[u]:=by simp[hc]
 refine⟨_,_,hr,⟨u,w1.heap.size,rfl,hl▸Whole.new w1 e _,hb.size,fun hq=>Nat.lt_irrefl _ (h2 u w1 _ hu hq),hR _ _ _ hu hbl⟩,hbl⟩
theorem aQ.perm{B:Nat}{w0 w:World}{bs:List Bx}{rs rs':List Rw}(M:aQ B w0 w bs rs)(hp:rs.Perm rs'):aQ B w0 w bs rs':=by
 refine⟨M.below,M.le,M.old,M.box,M.lo,M.nd,fun r h=>M.row r (hp.mem_iff.2 h),fun r h=>M.far r (hp.mem_iff.2 h),(hp.pairwise_iff fun {r s} h=>?_).1 M.yZ⟩;rcases h with h|h
 ·cases hs:s.v.ownBlock with
  | none=>exact .inl rfl
  | some q=>exact .inr (by rw[h];simp)
 ·exact .inr fun e=>h e.symm
theorem ap{B:Nat}{w0 w:World}{bs C4:List Bx}{rs CT:List Rw}{u v:Value}{e kk LV nn mm:Nat}{xs news:List Value}{k:Value→List Bx→List Rw→World→Prop}(i:Nat)(hM:aQ B w0 w bs rs→aQ B w0 w C4 CT)(hr:CT[i]?=some ⟨v,e,kk,nn,xs⟩)(hs:SliceAt w u kk mm news)
 (hb:nn+mm≤maxLen∧(nn+mm)*LV≤140737488355328) (h:∀ v' w',wk CT i ⟨v',e,kk,nn+mm,xs++news⟩ fun rs'=>aQ B w0 w' C4 rs'→k v' C4 rs' w') (hW:Nat.beq e 59=false∨w0.heap.size≤B:=by first|exact .inl rfl|exact .inr (Nat.le_refl _)):apO B w0 bs rs w u v e kk LV k:=
 ⟨C4,CT,i,nn,xs,mm,news,hM,hr,hs,hb,hW,h⟩
theorem lp{p:(ι:Type)→(ι→Slots)→(ι→List Bx)→(ι→List Rw)→(ι→World→Prop)→(ι→Nat)→ι→Prop}{ι:Type}(C:ι→Slots)(wB:ι→List Bx)(uK:ι→List Rw)(R:ι→World→Prop)(μ:ι→Nat)(x:ι)(h:p ι C wB uK R μ x):
 ∃ (ι:Type) (C:ι→Slots) (wB:ι→List Bx) (uK:ι→List Rw) (R:ι→World→Prop) (μ:ι→Nat) (x:ι),p ι C wB uK R μ x:=⟨ι,C,wB,uK,R,μ,x,h⟩
theorem lq{p:(ι:Type)→(ι→Slots)→(ι→List Bx)→(ι→List Rw)→(ι→World→Prop)→(ι→Nat)→ι→Prop}{ι:Type}(C:ι→Slots){bs:List Bx}(uK:ι→List Rw)(R:ι→World→Prop)(μ:ι→Nat)(x:ι)(h:p ι C (fun _=>bs) uK R μ x):
 ∃ (ι:Type) (C:ι→Slots) (wB:ι→List Bx) (uK:ι→List Rw) (R:ι→World→Prop) (μ:ι→Nat) (x:ι),p ι C wB uK R μ x:=⟨ι,C,_,uK,R,μ,x,h⟩
theorem lr{p:(ι:Type)→(ι→Slots)→(ι→List Bx)→(ι→List Rw)→(ι→World→Prop)→(ι→Nat)→ι→Prop}{ι:Type}(C:ι→Slots){bs:List Bx}{rs:List Rw}(R:ι→World→Prop)(μ:ι→Nat)(x:ι)(h:p ι C (fun _=>bs) (fun _=>rs) R μ x):
 ∃ (ι:Type) (C:ι→Slots) (wB:ι→List Bx) (uK:ι→List Rw) (R:ι→World→Prop) (μ:ι→Nat) (x:ι),p ι C wB uK R μ x:=⟨ι,C,_,_,R,μ,x,h⟩
theorem bk{B:Nat}{w0 w:World}{ι:Type}{C:ι→Slots}{wB:ι→List Bx}{uK:ι→List Rw}{R:ι→World→Prop}{l kl:Slots}{bs:List Bx}{rs:List Rw}{μ:ι→Nat}{m:Nat}(x:ι)(hs:Sub l (C x))(hM:aQ B w0 w bs rs→aQ B w0 w (wB x) (uK x)∧R x w)(hm:μ x<m):
 kl=kl∧∃ x,YC B w0 C wB uK R l bs rs w x∧μ x<m:=⟨rfl,x,⟨hs,hM⟩,hm⟩
theorem jo{p:(ι:Type)→(ι→Slots)→(ι→List Bx)→(ι→List Rw)→(ι→World→Prop)→Prop}{ι:Type}(C:ι→Slots)(wB:ι→List Bx)(uK:ι→List Rw)(R:ι→World→Prop)(h:p ι C wB uK R):
 ∃ (ι:Type) (C:ι→Slots) (wB:ι→List Bx) (uK:ι→List Rw) (R:ι→World→Prop),p ι C wB uK R:=⟨ι,C,wB,uK,R,h⟩
theorem je{B:Nat}{w0 w:World}{ι:Type}{C:ι→Slots}{wB:ι→List Bx}{uK:ι→List Rw}{R:ι→World→Prop}{l kl:Slots}{bs:List Bx}{rs:List Rw}(x:ι)(hs:Sub l (C x))(hM:aQ B w0 w bs rs→aQ B w0 w (wB x) (uK x)∧R x w):
 kl=kl∧∃ x,YC B w0 C wB uK R l bs rs w x:=⟨rfl,x,hs,hM⟩
end Go.Proofs.YtkkmjdceiocnbaaGreatDoor
namespace Go.Proofs.YtkkmjdceiocnbaaGreatDoor
open Go Go.RowKit
variable [DS]
structure Aa (X:List Nat) (a a':Act):Prop where
 fr:∀ {N:Nat},Fr a N→Fr a' N
 old:∀ {j:Nat} {u:Value},X.contains j=false→At a j u→At a' j u
theorem Aa.refl(X:List Nat)(a:Act):Aa X a a:=⟨fun h=>h,fun _ h=>h⟩
theorem Aa.put{X:List Nat}{a a' a2:Act}{s:Nat}{v:Value}(h:Aa X a a')(p:Put a' s v a2)(hs:X.contains s=true):Aa X a a2:=
 ⟨fun hf=>p.fr (h.fr hf),fun {j u} hj hu=>p.old (by
  cases e:j == s with
  | false=>rfl
  | true=>
   have e':j=s:=by simpa using e
   rw[e',hs] at hj;cases hj) (h.old hj hu)⟩
theorem Fs.UE{X:List Nat}{a a':Act}{N:Nat}{l:Slots}(F:Fs a N l)(h:Aa X a a'){l':Slots}(hl:l'.all (fun p=>!X.contains p.1)=true)(hs:Sub l l'):Fs a' N l':=by
 have F':=F.sub hs;refine⟨h.fr F'.fr,fun q v hq=>?_⟩;refine h.old ?_ (F'.at_ q v hq);clear F F' hs
 induction l' with
 | nil=>cases hq
 | cons p r ih=>
  obtain⟨s,u⟩:=p;simp only[List.all_cons,ajS] at hl;rw[dQ] at hq
  cases e:q == s with
  | true=>
   have e':q=s:=by simpa using e
   rw[e'];simpa using hl.1
  | false=>
   rw[e] at hq;exact ih hl.2 hq
abbrev Kn:=Nat×Nat×Value
def Bd(o:Oper)(k:Nat):Prop:=∃ gr,(⟨k,gr⟩:Edge)∈o.after.toList∧Region.binds .any ⟨k,gr⟩=true
inductive Tr where
 | done
 | step (j:Nat) (t:Tr)
 | last (j:Nat)
 | alt (x y:Tr)
def heads:Tr→List Nat
 | .done=>[]
 | .step j _=>[j]
 | .last j=>[j]
 | .alt x y=>heads x++heads y
inductive Moved (K:List Kn) (j:Nat) (o:Oper) (a a':Act):Prop
 | none:o.dst=none→a'=a→Moved K j o a a'
 | some (d:Nat) (v:Value):o.dst=some d→Put a d v a'→(∀ (n:Nat) (k:Kn),K[n]?=some k→k.1=j→k.2.2=v)→Moved K j o a a'
section
variable (P:Program) (ops:Array Oper) (l:List Oper) (K:List Kn) (X:List Nat) (J:World→Prop) (Q:Act→World→Prop)
def Kq:Tr→Act→World→Prop
 | .done,a,w=>∀ a',Aa X a a'→(∀ (n:Nat) (k:Kn),K[n]?=some k→At a' k.2.1 k.2.2)→Q a' w
 | .step j t,a,w=>∀ o,l[j]?=some o→∀ a',Aa X a a'→(∀ (n:Nat) (k:Kn),K[n]?=some k→Bd o k.1→At a' k.2.1 k.2.2)→∀ Q':Exit→Act→World→Prop,(∀ a1 w1,J w1→Moved K j o a' a1→Kq t a1 w1→Q' .normal a1 w1)→wpList P ops Q' [o] a' w
 | .last j,a,w=>∀ o,l[j]?=some o→∀ a',Aa X a a'→(∀ (n:Nat) (k:Kn),K[n]?=some k→Bd o k.1→At a' k.2.1 k.2.2)→∀ Q':Exit→Act→World→Prop,(∀ a1 w1,Moved K j o a' a1→(∀ a2,Aa X a1 a2→(∀ (n:Nat) (k:Kn),K[n]?=some k→At a2 k.2.1 k.2.2)→Q a2 w1)→Q' .normal a1 w1)→wpList P ops Q' [o] a' w
 | .alt x y,a,w=>Kq x a w∧Kq y a w
end
def cand(l:List Oper)(F E:List Nat):List Nat:=(List.range l.length).filter fun j=>!F.contains j&&!E.contains j&&(match l[j]? with|some o=>o.after.toList.all fun e=>!Region.binds .any e||F.contains e.on||E.contains e.on|none=>false)
def lY(l:List Oper)(F:List Nat):Tr→List Nat→Bool
 | .done,E=>(List.range l.length).all fun j=>F.contains j||E.contains j
 | .step j t,E=>!E.contains j&&!F.contains j&&decide (j<l.length)&&((cand l F (j::E)).all fun i=>(heads t).contains i)&&lY l F t (j::E)
 | .last j,E=>!E.contains j&&!F.contains j&&decide (j<l.length)&&((cand l F (j::E)).all fun i=>(heads .done).contains i)&&((List.range l.length).all fun i=>F.contains i||(j::E).contains i)&&(match l[j]? with|some o=>F.all fun f=>o.after.toList.any fun e=>Region.binds .any e&&e.on == f|none=>false)
 | .alt x y,E=>lY l F x E&&lY l F y E
theorem Gu{l:List Oper}{F E:List Nat}{j:Nat}{o:Oper}(hj:l[j]?=some o)(h1:F.contains j=false)(h2:E.contains j=false)(h3:∀ e∈o.after.toList,Region.binds .any e=true→F.contains e.on=true∨E.contains e.on=true):j∈cand l F E:=by
 unfold cand;refine List.mem_filter.2 ⟨List.mem_range.2 (ajP.1 hj).1,?_⟩;rw[h1,h2,hj];simp only[Bool.not_false,Bool.true_and,ajT];intro e he
 cases hb:Region.binds .any e with
 | false=>rfl
 | true=>
  rcases h3 e he hb with h|h
  ·rw[h];rfl
  ·rw[h];simp
section
variable {P:Program} {ops:Array Oper} {l:List Oper} {K:List Kn} {X F:List Nat} {J:World→Prop} {Q:Act→World→Prop}
theorem Bv:∀ {t:Tr} {E:List Nat} {a:Act} {w:World} {j:Nat},Kq P ops l K X J Q t a w→lY l F t E=true→j∈heads t→(∃ t',Kq P ops l K X J Q (.step j t') a w∧lY l F (.step j t') E=true)∨(Kq P ops l K X J Q (.last j) a w∧lY l F (.last j) E=true)
 | .done,_,_,_,_,_,_,h=>by cases h
 | .step j t,E,a,w,i,h,hs,hi=>by
  obtain rfl:i=j:=by simpa[heads] using hi
  exact .inl ⟨t,h,hs⟩
 | .last j,E,a,w,i,h,hs,hi=>by
  obtain rfl:i=j:=by simpa[heads] using hi
  exact .inr ⟨h,hs⟩
 | .alt x y,E,a,w,i,h,hs,hi=>by
  simp only[lY,ajS] at hs;rcases List.mem_append.1 hi with hi|hi
  ·exact Bv h.1 hs.1 hi
  ·exact Bv h.2 hs.2 hi
theorem KM:∀ {t:Tr} {E:List Nat} {a:Act} {w:World},Kq P ops l K X J Q t a w→lY l F t E=true→(∀ j,j<l.length→F.contains j=true∨E.contains j=true)→Kq P ops l K X J Q .done a w
 | .done,_,_,_,h,_,_=>h
 | .step j t,E,a,w,h,hs,hE=>by
  simp only[lY,ajS,decide_eq_true_iff] at hs;obtain⟨⟨⟨⟨h1,h2⟩,h3⟩,_⟩,_⟩:=hs;rcases hE j h3 with h|h
  ·rw[h] at h2;cases h2
  ·rw[h] at h1;cases h1
 | .last j,E,a,w,h,hs,hE=>by
  simp only[lY,ajS,decide_eq_true_iff] at hs;obtain⟨⟨⟨⟨⟨h1,h2⟩,h3⟩,_⟩,_⟩,_⟩:=hs;rcases hE j h3 with h|h
  ·rw[h] at h2;cases h2
  ·rw[h] at h1;cases h1
 | .alt x y,E,a,w,h,hs,hE=>by
  simp only[lY,ajS] at hs;exact KM h.1 hs.1 hE
end
def uF(P:Program)(l:List Oper)(F:List Nat)(K:List Kn)(J:World→Prop)(a:Act)(N:Nat):List Kn→Prop
 | []=>True
 | k::r=>(F.contains k.1=true→∀ o,l[k.1]?=some o→∀ b u,Fr b N→J u→(∀ j v,(l.filterMap (·.dst)).contains j=false→At a j v→At b j v)→(∀ (n:Nat) (k':Kn),K[n]?=some k'→Bd o k'.1→At b k'.2.1 k'.2.2) →
  Region.wanted o (yielded l.toArray b.tmps)=true∧(execOp b.eval o).run P u=.ok (.value k.2.2) u)∧uF P l F K J a N r
theorem fl{P:Program}{l:List Oper}{K:List Kn}{J:World→Prop}{a:Act}{N:Nat}{k:Kn}{o:Oper}(ho:l[k.1]?=some o) (h:∀ b u,Fr b N→J u→(∀ j v,(l.filterMap (·.dst)).contains j=false→At a j v→At b j v)→(∀ (n:Nat) (k':Kn),K[n]?=some k'→Bd o k'.1→At b k'.2.1 k'.2.2) →
 Region.wanted o (yielded l.toArray b.tmps)=true∧(execOp b.eval o).run P u=.ok (.value k.2.2) u) (F:List Nat):F.contains k.1=true→∀ o,l[k.1]?=some o→∀ b u,Fr b N→J u→(∀ j v,(l.filterMap (·.dst)).contains j=false→At a j v→At b j v)→(∀ (n:Nat) (k':Kn),K[n]?=some k'→Bd o k'.1→At b k'.2.1 k'.2.2) →
 Region.wanted o (yielded l.toArray b.tmps)=true∧(execOp b.eval o).run P u=.ok (.value k.2.2) u:=by
 intro _ o' ho';obtain rfl:o=o':=ajV (ho.symm.trans ho');exact h
theorem qZ{P:Program}{l:List Oper}{F:List Nat}{K:List Kn}{J:World→Prop}{a:Act}{N:Nat}:∀ {r:List Kn},uF P l F K J a N r→∀ k∈r,F.contains k.1=true→∀ o,l[k.1]?=some o→∀ b u,Fr b N→J u→(∀ j v,(l.filterMap (·.dst)).contains j=false→At a j v→At b j v)→(∀ (n:Nat) (k':Kn),K[n]?=some k'→Bd o k'.1→At b k'.2.1 k'.2.2) →
 Region.wanted o (yielded l.toArray b.tmps)=true∧(execOp b.eval o).run P u=.ok (.value k.2.2) u
 | [],_,_,h=>by cases h
 | x::r,h,k,hk=>by
  rcases ajN.1 hk with rfl|hk
  ·exact h.1
  ·exact qZ h.2 k hk
theorem Js:∀ {l:List Oper},(l.filterMap (·.dst)).Nodup→∀ (i j:Nat) (o o':Oper) (s:Nat),l[i]?=some o→l[j]?=some o'→o.dst=some s→o'.dst=some s→i=j
 | [],_,i,_,_,_,_,h,_,_,_=>by simp at h
 | x::r,hn,i,j,o,o',s,hi,hj,ho,ho'=>by
  have hin:∀ (k:Nat) (o:Oper),r[k]?=some o→o.dst=some s→s∈r.filterMap (·.dst):=fun k o hk hs=>List.mem_filterMap.2 ⟨o,ajU hk,hs⟩
  rw[List.filterMap_cons] at hn
  have hr:(r.filterMap (·.dst)).Nodup:=by
   split at hn
   ·exact hn
   ·exact(List.nodup_cons.1 hn).2
  have hx:x.dst=some s→s∉r.filterMap (·.dst):=fun e=>by
   rw[e] at hn;exact(List.nodup_cons.1 hn).1
  cases i with
  | zero=>
   cases j with
   | zero=>rfl
   | succ j=>
    obtain rfl:x=o:=by simpa using hi
    exact absurd (hin j o' (by simpa using hj) ho') (hx ho)
  | succ i=>
   cases j with
   | zero=>
    obtain rfl:x=o':=by simpa using hj
    exact absurd (hin i o (by simpa using hi) ho) (hx ho')
   | succ j=>rw[Js hr i j o o' s (by simpa using hi) (by simpa using hj) ho ho']
def xs(F:List Nat)(K:List Kn):List Nat:=K.filterMap fun k=>if F.contains k.1 then some k.2.1 else none
theorem aQ.swap{B:Nat}{w0 w:World}{b1 b2:Bx}{bs:List Bx}{rs:List Rw}(M:aQ B w0 w (b1::b2::bs) rs):aQ B w0 w (b2::b1::bs) rs:=by
 have hp:∀ b,b∈b2::b1::bs→b∈b1::b2::bs:=fun b hb=>by
  simp only[ajN] at hb ⊢;rcases hb with h|h|h
  ·exact .inr (.inl h)
  ·exact .inl h
  ·exact .inr (.inr h)
 exact⟨M.below,M.le,M.old,fun b hb=>M.box b (hp b hb),fun b hb=>M.lo b (hp b hb),((List.Perm.swap b1 b2 bs).map Prod.fst).symm.nodup_iff.1 M.nd,M.row,fun r hr b hb=>M.far r hr b (hp b hb),M.yZ⟩
structure Jm (B:Nat) (w0:World) (bs:List Bx) (u:World):Prop where
 below:ajM B w0 u
 box:∀ b∈bs,wC u b
theorem Jm.b{B:Nat}{w0 u:World}{bs:List Bx}(h:Jm B w0 bs u)(i:Nat){g:Nat}{t:TypeId}{cs:Array Value}(e:bs[i]?=some (g,t,cs))(ht:Nat.blt t 9000=true:=by rfl):Whole u g t cs:=(h.box _ (ajU e)).whole ht
section
variable {P:Program} {Q:Exit→Act→World→Prop}
theorem xG{id:Nat}{l:List Oper}{a:Act}{w:World}{N:Nat}(K:List Kn)(F:List Nat)(t:Tr)(J:World→Prop)
 (hm:P.follows .mixedOrders=true) (jQ:ordered 0 l=true) (hK:(K.all fun k=>((l[k.1]?).bind (·.dst)) == some k.2.1)=true) (hF:(F.all fun i=>K.any fun k=>k.1 == i)=true) (hnd:(l.filterMap (·.dst)).Nodup) (hbd:((l.filterMap (·.dst)).all fun s=>Nat.blt s N)=true)
 (Wq:((cand l F []).all fun i=>(heads t).contains i)=true) (hsub:lY l F t []=true)
 (hf:Fr a N) (hfl:uF P l F K J a N K) (hJ:J w.drew) (hsp:Kq P l.toArray l K (xs F K) J (Q .normal) t a w.drew):(Code.region id l.toArray true).wp P Q a w:=by
 have hidx:=Js hnd
 have G3:∀ k∈K,∃ o:Oper,l[k.1]?=some o∧o.dst=some k.2.1:=fun k hk=>by
  have h:=ajT.1 hK k hk;have h:(l[k.1]?).bind (·.dst)=some k.2.1:=by simpa using h
  cases e:l[k.1]? with
  | none=>rw[e] at h;cases h
  | some o=>rw[e] at h;exact⟨o,rfl,h⟩
 have hin:∀ (i:Nat) (o:Oper) (s:Nat),l[i]?=some o→o.dst=some s→(l.filterMap (·.dst)).contains s=true:=fun i o s ho hs=>by
  have:s∈l.filterMap (·.dst):=List.mem_filterMap.2 ⟨o,ajU ho,hs⟩;simpa using this
 refine rX hm jQ (fun L b u=>(∀ j o,l[j]?=some o→L j=true→∀ e∈o.after.toList,Region.binds .any e=true→L e.on=true)∧Fr b N∧(J u∨∀ f,F.contains f=true→L f=true)∧(∀ j v,(l.filterMap (·.dst)).contains j=false→At a j v→At b j v) ∧
  (∀ k∈K,L k.1=true→At b k.2.1 k.2.2)∧∃ t E a0,(∀ j,j<l.length→F.contains j=false→L j=E.contains j)∧((cand l F E).all fun i=>(heads t).contains i)=true∧lY l F t E=true∧Aa (xs F K) a0 b∧Kq P l.toArray l K (xs F K) J (Q .normal) t a0 u) ?_ ?_ ?_
 ·exact⟨fun _ _ _ h=>(by cases h),hf,.inl hJ,fun _ _ _ h=>h,fun _ _ h=>(by cases h),t,[],a,fun _ _ _=>rfl,Wq,hsub,.refl _ _,hsp⟩
 ·have key:∀ (i:Nat) (o:Oper),l[i]?=some o→∀ (L:Nat→Bool) (b:Act) (u:World) (Q':Exit→Act→World→Prop),((∀ j o,l[j]?=some o→L j=true→∀ e∈o.after.toList,Region.binds .any e=true→L e.on=true)∧Fr b N∧(J u∨∀ f,F.contains f=true→L f=true)∧(∀ j v,(l.filterMap (·.dst)).contains j=false→At a j v→At b j v) ∧
   (∀ k∈K,L k.1=true→At b k.2.1 k.2.2)∧∃ t E a0,(∀ j,j<l.length→F.contains j=false→L j=E.contains j)∧((cand l F E).all fun i=>(heads t).contains i)=true∧lY l F t E=true∧Aa (xs F K) a0 b∧Kq P l.toArray l K (xs F K) J (Q .normal) t a0 u)→L i=false →
   (∀ e∈o.after.toList,Region.binds .any e=true→L e.on=true) →
   (∀ b u,((∀ j o,l[j]?=some o→upd L i j=true→∀ e∈o.after.toList,Region.binds .any e=true→upd L i e.on=true)∧Fr b N∧(J u∨∀ f,F.contains f=true→upd L i f=true)∧(∀ j v,(l.filterMap (·.dst)).contains j=false→At a j v→At b j v) ∧
   (∀ k∈K,upd L i k.1=true→At b k.2.1 k.2.2)∧∃ t E a0,(∀ j,j<l.length→F.contains j=false→upd L i j=E.contains j)∧((cand l F E).all fun i=>(heads t).contains i)=true∧lY l F t E=true∧Aa (xs F K) a0 b∧Kq P l.toArray l K (xs F K) J (Q .normal) t a0 u)→Q' .normal b u)→wpList P l.toArray Q' [o] b u:=by
   intro i o ho L b u Q' ⟨hcl,hfr,hj,hout,hkn,t,E,a0,JF,hc,hs,hag,hsp⟩ hL hA Ci;have ET:=(ajP.1 ho).1;have up:∀ j,L j=true→upd L i j=true:=fun j hj=>by simp[upd,hj]
   have hcl':∀ j o,l[j]?=some o→upd L i j=true→∀ e∈o.after.toList,Region.binds .any e=true→upd L i e.on=true:=by
    intro j o' hj G2 e he hb;by_cases hji:j=i
    ·subst hji;obtain rfl:o=o':=ajV (ho.symm.trans hj);exact up _ (hA e he hb)
    ·have hne:(j == i)=false:=by simpa using hji
     exact up _ (hcl j o' hj (by simpa[upd,hne] using G2) e he hb)
   have mN:∀ (n:Nat) (k:Kn),K[n]?=some k→Bd o k.1→At b k.2.1 k.2.2:=fun n k hk ⟨gr,he,hb⟩=>hkn k (ajU hk) (hA _ he hb)
   have keep:∀ {b':Act} {d:Nat} {v:Value},o.dst=some d→Put b d v b'→(∀ k∈K,k.1=i→k.2.2=v)→(∀ j v,(l.filterMap (·.dst)).contains j=false→At a j v→At b' j v)∧∀ k∈K,upd L i k.1=true→At b' k.2.1 k.2.2:=by
    intro b' d v hd hp hv;constructor
    ·intro j x Wk hx;refine hp.old ?_ (hout j x Wk hx)
     cases e:j == d with
     | false=>rfl
     | true=>
      have e':j=d:=by simpa using e
      rw[e',hin i o d ho hd] at Wk;cases Wk
    ·intro k hk Wt;obtain⟨o',ho',hd'⟩:=G3 k hk;by_cases hki:k.1=i
     ·rw[hki] at ho';obtain rfl:o=o':=ajV (ho.symm.trans ho');obtain rfl:d=k.2.1:=ajV (hd.symm.trans hd');rw[hv k hk hki];exact hp.now
     ·have hne:(k.1 == i)=false:=by simpa using hki
      refine hp.old ?_ (hkn k hk (by simpa[upd,hne] using Wt))
      cases e:k.2.1 == d with
      | false=>rfl
      | true=>
       have e':k.2.1=d:=by simpa using e
       exact absurd (hidx k.1 i o' o d ho' ho (by rw[hd',e']) hd) hki
   cases G6:F.contains i with
   | true=>
    have hj:J u:=by
     rcases hj with hj|hj
     ·exact hj
     ·rw[hj i G6] at hL;cases hL
    obtain⟨k,hk,hki⟩:=List.any_eq_true.1 (ajT.1 hF i (by simpa using G6));have hki:k.1=i:=by simpa using hki
    obtain⟨o',ho',hd'⟩:=G3 k hk;rw[hki] at ho';obtain rfl:o=o':=ajV (ho.symm.trans ho');obtain⟨hw,hr⟩:=qZ hfl k hk (by rw[hki];exact G6) o (by rw[hki];exact ho) b u hfr hj hout mN
    have hsN:k.2.1<N:=by
     have:=ajT.1 hbd k.2.1 (List.mem_filterMap.2 ⟨o,ajU ho,hd'⟩);simpa using this
    refine pS hw hr hd' hfr hsN fun b' hp=>ajW (Ci b' u ?_)
    have hkv:∀ k'∈K,k'.1=i→k'.2.2=k.2.2:=fun k' hk' e=>by
     obtain⟨_,_,_⟩:=G3 k' hk';obtain⟨w2,h2⟩:=qZ hfl k' hk' (by rw[e];exact G6) o (by rw[e];exact ho) b u hfr hj hout mN;rw[hr] at h2;injection h2 with h2;injection h2 with h2;exact h2.symm
    obtain⟨g1,g2⟩:=keep hd' hp hkv;refine⟨hcl',hp.fr hfr,.inl hj,g1,g2,t,E,a0,fun j hjl JC=>?_,hc,hs,hag.put hp ?_,hsp⟩
    ·have hne:(j == i)=false:=by
      cases e:j == i with
      | false=>rfl
      | true=>
       have e':j=i:=by simpa using e
       rw[e',G6] at JC;cases JC
     rw[← JF j hjl JC];simp[upd,hne]
    ·have:k.2.1∈xs F K:=List.mem_filterMap.2 ⟨k,hk,by rw[hki,G6];rfl⟩;simpa using this
   | false=>
    have hEi:E.contains i=false:=by rw[← JF i ET G6];exact hL
    have hmem:=Gu (F:=F) (E:=E) ho G6 hEi fun e he hb=>by
     have hLe:=hA e he hb;have hlt:=mL 0 l jQ i o ho e he hb
     cases hFe:F.contains e.on with
     | true=>exact .inl rfl
     | false=>exact .inr (by rw[← JF e.on (by omega) hFe];exact hLe)
    have hh:=ajT.1 hc i hmem
    have fin:∀ a1,Moved K i o b a1→Fr a1 N∧(∀ j v,(l.filterMap (·.dst)).contains j=false→At a j v→At a1 j v)∧∀ k∈K,upd L i k.1=true→At a1 k.2.1 k.2.2:=by
     intro a1 Qz;rcases Qz with⟨hd,rfl⟩|⟨d,v,hd,hp,hv⟩
     ·refine⟨hfr,hout,fun k hk Wt=>?_⟩;obtain⟨o',ho',hd'⟩:=G3 k hk;by_cases hki:k.1=i
      ·rw[hki] at ho';obtain rfl:o=o':=ajV (ho.symm.trans ho');rw[hd] at hd';cases hd'
      ·have hne:(k.1 == i)=false:=by simpa using hki
       exact hkn k hk (by simpa[upd,hne] using Wt)
     ·obtain⟨g1,g2⟩:=keep hd hp fun k hk e=>by
       obtain⟨n,hn⟩:=List.getElem?_of_mem hk;exact hv n k hn e
      exact⟨hp.fr hfr,g1,g2⟩
    rcases Bv hsp hs (j:=i) (by simpa using hh) with⟨t',h1,h2⟩|⟨h1,h2⟩
    ·simp only[lY,ajS] at h2;refine h1 o ho b hag mN Q' fun a1 w1 hJ1 Qz hS=>Ci a1 w1 ?_
     have fin:=fin a1 Qz;refine⟨hcl',fin.1,.inl hJ1,fin.2.1,fin.2.2,t',i::E,a1,fun j hjl JC=>?_,h2.1.2,h2.2,.refl _ _,hS⟩;simp only[upd,List.contains_cons,JF j hjl JC]
    ·simp only[lY,ajS] at h2;refine h1 o ho b hag mN Q' fun a1 w1 Qz hS=>Ci a1 w1 ?_
     have fin:=fin a1 Qz;refine⟨hcl',fin.1,.inr fun f hfF=>?_,fin.2.1,fin.2.2,.done,i::E,a1,fun j hjl JC=>?_,h2.1.1.2,h2.1.2,.refl _ _,hS⟩
     ·have h3:=h2.2;rw[ho] at h3;obtain⟨e,he,hb⟩:=List.any_eq_true.1 (ajT.1 h3 f (by simpa using hfF));simp only[ajS,beq_iff_eq] at hb;exact up f (by rw[← hb.2];exact hA e he hb.1)
     ·simp only[upd,List.contains_cons,JF j hjl JC]
  have all:∀ (r:List Oper) (m:Nat),(∀ i o,r[i]?=some o→l[m+i]?=some o)→tE P l.toArray (fun L b u=>(∀ j o,l[j]?=some o→L j=true→∀ e∈o.after.toList,Region.binds .any e=true→L e.on=true)∧Fr b N∧(J u∨∀ f,F.contains f=true→L f=true)∧(∀ j v,(l.filterMap (·.dst)).contains j=false→At a j v→At b j v) ∧
   (∀ k∈K,L k.1=true→At b k.2.1 k.2.2)∧∃ t E a0,(∀ j,j<l.length→F.contains j=false→L j=E.contains j)∧((cand l F E).all fun i=>(heads t).contains i)=true∧lY l F t E=true∧Aa (xs F K) a0 b∧Kq P l.toArray l K (xs F K) J (Q .normal) t a0 u) m r:=by
   intro r
   induction r with
   | nil=>intro m _;trivial
   | cons o r ih=>
    intro m h;refine⟨fun L b u Q' hI hL hA hK=>key m o (h 0 o rfl) L b u Q' hI hL hA hK,ih (m+1) fun i o' ho'=>?_⟩;have:=h (i+1) o' (by simpa using ho')
    rwa [show m+1+i=m+(i+1) by omega]
  exact all l 0 fun i o ho=>by simpa using ho
 ·intro L b u ⟨hcl,hfr,hj,hout,hkn,t,E,a0,JF,hc,hs,hag,hsp⟩ hall
  have h:=KM hsp hs fun j hjl=>by
   cases hF:F.contains j with
   | true=>exact .inl rfl
   | false=>exact .inr (by rw[← JF j hjl hF];exact hall j hjl)
  exact h b hag fun n k hk=>hkn k (ajU hk) (hall k.1 (by
   obtain⟨o,ho,_⟩:=G3 k (ajU hk);exact(ajP.1 ho).1))
end
section
variable (P:Program) (fn:Func) (R:Ending→World→Prop) (N:Nat)
theorem hrC(s:Nat)(ty:TypeId)(hr:fn.results=#[.cell s ty]){d:TypeDesc}(hu:P.underlying ty=some d)(hd:(match d with|.struct _|.array _ _=>true|_=>false)=true){n:Nat}(hi:(P.info? ty).map (·.size)=some n)
 (a:Act) (w:World) (l:Slots) (g:Nat) (t:TypeId) (cs:Array Value) (F:Fs a N l) (hv:look s l=some (.pointer (some ⟨g,0,none⟩))) (hW:Whole w g t cs) (hn:Nat.beq n cs.size=true) (hR:R (.returned (.agg cs)) w) (hD:DS.ds=[]:=by rfl):bodyPost P fn R .ret a w:=by
 refine⟨F.fr.defers.trans hD,_,?_,hR⟩;have h:=F.e s hv;have hs:(P.info? ty).map (·.size)=some cs.size:=by rw[hi,ajL hn]
 have h2:a.tmps.getD s undef=.pointer (some ⟨g,0,none⟩):=h;rw[ajZ] at h2;simp[results,hr,h2,asAddr,run_loadVar_row w g t ty cs (0,0) d hW hu hd hs]
end
end Go.Proofs.YtkkmjdceiocnbaaGreatDoor

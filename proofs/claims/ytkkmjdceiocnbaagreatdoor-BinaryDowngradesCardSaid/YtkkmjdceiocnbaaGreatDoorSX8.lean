import Derived.Test.YtkkmjdceiocnbaaGreatDoorSX7
open Go.RowKit renaming Below→ajw
open List renaming mem_of_getElem?→ajx,getElem?_eq_getElem→ajz,take_length→ajA,length_append→ajB,flatMap_append→ajC
open Nat renaming zero_le→ajy
set_option maxRecDepth 100000
set_option maxHeartbeats 8000000
set_option linter.unusedSectionVars false
set_option linter.unusedSimpArgs false
set_option linter.unusedVariables false
namespace Go.Proofs.YtkkmjdceiocnbaaGreatDoor
open Go Go.RowKit
def CV(k:Int):List PanicEntry:=[{ v:=.iface 43 (.int .i64 k),recovered:=false }]
theorem H_{P:Program}{a:Act}{w:World}{o:Oper}{t:TypeId}{x:Operand}{v:Value}(ho:o.op=.makeInterface t x)(hx:a.eval x=v)(hc:P.concrete t=true):(execOp a.eval o).run P w=.ok (.value (.iface t v)) w:=by
 unfold execOp;simp[ho,hx,Sem.run_bind,run_makeInterface w t v hc,Result.andThen_ok,Sem.run_pure]
theorem L_{w0:World}:Calls Tryz.prog 135 #[.int .i64 0] w0 (fun r w'=>r=.returned (.tuple #[])∧ajw w0.heap.size w0 w'):=by
 exact bU [] (fn:=Tryz.f135) Tryz.func135 rfl Tryz.ntmps135 rfl<|an (fun h=>absurd h (by decide)) fun _=>fun M=>⟨rfl,M.below⟩
theorem SI{w0:World}{e:Int}(he:e≠0):Calls Tryz.prog 135 #[.int .i64 e] w0 (fun r w'=>r=.panicked (CV e)∧ajw w0.heap.size w0 w'):=by
 exact Vu [] (fn:=Tryz.f135) Tryz.func135 rfl Tryz.ntmps135 rfl<|an (fun _=>ei (x:=.iface 43 (.int .i64 e))<|an (fun a w o ho hv=>H_ ho (aQ hv) (by kernel_rfl)) ⟨rfl,ajw.refl _ _⟩) fun h=>absurd h (by simpa using he)
theorem Im{w0:World}{k:Int}:Calls Tryz.prog 134 #[.bool true,.int .i64 k] w0 (fun r w'=>r=.returned (.tuple #[])∧ajw w0.heap.size w0 w'):=by
 exact bU [] (fn:=Tryz.f134) Tryz.func134 rfl Tryz.ntmps134 rfl<|an (fun h=>absurd h (by decide)) fun _=>fun M=>⟨rfl,M.below⟩
theorem QA{w0:World}{k:Int}:Calls Tryz.prog 134 #[.bool false,.int .i64 k] w0 (fun r w'=>r=.panicked (CV k)∧ajw w0.heap.size w0 w'):=by
 exact Vu [] (fn:=Tryz.f134) Tryz.func134 rfl Tryz.ntmps134 rfl<|an (fun _=>ei (x:=.iface 43 (.int .i64 k))<|an (fun a w o ho hv=>H_ ho (aQ hv) (by kernel_rfl)) ⟨rfl,ajw.refl _ _⟩) fun h=>absurd h (by decide)
section
variable {α β:Type} {w0 w w':World} {bs L:List Bx} {rs:List Rw} {B:Nat} {X:Prop} {KP:PK} {Pn:List PanicEntry→World→Prop} {K:Value→List Bx→List Rw→World→Prop} {e k:Int} {b:Bool}
theorem Xp(M:aC B w0 w bs rs)(h:∀ w',aC B w0 w' bs rs→K (.tuple #[]) bs rs w'):X∨∃ R:Value→World→Prop,Calls Tryz.prog 135 #[.int .i64 0] w (pY KP R)∧∀ v w',R v w'→∃ bs' rs',aC B w0 w' bs' rs'∧K v bs' rs' w':=
 Yk L_ fun w' hb=>⟨_,_,M.keep hb,h w' (M.keep hb)⟩
theorem Vb(he:e≠0)(h:∀ w',ajw w.heap.size w w'→Pn (CV e) w'):X∨∃ R:Value→World→Prop,Calls Tryz.prog 135 #[.int .i64 e] w (pY (some Pn) R)∧∀ v w',R v w'→∃ bs' rs',aC B w0 w' bs' rs'∧K v bs' rs' w':=
 Xn ((SI he).mono fun _ _ ⟨h1,h2⟩=>⟨_,h1,h _ h2⟩)
theorem Um(hb:b=true)(M:aC B w0 w bs rs)(h:∀ w',aC B w0 w' bs rs→K (.tuple #[]) bs rs w'):X∨∃ R:Value→World→Prop,Calls Tryz.prog 134 #[.bool b,.int .i64 k] w (pY KP R)∧∀ v w',R v w'→∃ bs' rs',aC B w0 w' bs' rs'∧K v bs' rs' w':=by
 subst hb;exact Yk Im fun w' hb=>⟨_,_,M.keep hb,h w' (M.keep hb)⟩
theorem Oz(hb:b=false)(h:∀ w',ajw w.heap.size w w'→Pn (CV k) w'):X∨∃ R:Value→World→Prop,Calls Tryz.prog 134 #[.bool b,.int .i64 k] w (pY (some Pn) R)∧∀ v w',R v w'→∃ bs' rs',aC B w0 w' bs' rs'∧K v bs' rs' w':=by
 subst hb;exact Xn (QA.mono fun _ _ ⟨h1,h2⟩=>⟨_,h1,h _ h2⟩)
@[reducible] def bI(R:Nat)(u:Value)(ver:Int):Bx:=(R,116,#[u,.int .i64 ver])
def RD(w0 w:World)(R:Nat)(ver:Int)(bs:List Bx)(rs:List Rw)(l:List Nat):Prop:=∃ u,fQ u l∧aj w0 u l∧aC w0.heap.size w0 w (bI R u ver::bs) rs
def cr(w0:World)(R:Nat)(ver:Int)(bs:List Bx)(rs:List Rw)(P:List Rw→Value→α→Prop)(res:Except Int (α×List Nat))(e:Ending)(w':World):Prop:=match res with
 | .ok (x,l)=>∃ v T,e=.returned v∧P T v x∧RD w0 w' R ver bs (rs++T) l
 | .error k=>e=.panicked (CV k)∧ajw w0.heap.size w0 w'
@[reducible] def kZ(val:α→Value)(T:List Rw)(v:Value)(x:α):Prop:=T=[]∧v=val x
variable {R R0:Nat} {ver Vs:Int} {P:List Rw→Value→α→Prop} {P0:List Rw→Value→β→Prop} {res:Except Int (α×List Nat)} {Jb:Except Int (β×List Nat)} {bs0:List Bx} {rs0 T:List Rw} {u v:Value} {l:List Nat} {x:α} {val:α→Value}
theorem cr.err(h:res=.error k)(hb:ajw w0.heap.size w0 w'):cr w0 R ver bs rs P res (.panicked (CV k)) w':=by subst h;exact⟨rfl,hb⟩
theorem cr.fin(h:res=.ok (x,l))(hP:P T v x)(hs:fQ u l)(hb:aj w0 u l)(M:aC w0.heap.size w0 w' (bI R u ver::bs) (rs++T)):cr w0 R ver bs rs P res (.returned v) w':=by subst h;exact⟨v,T,rfl,hP,u,hs,hb,M⟩
theorem cr.one(h:res=.ok (x,l))(hv:v=val x)(hs:fQ u l)(hb:aj w0 u l)(M:aC w0.heap.size w0 w' (bI R u ver::bs) rs):cr w0 R ver bs rs (kZ val) res (.returned v) w':=by subst h;exact⟨v,[],rfl,⟨rfl,hv⟩,u,hs,hb,by rw[List.append_nil];exact M⟩
theorem rH{f:FuncId}{args:Array Value}{p:Ps α}{g:α→Ps β}(i:Nat)(hr:Jb=pb p g l)(M:aC w0.heap.size w0 w L rs)(hi:L[i]?=some (bI R u ver))
 (hc:aC w0.heap.size w0 w (bI R u ver::L.eraseIdx i) rs→Calls Tryz.prog f args w (cr w0 R ver (L.eraseIdx i) rs P (p l)))
 (h:∀ v T x l' u' w',p l=.ok (x,l')→Jb=g x l'→P T v x→fQ u' l'→aj w0 u' l'→pW L i (bI R u' ver) fun L'=>aC w0.heap.size w0 w' L' (rs++T)→K v L' (rs++T) w') :
 X∨∃ R:Value→World→Prop,Calls Tryz.prog f args w (pY (some fun ch w=>cr w0 R0 Vs bs0 rs0 P0 Jb (.panicked ch) w) R)∧∀ v w',R v w'→∃ bs' rs',aC w0.heap.size w0 w' bs' rs'∧K v bs' rs' w':=by
 have hc':=hc (M.rC (lU hi))
 cases hp:p l with
 | error k=>
  rw[hp] at hc';refine .inr ⟨fun _ _=>False,hc'.mono fun e w' ⟨h1,h2⟩=>.inr ⟨_,h1,?_⟩,fun _ _ h=>h.elim⟩;refine cr.err ?_ h2;rw[hr];unfold pb;rw[hp]
 | ok y=>
  obtain⟨x,l'⟩:=y;rw[hp] at hc';refine .inr ⟨fun v w'=>∃ T,P T v x∧RD w0 w' R ver (L.eraseIdx i) (rs++T) l',hc'.mono fun e w' ⟨v,T,h1,h2,h3⟩=>.inl ⟨v,h1,T,h2,h3⟩,?_⟩;rintro v w' ⟨T,h2,u',hs,hb,M'⟩;have M2:=M'.rC (sP hi);exact⟨_,_,M2,lg (h v T x l' u' w' hp (by rw[hr];unfold pb;rw[hp]) h2 hs hb) M2⟩
theorem dI{f:FuncId}{args:Array Value}{p:Ps α}{g:α→Ps β}(i:Nat)(hr:Jb=pb p g l)(M:aC w0.heap.size w0 w L rs)(hi:L[i]?=some (bI R u ver))
 (hc:aC w0.heap.size w0 w (bI R u ver::L.eraseIdx i) rs→Calls Tryz.prog f args w (cr w0 R ver (L.eraseIdx i) rs (kZ val) (p l)))
 (h:∀ x l' u' w',p l=.ok (x,l')→Jb=g x l'→fQ u' l'→aj w0 u' l'→pW L i (bI R u' ver) fun L'=>aC w0.heap.size w0 w' L' rs→K (val x) L' rs w') :
 X∨∃ R:Value→World→Prop,Calls Tryz.prog f args w (pY (some fun ch w=>cr w0 R0 Vs bs0 rs0 P0 Jb (.panicked ch) w) R)∧∀ v w',R v w'→∃ bs' rs',aC w0.heap.size w0 w' bs' rs'∧K v bs' rs' w':=by
 refine rH i hr M hi hc ?_;rintro v T x l' u' w' hp hr' ⟨rfl,rfl⟩ hs hb;rw[List.append_nil];exact h x l' u' w' hp hr' hs hb
end
section
variable {w0 w:World} {bs:List Bx} {rs:List Rw} {R:Nat} {ver:Int} {u:Value} {l:List Nat}
@[reducible] def v64(n:Nat):Value:=.int .u64 (n:Int)
@[reducible] def Vx(n:Int):Value:=.int .i64 n
@[reducible] def v32(n:Nat):Value:=.int .i64 (n:Int)
@[reducible] def YD(s:aq):Value:=.agg #[.int .u64 s.a,.int .u64 s.b,.int .u64 s.c,.int .u64 s.d]
theorem EJ(M:aC w0.heap.size w0 w (bI R u ver::bs) rs)(hs:fQ u l)(hb:aj w0 u l):Calls Tryz.prog 149 #[.pointer (some ⟨R,0,none⟩)] w (cr w0 R ver bs rs (kZ v64) (nG l)):=by
 unfold nG;have ho:=Hj hs (hb.keep M.below);obtain⟨n,r,e,hX⟩:∃ n r e,number l=(n,r,e):=⟨_,_,_,rfl⟩;rw[hX] at ho ⊢;dsimp only at ho ⊢;refine dY M [] (fn:=Tryz.f149) Tryz.func149 rfl Tryz.ntmps149 rfl<|lb 0<|an rfl<|Rp (R:=fun x w'=>∃ u1,x=.tuple #[.int .u64 (n:Int),u1,.int .i64 e]∧tU u l u1 r e∧ajw w.heap.size w w') (ho.mono fun _ _ ⟨u,h1,h2⟩=>⟨_,h1,u,rfl,h2⟩) ?_;rintro _ w1 ⟨u1,rfl,hl,hb1⟩;have M1:=M.keep hb1;refine⟨_,_,M1,?_⟩;by_cases he:e=0
 ·subst he;obtain⟨⟨g,off,c,rfl,hc⟩,h2⟩:=hl.ok;exact Xp M1 fun w2 M2=>lb 0<|an ⟨rfl,rfl⟩ fun w3 M3=>fun M=>cr.one (if_pos rfl) rfl ⟨g,off,c,rfl,hc⟩ (h2 _ hb) M
 ·exact Vb he fun w' h=>cr.err (by rw[if_neg he]) (M1.keep h).below
theorem cH(M:aC w0.heap.size w0 w (bI R u ver::bs) rs)(hs:fQ u l)(hb:aj w0 u l):Calls Tryz.prog 234 #[.pointer (some ⟨R,0,none⟩)] w (cr w0 R ver bs rs (kZ v32) (Pm l)):=by
 refine dY M [] (fn:=Tryz.f234) Tryz.func234 rfl Tryz.ntmps234 rfl<|dI 0 rfl M rfl (fun M=>EJ M hs hb) ?_;intro n l1 u1 w1 hp hr hs1 hb1 M1;by_cases h:n<4294967296
 ·exact Um (decide_eq_true (by omega)) M1 fun w2 M2=>ei (x:=.int .i64 (n:Int))<|an (fun a w o ho hv=>(dw ho (aQ hv) uR u3).trans (by rw[zI _ (by omega)]))<|fun M=>cr.one (by rw[hr,if_pos h];rfl) rfl hs1 hb1 M
 ·exact Oz (decide_eq_false (by omega)) fun w' hb=>cr.err (by rw[hr,if_neg h];rfl) (M1.keep hb).below
end
theorem aC.Dr{B:Nat}{w0 w w':World}{bs bs':List Bx}{rs:List Rw}(M:aC B w0 w bs rs)(N:aC w.heap.size w w' bs' []):aC B w0 w' (bs'++bs) rs:=by
 have M':=M.keep N.below;refine⟨M'.below,M'.le,M'.old,fun b hb=>?_,fun b hb=>?_,?_,M'.row,fun r hr b hb=>?_,M'.tZ⟩
 ·rcases List.mem_append.1 hb with hb|hb
  ·exact N.box b hb
  ·exact M'.box b hb
 ·rcases List.mem_append.1 hb with hb|hb
  ·exact Nat.le_trans M.big (N.lo b hb)
  ·exact M'.lo b hb
 ·rw[List.map_append];refine List.nodup_append.2 ⟨N.nd,M.nd,fun x hx y hy e=>?_⟩;obtain⟨b,hb,rfl⟩:=List.mem_map.1 hx;obtain⟨c,hc,rfl⟩:=List.mem_map.1 hy;have:=N.lo b hb;have:=(M.box c hc).lt;omega
 ·rcases List.mem_append.1 hb with hb|hb
  ·intro e;have:=N.lo b hb;have:=((M.row r hr).lt _ e).2;omega
  ·exact M'.far r hr b hb
def YA(B:Nat)(w0:World)(N:Nat)(l:Slots):List Oper→Nat→List eV→List Bx→List Rw→World→(Nat→List eV→List Bx→List Rw→World→Prop)→Prop
 | [],n,m,bs,rs,w,K=>K n m bs rs w
 | o::r,n,m,bs,rs,w,K=>sx none B w0 N l o n m bs rs w fun m' bs' rs' w'=>YA B w0 N l r (n+1) m' bs' rs' w' K
theorem Ld{ops:Array Oper}{B:Nat}{w0:World}{N:Nat}{l:Slots}{Q:Exit→Act→World→Prop}{L2:List Oper}{K:Slots→List Bx→List Rw→World→List Bx→List Rw→World→Prop}:∀ {L:List Oper} {n:Nat} {a:Act} {m:List eV} {bs:List Bx} {rs:List Rw} {w:World},(∀ i o,(L++L2)[i]?=some o→ops[n+i]?=some o)→Inv ops a N l m n→aC B w0 w bs rs→YA B w0 N l L n m bs rs w (fun n m zA zn w1=>vc none w1.heap.size w1 N l L2 n m [] [] w1 fun l' Rx QM w2=>K l' zA zn w1 Rx QM w2) →
 (∀ a l' zA zn w1 Rx QM w2,Fs a N l'→aC B w0 w1 zA zn→aC w1.heap.size w1 w2 Rx QM→K l' zA zn w1 Rx QM w2→Q .normal a w2)→wpList Tryz.prog ops Q (L++L2) a w
 | [],n,_,_,_,_,w,lC,I,M,h,next=>GX (fun i o hi=>lC i o hi) I (Mm.start w) h (fun _ h=>by cases h) fun a l' Rx QM w2 F M2 hk=>next a l' _ _ _ _ _ _ F M M2 hk
 | o::r,n,_,_,_,_,_,lC,I,M,h,next=>by
  refine ld I M (by simpa using lC 0 o rfl) h (fun _ h=>by cases h) fun a' m' bs' rs' w' I' M' h'=>?_
  exact Ld (fun i o hi=>by have:=lC (i+1) o (by simpa using hi);rwa [show n+1+i=n+(i+1) by omega]) I' M' h' next
theorem OP{f:FuncId}{fn:Func}{x y:Code}{id:Nat}{ops:Array Oper}{N:Nat}(k:Nat)(J:List Nat){vs:List Value}{R:Ending→World→Prop}{w0:World}(hf:Tryz.prog.funcs[f]?=some fn)(hb:fn.body=some (.seq x (.seq (.region id ops false) y)))(hn:fn.ntmps=N)(hN:Nat.ble vs.length N=true)
 (h:zj none w0.heap.size w0 N J x (FW 0 vs) [] [] w0 fun e l bs rs w=>e=.normal∧YA w0.heap.size w0 N l (ops.toList.take k) 0 [] bs rs w fun n m zA zn w1=>vc none w1.heap.size w1 N l (ops.toList.drop k) n m [] [] w1 fun l' Rx QM w2=>QM=[]∧(ajw w1.heap.size w1 w2→zj none w0.heap.size w0 N J y l' (Rx++zA) zn w2 (Ez fn w0.heap.size w0 R))):Calls Tryz.prog f vs.toArray w0 R:=by
 refine en hf hb hn (by simpa using hN) rfl fun a F=>wp_seq (gF h F (Mm.start w0) (fun _ h=>by cases h) fun e a l bs rs w F M ⟨he,hk⟩=>?_)
 subst he;refine wp_seq (wp_region_list ?_)
 have key:wpList Tryz.prog ops (Exit.then (Code.wp Tryz.prog y (bodyPost Tryz.prog fn R)) (bodyPost Tryz.prog fn R)) (ops.toList.take k++ops.toList.drop k) a w:=by
  refine Ld (fun i o hi=>?_) (Inv.start F) M hk fun a l' zA zn w1 Rx QM w2 F M1 M2 ⟨h1,h2⟩=>?_
  ·rw[Nat.zero_add];rw[List.take_append_drop] at hi;simpa using hi
  ·subst h1;refine gF (h2 M2.below) F (M1.Dr M2) (fun _ h=>by cases h) fun e a l bs rs w F M hk=>?_
   cases e with
   | normal=>exact pQ (gj F M hk)
   | ret=>exact gj F M hk
   | _=>exact hk.elim
 rwa [List.take_append_drop] at key
theorem Iw{P:Program}{ops ops':Array Oper}{Q:Exit→Act→World→Prop}{S:Act→World→Prop}{o:Oper}{a:Act}{w:World}(hg:Region.wanted o (yielded ops a.tmps)=Region.wanted o (yielded ops' a.tmps))(hS:∀ a w,S a w→a.defers=[])(h0:a.defers=[])
 (h:wpList P ops' (fun e a w=>e=.normal∧S a w) [o] a w) (next:∀ a1 w1,S a1 w1→(∃ v,a1=a.put o.dst v)→Q .normal a1 w1):wpList P ops Q [o] a w:=by
 have hno:¬ LetsOut (fun e a w=>e=Exit.normal∧S a w):=fun⟨_,_,h,_⟩=>by cases h
 unfold wpList at h ⊢;rw[hg];split at h
 case isFalse hw=>
  rw[if_neg hw];exact next _ _ h.2 ⟨_,rfl⟩
 case isTrue hw=>
  rw[if_pos hw];rcases h with h|⟨_,h⟩
  case inr=>exact absurd h hno
  refine .inl ?_;unfold Oper.wp at h ⊢;generalize (execOp a.eval o).run P w=r at h ⊢
  match r,h with
  | .ok (.value v) w',h=>exact next _ _ h.2 ⟨_,rfl⟩
  | .ok .skip w',h=>exact next _ _ h.2 ⟨_,rfl⟩
  | .ok (.defer d) w',h=>exact absurd ((hS _ _ h.2).trans h0.symm) (by cases o.dst<;>simp[Act.put])
  | .ok (.enter f args) w',h=>
   refine Calls.mono h fun e w'' h=>?_
   match e,h with
   | .returned v,h=>exact next _ _ h.2 ⟨_,rfl⟩
   | .panicked c,h=>cases h.1
   | .outgrown,h=>exact absurd h hno
  | .ok (.row row args) w',h=>exact Rows.mono h fun v w'' h=>next _ _ h.2 ⟨_,rfl⟩
  | .halt (.panic v) w',h=>cases h.1
def gOk(L P:List Oper)(o:Oper):Bool:=match o.guard with
 | none=>true
 | some (j,_)=>((L[j]?).bind (·.dst)) == ((P[j]?).bind (·.dst))
def C4(o:Oper):Oper:={ o with guard:=none }
theorem Vk{P:Program}{ops ops':Array Oper}{Q:Exit→Act→World→Prop}{o:Oper}{a:Act}{w:World}(hw:Region.wanted o (yielded ops a.tmps)=true)(h:wpList P ops' Q [C4 o] a w):wpList P ops Q [o] a w:=by
 unfold wpList at h ⊢;rw[if_pos (dN rfl)] at h;rw[if_pos hw];exact h
def UL(B:Nat)(w0:World)(N:Nat)(l:Slots)(L:List Oper)(K:Slots→List Bx→List Rw→World→Prop):Tr→List Oper→List eV→List Bx→List Rw→World→Prop
 | .done,_,m,bs,rs,w=>mh m l fun l'=>K l' bs rs w
 | .step j t,P,m,bs,rs,w=>p9 L j fun o=>bif gOk L (P++[o]) o then gK m o.guard fun _ on=>on=true∧sx none B w0 N l (C4 o) P.length m bs rs w fun m' bs' rs' w'=>UL B w0 N l L K t (P++[C4 o]) m' bs' rs' w' else False
 | .last _,_,_,_,_,_=>False
 | .alt x y,P,m,bs,rs,w=>UL B w0 N l L K x P m bs rs w∧UL B w0 N l L K y P m bs rs w
theorem Inv.Rz{ops:Array Oper}{a a':Act}{N:Nat}{l:Slots}{m:List eV}{n:Nat}(I:Inv ops a N l m n)(h:vv [] a a'):Inv ops a' N l m n:=
 ⟨h.fr I.fr,I.L,I.dst,fun e he=>h.old rfl (I.at_ e he),fun q v h1 h2=>h.old rfl (I.base q v h1 h2)⟩
theorem Inv.more{P:List Oper}{o:Oper}{a:Act}{N:Nat}{l:Slots}{m:List eV}(I:Inv P.toArray a N l m P.length):Inv (P++[o]).toArray a N l m P.length:=
 ⟨I.fr,I.L,fun e he=>by
  have h:=I.dst e he;have hlt:=I.L.lt e he;simp only[List.getElem?_toArray] at h ⊢
  rwa [List.getElem?_append_left hlt],I.at_,I.base⟩
theorem AP{B:Nat}{w0:World}{N:Nat}{l:Slots}{L:List Oper}{K:Slots→List Bx→List Rw→World→Prop}{Q:Act→World→Prop}(hbd:∀ (j:Nat) (o:Oper) (d:Nat),L[j]?=some o→o.dst=some d→d<N)
 (hQ:∀ a l' bs rs w,Fs a N l'→aC B w0 w bs rs→K l' bs rs w→Q a w):∀ {t:Tr} {P:List Oper} {m:List eV} {bs:List Bx} {rs:List Rw} {a:Act} {w:World},UL B w0 N l L K t P m bs rs w→Inv P.toArray a N l m P.length→aC B w0 w bs rs→Gn Tryz.prog L.toArray L [] [] (fun _=>True) Q t a w
 | .done,P,m,bs,rs,a,w,hv,I,M=>fun a' hA hk=>by
  obtain⟨l',h1,F⟩:=(I.Rz hA).WY hv;exact hQ _ _ _ _ _ F M h1
 | .step j t,P,m,bs,rs,a,w,hv,I,M=>fun o ho a' hA hb Q' hn=>by
  obtain⟨o',ho',hv⟩:=fL hv;obtain rfl:o'=o:=Option.some.inj (ho'.symm.trans ho);obtain⟨hg,hv⟩:=bA hv;have I':=(I.Rz hA).more (o:=o');have I2:=(I.Rz hA).more (o:=C4 o');obtain⟨π,on,⟨hon,hv⟩,-,-,hw',-⟩:=Ra I' hv;rw[hon] at hw'
  have hw:Region.wanted o' (yielded L.toArray a'.tmps)=true:=by
   rw[← hw'];unfold gOk at hg;unfold Region.wanted
   cases hgd:o'.guard with
   | none=>rfl
   | some g=>
    obtain⟨i,b⟩:=g;rw[hgd] at hg;have hg:(L[i]?).bind (·.dst)=((P++[o'])[i]?).bind (·.dst):=by simpa using hg
    simp only[yielded,List.getElem?_toArray];rw[hg]
  refine Vk (ops':=(P++[C4 o']).toArray) hw<|Iw (ops':=(P++[C4 o']).toArray) (S:=fun a1 w1=>∃ m' bs' rs',Inv (P++[C4 o']).toArray a1 N l m' (P.length+1)∧aC B w0 w1 bs' rs'∧UL B w0 N l L K t (P++[C4 o']) m' bs' rs' w1) rfl (fun a w ⟨_,_,_,I,_⟩=>I.fr.defers) I'.fr.defers (ld I2 M (by simp) hv (fun _ h=>by cases h) fun a1 m' bs' rs' w1 I2 M2 h2=>wpList_nil ⟨rfl,m',bs',rs',I2,M2,h2⟩) ?_;rintro a1 w1 ⟨m',bs',rs',I2,M2,h2⟩ ⟨v,hv1⟩
  change a1=a'.put o'.dst v at hv1
  subst hv1;refine hn _ _ trivial ?_ (AP hbd hQ h2 (by simpa using I2) M2)
  cases hd:o'.dst with
  | none=>exact .none hd rfl
  | some d=>exact .some d v hd (lT I'.fr (hbd j o' d ho hd)) fun n k hk=>by simp at hk
 | .last j,P,m,bs,rs,a,w,hv,I,M=>hv.elim
 | .alt x y,P,m,bs,rs,a,w,hv,I,M=>⟨AP hbd hQ hv.1 I M,AP hbd hQ hv.2 I M⟩
theorem gt{X Y:Prop}{KP:PK}{B:Nat}{w0 w:World}{N:Nat}{l:Slots}{bs:List Bx}{rs:List Rw}{ops:Array Oper}{id:Nat}{k:Slots→List Bx→List Rw→World→Prop}(t:Tr)(h0:xq N ops.toList [] t=true)
 (h:∀ w',ajw w.heap.size w w'→aC B w0 w' bs rs→UL B w0 N l ops.toList k t [] [] bs rs w') :
 X∨Y∨∀ (a:Act) (Q:Exit→Act→World→Prop),Fs a N l→aC B w0 w bs rs→(∀ Pn,KP=some Pn→∀ a' ch w',Fr a' N→Pn ch w'→Q (.panic ch) a' w')→(∀ a' l' bs' rs' w',Fs a' N l'→aC B w0 w' bs' rs'→k l' bs' rs' w'→Q .normal a' w')→(Code.region id ops true).wp Tryz.prog Q a w:=by
 refine .inr (.inr fun a Q Fa M _ next=>?_);obtain⟨L,rfl⟩:∃ L:List Oper,ops=L.toArray:=⟨ops.toList,by simp⟩;rw[List.toList_toArray] at h0 h;unfold xq at h0;simp only[Bool.and_eq_true,decide_eq_true_eq] at h0;obtain⟨fT,hnd,hbd,hcd,hsub⟩:=h0;have Md:=M.keep (w':=w.drew) (Below.refl _ _).drew;refine rZ [] [] t (fun _=>True) (by kernel_rfl) fT rfl rfl hnd hbd hcd hsub Fa.fr trivial trivial (AP (fun j o d ho hd=>?_) (fun a l' bs rs w F M h=>next a l' bs rs w F M h) (h w.drew (Below.refl _ _).drew Md) (Inv.start Fa) Md);have:=List.all_eq_true.1 hbd d (List.mem_filterMap.2 ⟨o,ajx ho,hd⟩);simpa using this
theorem Xk{P:Program}{ops:Array Oper}{Q:Exit→Act→World→Prop}{o:Oper}{rest:List Oper}{a:Act}{w w':World}{v:Value}(hg:o.guard=none)(hd:o.dst=none)(hr:(execOp a.eval o).run P w=.ok (.value v) w')(h:wpList P ops Q rest a w'):wpList P ops Q (o::rest) a w:=
 wpList_plain hg fun K hK=>by
  unfold Oper.wp;rw[hr];show K (a.put o.dst v) w';rw[hd];exact hK _ _ h
def X1(B:Nat)(w0:World)(N:Nat)(l:Slots)(K:Slots→List Bx→List Rw→World→Prop):List Oper→Nat→List eV→List Bx→List Rw→World→Prop
 | [],_,m,bs,rs,w=>mh m l fun l'=>K l' bs rs w
 | o::r,n,m,bs,rs,w=>(sx none B w0 N l o n m bs rs w fun m' bs' rs' w'=>X1 B w0 N l K r (n+1) m' bs' rs' w') ∨
  (o.guard=none∧o.dst=none∧EH l m [] (gb o.op) fun vs=>∃ R:World→Prop,(∀ (a:Act) (o':Oper),o'.op=o.op→o'.type=o.type→q6 a (gb o.op) vs→∃ v w',(execOp a.eval o').run Tryz.prog w=.ok (.value v) w'∧R w')∧∀ w',R w'→∃ bs' rs',aC B w0 w' bs' rs'∧X1 B w0 N l K r (n+1) m bs' rs' w')
theorem Ej{ops:Array Oper}{B:Nat}{w0:World}{N:Nat}{l:Slots}{K:Slots→List Bx→List Rw→World→Prop}{Q:Exit→Act→World→Prop}(hQ:∀ a l' bs rs w,Fs a N l'→aC B w0 w bs rs→K l' bs rs w→Q .normal a w):∀ {L:List Oper} {n:Nat} {m:List eV} {bs:List Bx} {rs:List Rw} {a:Act} {w:World},
 (∀ i o,L[i]?=some o→ops[n+i]?=some o)→X1 B w0 N l K L n m bs rs w→Inv ops a N l m n→aC B w0 w bs rs→wpList Tryz.prog ops Q L a w
 | [],_,_,_,_,_,_,_,hv,I,M=>by
  obtain⟨l',h1,F⟩:=I.WY hv;exact wpList_nil (hQ _ _ _ _ _ F M h1)
 | o::r,n,m,bs,rs,a,w,lC,hv,I,M=>by
  have ho:ops[n]?=some o:=by simpa using lC 0 o rfl
  have hn:∀ i o,r[i]?=some o→ops[n+1+i]?=some o:=fun i o hi=>by have:=lC (i+1) o (by simpa using hi);rwa [show n+1+i=n+(i+1) by omega]
  rcases hv with hv|⟨hg,hd,hv⟩
  ·exact ld I M ho hv (fun _ h=>by cases h) fun a1 m' bs' rs' w1 I2 M2 h2=>Ej hQ hn h2 I2 M2
  ·obtain⟨vs,h1,R,h2,h3⟩:=j5 hv;obtain⟨v,w',hr,hR⟩:=h2 a o rfl rfl (I.W2 h1 (by simp));obtain⟨bs',rs',M',h4⟩:=h3 w' hR;exact Xk hg hd hr (Ej hQ hn h4 I.next M')
section
variable (B:Nat) (w0:World) (N:Nat) (J:List Nat) (X:Nat)
def Vt:Code→Slots→List Bx→List Rw→World→KK→Prop
 | .seq x y,l,bs,rs,w,K=>Vt x l bs rs w fun e l' bs' rs' w'=>match e with
  | .normal=>Vt y l' bs' rs' w' K
  | e=>K e l' bs' rs' w'
 | .region id ops false,l,bs,rs,w,K=>bif Nat.beq id X then X1 B w0 N l (K .normal) ops.toList 0 [] bs rs w else zj none B w0 N J (.region id ops false) l bs rs w K
 | c,l,bs,rs,w,K=>zj none B w0 N J c l bs rs w K
end
theorem RN{B:Nat}{w0:World}{N:Nat}{J:List Nat}{X:Nat}:∀ {c:Code} {l:Slots} {bs:List Bx} {rs:List Rw} {w:World} {K:KK} {Q:Exit→Act→World→Prop} {a:Act},Vt B w0 N J X c l bs rs w K→Fs a N l→aC B w0 w bs rs →
 (∀ e a l bs rs w,Fs a N l→aC B w0 w bs rs→K e l bs rs w→Q e a w)→c.wp Tryz.prog Q a w:=by
 intro c
 induction c with
 | seq x y Dt ihy=>
  intro l bs rs w K Q a h F M hQ;refine wp_seq (Dt h F M fun e a l' bs' rs' w' F' M' hk=>?_)
  cases e with
  | normal=>exact ihy hk F' M' hQ
  | _=>exact hQ _ _ _ _ _ _ F' M' hk
 | region id ops dr=>
  intro l bs rs w K Q a h F M hQ
  cases dr with
  | true=>exact gF h F M (fun _ h=>by cases h) hQ
  | false=>
   unfold Vt at h
   cases e:Nat.beq id X with
   | false=>rw[e] at h;exact gF (J:=J) h F M (fun _ h=>by cases h) hQ
   | true=>
    rw[e] at h;exact wp_region_list (Ej (fun a l' bs rs w F M hk=>hQ _ _ _ _ _ _ F M hk) (fun i o hi=>by simpa using hi) h (Inv.start F) M)
 | _=>intro l bs rs w K Q a h F M hQ;exact gF h F M (fun _ h=>by cases h) hQ
theorem Yz{B:Nat}{w0 w:World}{bs:List Bx}{rs:List Rw}(M:aC B w0 w bs rs){f:FuncId}{fn:Func}{c:Code}{N:Nat}(X:Nat)(J:List Nat){vs:List Value}{R:Ending→World→Prop}(hf:Tryz.prog.funcs[f]?=some fn)(hb:fn.body=some c)(hn:fn.ntmps=N)(hN:Nat.ble vs.length N=true)
 (h:Vt B w0 N J X c (FW 0 vs) bs rs w (Ez fn B w0 R)):Calls Tryz.prog f vs.toArray w R:=by
 refine en hf hb hn (by simpa using hN) rfl fun a F=>RN h F M fun e a l bs rs w F M hk=>?_
 cases e with
 | normal=>exact pQ (gj F M hk)
 | ret=>exact gj F M hk
 | _=>exact hk.elim
def anyI(n:Int):List Value:=[.int .i64 n]
def CJ(l:List Int):Int:=l.foldl (fun a x=>bits .or .u64 a (IntKind.u64.wrap (1*2^(x:Int).toNat))) 0
theorem I4{l:List Int}{m:Nat}{y:Int}(hy:l[m]?=some y):CJ (l.take (m+1))=bits .or .u64 (CJ (l.take m)) (IntKind.u64.wrap (1*2^(y:Int).toNat)):=by
 unfold CJ;rw[ij hy,List.foldl_append];rfl
theorem W8{P:Program}{o:Oper}{a:Act}{w:World}{ty yt:TypeId}{x y:Operand}{k:IntKind}{m n:Int}(ho:o.op=.binOp .rem ty x y yt)(hx:a.eval x=.int k m)(hy:a.eval y=.int k n)(h0:n≠0):(execOp a.eval o).run P w=.ok (.value (.int k (m.tmod n))) w:=by
 unfold execOp;simp[ho,hx,hy,eqGuard,binOp,Op.intDiv,h0]
theorem O3(w0:World)(v:Value)(l:List Int)(h:SliceAt w0 v 1 l.length (l.flatMap anyI))(hl:∀ y∈l,0≤y∧y<64):Calls Tryz.prog 73 #[v] w0 (fun(r:Ending) (w':World)=>r=.returned (.agg #[.int .u64 (CJ l),.int .u64 0,.int .u64 0,.int .u64 0])∧ajw w0.heap.size w0 w'):=by
 obtain⟨la,lk,rfl,hk,hm,-⟩:=SliceAt.form h (by decide);refine bU [] (fn:=Tryz.f73) Tryz.func73 rfl Tryz.ntmps73 rfl<|ei<|an pG fun g1 w1 M1=>ei<|an pG fun g2 w2 M2=>lp (ι:=Nat) (fun m=>[(4,.int .i64 (m:Int))]) (fun m=>(g2,77,#[.int .u64 (CJ (l.take m)),.int .u64 0,.int .u64 0,.int .u64 0])::_) (fun _=>[]) (fun m _=>m≤l.length) (fun m=>l.length-m) 0 (an ⟨⟨rfl,trivial⟩,fun M=>⟨M,ajy _⟩⟩ ?_)
 intro m w M hm2;refine an (fun h2=>?_) fun h2=>?_
 ·have hlt:m<l.length:=by simp at h2;omega
  obtain⟨y,hy⟩:∃ y,l[m]?=some y:=⟨_,ajz hlt⟩;obtain⟨b,o,e,hc⟩:=SliceAt.elt h (fun _=>rfl) (by decide) hy hlt;have UZ:=hl y (ajx hy);obtain⟨r,hr,rfl⟩:∃ r:Nat,r<64∧y=((64*0+r:Nat):Int):=⟨y.toNat,by omega,by omega⟩
  have hn:CJ (l.take (m+1))=bits .or .u64 (CJ (l.take m)) ((2^r:Nat):Int):=by
   rw[I4 hy,Int.toNat_natCast,Int.one_mul,show 64*0+r=r by omega,wJ hr]
  exact dr (by kernel_rfl)<|ia<|an ⟨e,rfl,hlt⟩<|lc (x:=.int .i64 ((64*0+r:Nat):Int))<|an (cL M.below hc 0 _ rfl)<|ei<|an (fun a w o ho hv=>Bc (q:=0) (by decide) hr ho (aQ hv) (cO hv))<|ia<|an ⟨e,rfl,hlt⟩<|lc (x:=.int .i64 ((64*0+r:Nat):Int))<|an (cL M.below hc 0 _ rfl)<|ei<|an (fun a w o ho hv=>Bc (q:=0) (by decide) hr ho (aQ hv) (cO hv))<|ei<|an ⟨rfl,by decide⟩<|lb 0<|an rfl<|ia<|an ⟨e,rfl,hlt⟩<|lc (x:=.int .i64 ((64*0+r:Nat):Int))<|an (cL M.below hc 0 _ rfl)<|ei<|an (fun a w o ho hv=>R7 hr ho (aQ hv) (cO hv))<|ei<|an (fun a w o ho hv=>VN hr ho (aQ hv) (cO hv))<|ei<|an hn.symm<|ei<|an ⟨rfl,by decide⟩<|fun w4 pI M4=>lb 0<|an ⟨rfl,rfl⟩ fun w5 M5=>an (by omega)<|bk (m+1) ⟨rfl,trivial⟩ (fun M=>⟨M,by omega⟩) (by dsimp only;omega)
 ·obtain rfl:m=l.length:=by simp at h2;omega
  exact lb 0<|an rfl<|lb 1<|an ⟨rfl,rfl⟩ fun w5 M5=>ei (x:=1)<|an rfl fun M=>⟨by dsimp only;rw[ajA],M.below⟩
abbrev zC (w:World) (v:Value) (l:List Nat):Prop:=SliceAt w v 1 l.length (byteCells l)
theorem Ip{w:World}{v:Value}{l:List Nat}(h:zC w v l):
 ∃ a c,v=.slice a l.length c∧l.length≤c∧l.length≤9223372036854775807∧∀ k:Nat,k<l.length→∃ (y b off:Nat),a=some ⟨b,off,none⟩∧l[k]?=some y∧w.cell? ⟨b,off+k,none⟩=some (.int .u8 y):=by
 obtain⟨a,c,rfl,hc0,hm,ha⟩:=SliceAt.form h (by omega);refine⟨a,c,rfl,hc0,hm,fun k hk=>?_⟩;obtain⟨b,off,rfl,hc⟩:=ha k hk;exact⟨l[k],b,off,rfl,ajz hk,by simpa using hc 0 _ (by simp[byteCells,hk])⟩
theorem lW{w:World}{B:Nat}{v:Value}{l:List Nat}(h:w.ownsRow B 5 1 v l.length (byteCells l)):zC w v l:=SliceAt.iM h (iW l)
def Gr(w0:World)(l:List Nat):Ending→World→Prop:=fun r w'=>∃ v,r=.returned v∧(w'.ownsRow w0.heap.size 5 1 v l.length (byteCells l)∧ajw w0.heap.size w0 w')
theorem sy(v:Value)(l:List Nat)(y:Nat):(⟨v,5,1,l.length+1,byteCells l++[Value.int .u8 (y:Int)]⟩:Rw)=aH v (l++[y]):=by
 simp[byteCells]
theorem wW{l:List Nat}{j y:Nat}(h:l[j]?=some y):l.take (j+1)=l.take j++[y]:=by
 rw[List.take_add_one,h];rfl
theorem DE{w0:World}{u v:Value}{xs ys:List Nat}(ha:zC w0 u xs)(hb:zC w0 v ys)(hl:xs.length+ys.length≤aF):Calls Tryz.prog 128 #[u,v] w0 (Gr w0 (xs++ys)):=by
 obtain⟨a,ca,rfl,_,hma,ea⟩:=Ip ha;obtain⟨b,cb',rfl,_,hmb,eb⟩:=Ip hb;refine bU [] (fn:=Tryz.f128) Tryz.func128 rfl Tryz.ntmps128 rfl<|lq (ι:=Nat×Value) (fun z=>[(5,z.2),(6,.int .i64 (z.1:Int))]) (fun z=>[aH z.2 (xs.take z.1)]) (fun z _=>z.1≤xs.length) (fun z=>xs.length-z.1) (0,.slice none 0 0)<|an ⟨⟨rfl,rfl,trivial⟩,fun M=>⟨M.bE 5 1,ajy _⟩⟩ ?_;rintro⟨j,r⟩ w1 M1 hj;have hj:j≤xs.length:=hj;have hjl:(xs.take j).length=j:=by rw[List.length_take];omega
 refine an (fun h=>?_) fun h=>?_
 ·have hlt:j<xs.length:=Int.ofNat_lt.1 (of_decide_eq_true h);obtain⟨y,b',off,rfl,hy,hcell⟩:=ea j hlt;exact ia<|an ⟨rfl,rfl,hlt⟩<|lc (x:=.int .u8 (y:Int))<|an (cell_later M1.below (by simpa using hcell))<|fun g2 w2 M2=>ap 0 id rfl (M2.slice 0 rfl rfl rfl (by simp[maxLen])) ⟨by unfold maxLen;unfold aF at hl;dsimp only;omega,by unfold aF at hl;dsimp only;omega⟩ fun v3 w3 M3=>an (by omega)<|bk (j+1,v3) ⟨rfl,rfl,trivial⟩ (fun M=>⟨(M.only (.cons _ (.refl _)) (.refl _)).cast rfl (by rw[wW hy,← sy]),hlt⟩) (by dsimp only;omega)
 have hge:j=xs.length:=Nat.le_antisymm hj (Nat.le_of_not_lt fun h'=>of_decide_eq_false h (Int.ofNat_lt.2 h'));subst hge;refine lq (ι:=Nat×Value) (fun z=>[(5,z.2),(7,.int .i64 (z.1:Int))]) (fun z=>[aH z.2 (xs++ys.take z.1)]) (fun z _=>z.1≤ys.length) (fun z=>ys.length-z.1) (0,r)<|an ⟨⟨rfl,rfl,trivial⟩,fun M=>⟨M.cast rfl (by simp),ajy _⟩⟩ ?_;rintro⟨i,r2⟩ w2 M2 hi;have hi:i≤ys.length:=hi;have JX:(xs++ys.take i).length=xs.length+i:=by rw[ajB,List.length_take];omega
 refine an (fun h=>?_) fun h=>?_
 ·have hlt:i<ys.length:=Int.ofNat_lt.1 (of_decide_eq_true h);obtain⟨y,b',off,rfl,hy,hcell⟩:=eb i hlt;exact ia<|an ⟨rfl,rfl,hlt⟩<|lc (x:=.int .u8 (y:Int))<|an (cell_later M2.below (by simpa using hcell))<|fun g3 w3 M3=>ap 0 id rfl (M3.slice 0 rfl rfl rfl (by simp[maxLen])) ⟨by unfold maxLen;unfold aF at hl;dsimp only;omega,by unfold aF at hl;dsimp only;omega⟩ fun v4 w4 M4=>an (by omega)<|bk (i+1,v4) ⟨rfl,rfl,trivial⟩ (fun M=>⟨(M.only (.cons _ (.refl _)) (.refl _)).cast rfl (by rw[wW hy,← List.append_assoc,← sy]),hlt⟩) (by dsimp only;omega)
 have hge:i=ys.length:=Nat.le_antisymm hi (Nat.le_of_not_lt fun h'=>of_decide_eq_false h (Int.ofNat_lt.2 h'));subst hge;exact fun M=>⟨_,rfl,by have h:=M.r 0 rfl;dsimp only at h;rwa [ajA] at h,M.below⟩
theorem Sb{P:Program}{o:Oper}{a:Act}{w:World}{ty yt:TypeId}{x y:Operand}{m:Nat}(hm:cW m)(ho:o.op=.binOp .quo ty x y yt)(hx:a.eval x=.int .u64 (m:Int))(hy:a.eval y=.int .u64 128):(execOp a.eval o).run P w=.ok (.value (.int .u64 ((m/128:Nat):Int))) w:=by
 rw[Rg ho hx hy (by decide),Int.tdiv_eq_ediv_of_nonneg (by omega),show((m:Int)/128)=((m/128:Nat):Int) by omega,wK (by unfold cW at *;omega)]
theorem R9{P:Program}{o:Oper}{a:Act}{w:World}{ty yt:TypeId}{x y:Operand}{m:Nat}(ho:o.op=.binOp .rem ty x y yt)(hx:a.eval x=.int .u64 (m:Int))(hy:a.eval y=.int .u64 128):(execOp a.eval o).run P w=.ok (.value (.int .u64 ((m%128:Nat):Int))) w:=by
 rw[W8 ho hx hy (by decide),Int.tmod_eq_emod_of_nonneg (by omega),show((m:Int)%128)=((m%128:Nat):Int) by omega]
theorem NK(w0:World)(n:Nat)(hn:cW n):Calls Tryz.prog 293 #[.int .u64 (n:Int)] w0 (Gr w0 (aL n)):=by
 have zw:=aZ hn;refine bU [] (fn:=Tryz.f293) Tryz.func293 rfl Tryz.ntmps293 rfl<|lq (ι:=List Nat×Value×Nat) (fun z=>[(0,.int .u64 (z.2.2:Int)),(3,z.2.1)]) (fun z=>[aH z.2.1 z.1]) (fun z _=>z.1++aL z.2.2=aL n∧cW z.2.2) (fun z=>z.2.2) ([],.slice none 0 0,n)<|an ⟨⟨rfl,rfl,trivial⟩,fun M=>⟨M.bE 5 1,rfl,hn⟩⟩ ?_;rintro⟨ys,u,m⟩ w1 M1 ⟨hR,hm⟩;dsimp only at hR hm;have hlen:(ys++aL m).length≤10:=by rw[hR];exact zw
 have hnb:∀ (k:Nat),k<12→k≤maxLen∧k*1≤140737488355328:=fun k hk=>by unfold maxLen;omega
 refine an (fun h=>?_) fun h=>?_
 ·have h:128≤m:=Int.ofNat_le.1 (of_decide_eq_true h);rw[aL,if_neg (by omega)] at hlen hR;simp only[ajB,List.length_cons] at hlen;refine ei (x:=.int .u64 ((m%128:Nat):Int))<|an (fun a w o ho hv=>R9 ho (aQ hv) (cO hv))<|ei (x:=.int .u8 ((m%128:Nat):Int))<|an (fun a w o ho hv=>(dw ho (aQ hv) uR u5).trans (by rw[GS,show m%128%256=m%128 by omega]))<|an (by omega)<|fun g2 w2 M2=>ap 0 id rfl (M2.slice 0 rfl rfl rfl (by simp[maxLen])) (hnb _ (by simp;omega)) fun v3 w3 M3=>ei (x:=.int .u64 ((m/128:Nat):Int))<|an (fun a w o ho hv=>Sb hm ho (aQ hv) (cO hv))<|bk (ys++[m%128+128],v3,m/128) ⟨rfl,rfl,trivial⟩ (fun M=>⟨(M.only (.cons _ (.refl _)) (.refl _)).cast rfl (by rw[← sy,show((m%128+128:Nat):Int)=((m%128:Nat):Int)+128 by omega]),by rw[List.append_assoc];exact hR,by unfold cW at *;dsimp only;omega⟩) (by dsimp only;omega)
 ·have h:m<128:=Nat.lt_of_not_le fun h'=>of_decide_eq_false h (Int.ofNat_le.2 h')
  rw[aL,if_pos (by omega)] at hlen hR;simp only[ajB,List.length_cons,List.length_nil] at hlen;refine ei (x:=.int .u8 (m:Int))<|an (fun a w o ho hv=>(dw ho (aQ hv) uR u5).trans (by rw[GS,Nat.mod_eq_of_lt (show m<256 by omega)]))<|fun g2 w2 M2=>ap 0 id rfl (M2.slice 0 rfl rfl rfl (by simp[maxLen])) (hnb _ (by simp;omega)) fun v3 w3 M3=>fun M=>?_
  have M':aC w0.heap.size w0 _ _ [aH v3 (ys++[m])]:=M.cast rfl (congrArg (fun r=>[r]) (sy v3 ys m));rw[hR] at M';exact⟨_,rfl,M'.r 0 rfl,M'.below⟩
theorem iP{w0:World}{v:Value}{xs:List Nat}{n:Nat}(hs:zC w0 v xs)(hn:cW n)(hb:xs.length+10≤aF):Calls Tryz.prog 200 #[v,.int .u64 (n:Int)] w0 (Gr w0 (xs++aL n)):=by
 have zw:=aZ hn;refine bU [] (fn:=Tryz.f200) Tryz.func200 rfl Tryz.ntmps200 rfl<|cw (Mm.start w0) (NK w0 n hn) fun u w1 M1=>cw M1 (DE (hs.keep M1.below) (lW (M1.r 0 rfl)) (by omega)) fun u2 w2 M2=>fun M=>⟨_,rfl,M.r 0 rfl,M.below⟩
theorem Jf{w0:World}{v:Value}{xs:List Nat}{s:ByteArray}(hs:zC w0 v xs)(hb:xs.length+10+s.size≤aF):Calls Tryz.prog 294 #[v,.string s] w0 (Gr w0 (xs++eS s)):=by
 have hu:cW s.size:=by unfold cW;unfold aF at hb;omega
 have zw:=aZ hu;refine bU [] (fn:=Tryz.f294) Tryz.func294 rfl Tryz.ntmps294 rfl<|ei (x:=.int .u64 (s.size:Int))<|an (fun a w o ho hv=>(dw ho (aQ hv) u3 uR).trans (by rw[wK hu]))<|cw (Mm.start w0) (iP hs hu (by omega)) fun u w1 M1=>cvs M1 (by omega) fun v2 w2 h2 M2=>cw M2 (DE (lW (M2.r 0 rfl)) h2.1 (by simp only[ajB,dF];omega)) fun u3 w3 M3=>fun M=>⟨_,rfl,by have:=M.r 0 rfl;rwa [List.append_assoc] at this,M.below⟩
theorem LW{w0:World}{v:Value}{xs:List Nat}{m:Int}(hs:zC w0 v xs)(hm:eF m)(hb:xs.length+10≤aF):Calls Tryz.prog 296 #[v,.int .i64 m] w0 (Gr w0 (xs++eC m)):=by
 have hz:=wI hm;refine bU [] (fn:=Tryz.f296) Tryz.func296 rfl Tryz.ntmps296 rfl<|an (fun h=>?_) fun h=>?_
 ·have h0:0≤m:=of_decide_eq_true h;have e:(Ch m:Int)=2*m:=by unfold Ch;rw[if_pos h0];omega
  exact ei (x:=.int .u64 m)<|an (fun a w o ho hv=>(dw ho (aQ hv) u2 uR).trans (by rw[show IntKind.u64.wrap m=m by unfold eF at hm;simp[IntKind.wrap,IntKind.bits,IntKind.signed];omega]))<|an (by unfold eF at hm;omega)<|cw (Mm.start w0) (e▸iP hs hz hb) fun u w1 M1=>fun M=>⟨_,rfl,M.r 0 rfl,M.below⟩
 ·have h0:¬ 0≤m:=of_decide_eq_false h;have e:(Ch m:Int)=2*(-(m+1))+1:=by unfold Ch;rw[if_neg h0];omega
  exact an (by unfold eF at hm;omega)<|an (by unfold eF at hm;omega)<|ei (x:=.int .u64 (-(m+1)))<|an (fun a w o ho hv=>(dw ho (aQ hv) u2 uR).trans (by rw[show IntKind.u64.wrap (0-(m+1))=-(m+1) by unfold eF at hm;simp[IntKind.wrap,IntKind.bits,IntKind.signed];omega]))<|an (by unfold eF at hm;omega)<|an (by unfold eF at hm;omega)<|cw (Mm.start w0) (e▸iP hs hz hb) fun u w1 M1=>fun M=>⟨_,rfl,M.r 0 rfl,M.below⟩
theorem CU{w0:World}{v:Value}{xs:List Nat}{s:aq}(hv:zC w0 v xs)(hs:s.Ok)(hl:xs.length+60≤aF):
 Calls Tryz.prog 295 #[v,.agg #[.int .u64 (s.a:Int),.int .u64 (s.b:Int),.int .u64 (s.c:Int),.int .u64 (s.d:Int)]] w0 (Gr w0 (xs++eT s)):=by
 obtain⟨a,b,c,d⟩:=s;obtain⟨ha,hb,hc,hd⟩:=hs;dsimp only at ha hb hc hd;refine bU [] (fn:=Tryz.f295) Tryz.func295 rfl Tryz.ntmps295 rfl<|fun g1 w1 M1=>lr (ι:=Nat) (fun k=>[(5,.int .i64 (k:Int))]) (fun k _=>k≤4∧bM a b c d≤k) (fun k=>k) 4<|an ⟨⟨rfl,trivial⟩,fun M=>⟨M,Nat.le_refl _,ny a b c d⟩⟩ ?_
 intro k w2 M2 ⟨hk,hpre⟩
 obtain⟨y,hy,PY⟩:∃ y,cW y∧(0<k→([a,b,c,d]:List Nat)[k-1]?=some y):=by
  by_cases h0:0<k
  ·obtain⟨y,h1,h2⟩:=vX ha hb hc hd (j:=k-1) (by omega);exact⟨y,h2,fun _=>h1⟩
  ·exact⟨0,by unfold cW;omega,fun h=>absurd h h0⟩
 have hW:=M2.b 0 rfl;have hpos:decide (0<(k:Int))=true→0<k:=fun h=>Int.ofNat_lt.1 (of_decide_eq_true h)
 refine an (fun h=>by have:=hpos h;omega)<|ei (x:=k-1)<|an (fun h=>⟨by have:=hpos h;omega,by have:=hpos h;omega⟩)<|lc (x:=.int .u64 (y:Int))<|an (fun h=>?_)<|an (fun h=>?_) fun h=>?_
 ·rw[Nat.zero_add,Nat.mul_one,hW.cell];exact qI (PY (hpos h))
 ·have h1:0<k:=hpos (by simpa using(Bool.and_eq_true_iff.1 h).1);have h2:y=0:=Int.ofNat_inj.1 (of_decide_eq_true (Bool.and_eq_true_iff.1 h).2);subst h2;exact an (by omega)<|bk (k-1) ⟨congrArg (fun z=>some (Value.int .i64 z)) (show(k:Int)-1=((k-1:Nat):Int) by omega),trivial⟩ (fun M=>⟨M,by omega,zS (PY h1) (by omega)⟩) (show k-1<k by omega)
 ·have hk2:bM a b c d=k:=by
   refine Nat.le_antisymm hpre ?_;rcases Nat.eq_zero_or_pos k with h0|h0
   ·omega
   ·have:=zT (PY h0) (fun e=>by subst e;simp[h0] at h);omega
  clear h PY hpre hy;have Tp:cW k:=by unfold cW;omega
  have zw:=aZ Tp;refine ei (x:=.int .u64 (k:Int))<|an (fun a w o ho hv=>(dw ho (aQ hv) u3 uR).trans (by rw[wK Tp]))<|cw M2 (iP (hv.keep M2.below) Tp (by omega)) fun v3 w3 M3=>lq (ι:=Nat×Value) (fun z=>[(6,z.2),(7,.int .i64 (z.1:Int))]) (fun z=>[aH z.2 (xs++aL k++(([a,b,c,d]:List Nat).take z.1).flatMap aL)]) (fun z _=>z.1≤k) (fun z=>k-z.1) (0,v3)<|an ⟨⟨rfl,rfl,trivial⟩,fun M=>⟨M.cast rfl (by simp),ajy _⟩⟩ ?_
  rintro⟨j,u⟩ w4 M4 hj;have hj:j≤k:=hj;have hf:=yA (j:=j) (Nat.le_trans hj hk) ha hb hc hd;have hlen:(xs++aL k++(([a,b,c,d]:List Nat).take j).flatMap aL).length+10≤aF:=by simp only[ajB];omega
  have hfin:xs++aL k++(([a,b,c,d]:List Nat).take k).flatMap aL=xs++eT ⟨a,b,c,d⟩:=by rw[List.append_assoc];unfold eT iK;rw[hk2]
  refine an (fun h=>?_) fun h=>?_
  ·have hlt:j<k:=Int.ofNat_lt.1 (of_decide_eq_true h);obtain⟨y,h1,h2⟩:=vX ha hb hc hd (j:=j) (by omega);exact ei (x:=j)<|an ⟨rfl,by omega⟩<|lc (x:=.int .u64 (y:Int))<|an (by rw[(M4.b 0 rfl).cell];simpa using qI h1)<|cw M4 (iP (lW (M4.r 0 rfl)) h2 hlen) fun v5 w5 M5=>an (by omega)<|bk (j+1,v5) ⟨rfl,rfl,trivial⟩ (fun M=>⟨(M.only (.refl _) (.cons_cons _ (.cons _ (.refl _)))).cast rfl (by rw[List.take_add_one,h1,ajC,List.append_assoc (xs++aL k)];simp),hlt⟩) (by dsimp only;omega)
  ·have hge:j=k:=Nat.le_antisymm hj (Nat.le_of_not_lt fun h'=>of_decide_eq_false h (Int.ofNat_lt.2 h'));subst hge;exact fun M=>⟨u,rfl,by have:=M.r 0 rfl;rwa [hfin] at this,M.below⟩
abbrev fA (W:Nat) (v:Value) (ver:Int):Bx:=(W,211,#[v,.int .i64 ver])
def Ee(B:Nat)(w0:World)(bs:List Bx)(rs:List Rw)(W:Nat)(ver:Int)(l:List Nat):Ending→World→Prop:=fun r w'=>r=.returned (.tuple #[])∧∃ v,aC B w0 w' (fA W v ver::bs) (aH v l::rs)
section
variable {B W:Nat} {w0 w w':World} {bs:List Bx} {rs:List Rw} {v:Value} {ver:Int} {xs ys:List Nat}
theorem dS{L:List Bx}{X:Prop}{f:FuncId}{args:Array Value}{l:List Nat}{K:Value→List Bx→List Rw→World→Prop}(i:Nat)(M:aC B w0 w L (aH v xs::rs))(hi:L[i]?=some (fA W v ver))
 (hc:aC B w0 w (fA W v ver::L.eraseIdx i) (aH v xs::rs)→Calls Tryz.prog f args w (Ee B w0 (L.eraseIdx i) rs W ver l))
 (h:∀ v w',pW L i (fA W v ver) fun L'=>aC B w0 w' L' (aH v l::rs)→K (.tuple #[]) L' (aH v l::rs) w') :
 X∨∃ R:Value→World→Prop,(Calls Tryz.prog f args w fun e w'=>∃ v,e=.returned v∧R v w')∧∀ v w',R v w'→∃ bs' rs',aC B w0 w' bs' rs'∧K v bs' rs' w':=by
 refine .inr ⟨fun r w'=>r=.tuple #[]∧∃ v,aC B w0 w' (fA W v ver::L.eraseIdx i) (aH v l::rs),(hc (M.rC (lU hi))).mono fun e w' ⟨h1,h2⟩=>⟨_,h1,rfl,h2⟩,?_⟩;rintro _ w' ⟨rfl,v',M'⟩;have M2:=M'.rC (sP hi);exact⟨_,_,M2,lg (h _ _) M2⟩
theorem aX{n:Int}(M:aC B w0 w (fA W v ver::bs) (aH v xs::rs))(hb:xs.length+10≤aF):Calls Tryz.prog 129 #[.pointer (some ⟨W,0,none⟩),.int .i64 n] w (Ee B w0 bs rs W ver (xs++eN n)):=by
 refine bY M [] (fn:=Tryz.f129) Tryz.func129 rfl Tryz.ntmps129 rfl<|lb 0<|an rfl<|ei (x:=.int .u64 ((n%18446744073709551616).toNat:Int))<|an (fun a w o ho hv=>(dw ho (aQ hv) u3 uR).trans (by rw[GR]))<|NJ M (iP (lW (M.r 0 rfl)) (wS n) hb) fun va vc w1 M1=>lb 0<|an ⟨rfl,rfl⟩ fun w2 M2=>fun M=>⟨rfl,_,M.only (.refl _) (.cons_cons _ (.cons _ (.refl _)))⟩
theorem Je{n:Int}(M:aC B w0 w (fA W v ver::bs) rs)(hv:zC w v xs)(hb:xs.length+10≤aF):Calls Tryz.prog 129 #[.pointer (some ⟨W,0,none⟩),.int .i64 n] w (Ee B w0 bs rs W ver (xs++eN n)):=by
 refine bY M [] (fn:=Tryz.f129) Tryz.func129 rfl Tryz.ntmps129 rfl<|lb 0<|an rfl<|ei (x:=.int .u64 ((n%18446744073709551616).toNat:Int))<|an (fun a w o ho hv=>(dw ho (aQ hv) u3 uR).trans (by rw[GR]))<|NJ M (iP hv (wS n) hb) fun va vc w1 M1=>lb 0<|an ⟨rfl,rfl⟩ fun w2 M2=>fun M=>⟨rfl,_,M⟩
theorem lR{s:ByteArray}(M:aC B w0 w (fA W v ver::bs) (aH v xs::rs))(hb:xs.length+(eS s).length+10≤aF):Calls Tryz.prog 201 #[.pointer (some ⟨W,0,none⟩),.string s] w (Ee B w0 bs rs W ver (xs++eS s)):=by
 have:=F4 s;refine bY M [] (fn:=Tryz.f201) Tryz.func201 rfl Tryz.ntmps201 rfl<|lb 0<|an rfl<|NJ M (Jf (lW (M.r 0 rfl)) (by omega)) fun va vc w1 M1=>lb 0<|an ⟨rfl,rfl⟩ fun w2 M2=>fun M=>⟨rfl,_,M.only (.refl _) (.cons_cons _ (.cons _ (.refl _)))⟩
theorem LR{n:Int}(M:aC B w0 w (fA W v ver::bs) (aH v xs::rs))(hn:Ed n)(hb:xs.length+10≤aF):Calls Tryz.prog 208 #[.pointer (some ⟨W,0,none⟩),.int .u32 n] w (Ee B w0 bs rs W ver (xs++eN n)):=by
 refine bY M [] (fn:=Tryz.f208) Tryz.func208 rfl Tryz.ntmps208 rfl<|lb 0<|an rfl<|ei (x:=.int .u64 ((n%18446744073709551616).toNat:Int))<|an (fun a w o ho hv=>(dw ho (aQ hv) Oo uR).trans (by rw[GR]))<|NJ M (iP (lW (M.r 0 rfl)) (wS n) hb) fun va vc w1 M1=>lb 0<|an ⟨rfl,rfl⟩ fun w2 M2=>fun M=>⟨rfl,_,M.only (.refl _) (.cons_cons _ (.cons _ (.refl _)))⟩
theorem EN{m:Int}(M:aC B w0 w (fA W v ver::bs) (aH v xs::rs))(hm:eF m)(hb:xs.length+10≤aF):Calls Tryz.prog 209 #[.pointer (some ⟨W,0,none⟩),.int .i64 m] w (Ee B w0 bs rs W ver (xs++eC m)):=by
 refine bY M [] (fn:=Tryz.f209) Tryz.func209 rfl Tryz.ntmps209 rfl<|lb 0<|an rfl<|NJ M (LW (lW (M.r 0 rfl)) hm hb) fun va vc w1 M1=>lb 0<|an ⟨rfl,rfl⟩ fun w2 M2=>fun M=>⟨rfl,_,M.only (.refl _) (.cons_cons _ (.cons _ (.refl _)))⟩
theorem Bg{b:Bool}(M:aC B w0 w (fA W v ver::bs) (aH v xs::rs))(hb:xs.length+10≤aF):Calls Tryz.prog 203 #[.pointer (some ⟨W,0,none⟩),.bool b] w (Ee B w0 bs rs W ver (xs++eB b)):=by
 refine bY M [] (fn:=Tryz.f203) Tryz.func203 rfl Tryz.ntmps203 rfl<|an (fun h=>?_) fun h=>?_
 ·have h:b=true:=h;subst h;exact dS 0 M rfl (fun M=>aX (n:=1) M hb) fun v3 w3 M3=>fun M=>⟨rfl,v3,M.cast rfl (by rw[← BP];rfl)⟩
 ·have h:b=false:=h;subst h;exact dS 0 M rfl (fun M=>aX (n:=0) M hb) fun v3 w3 M3=>fun M=>⟨rfl,v3,M.cast rfl (by rw[← BP];rfl)⟩
theorem lS{s:aq}(M:aC B w0 w (fA W v ver::bs) (aH v xs::rs))(hs:s.Ok)(hb:xs.length+60≤aF):Calls Tryz.prog 204 #[.pointer (some ⟨W,0,none⟩),.agg #[.int .u64 (s.a:Int),.int .u64 (s.b:Int),.int .u64 (s.c:Int),.int .u64 (s.d:Int)]] w (Ee B w0 bs rs W ver (xs++eT s)):=by
 refine bY M [] (fn:=Tryz.f204) Tryz.func204 rfl Tryz.ntmps204 rfl<|fun g1 w1 M1=>sp [0,1,2,3,7,8] (.alt (.step 4 (.step 5 (.step 6 (.step 9 .done)))) (.step 5 (.step 4 (.step 6 (.step 9 .done))))) [] (by kernel_rfl)<|fun w2 hb2 M2=>⟨?_,?_⟩
 ·exact lb 1<|an rfl<|an rfl<|lb 0<|an rfl<|an rfl<|NJ M2 (CU (lW (M2.r 0 rfl)) hs hb) fun va vc w3 M3=>an rfl<|lb 1<|an ⟨rfl,rfl⟩ fun w4 M4=>an rfl<|fun M=>⟨rfl,_,M.only (.cons _ (.refl _)) (.cons_cons _ (.cons _ (.refl _)))⟩
 ·exact lb 0<|an rfl<|an rfl<|lb 1<|an rfl<|an rfl<|NJ M2 (CU (lW (M2.r 0 rfl)) hs hb) fun va vc w3 M3=>an rfl<|lb 1<|an ⟨rfl,rfl⟩ fun w4 M4=>an rfl<|fun M=>⟨rfl,_,M.only (.cons _ (.refl _)) (.cons_cons _ (.cons _ (.refl _)))⟩
theorem Bf{l:jX}(M:aC B w0 w (fA W v ver::bs) (aH v xs::rs))(hc:cW l.cats)(hb:xs.length+30≤aF):Calls Tryz.prog 205 #[.pointer (some ⟨W,0,none⟩),.agg #[.int .i64 l.ay,.int .u64 (l.cats:Int)]] w (Ee B w0 bs rs W ver (xs++ng l)):=by
 have h1:=aG l.ay;have hb2:(xs++eN l.ay).length+10≤aF:=by simp only[ajB];omega
 refine bY M [] (fn:=Tryz.f205) Tryz.func205 rfl Tryz.ntmps205 rfl<|fun g1 w1 M1=>lb 0<|an rfl<|dS 1 M1 rfl (fun M=>aX (n:=l.ay) M (by omega)) fun v3 w3 M3=>sp [0,1,2,3,5,8,9] (.alt (.step 4 (.step 6 (.step 7 (.step 10 .done)))) (.step 6 (.step 4 (.step 7 (.step 10 .done))))) [] (by kernel_rfl)<|fun w2 aeL M2=>⟨?_,?_⟩
 ·exact lb 1<|an rfl<|an rfl<|lb 0<|an rfl<|an rfl<|NJ M2 (iP (lW (M2.r 0 rfl)) hc hb2) fun va vc w3 M3=>an rfl<|lb 1<|an ⟨rfl,rfl⟩ fun w4 M4=>an rfl<|fun M=>⟨rfl,_,(M.only (.cons _ (.refl _)) (.cons_cons _ (.cons _ (.refl _)))).cast rfl (by unfold ng;rw[← List.append_assoc])⟩
 ·exact lb 0<|an rfl<|an rfl<|lb 1<|an rfl<|an rfl<|NJ M2 (iP (lW (M2.r 0 rfl)) hc hb2) fun va vc w3 M3=>an rfl<|lb 1<|an ⟨rfl,rfl⟩ fun w4 M4=>an rfl<|fun M=>⟨rfl,_,(M.only (.cons _ (.refl _)) (.cons_cons _ (.cons _ (.refl _)))).cast rfl (by unfold ng;rw[← List.append_assoc])⟩
theorem Nx{l:jX}(h:cW l.cats):(ng l).length≤20:=by
 have:=aG l.ay;have:=aZ h;unfold ng;simp only[ajB];omega
theorem EM{r:kQ}(M:aC B w0 w (fA W v ver::bs) (aH v xs::rs))(hc:cW r.low.cats)(hd:cW r.high.cats)(hb:xs.length+60≤aF):Calls Tryz.prog 206 #[.pointer (some ⟨W,0,none⟩),.agg #[.int .i64 r.low.ay,.int .u64 (r.low.cats:Int),.int .i64 r.high.ay,.int .u64 (r.high.cats:Int)]] w (Ee B w0 bs rs W ver (xs++oR r)):=by
 have h1:=Nx (l:=r.low) hc;refine bY M [] (fn:=Tryz.f206) Tryz.func206 rfl Tryz.ntmps206 rfl<|fun g1 w1 M1=>lb 0<|an rfl<|dS 1 M1 rfl (fun M=>Bf (l:=r.low) M hc (by omega)) fun v3 w3 M3=>lb 0<|an rfl<|dS 1 M3 rfl (fun M=>Bf (l:=r.high) M hd (by simp only[ajB];omega)) fun v4 w4 M4=>fun M=>⟨rfl,v4,(M.only (.cons _ (.refl _)) (.refl _)).cast rfl (by unfold oR;rw[← List.append_assoc])⟩
theorem zV{c:mG}(M:aC B w0 w (fA W v ver::bs) (aH v xs::rs))(hc:cW c.rng.low.cats)(hd:cW c.rng.high.cats)(hb:xs.length+100≤aF):Calls Tryz.prog 210 #[.pointer (some ⟨W,0,none⟩),.agg c.cells.toArray] w (Ee B w0 bs rs W ver (xs++qt c)):=by
 have h1:=aG c.user;have h2:=aG c.role;have h3:=aG c.typ;refine bY M [] (fn:=Tryz.f210) Tryz.func210 rfl Tryz.ntmps210 rfl<|fun g1 w1 M1=>lb 0<|an rfl<|dS 1 M1 rfl (fun M=>aX (n:=c.user) M (by omega)) fun v3 w3 M3=>lb 0<|an rfl<|dS 1 M3 rfl (fun M=>aX (n:=c.role) M (by simp only[ajB];omega)) fun v4 w4 M4=>lb 0<|an rfl<|dS 1 M4 rfl (fun M=>aX (n:=c.typ) M (by simp only[ajB];omega)) fun v5 w5 M5=>lb 0<|an rfl<|dS 1 M5 rfl (fun M=>EM (r:=c.rng) M hc hd (by simp only[ajB];omega)) fun v6 w6 M6=>fun M=>⟨rfl,v6,(M.only (.cons _ (.refl _)) (.refl _)).cast rfl (by unfold qt;simp only[List.append_assoc])⟩
theorem vY{tv:Value}{l:List ByteArray}(M:Mm w0 w (fA W v ver::bs) (aH v xs::rs))(hv:aJ w0 tv l)(hb:xs.length+(eL eS l).length+60≤aF):
 Calls Tryz.prog 202 #[.pointer (some ⟨W,0,none⟩),tv] w (Ee w0.heap.size w0 bs rs W ver (xs++eL eS l)):=by
 obtain⟨la,lc',rfl,hl1,hl2,-⟩:=SliceAt.form hv (by decide);have hle:(eL eS l).length=(eN (l.length:Int)).length+(l.flatMap eS).length:=by unfold eL;rw[ajB]
 have hne:=aG (l.length:Int);refine bY M [] (fn:=Tryz.f202) Tryz.func202 rfl Tryz.ntmps202 rfl<|dS 0 M rfl (fun M=>aX (n:=(l.length:Int)) M (by omega)) fun v3 w3 M3=>lp (ι:=Nat×Value) (fun z=>[(4,.int .i64 (z.1:Int))]) (fun z=>fA W z.2 ver::bs) (fun z=>aH z.2 (xs++(eN (l.length:Int)++(l.take z.1).flatMap eS))::rs) (fun z _=>z.1≤l.length) (fun z=>l.length-z.1) (0,v3)<|an ⟨⟨rfl,trivial⟩,fun M=>⟨M.cast rfl (by simp),ajy _⟩⟩ ?_
 rintro⟨j,u⟩ w4 M4 hj;have hj:j≤l.length:=hj;refine an (fun h=>?_) fun h=>?_
 ·have hlt:j<l.length:=Int.ofNat_lt.1 (of_decide_eq_true h);obtain⟨s,hn1⟩:∃ s,l[j]?=some s:=⟨_,ajz hlt⟩;have fB:=cS eS hn1;obtain⟨b,off,e,hc⟩:=hv.elt (f:=aO) (fun _=>rfl) (by decide) hn1 hlt;exact ia<|an ⟨e,rfl,hlt⟩<|lc (x:=.string s)<|an (cL M4.below hc 0 _ rfl)<|dS 0 M4 rfl (fun M=>lR M (by simp only[ajB] at *;omega)) fun v6 w6 M6=>an (by omega)<|bk (j+1,v6) ⟨rfl,trivial⟩ (fun M=>⟨M.cast rfl (by rw[List.take_add_one,hn1,ajC];simp),hlt⟩) (by dsimp only;omega)
 ·have hge:j=l.length:=Nat.le_antisymm hj (Nat.le_of_not_lt fun h'=>of_decide_eq_false h (Int.ofNat_lt.2 h'));subst hge;exact fun M=>⟨rfl,u,M.cast rfl (congrArg (fun t=>aH u (xs++(eN (l.length:Int)++t.flatMap eS))::rs) ajA)⟩
end
section
variable {W:Nat} {ver:Int}
theorem LU:∀ (e:aI) (w0 w:World) (cs:List Value) (bs:List Bx) (rs:List Rw) (v:Value) (xs:List Nat),bV w0 cs e→e.Ok→Mm w0 w (fA W v ver::bs) (aH v xs::rs)→xs.length+(eE e).length+200≤aF →
 Calls Tryz.prog 207 #[.pointer (some ⟨W,0,none⟩),.agg cs.toArray] w (Ee w0.heap.size w0 bs rs W ver (xs++eE e)):=by
 refine aI.ind fun e ih=>?_
 intro w0 w cs bs rs v xs hE hok M hb;obtain⟨nv,kv,rfl,vh,hkv⟩:=hE.open;obtain⟨na,nc,rfl,-⟩:=aJ.get vh;have hkv':=hkv;obtain⟨ka,kc,rfl,-,hkm,-⟩:=au.form hkv' (by decide);have hee:=Nz e;have hel:(eE e).length=(qV e.op e.a e.rel e.b e.set).length+(e.kids.flatMap eE).length:=by rw[hee,ajB]
 have h1:=aG e.op;have h2:=aG e.a;have h3:=aG e.rel;have hhd:=Ib hok;refine bY M [12] (fn:=Tryz.f207) Tryz.func207 rfl Tryz.ntmps207 rfl<|fun g1 w1 M1=>lb 0<|an rfl<|dS 1 M1 rfl (fun M=>aX (n:=e.op) M (by omega)) fun v3 w3 M3=>jo (ι:=Value) (fun _=>[]) (fun z=>(g1,84,#[.int .i64 e.op,.int .i64 e.a,.int .i64 e.rel,.int .i64 e.b,.slice na e.names.length nc,.int .u64 e.set.a,.int .u64 e.set.b,.int .u64 e.set.c,.int .u64 e.set.d,.slice ka e.kids.length kc])::fA W z ver::bs) (fun z=>aH z (xs++qV e.op e.a e.rel e.b e.set)::rs) (fun _ _=>True)<|an ?_ ?_
 ·refine lb 0<|an rfl<|an (fun h=>?_) fun h=>?_
  ·have hop:e.op=1:=of_decide_eq_true h;exact lb 0<|an rfl<|dS 1 M3 rfl (fun M=>aX (n:=e.a) M (by simp only[ajB];omega)) fun v5 w5 M5=>je v5 trivial (fun M=>⟨M.cast rfl (by unfold qV;rw[if_pos hop];simp),trivial⟩)
  ·have hop1:e.op≠1:=of_decide_eq_false h;refine an (fun h=>?_) fun h=>?_
   ·have hop:e.op=8:=of_decide_eq_true h;exact lb 0<|an rfl<|dS 1 M3 rfl (fun M=>aX (n:=e.a) M (by simp only[ajB];omega)) fun v5 w5 M5=>lb 0<|an rfl<|dS 1 M5 rfl (fun M=>aX (n:=e.rel) M (by simp only[ajB];omega)) fun v6 w6 M6=>lb 0<|an rfl<|dS 1 M6 rfl (fun M=>aX (n:=e.b) M (by simp only[ajB];omega)) fun v7 w7 M7=>je v7 trivial (fun M=>⟨M.cast rfl (by unfold qV;rw[if_neg hop1,if_pos hop];simp),trivial⟩)
   ·have hop2:e.op≠8:=of_decide_eq_false h;refine an (fun h=>?_) fun h=>?_
    ·have hop:e.op=9:=of_decide_eq_true h;exact lb 0<|an rfl<|dS 1 M3 rfl (fun M=>aX (n:=e.a) M (by simp only[ajB];omega)) fun v5 w5 M5=>lb 0<|an rfl<|dS 1 M5 rfl (fun M=>lS (s:=e.set) M hok.set' (by simp only[ajB];omega)) fun v7 w7 M7=>je v7 trivial (fun M=>⟨M.cast rfl (by unfold qV;rw[if_neg hop1,if_neg hop2,if_pos hop];simp),trivial⟩)
    ·have Ti:e.op≠9:=of_decide_eq_false h;exact je v3 trivial (fun M=>⟨M.cast rfl (by unfold qV;rw[if_neg hop1,if_neg hop2,if_neg Ti];simp),trivial⟩)
 ·rintro v8 w8 M8 -;refine lp (ι:=Nat×Value) (fun z=>[(4,.int .i64 (z.1:Int))]) (fun z=>(g1,84,#[.int .i64 e.op,.int .i64 e.a,.int .i64 e.rel,.int .i64 e.b,.slice na e.names.length nc,.int .u64 e.set.a,.int .u64 e.set.b,.int .u64 e.set.c,.int .u64 e.set.d,.slice ka e.kids.length kc])::fA W z.2 ver::bs) (fun z=>aH z.2 (xs++(qV e.op e.a e.rel e.b e.set++(e.kids.take z.1).flatMap eE))::rs) (fun z _=>z.1≤e.kids.length) (fun z=>e.kids.length-z.1) (0,v8)<|an ⟨⟨rfl,trivial⟩,fun M=>⟨M.cast rfl (by simp),ajy _⟩⟩ ?_;rintro⟨j,u⟩ w9 M9 hj;have hj:j≤e.kids.length:=hj;refine lb 0<|an rfl<|an (fun h=>?_) fun h=>?_
  ·have hlt:j<e.kids.length:=Int.ofNat_lt.1 (of_decide_eq_true h);obtain⟨y,hy⟩:∃ y,e.kids[j]?=some y:=⟨_,ajz hlt⟩;have fB:=cS eE hy;have gY:=ajx hy;obtain⟨b,off,x,e1,WU,hc⟩:=au.elt hkv (by decide) hy;have TK:=WU;obtain⟨SA,kv',rfl,Tk,Tn⟩:=WU.open;obtain⟨_,_,rfl,-⟩:=aJ.get Tk;obtain⟨_,_,rfl,-,-,-⟩:=au.form Tn (by decide);exact lb 0<|an rfl<|ia<|an ⟨e1,rfl,hlt⟩<|lc<|an (cL M9.below hc)<|dS 1 M9 rfl (fun M=>ih y gY w0 _ _ _ _ _ _ TK (hok.Hv y gY) M (by simp only[ajB] at *;omega)) fun v12 zi q5=>an (by omega)<|bk (j+1,v12) ⟨rfl,trivial⟩ (fun M=>⟨M.cast rfl (by rw[List.take_add_one,hy,ajC];simp),hlt⟩) (by dsimp only;omega)
  ·have hge:j=e.kids.length:=Nat.le_antisymm hj (Nat.le_of_not_lt fun h'=>of_decide_eq_false h (Int.ofNat_lt.2 h'));subst hge;exact fun M=>⟨rfl,u,(M.only (.cons _ (.refl _)) (.refl _)).cast rfl (by rw[hee];exact congrArg (fun t=>aH u (xs++(qV e.op e.a e.rel e.b e.set++t.flatMap eE))::rs) ajA)⟩
end
end Go.Proofs.YtkkmjdceiocnbaaGreatDoor

import Derived.JoinedOf
import Derived.LaidMore
import Derived.OpenShut
import Derived.ProofKit
import Derived.SizedLaws
import Derived.Stop.Joined
import Derived.Test.YtkkmjdceiocnbaaGreatDoorCards
import Derived.Test.YtkkmjdceiocnbaaGreatDoorChecked
import Derived.Test.YtkkmjdceiocnbaaGreatDoorRows
import Derived.Test.YtkkmjdceiocnbaaGreatDoorTie
import Derived.Test.YtkkmjdceiocnbaaGreatDoorSTC
open Go.RowKit renaming Below→alk
open List renaming length_append→alj
set_option maxRecDepth 100000
set_option maxHeartbeats 8000000
set_option linter.unusedSectionVars false
set_option linter.unusedSimpArgs false
set_option linter.unusedVariables false
namespace Go.Proofs.YtkkmjdceiocnbaaGreatDoor
open Go Go.RowKit
theorem Rl(v:Nat):Cn (wY v) (i_ v) (sw v):=fun l x r hb h=>by
 obtain⟨a0,r0,h0,h⟩:=bt h;obtain⟨a1,r1,h1,h⟩:=bt h;obtain⟨a2,r2,h2,h⟩:=bt h;obtain⟨a3,r3,h3,h⟩:=bt h;obtain⟨a4,r4,h4,h⟩:=bt h;obtain⟨a5,r5,h5,h⟩:=bt h;obtain⟨a6,r6,h6,h⟩:=bt h;obtain⟨a7,r7,h7,h⟩:=bt h;obtain⟨a8,r8,h8,h⟩:=bt h;obtain⟨a9,r9,h9,h⟩:=bt h;obtain⟨rF,Pg,h10,h⟩:=bt h;obtain⟨rE,Pf,h11,h⟩:=bt h;obtain⟨a12,Pc,h12,h⟩:=bt h;obtain⟨rD,Pb,h13,h⟩:=bt h;obtain⟨rC,O_,h14,h⟩:=bt h;obtain⟨rB,O9,h15,h⟩:=bt h;obtain⟨rA,r16,h16,h⟩:=bt h;obtain⟨rfl,rfl⟩:=gY h;obtain⟨e0,b0,g0⟩:=dB J9 l _ _ hb h0;obtain⟨e1,b1,g1⟩:=dB (J3 v) r0 _ _ b0 h1;obtain⟨e2,b2,g2⟩:=dB Ka r1 _ _ b1 h2;obtain⟨e3,b3,g3⟩:=dB J7 r2 _ _ b2 h3;obtain⟨e4,b4,g4⟩:=dB J2 r3 _ _ b3 h4;obtain⟨e5,b5,g5⟩:=dB J_ r4 _ _ b4 h5;obtain⟨e6,b6,g6⟩:=vZ r5 _ _ b5 h6;obtain⟨e7,b7,g7⟩:=vZ r6 _ _ b6 h7;obtain⟨e8,b8,g8⟩:=dB (uD 12) r7 _ _ b7 h8;obtain⟨e9,b9,g9⟩:=dB J5 r8 _ _ b8 h9;obtain⟨e10,b10,g10⟩:=dB (J4 v) r9 _ _ b9 h10;obtain⟨e11,b11,g11⟩:=dB J6 Pg _ _ b10 h11;obtain⟨e12,b12,g12,k12⟩:=Hl (dB J8) ⟨by unfold yV;simp,by simp⟩ Pf _ _ b11 h12;obtain⟨e13,b13,g13⟩:=dB Fg Pc _ _ b12 h13;obtain⟨e14,b14,g14⟩:=dB E9 Pb _ _ b13 h14;obtain⟨e15,b15,g15,k15⟩:=Hl (dB Fc) ⟨by unfold yV;simp,by simp⟩ O_ _ _ b14 h15;obtain⟨e16,b16,g16,k16⟩:=Hl (dB Fh) ⟨by unfold yV;simp,by simp⟩ O9 _ _ b15 h16;refine⟨?_,b16,⟨g0,g1,g2,g3,g4,g5,g6,g7,g8,g9,g10,g11,⟨g12,fun hv=>k12 (by omega)⟩,g13,g14,⟨g15,fun hv=>k15 (by omega)⟩,⟨g16,fun hv=>k16 (by omega)⟩⟩⟩;unfold i_;simp only[List.append_assoc];rw[e16,e15,e14,e13,e12,e11,e10,e9,e8,e7,e6,e5,e4,e3,e2,e1,e0]
theorem Ml{l f:List Nat}(h:gZ l=(f,0)):eP f=l:=by
 unfold gZ at h;split at h
 ·simp at h
 ·split at h
  ·rename_i h1 h2;simp only[Prod.mk.injEq,and_true] at h;subst h;unfold eP;rw[← h2,List.take_append_drop]
  ·simp at h
section
variable (A8:aD→Int)
variable {A8}
theorem DK{l r:List Nat}{n:Nat}(hb:Bytes l)(h:cS l=.ok (n,r)):l=eP ([65,67,80,66]++(bn n++r))∧1≤n∧n≤3∧Bytes r:=by
 unfold cS at h;split at h
 case isFalse=>cases h
 rename_i ho;have hs:=Ml (l:=l) (f:=(gZ l).1) (by rw[← ho]);have hbf:Bytes (gZ l).1:=fun x hx=>hb x (by rw[← hs];exact List.mem_append.2 (.inl hx))
 generalize (gZ l).1=f at *;unfold zW at h;split at h
 case isTrue=>cases h
 split at h
 case isFalse=>cases h
 rename_i hm;obtain⟨m,r1,h1,h2⟩:=bt h;obtain⟨e1,b1,-⟩:=E_ _ _ _ (hbf.drop 4) h1;split at h2
 case isFalse=>cases h2
 rename_i hr;obtain⟨rfl,rfl⟩:=gY h2;refine⟨?_,hr.1,hr.2,b1⟩;rw[e1,← hm,List.take_append_drop,hs]
theorem LD{l:List Nat}(hb:Bytes l){p:aD}{n:Nat}(h:nW A8 l=.ok (p,n)):gb A8 p n=.ok l∧sw 3 p∧A8 p=0∧1≤n∧n≤3∧cr p≤n:=by
 unfold nW at h;split at h
 case h_1=>cases h
 rename_i n' r hf;split at h
 case h_1=>cases h
 rename_i p' r' hp;split at h
 case isFalse=>cases h
 rename_i hr;subst hr;split at h
 case isFalse=>cases h
 rename_i hc;simp only[Except.ok.injEq,Prod.mk.injEq] at h;obtain⟨rfl,rfl⟩:=h;obtain⟨e,h1,h3,hbr⟩:=DK hb hf;obtain⟨e2,-,g⟩:=Rl n' r _ _ hbr hp;rw[List.append_nil] at e2;obtain⟨hl,h3'⟩:=g.least h1;refine⟨?_,h3',hc,h1,h3,hl⟩;unfold gb;rw[if_pos ⟨by omega,by omega⟩,if_pos hc,if_neg (by omega)];unfold dM;rw[Int.toNat_natCast,e2,← e]
end
theorem Tz{l:List Nat}(hb:Bytes l)(hl:l.length≤100000):(∀ n r,cS l=.ok (n,r)→r.length≤aT)∧∀ n r p r',cS l=.ok (n,r)→wY n r=.ok (p,r')→p.Ok∧p.Md:=by
 have key:∀ n r,cS l=.ok (n,r)→r.length≤100000∧Bytes r:=fun n r h=>by
  obtain⟨h1,-,-,h4⟩:=DK hb h;have h2:l.length=(eP ([65,67,80,66]++(bn n++r))).length:=by rw[← h1]
  rw[mT] at h2;simp only[alj] at h2;exact⟨by omega,h4⟩
 refine⟨fun n r h=>by have:=(key n r h).1;unfold aT;omega,fun n r p r' h hp=>?_⟩;obtain⟨h1,h2⟩:=key n r h;obtain⟨h3,-,h4⟩:=Rl n r p r' h2 hp;refine⟨h4.ok,h4.md ?_⟩;have:=congrArg List.length h3;rw[alj] at this;omega
theorem oP{p:aD}{ver:Int}{l:List Nat}(h:gb aZ p ver=.ok l):∃ v:Nat,ver=(v:Int)∧1≤v∧v≤3∧aZ p=0∧cr p≤v∧l=eP (dM v p):=by
 unfold gb at h;split at h
 ·rename_i h1;split at h
  ·rename_i h2;split at h
   ·cases h
   ·rename_i h3;injection h with h;obtain⟨v,rfl⟩:=Int.eq_ofNat_of_zero_le (a:=ver) (by omega);exact⟨v,rfl,by omega,by omega,h2,by omega,by rw[← h];simp⟩
  ·cases h
 ·cases h
end Go.Proofs.YtkkmjdceiocnbaaGreatDoor
namespace Go.Proofs.YtkkmjdceiocnbaaGreatDoor
open Go Go.ChangeAt Go.ChangeShapes Go.RowKit Go.WideShapes
theorem Km{P:Program}{w:World}{t:TypeId}{vs:List Value}(h:Args P w [t] vs):∃ a,vs=[a]∧Arg P w t a:=by
 match vs,h with
 | [a],⟨h1,_⟩=>exact⟨a,rfl,h1⟩
theorem H9{n:Int}(h:(Lit.int .u8 n).wf=true):∃ m:Nat,n=m∧m<256:=by
 have a1:IntKind.u8.min=0:=by decide
 have a2:IntKind.u8.max=255:=by decide
 simp only[Lit.wf,a1,a2] at h;simp at h;exact⟨n.toNat,by omega,by omega⟩
theorem Hu{w:World}{f:Nat}:∀ (es:List (List Value)),(∀ x∈es,x.length=Tryz.prog.cellsOf 5∧Rd Tryz.prog w f 5 x)→∃ l:List Nat,es.flatten=byteCells l∧es.length=l.length∧Bytes l
 | [],_=>⟨[],rfl,rfl,by intro x hx;cases hx⟩
 | x::es,h=>by
  obtain⟨o,rfl,ho⟩:=(h x (by simp)).2.int Tryz.underlying5;obtain⟨m,rfl,hm⟩:=H9 ho;obtain⟨l,h1,h2,h3⟩:=Hu es fun y hy=>h y (by simp[hy])
  exact⟨m::l,by rw[List.flatten_cons,h1];rfl,by simp[h2],fun x hx=>(List.mem_cons.1 hx).elim (fun e=>e▸hm) (h3 x)⟩
theorem NM{w:World}{v:Value}(h:Arg Tryz.prog w 42 v):∃ l:List Nat,aq w v l:=by
 obtain⟨f,cs,h,rfl⟩:=h;rw[Tryz.underlying42];obtain⟨f',v,rfl,rfl,es,h1,h2,_⟩:=h.slice Tryz.underlying42;obtain⟨l,e1,e2,e3⟩:=Hu es h2;refine⟨l,?_,e3⟩;rw[e1,e2,show Tryz.prog.cellsOf 5=1 from by kernel_rfl] at h1;exact h1
end Go.Proofs.YtkkmjdceiocnbaaGreatDoor
namespace Go.Proofs.YtkkmjdceiocnbaaGreatDoor
open Go
theorem acd:Tryz.prog.wantsStandIn 42=false:=by kernel_rfl
end Go.Proofs.YtkkmjdceiocnbaaGreatDoor
namespace Go.Proofs.YtkkmjdceiocnbaaGreatDoor
open Go Go.RowKit
theorem Oi{P:Program}{ops ops':Array Oper}{Q:Exit→Act→World→Prop}{S:Act→World→Prop}{o:Oper}{rest:List Oper}{a:Act}{w:World}(hg:Region.wanted o (yielded ops a.tmps)=true)(hS:∀ a w,S a w→a.defers=[])(h0:a.defers=[])
 (h:wpList P ops' (fun e a w=>e=.normal∧S a w) [wZ o] a w) (next:∀ a1 w1,S a1 w1→wpList P ops Q rest a1 w1):wpList P ops Q (o::rest) a w:=by
 have hno:¬ LetsOut (fun e a w=>e=Exit.normal∧S a w):=fun⟨_,_,h,_⟩=>by cases h
 unfold wpList at h ⊢;rw[if_pos (gB rfl)] at h;rw[if_pos hg];rcases h with h|⟨_,h⟩
 case inr=>exact absurd h hno
 refine .inl ?_;have h:o.wp P a w (wpList P ops' (fun e a w=>e=.normal∧S a w) []) (fun e a w=>e=.normal∧S a w):=h;unfold Oper.wp at h ⊢;generalize (execOp a.eval o).run P w=r at h ⊢
 match r,h with
 | .ok (.value v) w',h=>exact next _ _ h.2
 | .ok .skip w',h=>exact next _ _ h.2
 | .ok (.defer d) w',h=>exact absurd ((hS _ _ h.2).trans h0.symm) (by cases o.dst<;>simp[Act.put])
 | .ok (.enter f args) w',h=>
  refine Calls.mono h fun e w'' h=>?_
  match e,h with
  | .returned v,h=>exact next _ _ h.2
  | .panicked c,h=>cases h.1
  | .outgrown,h=>exact absurd h hno
 | .ok (.row row args) w',h=>exact Rows.mono h fun v w'' h=>next _ _ h.2
 | .halt (.panic v) w',h=>cases h.1
def vcg(B:Nat)(w0:World)(N:Nat)(l:Slots)(K:Slots→List Bx→List Rw→World→Prop):List Oper→Nat→List iP→List Bx→List Rw→World→Prop
 | [],_,m,bs,rs,w=>qY m l fun l'=>K l' bs rs w
 | o::r,n,m,bs,rs,w=>gK m o.guard fun _ on=>on=true∧xO none B w0 N l (wZ o) n m bs rs w fun m' bs' rs' w'=>vcg B w0 N l K r (n+1) m' bs' rs' w'
theorem OA{ops:Array Oper}{B:Nat}{w0:World}{N:Nat}{l:Slots}{K:Slots→List Bx→List Rw→World→Prop}{Q:Exit→Act→World→Prop}(hQ:∀ a l' bs rs w,Fs a N l'→aQ B w0 w bs rs→K l' bs rs w→Q .normal a w):∀ {L:List Oper} {n:Nat} {m:List iP} {bs:List Bx} {rs:List Rw} {a:Act} {w:World},
 (∀ i o,L[i]?=some o→ops[n+i]?=some o)→vcg B w0 N l K L n m bs rs w→Inv ops a N l m n→aQ B w0 w bs rs→wpList Tryz.prog ops Q L a w
 | [],_,_,_,_,_,_,_,hv,I,M=>by
  obtain⟨l',h1,F⟩:=I.Zl hv;exact wpList_nil (hQ _ _ _ _ _ F M h1)
 | o::r,n,m,bs,rs,a,w,qo,hv,I,M=>by
  have ho:ops[n]?=some o:=by simpa using qo 0 o rfl
  obtain⟨π,on,⟨hon,hv⟩,-,-,hw',-⟩:=QL I hv;rw[hon] at hw';have hlt:n<ops.size:=(Array.getElem?_eq_some_iff.1 ho).1
  have hne:∀ j,((ops.set n (wZ o))[j]?).bind Oper.dst=(ops[j]?).bind Oper.dst:=fun j=>by
   by_cases e:n=j
   ·subst e;rw[ho,Array.getElem?_set];simp[wZ]
   ·rw[Array.getElem?_set];simp[e]
  have I2:Inv (ops.set n (wZ o)) a N l m n:=⟨I.fr,I.L,fun e he=>(hne e.j).trans (I.dst e he),I.at_,I.base⟩;refine Oi (ops':=ops.set n (wZ o)) (S:=fun a1 w1=>∃ m' bs' rs',Inv (ops.set n (wZ o)) a1 N l m' (n+1)∧aQ B w0 w1 bs' rs'∧vcg B w0 N l K r (n+1) m' bs' rs' w1) hw' (fun a w ⟨_,_,_,I,_⟩=>I.fr.defers) I.fr.defers (ql I2 M (by simp[hlt]) hv (fun _ h=>by cases h) fun a1 m' bs' rs' w1 I2 M2 h2=>wpList_nil ⟨rfl,m',bs',rs',I2,M2,h2⟩) ?_;rintro a1 w1 ⟨m',bs',rs',I3,M2,h2⟩;have I4:Inv ops a1 N l m' (n+1):=⟨I3.fr,I3.L,fun e he=>(hne e.j).symm.trans (I3.dst e he),I3.at_,I3.base⟩;exact OA hQ (fun i o hi=>by have:=qo (i+1) o (by simpa using hi);rwa [show n+1+i=n+(i+1) by omega]) h2 I4 M2
section
variable (B:Nat) (w0:World) (N:Nat) (J:List Nat) (X:Nat)
def XU:Code→Slots→List Bx→List Rw→World→KK→Prop
 | .seq x y,l,bs,rs,w,K=>XU x l bs rs w fun e l' bs' rs' w'=>match e with
  | .normal=>XU y l' bs' rs' w' K
  | e=>K e l' bs' rs' w'
 | .region id ops false,l,bs,rs,w,K=>bif Nat.beq id X then vcg B w0 N l (K .normal) ops.toList 0 [] bs rs w else Bn none B w0 N J (.region id ops false) l bs rs w K
 | c,l,bs,rs,w,K=>Bn none B w0 N J c l bs rs w K
end
theorem UR{B:Nat}{w0:World}{N:Nat}{J:List Nat}{X:Nat}:∀ {c:Code} {l:Slots} {bs:List Bx} {rs:List Rw} {w:World} {K:KK} {Q:Exit→Act→World→Prop} {a:Act},XU B w0 N J X c l bs rs w K→Fs a N l→aQ B w0 w bs rs →
 (∀ e a l bs rs w,Fs a N l→aQ B w0 w bs rs→K e l bs rs w→Q e a w)→c.wp Tryz.prog Q a w:=by
 intro c
 induction c with
 | seq x y EO ihy=>
  intro l bs rs w K Q a h F M hQ;refine wp_seq (EO h F M fun e a l' bs' rs' w' F' M' hk=>?_)
  cases e with
  | normal=>exact ihy hk F' M' hQ
  | _=>exact hQ _ _ _ _ _ _ F' M' hk
 | region id ops dr=>
  intro l bs rs w K Q a h F M hQ
  cases dr with
  | true=>exact jl h F M (fun _ h=>by cases h) hQ
  | false=>
   unfold XU at h
   cases e:Nat.beq id X with
   | false=>rw[e] at h;exact jl (J:=J) h F M (fun _ h=>by cases h) hQ
   | true=>
    rw[e] at h;exact wp_region_list (OA (fun a l' bs rs w F M hk=>hQ _ _ _ _ _ _ F M hk) (fun i o hi=>by simpa using hi) h (Inv.start F) M)
 | _=>intro l bs rs w K Q a h F M hQ;exact jl h F M (fun _ h=>by cases h) hQ
theorem aa5{f:FuncId}{fn:Func}{c:Code}{N:Nat}(X:Nat)(J:List Nat){vs:List Value}{R:Ending→World→Prop}{w0:World}(hf:Tryz.prog.funcs[f]?=some fn)(hb:fn.body=some c)(hn:fn.ntmps=N)(hN:Nat.ble vs.length N=true)
 (h:XU w0.heap.size w0 N J X c (HZ 0 vs) [] [] w0 (F9 fn w0.heap.size w0 R)):Calls Tryz.prog f vs.toArray w0 R:=by
 refine en hf hb hn (by simpa using hN) rfl fun a F=>UR h F (Mm.start w0) fun e a l bs rs w F M hk=>?_
 cases e with
 | normal=>exact tK (iM F M hk)
 | ret=>exact iM F M hk
 | _=>exact hk.elim
theorem Nz{A8:aD→Int}{w0:World}{p:aD}{ver:Int}{c0 c1 c2 c3 c4 c5 c6 c7 c8 c9 c10 c11 c12 c13 c14 c15 c16:Value}(hp:aA w0 c0 c1 c2 c3 c4 c5 c6 c7 c8 c9 c10 c11 c12 c13 c14 c15 c16 p)(hok:p.Ok)(hv:gA ver)
 (yE:∀ w,aA w c0 c1 c2 c3 c4 c5 c6 c7 c8 c9 c10 c11 c12 c13 c14 c15 c16 p→Calls Tryz.prog 31 #[.agg #[c0,c1,c2,c3,c4,c5,c6,c7,c8,c9,c10,c11,c12,c13,c14,c15,c16]] w (fun r w'=>r=.returned (.int .i64 (A8 p))∧alk w.heap.size w w'))
 (hb:A8 p=0→∀ v:Nat,v≤3→ver=(v:Int)→(i_ v p).length+2000≤aT) :
 Calls Tryz.prog 13 #[.agg #[c0,c1,c2,c3,c4,c5,c6,c7,c8,c9,c10,c11,c12,c13,c14,c15,c16],.int .i64 ver] w0 (NU w0 (gb A8 p ver)):=by
 refine bM [] (fn:=Tryz.f13) Tryz.func13 rfl Tryz.ntmps13 rfl<|fun g1 w1 M1=>cl<|an (z6 w1 ver hv) fun w2 M2=>an (fun h=>?_) fun h=>?_
 ·have hno:¬ (1≤ver∧ver≤3):=by have h2:=h;simp at h2;omega
  exact fun M=>⟨_,_,rfl,by unfold gb;rw[if_neg hno];exact⟨rfl,rfl⟩,M.below⟩
 have hyes:1≤ver∧ver≤3:=by simpa using h
 refine lb 0<|an rfl<|cl<|an (yE w2 (hp.keep M2.below)) fun w3 M3=>an (fun h=>?_) fun h=>?_
 ·have hno:¬ A8 p=0:=by simpa using h
  exact fun M=>⟨_,_,rfl,by unfold gb;rw[if_pos hyes,if_neg hno];exact⟨rfl,rfl⟩,M.below⟩
 have Cg:A8 p=0:=by simpa using h
 refine lb 0<|an rfl<|cl<|an (Fk (hp.keep M3.below)) fun w4 M4=>an (fun h=>?_) fun h=>?_
 ·have hlt:ver<cr p:=of_decide_eq_true h;exact fun M=>⟨_,_,rfl,by unfold gb;rw[if_pos hyes,if_pos Cg,if_pos hlt];exact⟨rfl,rfl⟩,M.below⟩
 have hge:¬ ver<cr p:=of_decide_eq_false h;obtain⟨v,rfl⟩:=Int.eq_ofNat_of_zero_le (a:=ver) (by omega);have hlen:=hb Cg v (by omega) rfl;have h5:nr [(g1,39,#[c0,c1,c2,c3,c4,c5,c6,c7,c8,c9,c10,c11,c12,c13,c14,c15,c16])] []:=nr.nil.cons;have hm:cN ⟨#[65,67,80,66]⟩=[65,67,80,66]:=by decide
 refine ei (x:=.agg #[.slice none 0 0,.int .i64 0,.int .i8 0,.int .i64 (v:Int)])<|an (bd (by kernel_rfl))<|fun g2 w5 M5=>cg (R:=fun r w'=>r=.tuple #[.int .i64 4,.nilIface]∧TM w0.heap.size w0 w' [(g1,39,#[c0,c1,c2,c3,c4,c5,c6,c7,c8,c9,c10,c11,c12,c13,c14,c15,c16])] [] g2 (v:Int) [65,67,80,66])<|an ?_ ?_
 ·have hw:=xE (s:=⟨#[65,67,80,66]⟩) (xs:=[]) (M5.bS 5 1) h5 (by unfold aT;decide);rw[hm] at hw;exact hw.mono fun e w' ⟨h1,h2⟩=>⟨_,h1,rfl,h2⟩
 rintro _ w6 ⟨rfl,v6,MJ,M6⟩;refine⟨_,_,M6,?_⟩;refine fun g3 w7 M7=>fB 1 M7 rfl (fun M=>bL (ns:=[(v:Int)]) M h5 (by simp) (by unfold aT at *;simp)) fun v8 Yk w8 M8=>lb 2<|an rfl<|fB 1 M8 rfl (fun M=>FK hp hok M h5.cons (by have:=aV (v:Int);simp only[alj,List.flatMap_cons,List.flatMap_nil,List.length_cons,List.length_nil];omega)) fun v9 Ud w9 M9=>?_
 have hbody:[65,67,80,66]++List.flatMap eN [(v:Int)]++i_ v p=dM v p:=by
  unfold dM;rw[List.append_assoc,List.flatMap_cons,List.flatMap_nil,List.append_nil,Ec (by omega)]
 have hbl:(dM v p).length≤(i_ v p).length+14:=by
  have:=bG (n:=v) (by omega);unfold dM;simp only[alj,List.length_cons,List.length_nil];omega
 have M9b:aQ w0.heap.size w0 w9 [cH g2 v9 Ud (v:Int),(g1,39,#[c0,c1,c2,c3,c4,c5,c6,c7,c8,c9,c10,c11,c12,c13,c14,c15,c16])] [bf v9 (dM v p)]:=(M9.only (.cons _ (.refl _)) (.refl _)).cast rfl (by rw[hbody]);refine cg (R:=fun r w'=>r=v9∧aQ w0.heap.size w0 w' [cH g2 v9 Ud (v:Int),(g1,39,#[c0,c1,c2,c3,c4,c5,c6,c7,c8,c9,c10,c11,c12,c13,c14,c15,c16])] [bf v9 (dM v p)])<|an ((DQ M9b (by simp[dM])).mono fun e w' ⟨h1,h2⟩=>⟨_,h1,rfl,h2⟩) ?_;rintro _ pT ⟨rfl,j3⟩;refine⟨_,_,j3,cw j3 (F8 (dV (j3.r 0 rfl) (kR v p)) (by omega)) fun u yY M11=>fun M=>⟨_,_,rfl,?_,M.below⟩⟩;unfold gb;rw[if_pos hyes,if_pos Cg,if_neg hge];exact⟨rfl,M.r 0 rfl⟩
theorem JX{w0:World}{v:Value}{l:List Nat}{k:Int}(h:aq w0 v l)(hL:l.length≤aT)(hpre:(∀ n r,cS l=.ok (n,r)→r.length≤aT)∧∀ n r p r',cS l=.ok (n,r)→wY n r=.ok (p,r')→p.Ok∧p.Md)(hd:nW aZ l=.error k):Calls Tryz.prog 16 #[v] w0 (fun r w'=>∃ u,r=.returned u∧((∃ (c0 c1 c2 c3 c4 c5 c6 c7 c8 c9 c10 c11 c12 c13 c14 c15 c16:Value),u=.tuple #[.agg #[c0,c1,c2,c3,c4,c5,c6,c7,c8,c9,c10,c11,c12,c13,c14,c15,c16],.int .i64 0,.int .i64 k]∧aA w' c0 c1 c2 c3 c4 c5 c6 c7 c8 c9 c10 c11 c12 c13 c14 c15 c16 q7)∧alk w0.heap.size w0 w')):=by
 refine(xB h hL hpre.1 hpre.2).mono fun r w' ⟨q,c0,c1,c2,c3,c4,c5,c6,c7,c8,c9,c10,c11,c12,c13,c14,c15,c16,n,k,h1,⟨T,hT,oF⟩,h2,h3⟩=>?_
 rw[hd] at h3;obtain⟨rfl,rfl,rfl⟩:=h3;exact⟨_,h1,⟨_,_,_,_,_,_,_,_,_,_,_,_,_,_,_,_,_,rfl,oF _ _ hT⟩,h2⟩
theorem JR{w0:World}{c0 c1 c2 c3 c4 c5 c6 c7 c8 c9 c10 c11 c12 c13 c14 c15 c16:Value}{p:aD}{l:List Nat}{n:Nat}(hp:aA w0 c0 c1 c2 c3 c4 c5 c6 c7 c8 c9 c10 c11 c12 c13 c14 c15 c16 p)(hpre:(∀ n r,cS l=.ok (n,r)→r.length≤aT)∧∀ n r p r',cS l=.ok (n,r)→wY n r=.ok (p,r')→p.Ok∧p.Md)(hb:Bytes l)(h8:l.length≤8000)(hd:nW aZ l=.ok (p,n)):Calls Tryz.prog 13 #[.agg #[c0,c1,c2,c3,c4,c5,c6,c7,c8,c9,c10,c11,c12,c13,c14,c15,c16],.int .i64 (n:Int)] w0 (fun r w'=>∃ v,r=.returned v∧((∃ a c,v=.tuple #[.slice a l.length c,.int .i64 0]∧w'.ownsRow w0.heap.size 5 1 (.slice a l.length c) l.length (byteCells l))∧alk w0.heap.size w0 w')):=by
 obtain⟨he,XC,yE,h1,h3,hle⟩:=LD hb hd;obtain⟨v,hv,-,-,-,-,hl⟩:=oP he;obtain rfl:n=v:=by omega
 have YM:p.Ok∧p.Md:=by
  unfold nW at hd;split at hd
  case h_1=>cases hd
  rename_i n' r hf;split at hd
  case h_1=>cases hd
  rename_i p' r' hp';split at hd
  case isFalse=>cases hd
  split at hd
  case isFalse=>cases hd
  simp only[Except.ok.injEq,Prod.mk.injEq] at hd;obtain⟨rfl,rfl⟩:=hd;exact hpre.2 _ _ _ _ hf hp'
 refine(Nz hp YM.1 (by unfold gA;omega) (fun w hw=>AR w _ _ _ _ _ _ _ _ _ _ _ _ _ _ _ _ _ p hw YM.1 YM.2) fun _ v _ hv=>?_).mono fun r w' ⟨v,e,h1,h2,h3⟩=>?_
 ·obtain rfl:v=n:=by omega
  have:=congrArg List.length hl;rw[mT] at this;unfold dM at this;simp only[alj] at this;unfold aT;omega
 ·rw[he] at h2;obtain⟨rfl,ho⟩:=h2;obtain⟨a,c,rfl,-,-⟩:=sM ho;exact⟨_,h1,⟨a,c,rfl,ho⟩,h3⟩
theorem C2(w0:World)(v:Value)(l:List Nat)(hl:aq w0 v l):Calls Tryz.prog 6 #[v] w0 (fun r w'=>r=.returned (.bool true)∧alk w0.heap.size w0 w'):=by
 have hl':=hl;obtain⟨la,lcc,rfl,-,-,-⟩:=jU hl';refine aa5 7 [] (fn:=Tryz.f6) Tryz.func6 rfl Tryz.ntmps6 rfl<|an (fun h=>cl<|an (dW _) fun w3 M3=>fun M=>⟨rfl,M.below⟩) fun h=>?_
 have h8:l.length≤8000:=by have:=of_decide_eq_false h;omega
 have hL:l.length≤aT:=by unfold aT;omega
 have hpre:=Tz hl.2 (show l.length≤100000 by omega)
 cases hd:nW aZ l with
 | error k=>
  have hk:=Rh hd;refine cg<|an (JX hl hL hpre hd) ?_;rintro _ w5 ⟨⟨c0,c1,c2,c3,c4,c5,c6,c7,c8,c9,c10,c11,c12,c13,c14,c15,c16,rfl,oF⟩,uL⟩;have M5:=(Mm.start w0).keep uL;have hpc:=oF;obtain⟨_,_,_,_,_,_,_,_,_,_,_,_,_,_,_,_,_,_,_,_,_,_,_,_,_,_,_,_,_,_,_,_,_,_,rfl,rfl,rfl,rfl,rfl,rfl,rfl,rfl,rfl,rfl,rfl,rfl,rfl,rfl,rfl,rfl,rfl⟩:=hpc.open;exact⟨_,_,M5,ei<|an Ac fun g2 w6 M6=>lb 0<|an ⟨rfl,rfl⟩ fun w7 M7=>an (fun h=>cl<|an (fun _=>dW _) fun w4 M4=>fun M=>⟨rfl,M.below⟩) fun h=>absurd h (by simpa using hk)⟩
 | ok y=>
  obtain⟨p,n⟩:=y;obtain⟨he,XC,yE,h1,h3,hle⟩:=LD hl.2 hd;refine cg<|an (E8 hl hL hpre hd) ?_;rintro _ w5 ⟨⟨c0,c1,c2,c3,c4,c5,c6,c7,c8,c9,c10,c11,c12,c13,c14,c15,c16,T,rfl,hT,oF⟩,uL⟩;have M5:=(Mm.start w0).vV uL hT;have hpc:=oF _ _ hT;obtain⟨_,_,_,_,_,_,_,_,_,_,_,_,_,_,_,_,_,_,_,_,_,_,_,_,_,_,_,_,_,_,_,_,_,_,rfl,rfl,rfl,rfl,rfl,rfl,rfl,rfl,rfl,rfl,rfl,rfl,rfl,rfl,rfl,rfl,rfl⟩:=hpc.open;refine⟨_,_,M5,ei<|an Ac fun g2 w6 M6=>lb 0<|an ⟨rfl,rfl⟩ fun w7 M7=>an (fun h=>absurd h (by simp)) fun h=>lb 0<|an rfl<|cg<|an (JR (oF _ _ M7.pU.right) hpre hl.2 h8 hd) ?_⟩;rintro _ w8 ⟨⟨ua,uc,rfl,ho⟩,XB⟩;have M8:=M7.sj (r:=bf _ l) XB ho;refine⟨_,_,M8,?_⟩;exact an rfl<|an rfl<|an rfl<|an rfl<|an rfl<|zD M8 (dV (M8.r 0 rfl) hl.2)<|an rfl<|an rfl<|zD M8 (hl.keep M8.below)<|an rfl<|an rfl<|an rfl<|an (by simp)<|cl<|an (dW _) fun w9 M9=>an rfl<|an rfl<|fun M=>⟨by simp;rfl,M.below⟩
end Go.Proofs.YtkkmjdceiocnbaaGreatDoor

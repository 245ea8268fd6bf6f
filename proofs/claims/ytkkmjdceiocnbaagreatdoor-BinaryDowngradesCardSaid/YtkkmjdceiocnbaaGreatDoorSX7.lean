import Derived.Test.YtkkmjdceiocnbaaGreatDoorSX6
open Array renaming getD_eq_getD_getElem?→ajs
open Bool renaming and_eq_true→ajt
open Go.RowKit renaming Below→ajj
open List renaming getElem?_eq_getElem→ajl,mem_of_getElem?→ajm,take_length→ajn,length_append→ajo,getElem?_eq_some_iff→ajp,mem_singleton→ajq,all_eq_true→ajr,mem_append→aju
open Nat renaming zero_le→ajk
open Option.some renaming inj→ajv
set_option maxRecDepth 100000
set_option maxHeartbeats 8000000
set_option linter.unusedSectionVars false
set_option linter.unusedSimpArgs false
set_option linter.unusedVariables false
namespace Go.Proofs.YtkkmjdceiocnbaaGreatDoor
open Go Go.RowKit
theorem vo(w0:World)(n:Int)(hn:eF n):Calls Tryz.prog 30 #[.int .i64 n] w0 (fun r w'=>r=.returned (.bool (decide (1≤n)&&decide (n≤3)))∧ajj w0.heap.size w0 w'):=by
 refine bU [] (fn:=Tryz.f30) Tryz.func30 rfl Tryz.ntmps30 rfl<|fun M=>⟨rfl,M.below⟩
theorem Uq{w0:World}{cs:List Value}{x:gE}(hx:jY w0 cs x):Calls Tryz.prog 79 #[.agg cs.toArray] w0 (fun r w'=>r=.returned (.bool x.perm)∧ajj w0.heap.size w0 w'):=by
 obtain⟨pv,rfl,hl2⟩:=hx;obtain⟨pa,pc,rfl,-⟩:=aJ.get hl2;exact bU [] (fn:=Tryz.f79) Tryz.func79 rfl Tryz.ntmps79 rfl<|fun g1 w1 M1=>lb 0<|an rfl<|fun M=>⟨rfl,M.below⟩
theorem QD(w0:World)(x:bG):Calls Tryz.prog 81 #[.agg x.cells.toArray] w0 (fun r w'=>r=.returned (.bool (decide (x.name.size≠0)))∧ajj w0.heap.size w0 w'):=by
 refine bU [] (fn:=Tryz.f81) Tryz.func81 rfl Tryz.ntmps81 rfl<|fun g1 w1 M1=>lb 0<|an rfl<|fun M=>⟨?_,M.below⟩
 have h:(x.name.toList == (⟨#[]⟩:ByteArray).toList)=decide (x.name.size=0):=by
  rw[kA,decide_eq_decide];exact⟨fun e=>by rw[e];rfl,fun e=>ByteArray.ext (Array.eq_empty_of_size_eq_zero e)⟩
 show Ending.returned (.bool (!x.name.toList == (⟨#[]⟩:ByteArray).toList))=_;rw[h];by_cases e:x.name.size=0<;>simp[e]
theorem D7{α:Type}{l:List α}{q:α→Bool}{j:Nat}{y:α}(hy:l[j]?=some y)(h:(l.take j).any q=false)(hq:q y=false):(l.take (j+1)).any q=false:=by
 rw[List.take_add_one,hy,List.any_append,h];simp[hq]
theorem MG{w0:World}{l:List gE}{av:Value}(hv:au 3 (jY w0) w0 av l):Calls Tryz.prog 193 #[av,.func (.func 79) #[] #[]] w0 (fun r w'=>∃ v,r=.returned v∧((∃ z:Int,v=.int .i64 z∧eF z∧decide (0≤z)=l.any (·.perm))∧ajj w0.heap.size w0 w')):=by
 have hv':=hv;obtain⟨la,lk,rfl,hm1,hm2,-⟩:=au.form hv' (by decide);refine bU [] (fn:=Tryz.f193) Tryz.func193 rfl Tryz.ntmps193 rfl<|lr (ι:=Nat) (fun j=>[(8,.int .i64 (j:Int))]) (fun j _=>j≤l.length∧(l.take j).any (·.perm)=false) (fun j=>l.length-j) 0<|an ⟨⟨rfl,trivial⟩,fun M=>⟨M,ajk _,rfl⟩⟩ ?_;intro j w1 M1 ⟨hj,hno⟩;refine an (fun h'=>?_) fun h'=>?_
 ·have hlt:j<l.length:=Int.ofNat_lt.1 (of_decide_eq_true h');obtain⟨y,hy⟩:∃ y,l[j]?=some y:=⟨_,ajl hlt⟩;obtain⟨b,off,x,e1,hx,hc⟩:=au.elt hv (by decide) hy;have hx2:=hx;obtain⟨pv,rfl,hl2⟩:=hx2;obtain⟨pa,pc,rfl,-⟩:=aJ.get hl2;refine ia<|an ⟨e1,rfl,hlt⟩<|lc<|an (cL M1.below hc)<|cl<|an (Uq (hx.keep M1.below)) fun w2 M2=>an (fun hp=>fun M=>⟨_,rfl,⟨j,rfl,by unfold eF;omega,?_⟩,M.below⟩) fun hp=>an (by omega)<|bk (j+1) ⟨rfl,trivial⟩ (fun M=>⟨M,hlt,D7 hy hno hp⟩) (show l.length-(j+1)<l.length-j by omega)
  rw[decide_eq_true (by omega)];exact(List.any_eq_true.2 ⟨y,ajm hy,hp⟩).symm
 ·have hge:j=l.length:=Nat.le_antisymm hj (Nat.le_of_not_lt fun h2=>of_decide_eq_false h' (Int.ofNat_lt.2 h2));subst hge;rw[ajn] at hno;exact fun M=>⟨_,rfl,⟨-1,rfl,by unfold eF;omega,by rw[hno];rfl⟩,M.below⟩
theorem MH{w0:World}{l:List bG}{av:Value}(hv:SliceAt w0 av 13 l.length (l.flatMap bG.cells)):Calls Tryz.prog 175 #[av,.func (.func 81) #[] #[]] w0 (fun r w'=>∃ v,r=.returned v∧((∃ z:Int,v=.int .i64 z∧eF z∧decide (0≤z)=l.any (fun t=>decide (t.name.size≠0)))∧ajj w0.heap.size w0 w')):=by
 have hv':=hv;obtain⟨la,lk,rfl,hm1,hm2,-⟩:=SliceAt.form hv' (by decide);refine bU [] (fn:=Tryz.f175) Tryz.func175 rfl Tryz.ntmps175 rfl<|lr (ι:=Nat) (fun j=>[(8,.int .i64 (j:Int))]) (fun j _=>j≤l.length∧(l.take j).any (fun t=>decide (t.name.size≠0))=false) (fun j=>l.length-j) 0<|an ⟨⟨rfl,trivial⟩,fun M=>⟨M,ajk _,rfl⟩⟩ ?_;intro j w1 M1 ⟨hj,hno⟩;refine an (fun h'=>?_) fun h'=>?_
 ·have hlt:j<l.length:=Int.ofNat_lt.1 (of_decide_eq_true h');obtain⟨y,hy⟩:∃ y,l[j]?=some y:=⟨_,ajl hlt⟩;obtain⟨b,off,e1,hc⟩:=SliceAt.elt hv (f:=bG.cells) (fun _=>rfl) (by decide) hy hlt;refine ia<|an ⟨e1,rfl,hlt⟩<|lc (x:=y.cells)<|an (cL M1.below hc)<|cl<|an (QD w1 y) fun w2 M2=>an (fun hp=>fun M=>⟨_,rfl,⟨j,rfl,by unfold eF;omega,?_⟩,M.below⟩) fun hp=>an (by omega)<|bk (j+1) ⟨rfl,trivial⟩ (fun M=>⟨M,hlt,D7 hy hno hp⟩) (show l.length-(j+1)<l.length-j by omega)
  rw[decide_eq_true (by omega)];exact(List.any_eq_true.2 ⟨y,ajm hy,hp⟩).symm
 ·have hge:j=l.length:=Nat.le_antisymm hj (Nat.le_of_not_lt fun h2=>of_decide_eq_false h' (Int.ofNat_lt.2 h2));subst hge;rw[ajn] at hno;exact fun M=>⟨_,rfl,⟨-1,rfl,by unfold eF;omega,by rw[hno];rfl⟩,M.below⟩
theorem F8{w0:World}{l:List gE}{av:Value}(hv:au 3 (jY w0) w0 av l):Calls Tryz.prog 78 #[av,.func (.func 79) #[] #[]] w0 (fun r w'=>r=.returned (.bool (l.any (·.perm)))∧ajj w0.heap.size w0 w'):=by
 refine bU [] (fn:=Tryz.f78) Tryz.func78 rfl Tryz.ntmps78 rfl<|cg<|an (MG hv) fun v w1 ⟨⟨z,hz,_,hd⟩,hb⟩=>⟨[],[],(Mm.start w0).keep hb,?_⟩
 subst hz;exact fun M=>⟨by rw[← hd];rfl,M.below⟩
theorem F7{w0:World}{l:List bG}{av:Value}(hv:SliceAt w0 av 13 l.length (l.flatMap bG.cells)):Calls Tryz.prog 80 #[av,.func (.func 81) #[] #[]] w0 (fun r w'=>r=.returned (.bool (l.any (fun t=>decide (t.name.size≠0))))∧ajj w0.heap.size w0 w'):=by
 refine bU [] (fn:=Tryz.f80) Tryz.func80 rfl Tryz.ntmps80 rfl<|cg<|an (MH hv) fun v w1 ⟨⟨z,hz,_,hd⟩,hb⟩=>⟨[],[],(Mm.start w0).keep hb,?_⟩
 subst hz;exact fun M=>⟨by rw[← hd];rfl,M.below⟩
theorem Iq{w0:World}{p:aA}{c0 c1 c2 c3 c4 c5 c6 c7 c8 c9 c10 c11 c12 c13 c14 c15 c16:Value}(hp:aD w0 c0 c1 c2 c3 c4 c5 c6 c7 c8 c9 c10 c11 c12 c13 c14 c15 c16 p):Calls Tryz.prog 32 #[.agg #[c0,c1,c2,c3,c4,c5,c6,c7,c8,c9,c10,c11,c12,c13,c14,c15,c16]] w0 (fun r w'=>r=.returned (.int .i64 (cC p:Int))∧ajj w0.heap.size w0 w'):=by
 obtain⟨_,_,_,_,_,_,_,_,_,_,_,_,_,_,_,_,_,_,_,_,_,_,_,_,_,_,_,_,_,_,_,_,_,_,rfl,rfl,rfl,rfl,rfl,rfl,rfl,rfl,rfl,rfl,rfl,rfl,rfl,rfl,rfl,rfl,rfl⟩:=hp.open;refine bU [] (fn:=Tryz.f32) Tryz.func32 rfl Tryz.ntmps32 rfl<|fun g1 w1 M1=>lb 0<|an rfl<|lb 0<|an (fun _=>rfl)<|an (fun h=>?_) fun h=>?_
 ·refine fun M=>⟨?_,M.below⟩
  have:0<p.files.length∨0<p.asserts.length:=by simpa using h
  unfold cC;rw[if_pos this];rfl
 ·have hno:¬ (0<p.files.length∨0<p.asserts.length):=by simpa using h
  refine lb 0<|an rfl<|lb 0<|an (fun _=>rfl)<|cl<|an (fun _=>F8 (hp.keep M1.below).types) fun w2 M2=>lb 0<|an (fun _=>rfl)<|cl<|an (fun _=>F7 (hp.keep M2.below).trans) fun w3 M3=>an (fun h=>?_) fun h=>?_
  ·refine fun M=>⟨?_,M.below⟩
   have:0<p.ranges.length∨p.types.any (·.perm)=true∨p.trans.any (fun t=>decide (t.name.size≠0))=true:=by simpa[or_assoc] using h
   unfold cC;rw[if_neg hno,if_pos this];rfl
  ·refine fun M=>⟨?_,M.below⟩
   have:¬ (0<p.ranges.length∨p.types.any (·.perm)=true∨p.trans.any (fun t=>decide (t.name.size≠0))=true):=by simpa[or_assoc,and_assoc] using h
   unfold cC;rw[if_neg hno,if_neg this];rfl
theorem Ke{a b:List Nat}:Bytes (a++b)↔Bytes a∧Bytes b:=⟨fun h=>⟨fun x hx=>h x (List.mem_append_left _ hx),fun x hx=>h x (List.mem_append_right _ hx)⟩,fun h=>h.1.append h.2⟩
theorem mU(s:ByteArray):Bytes (eS s):=(eW _).append (pT s)
theorem Ig(b:Bool):Bytes (eB b):=by cases b<;>simp[eB,Bytes]
theorem Rm(n:Int):Bytes (eC n):=eW _
theorem BN(l:jX):Bytes (ng l):=(gC _).append (eW _)
theorem BL(r:kQ):Bytes (oR r):=(BN _).append (BN _)
theorem Ic(c:mG):Bytes (qt c):=(gC _).append ((gC _).append ((gC _).append (BL _)))
theorem HZ{α:Type}{f:α→List Nat}{l:List α}(h:∀ x∈l,Bytes (f x)):Bytes (l.flatMap f):=fun x hx=>by
 obtain⟨y,h1,h2⟩:=List.mem_flatMap.1 hx;exact h y h1 x h2
theorem jN{α:Type}{f:α→List Nat}{l:List α}(h:∀ x,Bytes (f x)):Bytes (eL f l):=(gC _).append (HZ fun x _=>h x)
theorem Uf(op a rel b:Int)(s:aq):Bytes (qV op a rel b s):=by
 unfold qV;refine(gC _).append ?_;split
 ·exact gC _
 ·split
  ·exact(gC _).append ((gC _).append (gC _))
  ·split
   ·exact(gC _).append kW
   ·intro x hx;cases hx
theorem Rk:∀ e:aI,Bytes (eE e):=aI.ind fun e ih=>by
 rw[Nz];exact Bytes.append (Uf _ _ _ _ _) (HZ ih)
theorem Du{c:Prop}[Decidable c]{l:List Nat}(h:Bytes l):Bytes (if c then l else []):=by
 split
 ·exact h
 ·intro x hx;cases hx
theorem Qs(v:Nat)(p:aA):Bytes (gD v p):=by
 unfold gD;simp only[Ke];refine⟨jN fun x=>?_,jN fun x=>?_,jN fun x=>?_,jN fun x=>?_,jN fun x=>?_,jN fun x=>?_,jN mU,jN mU,jN Rk,jN fun x=>?_,jN fun x=>?_,jN fun x=>?_,Du (jN fun x=>?_),jN fun x=>?_,jN fun x=>?_,Du (jN fun x=>?_),Du (jN fun x=>?_)⟩
 ·unfold gT;exact(mU _).append (jN mU)
 ·unfold eTyp;exact(mU _).append ((jN mU).append (Du (Ig _)))
 ·unfold gU;exact(mU _).append kW
 ·unfold gQ;exact(mU _).append (kW.append kW)
 ·unfold gM;exact(mU _).append (kW.append ((BN _).append (BL _)))
 ·unfold fN;exact(mU _).append (Ig _)
 ·unfold gO;exact(gC _).append (kW.append (kW.append ((Ig _).append ((gC _).append ((gC _).append (Rm _))))))
 ·unfold gi;exact(gC _).append (kW.append (kW.append ((gC _).append ((Du (mU _)).append ((gC _).append (Rm _))))))
 ·unfold gP;exact kW.append (kW.append ((gC _).append (gC _)))
 ·unfold fU;exact kW.append (kW.append ((gC _).append (BL _)))
 ·unfold gS;exact(gC _).append ((gC _).append ((Ig _).append (Rk _)))
 ·unfold gN;exact(mU _).append (Ic _)
 ·unfold fC;exact(mU _).append ((gC _).append (Ic _))
 ·unfold fE;exact(mU _).append ((gC _).append (kW.append kW))
theorem qx(v:Nat)(p:aA):Bytes (dB v p):=by
 unfold dB;exact Bytes.append (by simp[Bytes]) ((eW _).append (Qs v p))
def XS(w0:World)(x:Except Int (List Nat)):Ending→World→Prop:=fun r w'=>∃ v e,r=.returned (.tuple #[v,.int .i64 e])∧(match x with
 | .error k=>e=k∧v=.slice none 0 0
 | .ok b=>e=0∧w'.ownsRow w0.heap.size 5 1 v b.length (byteCells b))∧ajj w0.heap.size w0 w'
theorem FX{N9:aA→Int}{w0:World}{p:aA}{ver:Int}{c0 c1 c2 c3 c4 c5 c6 c7 c8 c9 c10 c11 c12 c13 c14 c15 c16:Value}(hp:aD w0 c0 c1 c2 c3 c4 c5 c6 c7 c8 c9 c10 c11 c12 c13 c14 c15 c16 p)(hok:p.Ok)(hv:eF ver)
 (Ad:∀ w,aD w c0 c1 c2 c3 c4 c5 c6 c7 c8 c9 c10 c11 c12 c13 c14 c15 c16 p→Calls Tryz.prog 31 #[.agg #[c0,c1,c2,c3,c4,c5,c6,c7,c8,c9,c10,c11,c12,c13,c14,c15,c16]] w (fun r w'=>r=.returned (.int .i64 (N9 p))∧ajj w.heap.size w w'))
 (hb:N9 p=0→∀ v:Nat,v≤3→(gD v p).length+2000≤aF) :
 Calls Tryz.prog 13 #[.agg #[c0,c1,c2,c3,c4,c5,c6,c7,c8,c9,c10,c11,c12,c13,c14,c15,c16],.int .i64 ver] w0 (XS w0 (qU N9 p ver)):=by
 refine bU [] (fn:=Tryz.f13) Tryz.func13 rfl Tryz.ntmps13 rfl<|fun g1 w1 M1=>cl<|an (vo w1 ver hv) fun w2 M2=>an (fun h=>?_) fun h=>?_
 ·have hno:¬ (1≤ver∧ver≤3):=by have h2:=h;simp at h2;omega
  exact fun M=>⟨_,_,rfl,by unfold qU;rw[if_neg hno];exact⟨rfl,rfl⟩,M.below⟩
 have hyes:1≤ver∧ver≤3:=by simpa using h
 refine lb 0<|an rfl<|cl<|an (Ad w2 (hp.keep M2.below)) fun w3 M3=>an (fun h=>?_) fun h=>?_
 ·have hno:¬ N9 p=0:=by simpa using h
  exact fun M=>⟨_,_,rfl,by unfold qU;rw[if_pos hyes,if_neg hno];exact⟨rfl,rfl⟩,M.below⟩
 have Tz:N9 p=0:=by simpa using h
 refine lb 0<|an rfl<|cl<|an (Iq (hp.keep M3.below)) fun w4 M4=>an (fun h=>?_) fun h=>?_
 ·have hlt:ver<cC p:=of_decide_eq_true h;exact fun M=>⟨_,_,rfl,by unfold qU;rw[if_pos hyes,if_pos Tz,if_pos hlt];exact⟨rfl,rfl⟩,M.below⟩
 have hge:¬ ver<cC p:=of_decide_eq_false h;obtain⟨v,rfl⟩:=Int.eq_ofNat_of_zero_le (a:=ver) (by omega);have hlen:=hb Tz v (by omega);have h5:jW [(g1,39,#[c0,c1,c2,c3,c4,c5,c6,c7,c8,c9,c10,c11,c12,c13,c14,c15,c16])] []:=jW.nil.cons;have hm:bX ⟨#[65,67,80,66]⟩=[65,67,80,66]:=by decide
 refine ei (x:=.agg #[.slice none 0 0,.int .i64 0,.int .i8 0,.int .i64 (v:Int)])<|an (bd (by kernel_rfl))<|fun g2 w5 M5=>cg (R:=fun r w'=>r=.tuple #[.int .i64 4,.nilIface]∧RA w0.heap.size w0 w' [(g1,39,#[c0,c1,c2,c3,c4,c5,c6,c7,c8,c9,c10,c11,c12,c13,c14,c15,c16])] [] g2 (v:Int) [65,67,80,66])<|an ?_ ?_
 ·have hw:=Az (s:=⟨#[65,67,80,66]⟩) (xs:=[]) (M5.bE 5 1) h5 (by unfold aF;decide);rw[hm] at hw;exact hw.mono fun e w' ⟨h1,h2⟩=>⟨_,h1,rfl,h2⟩
 rintro _ w6 ⟨rfl,v6,KF,M6⟩;refine⟨_,_,M6,?_⟩;refine fun g3 w7 M7=>cE 1 M7 rfl (fun M=>bn (ns:=[(v:Int)]) M h5 (by simp) (by unfold aF at *;simp)) fun v8 X6 w8 M8=>lb 2<|an rfl<|cE 1 M8 rfl (fun M=>K9 hp hok M h5.cons (by have:=aG (v:Int);simp only[ajo,List.flatMap_cons,List.flatMap_nil,List.length_cons,List.length_nil];omega)) fun v9 V3 w9 M9=>?_
 have hbody:[65,67,80,66]++List.flatMap eN [(v:Int)]++gD v p=dB v p:=by
  unfold dB;rw[List.append_assoc,List.flatMap_cons,List.flatMap_nil,List.append_nil,GY (by omega)]
 have hbl:(dB v p).length≤(gD v p).length+14:=by
  have:=aZ (n:=v) (by omega);unfold dB;simp only[ajo,List.length_cons,List.length_nil];omega
 have M9b:aC w0.heap.size w0 w9 [bC g2 v9 V3 (v:Int),(g1,39,#[c0,c1,c2,c3,c4,c5,c6,c7,c8,c9,c10,c11,c12,c13,c14,c15,c16])] [aH v9 (dB v p)]:=(M9.only (.cons _ (.refl _)) (.refl _)).cast rfl (by rw[hbody]);refine cg (R:=fun r w'=>r=v9∧aC w0.heap.size w0 w' [bC g2 v9 V3 (v:Int),(g1,39,#[c0,c1,c2,c3,c4,c5,c6,c7,c8,c9,c10,c11,c12,c13,c14,c15,c16])] [aH v9 (dB v p)])<|an ((Kf M9b (by simp[dB])).mono fun e w' ⟨h1,h2⟩=>⟨_,h1,rfl,h2⟩) ?_;rintro _ pE ⟨rfl,jH⟩;refine⟨_,_,jH,cw jH (Lv (dX (jH.r 0 rfl) (qx v p)) (by omega)) fun u uO M11=>fun M=>⟨_,_,rfl,?_,M.below⟩⟩;unfold qU;rw[if_pos hyes,if_pos Tz,if_neg hge];exact⟨rfl,M.r 0 rfl⟩
theorem Nl{P:Program}{a:Act}{w:World}{o:Oper}{t e:TypeId}{x lo hi mx:Operand}{g off n c l k:Nat}{k1 k2 k3:IntKind}(ho:o.op=.slice t x (some lo) (some hi) (some mx))(hx:a.eval x=.slice (some ⟨g,off,none⟩) n c)(hl:a.eval lo=.int k1 (l:Int))(hh:a.eval hi=.int k2 (n:Int))(hm:a.eval mx=.int k3 (n:Int))(hln:l≤n)(hnc:n≤c)
 (hu:P.underlying t=some (.slice e)) (hs:(P.info? e).map (·.size)=some k):(execOp a.eval o).run P w=.ok (.value (.slice (if n=l then some ⟨g,off,none⟩ else some ⟨g,off+l*k,none⟩) (n-l) (n-l))) w:=by
 have hadd:(⟨g,off,none⟩:Addr).add (l*k)=⟨g,off+l*k,none⟩:=by unfold Addr.add;split<;>simp_all
 have h1:(0:Int)≤(l:Int)∧(l:Int)≤(n:Int):=by omega
 have h2:(0:Int)≤(n:Int)∧(n:Int)≤(c:Int):=by omega
 have h3:(0:Int)≤(n:Int)∧(n:Int)≤(n:Int):=by omega
 unfold execOp;simp only[ho,hx,hl,hh,hm,Option.map_some,Option.map_none,Instr.sliceAt,Sem.run_bind,run_underlying hu w,Result.andThen_ok,Instr.slice,Instr.sliceBounds,Instr.sliceBound,asIntOf,Sem.run_pure,h1,h2,h3,and_self,if_true,Int.toNat_natCast];by_cases h:n=l
 ·subst h;simp[run_sizeOf hs]
 ·simp[h,run_sizeOf hs,hadd]
def vw(g off n i:Nat):Value:=.slice (if n=i then some ⟨g,off,none⟩ else some ⟨g,off+i,none⟩) (n-i) (n-i)
theorem zO{w:World}{g off c i:Nat}{l:List Nat}(h:aj w (.slice (some ⟨g,off,none⟩) l.length c) l)(hi:i≤l.length):aj w (vw g off l.length i) (l.drop i):=by
 unfold vw;by_cases e:l.length=i
 ·rw[if_pos e,e,List.drop_eq_nil_of_le (by omega),Nat.sub_self];exact aj.empty w _
 ·rw[if_neg e];have h2:=h.part (i:=i) (j:=l.length) (c':=l.length-i) hi (Nat.le_refl _) (Nat.le_refl _);rw[ajn] at h2;have:(⟨g,off,none⟩:Addr).add i=⟨g,off+i,none⟩:=by unfold Addr.add;split<;>simp_all
  rw[this] at h2;exact h2
theorem cs3{B:Nat}{w0 w:World}{bs:List Bx}{rs:List Rw}{ty:TypeId}{x lo hi mx:Operand}{g off n c i:Nat}{K:Value→List Bx→List Rw→World→Prop}(M:aC B w0 w bs rs)(hi':i≤n)(hc:n≤c)(h:K (vw g off n i) bs rs w):
 ∃ R:Value→World→Prop,(∀ (a:Act) (o':Oper),o'.op=.slice 42 x (some lo) (some hi) (some mx)→o'.type=ty→q6 a (gb (.slice 42 x (some lo) (some hi) (some mx))) [.slice (some ⟨g,off,none⟩) n c,.int .i64 (i:Int),.int .i64 (n:Int),.int .i64 (n:Int)]→∃ v w',(execOp a.eval o').run Tryz.prog w=.ok (.value v) w'∧R v w')∧∀ v w',R v w'→∃ bs' rs',aC B w0 w' bs' rs'∧K v bs' rs' w':=by
 refine⟨fun u w2=>u=vw g off n i∧w2=w,fun a o' hop _ oO=>⟨_,_,?_,rfl,rfl⟩,?_⟩
 ·have aaq:a.eval mx=.int .i64 (n:Int):=by
   cases oO with
   | cons _ h=>cases h with
    | cons _ h=>cases h with
     | cons _ h=>cases h with
      | cons h _=>exact h
  have:=Nl (P:=Tryz.prog) (w:=w) (l:=i) (k:=1) hop (aQ oO) (cO oO) (abK oO) aaq hi' hc IG (by kernel_rfl);rw[Nat.mul_one] at this;exact this
 ·rintro v w2 ⟨rfl,rfl⟩;exact⟨_,_,M,h⟩
theorem xI{w0:World}{g off c n i:Nat}(hi:i≤n)(hc:n≤c):Calls Tryz.prog 300 #[.slice (some ⟨g,off,none⟩) n c,.int .i64 (i:Int)] w0 (fun r w'=>r=.returned (vw g off n i)∧ajj w0.heap.size w0 w'):=by
 refine bU [] (fn:=Tryz.f300) Tryz.func300 rfl Tryz.ntmps300 rfl<|cs3 (Mm.start w0) hi hc<|fun M=>⟨rfl,M.below⟩
def rE(g off n:Nat)(x:List Nat)(e:Int):Value:=if e=0 then vw g off n (n-x.length) else .slice none 0 0
theorem C6{l:List Nat}{n j:Nat}(hj:j<l.length)(h:number l=(n,l.drop (j+1),0)):l.length-(number l).2.1.length=j+1:=by
 rw[h];simp;omega
theorem C5{w0:World}{g off c:Nat}{l:List Nat}(h:aj w0 (.slice (some ⟨g,off,none⟩) l.length c) l)(hc:l.length≤c):
 Calls Tryz.prog 257 #[.slice (some ⟨g,off,none⟩) l.length c] w0 (fun r w'=>r=.returned (.tuple #[.int .u64 ((number l).1:Int),rE g off l.length (number l).2.1 (number l).2.2,.int .i64 (number l).2.2])∧ajj w0.heap.size w0 w'):=by
 obtain⟨a',c',e',-,hm,ha⟩:=kr h;cases e';refine bU [] (fn:=Tryz.f257) Tryz.func257 rfl Tryz.ntmps257 rfl<|lr (ι:=Nat×Nat) (fun z=>[(5,.int .u64 (z.2:Int)),(8,.int .i64 (z.1:Int))]) (fun z _=>z.1≤10∧z.1≤l.length∧z.2<128^z.1∧number l=iR z.1 z.2 (l.drop z.1)) (fun z=>10-z.1) (0,0)<|an ⟨⟨rfl,rfl,trivial⟩,fun M=>⟨M,ajk _,ajk _,Nat.one_pos,rfl⟩⟩ ?_;rintro⟨j,n⟩ w1 M1 ⟨hj,hjl,hn,pH⟩;dsimp only at hj hjl hn pH;refine an (fun h1=>?_) fun h1=>?_
 case refine_2=>
  have hge:j=10:=Nat.le_antisymm hj (Nat.le_of_not_lt fun h2=>of_decide_eq_false h1 (Int.ofNat_lt.2 h2));subst hge;rw[Jp] at pH;exact fun M=>⟨by rw[pH];rfl,M.below⟩
 have aan:j<10:=Int.ofNat_lt.1 (of_decide_eq_true h1);refine an (fun h2=>?_) fun h2=>?_
 ·have hge:l.length≤j:=Int.ofNat_le.1 (of_decide_eq_true h2);rw[List.drop_eq_nil_of_le hge] at pH;unfold iR at pH;rw[if_pos aan] at pH;exact fun M=>⟨by rw[pH];rfl,M.below⟩
 have hlt:j<l.length:=Nat.lt_of_not_le fun h3=>of_decide_eq_false h2 (Int.ofNat_le.2 h3)
 obtain⟨y,b,off',e1,hy,UZ,hcell⟩:=ha j hlt;cases e1;rw[Qx hy] at pH;unfold iR at pH;rw[if_neg (by omega)] at pH;refine ia<|an ⟨rfl,rfl,hlt⟩<|lc (x:=.int .u8 (y:Int))<|an (cell_later M1.below (by simpa using hcell))<|an (fun h3=>?_) fun h3=>?_
 ·have aaC:(j=9∧1<y)∨(0<j∧y=0):=by
   simp at h3;omega
  rw[if_pos aaC] at pH;exact fun M=>⟨by rw[pH];rfl,M.below⟩
 have hgood:¬ ((j=9∧1<y)∨(0<j∧y=0)):=by
  simp at h3;omega
 rw[if_neg hgood] at pH;have hor:=SC j n y (128^j) rfl (by omega) hn UZ (fun e=>by omega)
 have ZX:(2:Int)^((7:Int)*(j:Int)).toNat=((128^j:Nat):Int):=by
  rw[show((7:Int)*(j:Int)).toNat=7*j by omega,Int.natCast_pow,show((128:Nat):Int)=2^7 by decide,← Int.pow_mul]
 refine ei (x:=bits .andNot .u8 (y:Int) 128)<|an rfl<|ei (x:=.int .u64 (IntKind.u64.wrap (bits .andNot .u8 (y:Int) 128)))<|an (fun a w o ho hv=>dw ho (aQ hv) u5 uR)<|an (by omega)<|ei (x:=.int .u64 (IntKind.u64.wrap (IntKind.u64.wrap (bits .andNot .u8 (y:Int) 128)*((128^j:Nat):Int))))<|an (fun a w o ho hv=>(Nn ho (aQ hv) (cO hv) (by omega) (show(7:Int)*(j:Int)≤((64:Nat):Int) by omega)).trans (by rw[ZX]))<|ei (x:=((n+y%128*128^j:Nat):Int))<|an hor<|an (fun h4=>?_) fun h4=>?_
 ·have MO:y<128:=Int.ofNat_lt.1 (of_decide_eq_true h4);rw[if_pos MO] at pH;have hleft:=C6 hlt pH;refine an (by omega)<|cl<|an (xI (i:=j+1) (by omega) hc) fun w2 M2=>fun M=>⟨?_,M.below⟩
  unfold rE;rw[hleft,pH];rfl
 ·have aao:¬ y<128:=fun h5=>of_decide_eq_false h4 (Int.ofNat_lt.2 h5)
  rw[if_neg aao] at pH;exact an (by omega)<|bk (j+1,n+y%128*128^j) ⟨rfl,rfl,trivial⟩ (fun M=>⟨M,by dsimp only;omega,by dsimp only;omega,Fl hn,pH⟩) (show 10-(j+1)<10-j by omega)
theorem zI(m:Int)(h:-9223372036854775808≤m∧m≤9223372036854775807):IntKind.i64.wrap m=m:=by
 rw[IntKind.wrap_i64];omega
theorem Vj(n:Nat)(h:n<18446744073709551616):bits .xor .i64 ((n:Int)/2) (0-((n%2:Nat):Int))=OH n:=by
 unfold OH;by_cases hp:n%2=0
 ·rw[if_pos hp,hp,show(0:Int)-((0:Nat):Int)=0 from rfl,Ax (by omega) (by omega)];omega
 ·rw[if_neg hp,show n%2=1 by omega,show(0:Int)-((1:Nat):Int)=-1 from rfl,Ay (by omega) (by omega)];omega
theorem L5{w0:World}{g off c:Nat}{l:List Nat}(h:aj w0 (.slice (some ⟨g,off,none⟩) l.length c) l)(hc:l.length≤c):
 Calls Tryz.prog 299 #[.slice (some ⟨g,off,none⟩) l.length c] w0 (fun r w'=>r=.returned (.tuple #[.int .i64 (bZ l).1,rE g off l.length (bZ l).2.1 (bZ l).2.2,.int .i64 (bZ l).2.2])∧ajj w0.heap.size w0 w'):=by
 have hlt:=j8 l;have ho:=C5 h hc;unfold bZ;obtain⟨n,r,e,hX⟩:∃ n r e,number l=(n,r,e):=⟨_,_,_,rfl⟩;rw[hX] at hlt ho ⊢;dsimp only at hlt ho ⊢;refine bU [] (fn:=Tryz.f299) Tryz.func299 rfl Tryz.ntmps299 rfl<|cl<|an ho fun w1 M1=>an (fun h1=>?_) fun h1=>?_
 ·have h2:¬ e=0:=by simpa using h1
  refine fun M=>⟨?_,M.below⟩
  rw[if_neg h2];unfold rE;rw[if_neg h2];rfl
 ·have h2:e=0:=by simpa using h1
  refine ei (x:=.int .u64 ((n:Int)/2))<|an (fun a w o ho hv=>(rG ho (aQ hv) (cO hv) (by omega) (by decide)).trans (by simp))<|ei (x:=.int .i64 ((n:Int)/2))<|an (fun a w o ho hv=>(dw ho (aQ hv) uR u2).trans (by rw[zI _ (by omega)]))<|ei (x:=((n%2:Nat):Int))<|an (QE n hlt)<|ei (x:=.int .i64 ((n%2:Nat):Int))<|an (fun a w o ho hv=>(dw ho (aQ hv) uR u2).trans (by rw[zI _ (by omega)]))<|an (by omega)<|ei (x:=OH n)<|an (Vj n hlt)<|fun M=>⟨?_,M.below⟩
  rw[if_pos h2,h2];rfl
theorem IU{w:World}{v:Value}{l:List Nat}(h:aj w v l):(convert 42 9 v).run Tryz.prog w=.ok (.string (strOf l)) w:=by
 rcases h.1.2.2.2 with⟨rfl,h0⟩|⟨a,c,rfl,hc,hx⟩
 ·obtain rfl:l=[]:=List.eq_nil_of_length_eq_zero h0;exact run_convert_bytes_nil w 42 5 IG u5 0 0 9 u9
 ·have:=run_convert_bytes_back (P:=Tryz.prog) w 42 9 5 a c (l.map UInt8.ofNat) IG u5 u9 (fun j hj=>by
   have hj':j<l.length:=by simpa using hj
   rw[hx j (.int .u8 (l[j]:Nat)) (by simp[byteCells,hj'])];have hb:=h.2 _ (List.getElem_mem hj');simp;omega)
  simpa[strOf] using this
theorem J6{B:Nat}{w0 w:World}{bs:List Bx}{rs:List Rw}{ty:TypeId}{x:Operand}{v:Value}{l:List Nat}{K:Value→List Bx→List Rw→World→Prop}(M:aC B w0 w bs rs)(hv:aj w v l)(h:K (.string (strOf l)) bs rs w):
 ∃ R:Value→World→Prop,(∀ (a:Act) (o':Oper),o'.op=.convert 42 9 x→o'.type=ty→q6 a (gb (.convert 42 9 x)) [v]→∃ v w',(execOp a.eval o').run Tryz.prog w=.ok (.value v) w'∧R v w')∧∀ v w',R v w'→∃ bs' rs',aC B w0 w' bs' rs'∧K v bs' rs' w':=by
 refine⟨fun u w2=>u=.string (strOf l)∧w2=w,fun a o' hop _ oO=>⟨_,_,?_,rfl,rfl⟩,?_⟩
 ·unfold execOp;simp[hop,aQ oO,IU hv,Sem.run_bind,Result.andThen]
 ·rintro v w2 ⟨rfl,rfl⟩;exact⟨_,_,M,h⟩
theorem chi{B:Nat}{w0 w:World}{bs:List Bx}{rs:List Rw}{ty:TypeId}{x hi:Operand}{g off n c k:Nat}{hk:IntKind}{K:Value→List Bx→List Rw→World→Prop}(M:aC B w0 w bs rs)(hkc:k≤c)(hc:0<c)(h:K (.slice (some ⟨g,off,none⟩) k c) bs rs w):
 ∃ R:Value→World→Prop,(∀ (a:Act) (o':Oper),o'.op=.slice 42 x none (some hi) none→o'.type=ty→q6 a (gb (.slice 42 x none (some hi) none)) [.slice (some ⟨g,off,none⟩) n c,.int hk (k:Int)]→∃ v w',(execOp a.eval o').run Tryz.prog w=.ok (.value v) w'∧R v w')∧∀ v w',R v w'→∃ bs' rs',aC B w0 w' bs' rs'∧K v bs' rs' w':=by
 refine⟨fun u w2=>u=.slice (some ⟨g,off,none⟩) k c∧w2=w,fun a o' hop _ oO=>⟨_,_,nO (P:=Tryz.prog) (w:=w) (k:=1) hop (aQ oO) (cO oO) hkc hc IG (by kernel_rfl),rfl,rfl⟩,?_⟩;rintro v w2 ⟨rfl,rfl⟩;exact⟨_,_,M,h⟩
def Us(l:List Int)(i:Nat):Int:=match l[i]? with
 | some x=>x
 | none=>0
def mq(l:List Int):Int:=ah (Us l) l.length 0
theorem kI{l:List Int}:mq l=0↔∀ x∈l,x=0:=by
 unfold mq;rw[jx];constructor
 ·intro h x hx;obtain⟨i,hi⟩:=List.getElem?_of_mem hx;have:=h i (ajk _) (by have:=(ajp.1 hi).1;omega);unfold Us at this;rw[hi] at this;exact this
 ·intro h i _ hi;unfold Us;rw[ajl (by omega:i<l.length)];exact h _ (List.getElem_mem _)
theorem J0(w:World)(v:Value)(l:List Int)(h:SliceAt w v 1 l.length (l.map Aq)):Calls Tryz.prog 51 #[v] w fun e w'=>e=.returned (.int .i64 (mq l))∧w=w':=by
 obtain⟨a,c,rfl,hac,KI,HA⟩:=h.form (by decide);have H1:=Lib.hid HA;clear HA h;unfold mq;obtain⟨n,hn⟩:∃ n,n=l.length:=⟨_,rfl⟩;have HN:=Lib.hid hn;rw[← hn] at H1 hac KI ⊢;clear hn
 go_enter Tryz.func51,Tryz.ntmps51
 go_wp2_with fail
 go_loopw [3] (fun i wr=>wr=w∧∃ k:Nat,k≤n∧i=.int .i64 k∧Hid (ah (Us l) n 0=ah (Us l) (n-k) k)) (fun i _=>n-(intOf i).toNat)
 case atStart=>exact⟨rfl,0,ajk _,rfl,Lib.hid (by rw[Nat.sub_zero])⟩
 case round=>
  obtain⟨rfl,k,hk,rfl,hinv⟩:=hrel;by_cases hlt:k<n
  ·obtain⟨x,hx⟩:∃ x,l[k]?=some x:=⟨_,ajl (by rw[← HN.out];exact hlt)⟩;obtain⟨b,off,rfl,hc⟩:=H1.out k hlt
   have k0:wr.cell? ⟨b,off+k,none⟩=some (.int .i64 x):=by
    have h:=hc 0 (.int .i64 x) (by simp[hx,Aq])
    rwa [Nat.mul_one] at h
   have HF:=Lib.hid (show Us l k=x by unfold Us;rw[hx]);clear hx hc;by_cases hx0:x=0
   ·subst hx0
    go_wp2_with fail
    go_roundw
    case rel=>exact⟨by first|trivial|rfl,k+1,by omega,by go_num,Lib.hid (hinv.out.trans (aM hlt HF.out))⟩
    case measure=>simp[intOf];omega
   ·have d0:(x != 0)=true:=by simp[hx0]
    have HX0:=Lib.hid hx0;clear hx0
    go_wp2_with fail
    go_ret
    exact⟨mM (by rw[hinv.out,aV hlt (by rw[HF.out];exact HX0.out),HF.out]),rfl⟩
  ·obtain rfl:n=k:=by omega
   go_wp2_with fail
   go_ret
   exact⟨mM (by rw[hinv.out,aT]),rfl⟩
def sG(ok ig vc cd:Bool):Bool:=!ok||!ig||!vc||!cd
def sI(sa sb:Bool)(r:dz):Bool:=!sa||(!sb&&!r.self)||decide (r.perms=0)||(decide (r.kind=4)&&!(decide (r.cond=0)))
def sH(nT nC:Nat)(cl:List jU)(r:dz):Int:=
 if r.kind<1 then 13 else if 4<r.kind then 13
 else if sG (r.src.within (aq.all nT)) (r.tgt.within (aq.all nT)) (h_ cl r.cls r.perms) (nQ nC r.cond)=true then 3
 else if sI (bD r.src) (bD r.tgt) r=true then 2 else 0
def iV(p:aA)(i:Nat):Int:=match p.conds[i]? with
 | some e=>fO p.bools.length e
 | none=>0
def jJ(p:aA)(i:Nat):Int:=match p.rules[i]? with
 | some r=>sH p.types.length p.conds.length p.classes r
 | none=>0
def eI(p:aA):Int:=if 64<p.conds.length then 4 else if ah (iV p) p.conds.length 0=0 then (if 4096<p.rules.length then 4 else ah (jJ p) p.rules.length 0) else ah (iV p) p.conds.length 0
theorem CO{p:aA}(h1:¬ 64<p.conds.length)(h2:¬ ah (iV p) p.conds.length 0=0):eI p=ah (iV p) p.conds.length 0:=by
 unfold eI;rw[if_neg h1,if_neg h2]
theorem CN{p:aA}(h1:¬ 64<p.conds.length)(h2:ah (iV p) p.conds.length 0=0)(h3:4096<p.rules.length):eI p=4:=by
 unfold eI;rw[if_neg h1,if_pos h2,if_pos h3]
theorem CM{p:aA}(h1:¬ 64<p.conds.length)(h2:ah (iV p) p.conds.length 0=0)(h3:¬ 4096<p.rules.length):eI p=ah (jJ p) p.rules.length 0:=by
 unfold eI;rw[if_neg h1,if_pos h2,if_neg h3]
theorem I9(w:World)(c0 c1 c2 c3 c4 c5 c6 c7 c8 c9 c10 c11 c12 c13 c14 c15 c16:Value)(p:aA)(hp:aD w c0 c1 c2 c3 c4 c5 c6 c7 c8 c9 c10 c11 c12 c13 c14 c15 c16 p)(hok:p.Ok):Calls Tryz.prog 57 #[.agg #[c0,c1,c2,c3,c4,c5,c6,c7,c8,c9,c10,c11,c12,c13,c14,c15,c16]] w fun e w'=>e=.returned (.int .i64 (eI p))∧ajj w.heap.size w w':=by
 obtain⟨_,_,_,_,_,_,_,_,_,_,_,_,_,_,_,_,_,_,_,_,_,_,_,_,_,_,_,_,_,_,_,_,_,_,rfl,rfl,rfl,rfl,rfl,rfl,rfl,rfl,rfl,rfl,rfl,rfl,rfl,rfl,rfl,rfl,rfl⟩:=hp.open;have HU:=hok.oy;refine bU [] (fn:=Tryz.f57) Tryz.func57 rfl Tryz.ntmps57 rfl<|fun g1 w1 M1=>lb 0<|an rfl<|an (fun h M=>⟨ri (if_pos (by simp at h;omega)),M.below⟩) fun h=>?_
 have h1:¬ 64<p.conds.length:=by simp at h;omega
 refine lr (ι:=Nat) (fun m=>[(3,.int .i64 (m:Int))]) (fun m _=>m≤p.conds.length∧ah (iV p) p.conds.length 0=ah (iV p) (p.conds.length-m) m) (fun m=>p.conds.length-m) 0 (an ⟨⟨rfl,trivial⟩,fun M=>⟨M,ajk _,by rw[Nat.sub_zero]⟩⟩ ?_);rintro m w2 M ⟨hm,hinv⟩;refine lb 0<|an rfl<|an (fun h2=>?_) fun h2=>?_
 ·have hlt:m<p.conds.length:=by simp at h2;omega
  obtain⟨y,hy⟩:∃ y,p.conds[m]?=some y:=⟨_,ajl hlt⟩;obtain⟨b,o,_,e,hE,hc⟩:=au.elt hp.conds (by decide) hy;obtain⟨nv,kv,rfl,hn,hk⟩:=hE.open;obtain⟨_,_,rfl,-⟩:=aJ.get hn;obtain⟨_,_,rfl,-⟩:=au.form hk (by decide);have hcf:iV p m=fO p.bools.length y:=by unfold iV;rw[hy]
  exact dr (by kernel_rfl)<|lb 0<|an rfl<|lb 0<|an rfl<|ia<|an ⟨e,rfl,hlt⟩<|lc<|an (cL M.below hc)<|cl<|an (fun w' hb' M'=>zE y _ _ _ _ _ _ _ _ _ _ _ _ _ _ _ _ _ _ _ p (hp.keep M'.below) (hE.keep M'.below)) fun w2 hb2 M2=>an (fun h3 M=>⟨ri (by
   have h3:iV p m≠0:=by rw[hcf];simpa using h3
   rw[CO h1 (by rw[hinv,aV hlt h3];exact h3),hinv,aV hlt h3,hcf]),M.below⟩) fun h3=>an (by omega)<|bk (m+1) ⟨rfl,trivial⟩ (fun M=>⟨M,by omega,hinv.trans (aM hlt (by rw[hcf];simpa using h3))⟩) (by dsimp only;omega)
 have hz:ah (iV p) p.conds.length 0=0:=by rw[hinv,show m=p.conds.length by simp at h2;omega,aT]
 clear hinv h2 hm h;refine lb 0<|an rfl<|an (fun h M=>⟨ri (CN h1 hz (by simp at h;omega)),M.below⟩) fun h=>?_
 rw[CM h1 hz (by simp at h;omega)];have hr:¬ 4096<p.rules.length:=by simp at h;omega
 clear h M;refine lr (ι:=Nat) (fun m=>[(5,.int .i64 (m:Int))]) (fun i _=>i≤p.rules.length∧ah (jJ p) p.rules.length 0=ah (jJ p) (p.rules.length-i) i) (fun i=>p.rules.length-i) 0 (an ⟨⟨rfl,trivial⟩,fun M=>⟨M,ajk _,by rw[Nat.sub_zero]⟩⟩ ?_);rintro i w M ⟨hi,hinv⟩;refine lb 0<|an rfl<|an (fun h2=>?_) fun h2 M=>⟨ri (by rw[hinv,show i=p.rules.length by simp at h2;omega,aT]),M.below⟩
 have hlt:i<p.rules.length:=by simp at h2;omega
 obtain⟨r,hy⟩:∃ y,p.rules[i]?=some y:=⟨_,ajl hlt⟩;have Sg:=hok.rules r (ajm hy);obtain⟨b,o,e,hc⟩:=SliceAt.elt hp.rules (fun _=>rfl) (by decide) hy hlt;have hcf:jJ p i=sH p.types.length p.conds.length p.classes r:=by unfold jJ;rw[hy]
 have out:∀ v:Int,sH p.types.length p.conds.length p.classes r=v→v≠0→ah (jJ p) p.rules.length 0=v:=fun v h1 h2=>by rw[hinv,aV hlt (by rw[hcf,h1];exact h2),hcf,h1]
 unfold sH at hcf out;refine lb 0<|an rfl<|ia<|an ⟨e,rfl,hlt⟩<|lc<|an (cL M.below hc)<|ei<|an Cl fun g2 w3 M3=>lb 0<|an ⟨rfl,rfl⟩ fun w4 M4=>lb 0<|an rfl<|lb 0<|an (fun _=>rfl)<|an (fun h M=>⟨ri (out 13 ?_ (by decide)),M.below⟩) fun h=>?_
 ·by_cases h5:r.kind<1
  ·rw[if_pos h5]
  ·rw[if_neg h5,if_pos (by simp at h;omega)]
 rw[if_neg (by simp at h;omega),if_neg (by simp at h;omega)] at hcf out;refine lb 0<|an rfl<|lb 1<|an rfl<|cl<|an (gG _ r.src Sg.src _ HU) fun w5 M5=>lb 0<|an rfl<|lb 1<|an rfl<|cl<|an (gG _ r.tgt Sg.tgt _ HU) fun w6 M6=>lb 1<|an (fun _=>rfl)<|lb 0<|an (fun _=>rfl)<|lb 0<|an (fun _=>rfl)<|cl<|an (fun _=>wR _ _ _ _ _ _ _ _ _ _ _ _ _ _ _ _ _ _ p (hp.keep M6.below) r.cls r.perms Sg.perms) fun w7 M7=>lb 1<|an (fun _=>rfl)<|lb 0<|an (fun _=>rfl)<|cl<|an (fun _=>DN _ _ _ _ _ _ _ _ _ _ _ _ _ _ _ _ _ _ p (hp.keep M7.below) _) fun w8 M8=>an (fun h3 M=>⟨ri (out 3 ?_ (by decide)),M.below⟩) fun h3=>?_
 ·clear out hcf;cases h6:r.src.within (aq.all p.types.length)<;>cases h7:r.tgt.within (aq.all p.types.length)<;>cases h8:h_ p.classes r.cls r.perms<;>cases h9:nQ p.conds.length r.cond<;>simp_all [sG]
 rw[if_neg (by clear out hcf;cases h6:r.src.within (aq.all p.types.length)<;>cases h7:r.tgt.within (aq.all p.types.length)<;>cases h8:h_ p.classes r.cls r.perms<;>cases h9:nQ p.conds.length r.cond<;>simp_all [sG])] at hcf out;exact lb 0<|an (fun _=>rfl)<|lb 0<|an (fun _=>rfl)<|lb 0<|an (fun _=>rfl)<|lb 0<|an (fun _=>rfl)<|an (fun h4 M=>⟨ri (out 2 (if_pos h4) (by decide)),M.below⟩) fun h4=>an (by omega)<|bk (i+1) ⟨rfl,trivial⟩ (fun M=>⟨M.only (.cons _ (.refl _)) (.refl _),by omega,hinv.trans (aM hlt (by rw[hcf,if_neg (fun e=>by rw[show sI (bD r.src) (bD r.tgt) r=false from h4] at e;cases e)]))⟩) (by dsimp only;omega)
def Od(w:World)(base:Nat)(v:Value)(l:List ByteArray):Prop:=w.ownsRow base 9 1 v l.length (l.flatMap aO)
theorem Lq(l:List ByteArray):∀ u∈l.flatMap aO,u.oneCell'=true:=by
 intro u hu;obtain⟨s,-,hs⟩:=List.mem_flatMap.1 hu;rw[ajq.1 hs];rfl
theorem LZ{w:World}{base:Nat}{v:Value}{l:List ByteArray}(h:Od w base v l):aJ w v l:=SliceAt.iM h (Lq l)
theorem SliceAt.of_whole{w:World}{g:Nat}{t:TypeId}{cs:Array Value}{k n:Nat}(h:Whole w g t cs)(hl:cs.toList.length=n*k)(h1:cs.toList.all (·.oneCell')=true)(hn:n≤maxLen):
 SliceAt w (.slice (some ⟨g,0,none⟩) n n) k n cs.toList:=
 ⟨hl,hn,fun u hu=>ajr.1 h1 u hu,.inr ⟨_,n,rfl,Nat.le_refl _,fun j u hu=>by rw[Addr.add_lit,Nat.zero_add,h.cell];simpa using hu⟩⟩
def lD(nT:Nat)(before:List ByteArray)(y:jt):Int:=
 if aP [y.name] before=0 then
  (if y.kind<1 then 13 else if 3<y.kind then 13
   else if (!(y.src.within (aq.all nT))||!(y.tgt.within (aq.all nT)))=true then 3
   else if (!(bD y.src)||!(bD y.tgt))=true then 2 else 0)
 else aP [y.name] before
def iB(p:aA)(i:Nat):Int:=match p.asserts[i]? with
 | some y=>lD p.types.length ((p.asserts.take i).map (·.name)) y
 | none=>0
def cT(p:aA):Int:=if 64<p.asserts.length then 4 else ah (iB p) p.asserts.length 0
theorem D6(w:World)(c0 c1 c2 c3 c4 c5 c6 c7 c8 c9 c10 c11 c12 c13 c14 c15 c16:Value)(p:aA)(hp:aD w c0 c1 c2 c3 c4 c5 c6 c7 c8 c9 c10 c11 c12 c13 c14 c15 c16 p)(hok:p.Ok):Calls Tryz.prog 62 #[.agg #[c0,c1,c2,c3,c4,c5,c6,c7,c8,c9,c10,c11,c12,c13,c14,c15,c16]] w fun e w'=>e=.returned (.int .i64 (cT p))∧ajj w.heap.size w w':=by
 obtain⟨_,_,_,_,_,_,_,_,_,_,_,_,_,_,_,_,_,_,_,_,_,_,_,_,_,_,_,_,_,_,_,_,_,_,rfl,rfl,rfl,rfl,rfl,rfl,rfl,rfl,rfl,rfl,rfl,rfl,rfl,rfl,rfl,rfl,rfl⟩:=hp.open;have HU:=hok.oy;refine bU [] (fn:=Tryz.f62) Tryz.func62 rfl Tryz.ntmps62 rfl<|fun g1 w1 M1=>lb 0<|an rfl<|an (fun h M=>⟨ri (if_pos (by simp at h;omega)),M.below⟩) fun h=>?_
 have hr:¬ 64<p.asserts.length:=by simp at h;omega
 rw[show cT p=ah (iB p) p.asserts.length 0 from if_neg hr];refine lq (ι:=Nat×Value) (fun(m,u)=>[(3,u),(4,.int .i64 (m:Int))]) (fun(m,u)=>[⟨u,9,1,m,((p.asserts.take m).map (·.name)).flatMap aO⟩]) (fun(m,u) _=>m≤p.asserts.length∧ah (iB p) p.asserts.length 0=ah (iB p) (p.asserts.length-m) m) (fun(m,u)=>p.asserts.length-m) (0,.slice none 0 0) (an ⟨⟨rfl,rfl,trivial⟩,fun M=>⟨M.bE 9 1,ajk _,by rw[Nat.sub_zero]⟩⟩ ?_);rintro⟨m,u⟩ w M ⟨hm,hinv⟩;refine lb 0<|an rfl<|an (fun h2=>?_) fun h2 M=>⟨ri (by rw[hinv,show m=p.asserts.length by simp at h2;omega,aT]),M.below⟩
 have hlt:m<p.asserts.length:=by simp at h2;omega
 obtain⟨y,hy⟩:∃ y,p.asserts[m]?=some y:=⟨_,ajl hlt⟩;have fq:=hok.asserts y (ajm hy);obtain⟨b,o,e,hc⟩:=SliceAt.elt hp.asserts (fun _=>rfl) (by decide) hy hlt;have hcf:iB p m=lD p.types.length ((p.asserts.take m).map (·.name)) y:=by unfold iB;rw[hy]
 have out:∀ v:Int,lD p.types.length ((p.asserts.take m).map (·.name)) y=v→v≠0→ah (iB p) p.asserts.length 0=v:=fun v h1 h2=>by rw[hinv,aV hlt (by rw[hcf,h1];exact h2),hcf,h1]
 unfold lD at hcf out;refine lb 0<|an rfl<|ia<|an ⟨e,rfl,hlt⟩<|lc<|an (cL M.below hc)<|ei<|an Ci fun g2 w2 M2=>lb 0<|an ⟨rfl,rfl⟩ fun w3 M3=>lb 0<|an rfl<|fun g3 w4 M4=>cl<|an (eY _ _ _ [y.name] ((p.asserts.take m).map (·.name)) (M4.slice 0 rfl rfl rfl (by simp[maxLen])) (cP (M4.r 0 rfl) (by simp;omega) rfl) (by simpa using fq.name)) fun w5 M5=>an (fun h3 M=>⟨ri (out _ (if_neg (by simpa using h3)) (by simpa using h3)),M.below⟩) fun h3=>?_
 replace h3:aP [y.name] ((p.asserts.take m).map (·.name))=0:=by simpa using h3
 rw[if_pos h3] at hcf out;refine lb 1<|an rfl<|fun g4 w6 M6=>ap 0 id rfl (M6.slice 0 rfl rfl rfl (by simp[maxLen])) ⟨by unfold maxLen;omega,by omega⟩ fun v5 w7 M7=>lb 2<|an rfl<|lb 2<|an (fun _=>rfl)<|an (fun h M=>⟨ri (out 13 ?_ (by decide)),M.below⟩) fun h=>?_
 ·by_cases h5:y.kind<1
  ·rw[if_pos h5]
  ·rw[if_neg h5,if_pos (by simp at h;omega)]
 rw[if_neg (by simp at h;omega),if_neg (by simp at h;omega)] at hcf out;refine lb 2<|an rfl<|lb 3<|an rfl<|cl<|an (gG _ y.src fq.src _ HU) fun w8 M8=>lb 2<|an rfl<|lb 3<|an rfl<|cl<|an (gG _ y.tgt fq.tgt _ HU) fun w9 M9=>an (fun h4 M=>⟨ri (out 3 (if_pos h4) (by decide)),M.below⟩) fun h4=>?_
 rw[if_neg (fun e=>by rw[h4] at e;cases e)] at hcf out;exact an (fun h5 M=>⟨ri (out 2 (if_pos h5) (by decide)),M.below⟩) fun h5=>an (by omega)<|bk (m+1,v5) ⟨rfl,rfl,trivial⟩ (fun M=>⟨(M.only (.cons _ (.cons _ (.cons _ (.refl _)))) (.refl _)).cast rfl (by dsimp only;rw[i_ hy]),by omega,hinv.trans (aM hlt (by rw[hcf,if_neg (fun e=>by rw[h5] at e;cases e)]))⟩) (by dsimp only;omega)
def gA:eM:=⟨⟨#[111,98,106,101,99,116,95,114]⟩,aq.zero,aq.zero⟩
theorem yD(r:eM)(w:World):(Op.equalIn 10000 136 (.agg #[.string r.name,.int .u64 r.types.a,.int .u64 r.types.b,.int .u64 r.types.c,.int .u64 r.types.d,.int .u64 r.next.a,.int .u64 r.next.b,.int .u64 r.next.c,.int .u64 r.next.d]) (.agg #[.string ⟨#[111,98,106,101,99,116,95,114]⟩,.int .u64 0,.int .u64 0,.int .u64 0,.int .u64 0,.int .u64 0,.int .u64 0,.int .u64 0,.int .u64 0])).run Tryz.prog w=.ok (decide (r=gA)) w:=by
 rw[show(10000:Nat)=9997+3 from rfl,TU];congr 1;rw[Bool.eq_iff_iff];obtain⟨n,⟨a,b,c,d⟩,⟨a',b',c',d'⟩⟩:=r;simp only[decide_eq_true_eq,gA,aq.zero,aq.mk.injEq,eM.mk.injEq,and_assoc];refine and_congr_right fun _=>?_
 omega
def sJ(nT nR:Nat)(before:List ByteArray)(y:eM):Int:=
 if aP [y.name] before=0 then
  (if y.types.within (aq.all nT)=false then 3 else if lN nR y.next=false then 3 else 0)
 else aP [y.name] before
def kF(p:aA)(i:Nat):Int:=match p.roles[i]? with
 | some y=>sJ p.types.length p.roles.length ((p.roles.take i).map (·.name)) y
 | none=>0
def dG(p:aA):Int:=if 32<p.roles.length then 4 else if p.roles[0]?≠some gA then 2 else ah (kF p) (p.roles.length-1) 1
theorem Ac{p:aA}(h:p.roles.length=0):p.roles[0]?≠some gA:=by
 rw[List.getElem?_eq_none (by omega)];simp
theorem Hx{p:aA}{r:eM}(h:p.roles[0]?=some r)(hn:¬ r=gA):p.roles[0]?≠some gA:=by
 rw[h];simpa using hn
theorem head_eq{p:aA}{r:eM}(h:p.roles[0]?=some r)(hn:r=gA):¬ p.roles[0]?≠some gA:=by
 rw[h];simpa using hn
theorem xH{p:aA}{r:eM}(h:p.roles[0]?=some r)(hn:r=gA):[(⟨#[111,98,106,101,99,116,95,114]⟩:ByteArray)]=(p.roles.take 1).map (·.name):=by
 cases hp:p.roles with
 | nil=>rw[hp] at h;simp at h
 | cons x l=>rw[hp] at h;simp at h;subst h hn;rfl
theorem I_(w0:World)(c0 c1 c2 c3 c4 c5 c6 c7 c8 c9 c10 c11 c12 c13 c14 c15 c16:Value)(p:aA)(hp:aD w0 c0 c1 c2 c3 c4 c5 c6 c7 c8 c9 c10 c11 c12 c13 c14 c15 c16 p)(hok:p.Ok):Calls Tryz.prog 54 #[.agg #[c0,c1,c2,c3,c4,c5,c6,c7,c8,c9,c10,c11,c12,c13,c14,c15,c16]] w0 (RI w0 (dG p)):=by
 obtain⟨_,_,_,a3,_,_,_,_,_,_,_,_,_,_,_,_,_,_,_,_,k3,_,_,_,_,_,_,_,_,_,_,_,_,_,rfl,rfl,rfl,rfl,rfl,rfl,rfl,rfl,rfl,rfl,rfl,rfl,rfl,rfl,rfl,rfl,rfl⟩:=hp.open
 obtain⟨r,b,o,H⟩:∃ (r:eM) (b o:Nat),p.roles.length≠0→p.roles[0]?=some r∧a3=some ⟨b,o,none⟩∧∀ j u,r.cells[j]?=some u→w0.cell? ⟨b,o+0*9+j,none⟩=some u:=by
  by_cases h0:p.roles.length=0
  ·exact⟨gA,0,0,fun h=>absurd h0 h⟩
  ·have hy:=ajl (Nat.pos_of_ne_zero h0);obtain⟨b,o,e,hc⟩:=SliceAt.elt hp.roles (fun _=>rfl) (by decide) hy (Nat.pos_of_ne_zero h0);exact⟨_,b,o,fun _=>⟨hy,e,hc⟩⟩
 refine bU [] (fn:=Tryz.f54) Tryz.func54 rfl Tryz.ntmps54 rfl<|fun g1 w1 M1=>lb 0<|an rfl<|an (fun h M=>⟨ri (by unfold dG;rw[if_pos (by simp at h;omega)]),M.below⟩) fun h=>?_
 have hr:¬ 32<p.roles.length:=by simp at h;omega
 refine lb 0<|an rfl<|cl<|an (xK _ _ hok.oy) fun w2 M2=>ei<|an pG fun g2 w3 M3=>lb 0<|an ⟨rfl,rfl⟩ fun w4 M4=>lb 1<|an rfl<|lb 1<|an (fun _=>rfl)<|ia (b:=b) (off:=o) (i:=0)<|an (fun h=>⟨(H fun e=>by simp[e] at h).2.1,rfl,Nat.pos_of_ne_zero fun e=>by simp[e] at h⟩)<|lc (x:=[.string r.name,.int .u64 r.types.a,.int .u64 r.types.b,.int .u64 r.types.c,.int .u64 r.types.d,.int .u64 r.next.a,.int .u64 r.next.b,.int .u64 r.next.c,.int .u64 r.next.d])<|an (fun h=>cL M4.below (H fun e=>by simp[e] at h).2.2)<|ei (x:=.agg #[.string ⟨#[111,98,106,101,99,116,95,114]⟩,.int .u64 0,.int .u64 0,.int .u64 0,.int .u64 0,.int .u64 0,.int .u64 0,.int .u64 0,.int .u64 0])<|an (fun _=>bd (by kernel_rfl))<|ei<|an (fun h=>⟨Rf,yD r⟩)<|an (fun h2 M=>⟨ri ?_,M.below⟩) fun h2=>?_
 ·unfold dG;rw[if_neg hr,if_pos];by_cases h0:p.roles.length=0
  ·exact Ac h0
  ·exact Hx (H h0).1 (by simpa[h0] using h2)
 have h0:p.roles.length≠0:=fun e=>by simp[e] at h2
 obtain⟨hr0,-,-⟩:=H h0;have hro:r=gA:=by simpa[h0] using h2
 rw[show dG p=ah (kF p) (p.roles.length-1) 1 by unfold dG;rw[if_neg hr,if_neg (head_eq hr0 hro)]];refine fun g3 w5 M5=>lp (ι:=Nat×Value) (fun(m,u)=>[(4,u),(5,.int .i64 (m:Int))]) (fun _=>[_,_]) (fun(m,u)=>[⟨u,9,1,m,((p.roles.take m).map (·.name)).flatMap aO⟩]) (fun(m,u) _=>(1≤m∧m≤p.roles.length)∧ah (kF p) (p.roles.length-1) 1=ah (kF p) (p.roles.length-m) m) (fun(m,u)=>p.roles.length-m) (1,.slice (some ⟨g3,0,none⟩) 1 1) (an ⟨⟨rfl,rfl,trivial⟩,fun M=>⟨(M.uH 1 1 (by simp[maxLen]) rfl).cast rfl (by dsimp only;rw[← xH hr0 hro];rfl),⟨Nat.le_refl _,Nat.pos_of_ne_zero h0⟩,rfl⟩⟩ ?_)
 rintro⟨m,u⟩ w M ⟨⟨h1m,hm⟩,hinv⟩;refine lb 1<|an rfl<|an (fun h2=>?_) fun h2 M=>⟨ri (by rw[hinv,show m=p.roles.length by simp at h2;omega,aT]),M.below⟩
 have hlt:m<p.roles.length:=by simp at h2;omega
 obtain⟨y,hy⟩:∃ y,p.roles[m]?=some y:=⟨_,ajl hlt⟩;have fq:=hok.roles y (ajm hy);obtain⟨b,o,e,hc⟩:=SliceAt.elt hp.roles (fun _=>rfl) (by decide) hy hlt;have hcf:kF p m=sJ p.types.length p.roles.length ((p.roles.take m).map (·.name)) y:=by unfold kF;rw[hy]
 have out:∀ v:Int,sJ p.types.length p.roles.length ((p.roles.take m).map (·.name)) y=v→v≠0→ah (kF p) (p.roles.length-1) 1=v:=fun v h1 h2=>by rw[hinv,aV hlt (by rw[hcf,h1];exact h2),hcf,h1]
 unfold sJ at hcf out;refine lb 1<|an rfl<|ia<|an ⟨e,rfl,hlt⟩<|lc<|an (cL M.below hc)<|ei<|an GN fun g2 w2 M2=>lb 0<|an ⟨rfl,rfl⟩ fun w3 M3=>lb 0<|an rfl<|fun g3 w4 M4=>cl<|an (eY _ _ _ [y.name] ((p.roles.take m).map (·.name)) (M4.slice 0 rfl rfl rfl (by simp[maxLen])) (cP (M4.r 0 rfl) (by simp;omega) rfl) (by simpa using fq.name)) fun w5 M5=>an (fun h3 M=>⟨ri (out _ (if_neg (by simpa using h3)) (by simpa using h3)),M.below⟩) fun h3=>?_
 replace h3:aP [y.name] ((p.roles.take m).map (·.name))=0:=by simpa using h3
 rw[if_pos h3] at hcf out;refine lb 1<|an rfl<|fun g4 w6 M6=>ap 0 id rfl (M6.slice 0 rfl rfl rfl (by simp[maxLen])) ⟨by unfold maxLen;omega,by omega⟩ fun v5 w7 M7=>lb 2<|an rfl<|lb 3<|an rfl<|cl<|an (pX _ y.types (aq.all p.types.length) fq.types (nj _)) fun w8 M8=>lb 4<|an (fun _=>rfl)<|lb 2<|an (fun _=>rfl)<|cl<|an (fun _=>j7 _ _ _ _ _ _ _ _ _ _ _ _ _ _ _ _ _ _ p (hp.keep M8.below) hok y.next fq.next) fun w9 M9=>an (fun h5 M=>⟨ri (out 3 ?_ (by decide)),M.below⟩) fun h5=>an (by omega)<|bk (m+1,v5) ⟨rfl,rfl,trivial⟩ (fun M=>⟨(M.only (.cons _ (.cons _ (.cons _ (.refl _)))) (.refl _)).cast rfl (by dsimp only;rw[i_ hy]),by omega,hinv.trans (aM hlt ?_)⟩) (by dsimp only;omega)
 all_goals first|(rw[hcf];clear hcf out)|clear hcf out
 all_goals cases h6:y.types.within (aq.all p.types.length)<;>cases h7:lN p.roles.length y.next<;>simp_all
structure aA.XR (p:aA):Prop where
 types:p.types.length≤12
 jy:∀ t∈p.types,t.jy.length≤4
def bf(l:List gE):List ByteArray:=l.flatMap fun t=>t.name::t.jy
theorem zM{l:List gE}(h:∀ t∈l,t.jy.length≤4):(bf l).length≤l.length*5:=by
 induction l with
 | nil=>simp[bf]
 | cons t l ih=>
  have h1:=h t (by simp);have h2:=ih fun x hx=>h x (by simp[hx])
  unfold bf at *;rw[List.flatMap_cons,ajo,List.length_cons,List.length_cons];omega
theorem wU{p:aA}(h:p.XR)(m:Nat):(bf (p.types.take m)).length≤m*5:=by
 have h1:=zM (l:=p.types.take m) fun t ht=>h.jy t (List.mem_of_mem_take ht)
 have h2:(p.types.take m).length≤m:=List.length_take_le _ _;omega
theorem rz{y:gE}(h:y.Ok):∀ s∈y.name::y.jy,cB s:=fun s hs=>by
 rcases List.mem_cons.1 hs with rfl|hs
 ·exact h.name
 ·exact h.jy.all s hs
def GZ(before:List ByteArray)(y:gE):Int:=aP (y.name::y.jy) before
def ju(p:aA)(i:Nat):Int:=match p.types[i]? with
 | some y=>GZ (bf (p.types.take i)) y
 | none=>0
def tR(nT:Nat)(before:List ByteArray)(y:jG):Int:=
 if aP [y.name] before=0 then (if y.types.within (aq.all nT)=false then 3 else 0) else aP [y.name] before
def jQ(p:aA)(i:Nat):Int:=match p.attrs[i]? with
 | some y=>tR p.types.length (bf p.types++(p.attrs.take i).map (·.name)) y
 | none=>0
def fG(p:aA):Int:=if 256<p.types.length then 4 else if ah (ju p) p.types.length 0=0 then (if 64<p.attrs.length then 4 else ah (jQ p) p.attrs.length 0) else ah (ju p) p.types.length 0
theorem rA(w0:World)(c0 c1 c2 c3 c4 c5 c6 c7 c8 c9 c10 c11 c12 c13 c14 c15 c16:Value)(p:aA)(hp:aD w0 c0 c1 c2 c3 c4 c5 c6 c7 c8 c9 c10 c11 c12 c13 c14 c15 c16 p)(hok:p.Ok)(za:p.XR)(k:Nat)(hk:k≤p.types.length):Calls Tryz.prog 151 #[.agg #[c0,c1,c2,c3,c4,c5,c6,c7,c8,c9,c10,c11,c12,c13,c14,c15,c16],.int .i64 (k:Int)] w0 (fun(e:Ending) (w':World)=>∃ v,e=.returned v∧(Od w' w0.heap.size v (bf (p.types.take k))∧ajj w0.heap.size w0 w')):=by
 obtain⟨_,_,_,_,_,_,_,_,_,_,_,_,_,_,_,_,_,_,_,_,_,_,_,_,_,_,_,_,_,_,_,_,_,_,rfl,rfl,rfl,rfl,rfl,rfl,rfl,rfl,rfl,rfl,rfl,rfl,rfl,rfl,rfl,rfl,rfl⟩:=hp.open;have HU:=za.types;refine bU [] (fn:=Tryz.f151) Tryz.func151 rfl Tryz.ntmps151 rfl<|fun g1 w1 M1=>lq (ι:=Nat×Value) (fun(m,u)=>[(5,u),(6,.int .i64 (m:Int))]) (fun(m,u)=>[⟨u,9,1,(bf (p.types.take m)).length,(bf (p.types.take m)).flatMap aO⟩]) (fun(m,u) _=>m≤k) (fun(m,u)=>k-m) (0,.slice none 0 0) (an ⟨⟨rfl,rfl,trivial⟩,fun M=>⟨M.bE 9 1,ajk _⟩⟩ ?_)
 rintro⟨m,u⟩ w M hm;refine an (fun h2=>?_) fun h2 M=>⟨_,rfl,?_,M.below⟩
 ·have hlt:m<k:=by simp at h2;omega
  obtain⟨y,hy⟩:∃ y,p.types[m]?=some y:=⟨_,ajl (Nat.lt_of_lt_of_le hlt hk)⟩;obtain⟨b,o,_,e,⟨v,rfl,hv⟩,hc⟩:=au.elt hp.types (by decide) hy;have hl:=wU za m;have hal:=za.jy y (ajm hy);exact lb 0<|an rfl<|ia<|an ⟨e,rfl,by omega⟩<|lc<|an (cL M.below hc 0 _ rfl)<|fun g2 w2 M2=>ap 0 id rfl (M2.slice 0 rfl rfl rfl (by simp[maxLen])) ⟨by unfold maxLen;omega,by omega⟩ fun v3 w3 M3=>lb 1<|an rfl<|ia<|an ⟨e,rfl,by omega⟩<|lc<|an (cL M3.below hc 1 _ rfl)<|ap 0 id rfl (hv.keep M3.below) ⟨by unfold maxLen;omega,by omega⟩ fun v4 w4 M4=>an (by omega)<|bk (m+1,v4) ⟨rfl,rfl,trivial⟩ (fun M=>⟨(M.only (.cons _ (.refl _)) (.refl _)).cast rfl (by dsimp only;rw[List.take_add_one,hy];simp[bf,aO];omega),by omega⟩) (by dsimp only;omega)
 ·obtain rfl:m=k:=by simp at h2;omega
  exact M.r 0 rfl
theorem II(w0:World)(c0 c1 c2 c3 c4 c5 c6 c7 c8 c9 c10 c11 c12 c13 c14 c15 c16:Value)(p:aA)(hp:aD w0 c0 c1 c2 c3 c4 c5 c6 c7 c8 c9 c10 c11 c12 c13 c14 c15 c16 p)(hok:p.Ok)(za:p.XR):Calls Tryz.prog 53 #[.agg #[c0,c1,c2,c3,c4,c5,c6,c7,c8,c9,c10,c11,c12,c13,c14,c15,c16]] w0 (RI w0 (fG p)):=by
 obtain⟨_,_,_,_,_,_,_,_,_,_,_,_,_,_,_,_,_,_,_,_,_,_,_,_,_,_,_,_,_,_,_,_,_,_,rfl,rfl,rfl,rfl,rfl,rfl,rfl,rfl,rfl,rfl,rfl,rfl,rfl,rfl,rfl,rfl,rfl⟩:=hp.open;have HU:=za.types;refine bU [] (fn:=Tryz.f53) Tryz.func53 rfl Tryz.ntmps53 rfl<|fun g1 w1 M1=>lb 0<|an rfl<|an (fun h=>by simp at h;omega) fun h=>?_
 have hr:¬ 256<p.types.length:=by omega
 refine lr (ι:=Nat) (fun m=>[(3,.int .i64 (m:Int))]) (fun m _=>m≤p.types.length∧ah (ju p) p.types.length 0=ah (ju p) (p.types.length-m) m) (fun m=>p.types.length-m) 0 (an ⟨⟨rfl,trivial⟩,fun M=>⟨M,ajk _,by rw[Nat.sub_zero]⟩⟩ ?_);rintro m w M ⟨hm,hinv⟩;refine lb 0<|an rfl<|an (fun h2=>?_) fun h2=>?_
 ·have hlt:m<p.types.length:=by simp at h2;omega
  obtain⟨y,hy⟩:∃ y,p.types[m]?=some y:=⟨_,ajl hlt⟩;have fq:=hok.types y (ajm hy);have hal:=za.jy y (ajm hy);obtain⟨b,o,_,e,⟨v,rfl,hv⟩,hc⟩:=au.elt hp.types (by decide) hy;have hcf:ju p m=aP (y.name::y.jy) (bf (p.types.take m)):=by unfold ju;rw[hy];rfl
  exact dr (by kernel_rfl)<|lb 0<|an rfl<|ia<|an ⟨e,rfl,hlt⟩<|lc<|an (cL M.below hc 0 _ rfl)<|bl<|lb 0<|an rfl<|ia<|an ⟨e,rfl,hlt⟩<|lc<|an (cL M.below hc 1 _ rfl)<|fun g2 w2 hb2 M2=>ap 0 (fun M=>M.uH 1 1 (by simp[maxLen]) rfl) rfl (hv.keep M2.below) ⟨by unfold maxLen;omega,by omega⟩ fun v3 w3 M3=>lb 0<|an rfl<|cw M3 (rA _ _ _ _ _ _ _ _ _ _ _ _ _ _ _ _ _ _ p (hp.keep M3.below) hok za m hm) fun u w4 M4=>cl<|an (eY _ _ _ (y.name::y.jy) (bf (p.types.take m)) (cP (M4.r 1 rfl) (by simp;omega) rfl) (cP (M4.r 0 rfl) rfl rfl) (rz fq)) fun w5 M5=>an (fun h3 M=>⟨ri (by
   have h3:aP (y.name::y.jy) (bf (p.types.take m))≠0:=by simpa using h3
   have e:ah (ju p) p.types.length 0=aP (y.name::y.jy) (bf (p.types.take m)):=by rw[hinv,aV hlt (by rw[hcf];exact h3),hcf]
   unfold fG;rw[if_neg hr,e,if_neg h3]),M.below⟩) fun h3=>an (by omega)<|bk (m+1) ⟨rfl,trivial⟩ (fun M=>⟨M.only (.refl _) (.cons _ (.cons _ (.refl _))),by omega,hinv.trans (aM hlt (by rw[hcf];simpa using h3))⟩) (by dsimp only;omega)
 have hz:ah (ju p) p.types.length 0=0:=by rw[hinv,show m=p.types.length by simp at h2;omega,aT]
 clear hinv h2;refine lb 0<|an rfl<|an (fun h M=>⟨ri (by unfold fG;rw[if_neg hr,if_pos hz,if_pos (by simp at h;omega)]),M.below⟩) fun h=>?_
 have ha:¬ 64<p.attrs.length:=by simp at h;omega
 rw[show fG p=ah (jQ p) p.attrs.length 0 by unfold fG;rw[if_neg hr,if_pos hz,if_neg ha]];refine lb 0<|an rfl<|lb 0<|an rfl<|cw M (rA _ _ _ _ _ _ _ _ _ _ _ _ _ _ _ _ _ _ p (hp.keep M.below) hok za p.types.length (Nat.le_refl _)) fun u0 w5 M5=>lq (ι:=Nat×Value) (fun(m,u)=>[(6,u),(7,.int .i64 (m:Int))]) (fun(m,u)=>[⟨u,9,1,(bf p.types++(p.attrs.take m).map (·.name)).length,(bf p.types++(p.attrs.take m).map (·.name)).flatMap aO⟩]) (fun(m,u) _=>m≤p.attrs.length∧ah (jQ p) p.attrs.length 0=ah (jQ p) (p.attrs.length-m) m) (fun(m,u)=>p.attrs.length-m) (0,u0) (an ⟨⟨rfl,rfl,trivial⟩,fun M=>⟨M.cast rfl (by rw[ajn];simp),ajk _,by rw[Nat.sub_zero]⟩⟩ ?_)
 clear M;rintro⟨m,u⟩ w M ⟨hm,hinv⟩;refine lb 0<|an rfl<|an (fun h2=>?_) fun h2 M=>⟨ri (by rw[hinv,show m=p.attrs.length by simp at h2;omega,aT]),M.below⟩
 have hlt:m<p.attrs.length:=by simp at h2;omega
 obtain⟨y,hy⟩:∃ y,p.attrs[m]?=some y:=⟨_,ajl hlt⟩;have fq:=hok.attrs y (ajm hy);obtain⟨b,o,e,hc⟩:=SliceAt.elt hp.attrs (fun _=>rfl) (by decide) hy hlt;have hcf:jQ p m=tR p.types.length (bf p.types++(p.attrs.take m).map (·.name)) y:=by unfold jQ;rw[hy]
 have out:∀ v:Int,tR p.types.length (bf p.types++(p.attrs.take m).map (·.name)) y=v→v≠0→ah (jQ p) p.attrs.length 0=v:=fun v h1 h2=>by rw[hinv,aV hlt (by rw[hcf,h1];exact h2),hcf,h1]
 unfold tR at hcf out;have hl:=wU za p.types.length;rw[ajn] at hl;refine lb 0<|an rfl<|ia<|an ⟨e,rfl,hlt⟩<|lc<|an (cL M.below hc 0 _ rfl)<|fun g4 w6 M6=>cl<|an (eY _ _ _ [y.name] (bf p.types++(p.attrs.take m).map (·.name)) (M6.slice 0 rfl rfl rfl (by simp[maxLen])) (cP (M6.r 0 rfl) rfl rfl) (by simpa using fq.name)) fun w7 M7=>an (fun h3 M=>⟨ri (out _ (if_neg (by simpa using h3)) (by simpa using h3)),M.below⟩) fun h3=>?_
 replace h3:aP [y.name] (bf p.types++(p.attrs.take m).map (·.name))=0:=by simpa using h3
 rw[if_pos h3] at hcf out;have hll:(bf p.types++(p.attrs.take m).map (·.name)).length≤200:=by simp;omega
 exact lb 1<|an rfl<|ia<|an ⟨e,rfl,hlt⟩<|lc<|an (cL M7.below hc 0 _ rfl)<|fun g5 w8 M8=>ap 0 id rfl (M8.slice 0 rfl rfl rfl (by simp[maxLen])) ⟨by unfold maxLen;omega,by omega⟩ fun v6 w9 M9=>dr (by kernel_rfl)<|lb 2<|an rfl<|ia<|an ⟨e,rfl,hlt⟩<|lc (x:=[.int .u64 y.types.a,.int .u64 y.types.b,.int .u64 y.types.c,.int .u64 y.types.d])<|an (fR (cL M9.below hc) rfl)<|lb 2<|an rfl<|cl<|an (fun w' hb' M'=>gG _ y.types fq.types _ (by omega)) fun pE TB jH=>an (fun h4 M=>⟨ri (out 3 (if_pos (by simpa using h4)) (by decide)),M.below⟩) fun h4=>an (by omega)<|bk (m+1,v6) ⟨rfl,rfl,trivial⟩ (fun M=>⟨(M.only (.cons _ (.cons _ (.refl _))) (.refl _)).cast rfl (by dsimp only;rw[List.take_add_one,hy];simp[aO];omega),by omega,hinv.trans (aM hlt (by rw[hcf,if_neg (by simpa using h4)]))⟩) (by dsimp only;omega)
theorem gX(w:World)(i n:Int):Calls Tryz.prog 162 #[.int .i64 i,.int .i64 n] w fun e w'=>e=.returned (.bool (aE i n))∧ajj w.heap.size w w':=(fZ w i n).mono fun _ _ ⟨h1,h2⟩=>⟨h1,h2▸Below.refl _ _⟩
variable [DS]
section
variable {P:Program} {ops:Array Oper} {Q:Exit→Act→World→Prop}
theorem zh{Pp:List PanicEntry→Act→World→Prop}(hP:∀ ch a w,Pp ch a w→Q (.panic ch) a w){i:Nat}{o:Oper}{a:Act}{w:World}{K:Act→World→Prop}(ho:ops[i]?=some o)
 (h:∀ Q':Exit→Act→World→Prop,(∀ a w,K a w→Q' .normal a w)→(∀ ch a w,Pp ch a w→Q' (.panic ch) a w)→wpList P ops Q' [o] a w):wpOp P ops Q i K a w:=by
 have h1:=h (fun e a w=>match e with|.normal=>K a w|e=>Q e a w) (fun _ _ h=>h) (fun ch a w h=>hP ch a w h);unfold wpOp;rw[ho];simp only[wpList] at h1;dsimp only;split
 ·rename_i hw;rw[if_pos hw] at h1;refine h1.imp (fun h2=>?_) (fun h2=>⟨h2.1,h2.2⟩);unfold Oper.wp at *;generalize (execOp a.eval o).run P w=r at *
  cases r with
  | ok n w'=>
   cases n<;>simp only[Oper.upon] at h2 ⊢<;>first|exact h2|exact Calls.mono h2 (fun e w'' he=>by cases e<;>exact he)
  | halt x w'=>cases x<;>simp only[Oper.upon] at h2 ⊢<;>exact h2
 ·rename_i hw;rw[if_neg hw] at h1;exact h1
theorem wM{Pp:List PanicEntry→Act→World→Prop}(hP:∀ ch a w,Pp ch a w→Q (.panic ch) a w){id:Nat}{l:List Oper}{a:Act}{w:World}(hm:P.follows .mixedOrders=true)(fT:ordered 0 l=true)(I:(Nat→Bool)→Act→World→Prop)
 (h0:I (fun _=>false) a w.drew) (hstep:∀ (i:Nat) (o:Oper),l[i]?=some o→∀ (L:Nat→Bool) (a:Act) (w:World) (Q':Exit→Act→World→Prop),I L a w→L i=false→(∀ e∈o.after.toList,Region.binds .any e=true→L e.on=true)→(∀ a w,I (upd L i) a w→Q' .normal a w)→(∀ ch a w,Pp ch a w→Q' (.panic ch) a w)→wpList P l.toArray Q' [o] a w)
 (hend:∀ (L:Nat→Bool) (a:Act) (w:World),I L a w→(∀ i,i<l.length→L i=true)→Q .normal a w) :
 (Code.region id l.toArray true).wp P Q a w:=by
 refine wp_region_any hm (zK I (fun i o ho e he hb=>?_) (fun i o ho L a w hI hL ha=>?_) (fun L a w hI hL=>hend L a w hI (by simpa using hL)) _ _ a _ (by simp) ?_ ?_)
 ·have:=jf 0 l fT i o (by simpa using ho) e he hb;omega
 ·exact zh hP ho fun Q' hQ' hp=>hstep i o (by simpa using ho) L a w Q' hI hL ha hQ' hp
 ·exact Nat.le_trans (List.count_le_length ..) (by simp)
 ·have:(fun j=>(Array.replicate l.toArray.size false).getD j false)=fun _=>false:=by
   funext j
   rw[ajs,Array.getElem?_replicate];split<;>rfl
  rw[this];exact h0
end
section
variable (P:Program) (ops:Array Oper) (l:List Oper) (K:List Kn) (X:List Nat) (J:World→Prop) (Pp:List PanicEntry→Act→World→Prop) (Q:Act→World→Prop)
def tT:Tr→Act→World→Prop
 | .done,a,w=>∀ a',vv X a a'→(∀ (n:Nat) (k:Kn),K[n]?=some k→At a' k.2.1 k.2.2)→Q a' w
 | .step j t,a,w=>∀ o,l[j]?=some o→∀ a',vv X a a'→(∀ (n:Nat) (k:Kn),K[n]?=some k→Bd o k.1→At a' k.2.1 k.2.2)→∀ Q':Exit→Act→World→Prop,(∀ a1 w1,J w1→Moved K j o a' a1→tT t a1 w1→Q' .normal a1 w1)→(∀ ch a1 w1,Pp ch a1 w1→Q' (.panic ch) a1 w1)→wpList P ops Q' [o] a' w
 | .last j,a,w=>∀ o,l[j]?=some o→∀ a',vv X a a'→(∀ (n:Nat) (k:Kn),K[n]?=some k→Bd o k.1→At a' k.2.1 k.2.2)→∀ Q':Exit→Act→World→Prop,(∀ a1 w1,Moved K j o a' a1→(∀ a2,vv X a1 a2→(∀ (n:Nat) (k:Kn),K[n]?=some k→At a2 k.2.1 k.2.2)→Q a2 w1)→Q' .normal a1 w1)→(∀ ch a1 w1,Pp ch a1 w1→Q' (.panic ch) a1 w1)→wpList P ops Q' [o] a' w
 | .alt x y,a,w=>tT x a w∧tT y a w
end
section
variable {P:Program} {ops:Array Oper} {l:List Oper} {K:List Kn} {X F:List Nat} {J:World→Prop} {Pp:List PanicEntry→Act→World→Prop} {Q:Act→World→Prop}
theorem tX:∀ {t:Tr} {E:List Nat} {a:Act} {w:World} {j:Nat},tT P ops l K X J Pp Q t a w→iG l F t E=true→j∈heads t→(∃ t',tT P ops l K X J Pp Q (.step j t') a w∧iG l F (.step j t') E=true)∨(tT P ops l K X J Pp Q (.last j) a w∧iG l F (.last j) E=true)
 | .done,_,_,_,_,_,_,h=>by cases h
 | .step j t,E,a,w,i,h,hs,hi=>by
  obtain rfl:i=j:=by simpa[heads] using hi
  exact .inl ⟨t,h,hs⟩
 | .last j,E,a,w,i,h,hs,hi=>by
  obtain rfl:i=j:=by simpa[heads] using hi
  exact .inr ⟨h,hs⟩
 | .alt x y,E,a,w,i,h,hs,hi=>by
  simp only[iG,ajt] at hs;rcases aju.1 hi with hi|hi
  ·exact tX h.1 hs.1 hi
  ·exact tX h.2 hs.2 hi
theorem CF:∀ {t:Tr} {E:List Nat} {a:Act} {w:World},tT P ops l K X J Pp Q t a w→iG l F t E=true→(∀ j,j<l.length→F.contains j=true∨E.contains j=true)→tT P ops l K X J Pp Q .done a w
 | .done,_,_,_,h,_,_=>h
 | .step j t,E,a,w,h,hs,hE=>by
  simp only[iG,ajt,decide_eq_true_iff] at hs;obtain⟨⟨⟨⟨h1,h2⟩,h3⟩,_⟩,_⟩:=hs;rcases hE j h3 with h|h
  ·rw[h] at h2;cases h2
  ·rw[h] at h1;cases h1
 | .last j,E,a,w,h,hs,hE=>by
  simp only[iG,ajt,decide_eq_true_iff] at hs;obtain⟨⟨⟨⟨⟨h1,h2⟩,h3⟩,_⟩,_⟩,_⟩:=hs;rcases hE j h3 with h|h
  ·rw[h] at h2;cases h2
  ·rw[h] at h1;cases h1
 | .alt x y,E,a,w,h,hs,hE=>by
  simp only[iG,ajt] at hs;exact CF h.1 hs.1 hE
end
section
variable {P:Program} {Q:Exit→Act→World→Prop}
theorem q_{Pp:List PanicEntry→Act→World→Prop}(hP:∀ ch a w,Pp ch a w→Q (.panic ch) a w){id:Nat}{l:List Oper}{a:Act}{w:World}{N:Nat}(K:List Kn)(F:List Nat)(t:Tr)(J:World→Prop)
 (hm:P.follows .mixedOrders=true) (fT:ordered 0 l=true) (hK:(K.all fun k=>((l[k.1]?).bind (·.dst)) == some k.2.1)=true) (hF:(F.all fun i=>K.any fun k=>k.1 == i)=true) (hnd:(l.filterMap (·.dst)).Nodup) (hbd:((l.filterMap (·.dst)).all fun s=>Nat.blt s N)=true)
 (TA:((cand l F []).all fun i=>(heads t).contains i)=true) (hsub:iG l F t []=true)
 (hf:Fr a N) (hfl:pz P l F K J a N K) (hJ:J w.drew) (hsp:tT P l.toArray l K (xs F K) J Pp (Q .normal) t a w.drew):(Code.region id l.toArray true).wp P Q a w:=by
 have hidx:=Fp hnd
 have DB:∀ k∈K,∃ o:Oper,l[k.1]?=some o∧o.dst=some k.2.1:=fun k hk=>by
  have h:=ajr.1 hK k hk;have h:(l[k.1]?).bind (·.dst)=some k.2.1:=by simpa using h
  cases e:l[k.1]? with
  | none=>rw[e] at h;cases h
  | some o=>rw[e] at h;exact⟨o,rfl,h⟩
 have hin:∀ (i:Nat) (o:Oper) (s:Nat),l[i]?=some o→o.dst=some s→(l.filterMap (·.dst)).contains s=true:=fun i o s ho hs=>by
  have:s∈l.filterMap (·.dst):=List.mem_filterMap.2 ⟨o,ajm ho,hs⟩;simpa using this
 refine wM (Pp:=Pp) hP hm fT (fun L b u=>(∀ j o,l[j]?=some o→L j=true→∀ e∈o.after.toList,Region.binds .any e=true→L e.on=true)∧Fr b N∧(J u∨∀ f,F.contains f=true→L f=true)∧(∀ j v,(l.filterMap (·.dst)).contains j=false→At a j v→At b j v) ∧
  (∀ k∈K,L k.1=true→At b k.2.1 k.2.2)∧∃ t E a0,(∀ j,j<l.length→F.contains j=false→L j=E.contains j)∧((cand l F E).all fun i=>(heads t).contains i)=true∧iG l F t E=true∧vv (xs F K) a0 b∧tT P l.toArray l K (xs F K) J Pp (Q .normal) t a0 u) ?_ ?_ ?_
 ·exact⟨fun _ _ _ h=>(by cases h),hf,.inl hJ,fun _ _ _ h=>h,fun _ _ h=>(by cases h),t,[],a,fun _ _ _=>rfl,TA,hsub,.refl _ _,hsp⟩
 ·have key:∀ (i:Nat) (o:Oper),l[i]?=some o→∀ (L:Nat→Bool) (b:Act) (u:World) (Q':Exit→Act→World→Prop),((∀ j o,l[j]?=some o→L j=true→∀ e∈o.after.toList,Region.binds .any e=true→L e.on=true)∧Fr b N∧(J u∨∀ f,F.contains f=true→L f=true)∧(∀ j v,(l.filterMap (·.dst)).contains j=false→At a j v→At b j v) ∧
   (∀ k∈K,L k.1=true→At b k.2.1 k.2.2)∧∃ t E a0,(∀ j,j<l.length→F.contains j=false→L j=E.contains j)∧((cand l F E).all fun i=>(heads t).contains i)=true∧iG l F t E=true∧vv (xs F K) a0 b∧tT P l.toArray l K (xs F K) J Pp (Q .normal) t a0 u)→L i=false →
   (∀ e∈o.after.toList,Region.binds .any e=true→L e.on=true) →
   (∀ b u,((∀ j o,l[j]?=some o→upd L i j=true→∀ e∈o.after.toList,Region.binds .any e=true→upd L i e.on=true)∧Fr b N∧(J u∨∀ f,F.contains f=true→upd L i f=true)∧(∀ j v,(l.filterMap (·.dst)).contains j=false→At a j v→At b j v) ∧
   (∀ k∈K,upd L i k.1=true→At b k.2.1 k.2.2)∧∃ t E a0,(∀ j,j<l.length→F.contains j=false→upd L i j=E.contains j)∧((cand l F E).all fun i=>(heads t).contains i)=true∧iG l F t E=true∧vv (xs F K) a0 b∧tT P l.toArray l K (xs F K) J Pp (Q .normal) t a0 u)→Q' .normal b u)→(∀ ch a w,Pp ch a w→Q' (.panic ch) a w)→wpList P l.toArray Q' [o] b u:=by
   intro i o ho L b u Q' ⟨hcl,hfr,hj,hout,hkn,t,E,a0,FL,hc,hs,hag,hsp⟩ hL hA yw pJ;have JX:=(ajp.1 ho).1;have up:∀ j,L j=true→upd L i j=true:=fun j hj=>by simp[upd,hj]
   have hcl':∀ j o,l[j]?=some o→upd L i j=true→∀ e∈o.after.toList,Region.binds .any e=true→upd L i e.on=true:=by
    intro j o' hj DA e he hb;by_cases hji:j=i
    ·subst hji;obtain rfl:o=o':=ajv (ho.symm.trans hj);exact up _ (hA e he hb)
    ·have hne:(j == i)=false:=by simpa using hji
     exact up _ (hcl j o' hj (by simpa[upd,hne] using DA) e he hb)
   have jj:∀ (n:Nat) (k:Kn),K[n]?=some k→Bd o k.1→At b k.2.1 k.2.2:=fun n k hk ⟨gr,he,hb⟩=>hkn k (ajm hk) (hA _ he hb)
   have keep:∀ {b':Act} {d:Nat} {v:Value},o.dst=some d→Put b d v b'→(∀ k∈K,k.1=i→k.2.2=v)→(∀ j v,(l.filterMap (·.dst)).contains j=false→At a j v→At b' j v)∧∀ k∈K,upd L i k.1=true→At b' k.2.1 k.2.2:=by
    intro b' d v hd hp hv;constructor
    ·intro j x Tq hx;refine hp.old ?_ (hout j x Tq hx)
     cases e:j == d with
     | false=>rfl
     | true=>
      have e':j=d:=by simpa using e
      rw[e',hin i o d ho hd] at Tq;cases Tq
    ·intro k hk TH;obtain⟨o',ho',hd'⟩:=DB k hk;by_cases hki:k.1=i
     ·rw[hki] at ho';obtain rfl:o=o':=ajv (ho.symm.trans ho');obtain rfl:d=k.2.1:=ajv (hd.symm.trans hd');rw[hv k hk hki];exact hp.now
     ·have hne:(k.1 == i)=false:=by simpa using hki
      refine hp.old ?_ (hkn k hk (by simpa[upd,hne] using TH))
      cases e:k.2.1 == d with
      | false=>rfl
      | true=>
       have e':k.2.1=d:=by simpa using e
       exact absurd (hidx k.1 i o' o d ho' ho (by rw[hd',e']) hd) hki
   cases DC:F.contains i with
   | true=>
    have hj:J u:=by
     rcases hj with hj|hj
     ·exact hj
     ·rw[hj i DC] at hL;cases hL
    obtain⟨k,hk,hki⟩:=List.any_eq_true.1 (ajr.1 hF i (by simpa using DC));have hki:k.1=i:=by simpa using hki
    obtain⟨o',ho',hd'⟩:=DB k hk;rw[hki] at ho';obtain rfl:o=o':=ajv (ho.symm.trans ho');obtain⟨hw,hr⟩:=mo hfl k hk (by rw[hki];exact DC) o (by rw[hki];exact ho) b u hfr hj hout jj
    have ZO:k.2.1<N:=by
     have:=ajr.1 hbd k.2.1 (List.mem_filterMap.2 ⟨o,ajm ho,hd'⟩);simpa using this
    refine kM hw hr hd' hfr ZO fun b' hp=>wpList_nil (yw b' u ?_)
    have hkv:∀ k'∈K,k'.1=i→k'.2.2=k.2.2:=fun k' hk' e=>by
     obtain⟨_,_,_⟩:=DB k' hk';obtain⟨w2,h2⟩:=mo hfl k' hk' (by rw[e];exact DC) o (by rw[e];exact ho) b u hfr hj hout jj;rw[hr] at h2;injection h2 with h2;injection h2 with h2;exact h2.symm
    obtain⟨g1,g2⟩:=keep hd' hp hkv;refine⟨hcl',hp.fr hfr,.inl hj,g1,g2,t,E,a0,fun j hjl FH=>?_,hc,hs,hag.put hp ?_,hsp⟩
    ·have hne:(j == i)=false:=by
      cases e:j == i with
      | false=>rfl
      | true=>
       have e':j=i:=by simpa using e
       rw[e',DC] at FH;cases FH
     rw[← FL j hjl FH];simp[upd,hne]
    ·have:k.2.1∈xs F K:=List.mem_filterMap.2 ⟨k,hk,by rw[hki,DC];rfl⟩;simpa using this
   | false=>
    have hEi:E.contains i=false:=by rw[← FL i JX DC];exact hL
    have hmem:=C_ (F:=F) (E:=E) ho DC hEi fun e he hb=>by
     have hLe:=hA e he hb;have hlt:=jf 0 l fT i o ho e he hb
     cases hFe:F.contains e.on with
     | true=>exact .inl rfl
     | false=>exact .inr (by rw[← FL e.on (by omega) hFe];exact hLe)
    have hh:=ajr.1 hc i hmem
    have fin:∀ a1,Moved K i o b a1→Fr a1 N∧(∀ j v,(l.filterMap (·.dst)).contains j=false→At a j v→At a1 j v)∧∀ k∈K,upd L i k.1=true→At a1 k.2.1 k.2.2:=by
     intro a1 MN;rcases MN with⟨hd,rfl⟩|⟨d,v,hd,hp,hv⟩
     ·refine⟨hfr,hout,fun k hk TH=>?_⟩;obtain⟨o',ho',hd'⟩:=DB k hk;by_cases hki:k.1=i
      ·rw[hki] at ho';obtain rfl:o=o':=ajv (ho.symm.trans ho');rw[hd] at hd';cases hd'
      ·have hne:(k.1 == i)=false:=by simpa using hki
       exact hkn k hk (by simpa[upd,hne] using TH)
     ·obtain⟨g1,g2⟩:=keep hd hp fun k hk e=>by
       obtain⟨n,hn⟩:=List.getElem?_of_mem hk;exact hv n k hn e
      exact⟨hp.fr hfr,g1,g2⟩
    rcases tX hsp hs (j:=i) (by simpa using hh) with⟨t',h1,h2⟩|⟨h1,h2⟩
    ·simp only[iG,ajt] at h2;refine h1 o ho b hag jj Q' (fun a1 w1 hJ1 MN hS=>yw a1 w1 ?_) pJ;have fin:=fin a1 MN;refine⟨hcl',fin.1,.inl hJ1,fin.2.1,fin.2.2,t',i::E,a1,fun j hjl FH=>?_,h2.1.2,h2.2,.refl _ _,hS⟩;simp only[upd,List.contains_cons,FL j hjl FH]
    ·simp only[iG,ajt] at h2;refine h1 o ho b hag jj Q' (fun a1 w1 MN hS=>yw a1 w1 ?_) pJ;have fin:=fin a1 MN;refine⟨hcl',fin.1,.inr fun f hfF=>?_,fin.2.1,fin.2.2,.done,i::E,a1,fun j hjl FH=>?_,h2.1.1.2,h2.1.2,.refl _ _,hS⟩
     ·have h3:=h2.2;rw[ho] at h3;obtain⟨e,he,hb⟩:=List.any_eq_true.1 (ajr.1 h3 f (by simpa using hfF));simp only[ajt,beq_iff_eq] at hb;exact up f (by rw[← hb.2];exact hA e he hb.1)
     ·simp only[upd,List.contains_cons,FL j hjl FH]
  exact key
 ·intro L b u ⟨hcl,hfr,hj,hout,hkn,t,E,a0,FL,hc,hs,hag,hsp⟩ hall
  have h:=CF hsp hs fun j hjl=>by
   cases hF:F.contains j with
   | true=>exact .inl rfl
   | false=>exact .inr (by rw[← FL j hjl hF];exact hall j hjl)
  exact h b hag fun n k hk=>hkn k (ajm hk) (hall k.1 (by
   obtain⟨o,ho,_⟩:=DB k (ajm hk);exact(ajp.1 ho).1))
end
theorem zJ{N:Nat}{Pp:List PanicEntry→World→Prop}{P:Program}{ops ops':Array Oper}{Q:Exit→Act→World→Prop}{S:Act→World→Prop}{o:Oper}{a:Act}{w:World}(hg:o.guard=none)(hS:∀ a w,S a w→a.defers=DS.ds)(h0:a.defers=DS.ds)
 (h:wpList P ops' (fun e a w=>(e=.normal∧S a w)∨∃ ch,e=.panic ch∧Fr a N∧Pp ch w) [o] a w) (hP:∀ ch a w',Fr a N→Pp ch w'→Q (.panic ch) a w') (next:∀ a1 w1,S a1 w1→(∃ v,a1=a.put o.dst v)→Q .normal a1 w1):wpList P ops Q [o] a w:=by
 have hw:∀ ops,Region.wanted o (yielded ops a.tmps)=true:=fun ops=>dN hg
 have hno:¬ LetsOut (fun e a w=>(e=Exit.normal∧S a w)∨∃ ch,e=Exit.panic ch∧Fr a N∧Pp ch w):=fun⟨_,_,h⟩=>by
  rcases h with⟨h,_⟩|⟨_,h,_⟩<;>cases h
 have hn:∀ {a1:Act} {w1:World},((Exit.normal=Exit.normal∧S a1 w1)∨∃ ch,Exit.normal=Exit.panic ch∧Fr a1 N∧Pp ch w1)→S a1 w1:=fun h=>by
  rcases h with⟨_,h⟩|⟨_,h,_⟩
  ·exact h
  ·cases h
 have hp:∀ {a1:Act} {w1:World} {c:List PanicEntry},((Exit.panic c=Exit.normal∧S a1 w1)∨∃ ch,Exit.panic c=Exit.panic ch∧Fr a1 N∧Pp ch w1)→Q (.panic c) a1 w1:=fun h=>by
  rcases h with⟨h,_⟩|⟨_,h,h1,h2⟩
  ·cases h
  ·cases h;exact hP _ _ _ h1 h2
 unfold wpList at h ⊢;rw[if_pos (hw _)] at h ⊢;rcases h with h|⟨_,h⟩
 case inr=>exact absurd h hno
 refine .inl ?_;unfold Oper.wp at h ⊢;generalize (execOp a.eval o).run P w=r at h ⊢
 match r,h with
 | .ok (.value v) w',h=>exact next _ _ (hn h) ⟨_,rfl⟩
 | .ok .skip w',h=>exact next _ _ (hn h) ⟨_,rfl⟩
 | .ok (.defer d) w',h=>exact absurd ((hS _ _ (hn h)).trans h0.symm) (by cases o.dst<;>simp[Act.put])
 | .ok (.enter f args) w',h=>
  refine Calls.mono h fun e w'' h=>?_
  match e,h with
  | .returned v,h=>exact next _ _ (hn h) ⟨_,rfl⟩
  | .panicked c,h=>exact hp h
  | .outgrown,h=>exact absurd h hno
 | .ok (.row row args) w',h=>exact Rows.mono h fun v w'' h=>next _ _ (hn h) ⟨_,rfl⟩
 | .halt (.panic v) w',h=>exact hp h
def IB(KP:PK)(B:Nat)(w0:World)(N:Nat)(l:Slots)(L:List Oper)(K:List Kn)(j:Nat)(T:Slots)(bs:List Bx)(rs:List Rw)(w:World)(k:Slots→List Bx→List Rw→World→Prop):Prop:=
 p9 L j fun o=>match o.guard with
  | some _=>False
  | none=>Yi o.dst T fun T1=>bif oN o T1 then bif SF j K then kJ T1 (ot K o) fun S=>sx KP B w0 N l o S.length (tC 0 S) bs rs w fun m' bs' rs' w'=>newS (m'.length-S.length) m' T1 fun T'=>bif TR K T' then k T' bs' rs' w' else False else (kJ T1 (ot K o) fun S=>sx KP B w0 N l o S.length (tC 0 S) bs rs w fun m' bs' rs' w'=>newS (m'.length-S.length) m' [] fun T'=>UW K j o.dst (k T1 bs' rs' w') T') else False
def Iy(KP:PK)(B:Nat)(w0:World)(N:Nat)(l:Slots)(L:List Oper)(K:List Kn)(kb:List Nat)(iO:List Bx)(k:Slots→List Bx→List Rw→World→Prop):Tr→Slots→List Bx→List Rw→World→Prop
 | .done,T,bs,rs,w=>kJ (B_ K) l fun r=>kJ T r fun l'=>k l' bs rs w
 | .step j t,T,bs,rs,w=>IB KP B w0 N l L K j T bs rs w fun T' bs' rs' w'=>(R6 kb bs' fun b=>b=iO)∧Iy KP B w0 N l L K kb iO k t T' bs' rs' w'
 | .last j,T,bs,rs,w=>IB KP B w0 N l L K j T bs rs w fun T' bs' rs' w'=>kJ (B_ K) l fun r=>kJ T' r fun l'=>k l' bs' rs' w'
 | .alt x y,T,bs,rs,w=>Iy KP B w0 N l L K kb iO k x T bs rs w∧Iy KP B w0 N l L K kb iO k y T bs rs w
section
variable {KP:PK} {B:Nat} {w0:World} {N:Nat} {l:Slots} {iO:List Bx} {L:List Oper} {K:List Kn} {kb:List Nat} {k:Slots→List Bx→List Rw→World→Prop}
variable (rU:∀ q v,look q l=some v→∀ k∈K,k.2.1≠q) (gL:∀ (j:Nat) (o:Oper) (d:Nat),L[j]?=some o→o.dst=some d→look d l=none∧d<N)
def XE(KP:PK)(N:Nat):List PanicEntry→Act→World→Prop:=fun ch a w=>Fr a N∧∃ Pn,KP=some Pn∧Pn ch w
include rU gL in
theorem vN{F:List Nat}{ops:Array Oper}{Q':Exit→Act→World→Prop}{j:Nat}{T:Slots}{bs:List Bx}{rs:List Rw}{a a':Act}{w:World}{kk:Slots→List Bx→List Rw→World→Prop}(hv:IB KP B w0 N l L K j T bs rs w kk)(h:TI N l K T a)(M:aC B w0 w bs rs){o:Oper}(ho:L[j]?=some o)
 (hA:vv (xs F K) a a') (hb:∀ (n:Nat) (k:Kn),K[n]?=some k→Bd o k.1→At a' k.2.1 k.2.2)
 (pJ:∀ ch a w,XE KP N ch a w→Q' (.panic ch) a w) (next:∀ a1 w1 T' bs' rs',TI N l K T' a1→aC B w0 w1 bs' rs'→kk T' bs' rs' w1→Moved K j o a' a1→Q' .normal a1 w1):wpList Tryz.prog ops Q' [o] a' w:=by
 unfold IB at hv;obtain⟨o',ho',hv⟩:=fL hv;obtain rfl:o'=o:=ajv (ho'.symm.trans ho);split at hv
 ·exact hv.elim
 rename_i hg;obtain⟨T1,hv,Ow⟩:=Ng hv;obtain⟨Tj,hv⟩:=bA hv;have h':=h.Rz rU hA
 have keep:∀ v q u,(∀ d,o'.dst=some d→d≠q)→At a' q u→At (a'.put o'.dst v) q u:=fun v q u hq hu=>by
  cases hd:o'.dst with
  | none=>exact hu
  | some d=>
   refine(lT h'.fr (gL j o' d ho hd).2).old ?_ hu;simpa using fun e=>hq d hd e.symm
 have hT:∀ v,∀ x∈T1,At (a'.put o'.dst v) x.1 x.2:=fun v x hx=>keep v _ _ (fun d hd=>by
  unfold oN at Tj;rw[hd] at Tj;exact fun e=>nJ (MC Tj) x hx e.symm) (h'.T_ x (Ow x hx))
 have hS:∀ x∈T1++ot K o',At a' x.1 x.2:=fun x hx=>by
  rcases aju.1 hx with hx|hx
  ·exact h'.T_ x (Ow x hx)
  ·obtain⟨k,h1,h2,rfl⟩:=sW hx;obtain⟨i,hi⟩:=List.getElem?_of_mem h1;exact hb i k hi (tE h2)
 have I:Inv (qP o' (T1++ot K o')) a' N l (tC 0 (T1++ot K o')) (T1++ot K o').length:=S3 h'.fr hS h'.l_
 cases Tl:SF j K with
 | false=>
  rw[Tl] at hv;replace hv:=cG hv;refine zJ (N:=N) (Pp:=fun ch w=>∃ Pn,KP=some Pn∧Pn ch w) (ops':=qP o' (T1++ot K o')) (S:=fun a1 w1=>∃ m' bs' rs',Inv (qP o' (T1++ot K o')) a1 N l m' ((T1++ot K o').length+1)∧aC B w0 w1 bs' rs'∧newS (m'.length-(T1++ot K o').length) m' [] fun T'=>UW K j o'.dst (kk T1 bs' rs' w1) T') hg (fun a w ⟨_,_,_,I,_⟩=>I.fr.defers) h'.fr.defers (ld I M wg hv (fun Pn e a ch w ⟨_,_,I⟩ hp=>.inr ⟨ch,rfl,I.fr,Pn,e,hp⟩) fun a1 m' bs' rs' w1 I' M' h'=>wpList_nil (.inl ⟨rfl,m',bs',rs',I',M',h'⟩)) (fun ch a w' hf hp=>pJ ch a w' ⟨hf,hp⟩) ?_;rintro a1 w1 ⟨m',bs',rs',I',M',hn⟩ ⟨v,rfl⟩;obtain⟨T',h1,h2⟩:=sV hn;unfold UW at h1;split at h1
  ·exact h1.elim
  rename_i s u r;split at h1
  ·obtain⟨h3,h4⟩:=bA h1;obtain⟨h5,h6⟩:=Br h4
   obtain⟨d,hd⟩:∃ d,o'.dst=some d:=by
    cases hd:o'.dst with
    | none=>rw[hd] at h3;cases h3
    | some d=>exact⟨d,rfl⟩
   have hs:d=s:=by rw[hd] at h3;exact Nat.eq_of_beq_eq_true h3
   have hat:At (a'.put o'.dst v) s u:=by
    rcases h2 (s,u) (List.mem_cons_self ..) with h7|⟨e,h7,h8,h9⟩
    ·cases h7
    ·have:=I'.at_ e h7;rw[h8] at this;obtain⟨rfl,rfl⟩:=Prod.mk.inj h9;exact this
   have hp:Put a' d v (a'.put o'.dst v):=by rw[hd];exact lT h'.fr (gL j o' d ho hd).2
   have huv:u=v:=by
    have h10:=hp.now;rw[hs] at h10;exact ajv (hat.symm.trans h10)
   refine next _ _ T1 bs' rs' ⟨I'.fr,fun q u hq=>keep v _ _ (fun d hd e=>?_) (h'.l_ q u hq),hT v,fun x hx=>h'.K_ x (Ow x hx)⟩ M' h5 (.some d v hd hp fun n k hk hkj=>(h6 k (ajm hk) hkj).trans huv)
   rw[← e,(gL j o' d ho hd).1] at hq;cases hq
  ·exact h1.elim
 | true=>
 rw[Tl] at hv;replace hv:=cG hv;refine zJ (N:=N) (Pp:=fun ch w=>∃ Pn,KP=some Pn∧Pn ch w) (ops':=qP o' (T1++ot K o')) (S:=fun a1 w1=>∃ m' bs' rs',Inv (qP o' (T1++ot K o')) a1 N l m' ((T1++ot K o').length+1)∧aC B w0 w1 bs' rs'∧newS (m'.length-(T1++ot K o').length) m' T1 fun T'=>bif TR K T' then kk T' bs' rs' w1 else False) hg (fun a w ⟨_,_,_,I,_⟩=>I.fr.defers) h'.fr.defers (ld I M wg hv (fun Pn e a ch w ⟨_,_,I⟩ hp=>.inr ⟨ch,rfl,I.fr,Pn,e,hp⟩) fun a1 m' bs' rs' w1 I' M' h'=>wpList_nil (.inl ⟨rfl,m',bs',rs',I',M',h'⟩)) (fun ch a w' hf hp=>pJ ch a w' ⟨hf,hp⟩) ?_;rintro a1 w1 ⟨m',bs',rs',I',M',hn⟩ ⟨v,rfl⟩;obtain⟨T',h1,h2⟩:=sV hn;obtain⟨h3,h4⟩:=bA h1;refine next _ _ T' bs' rs' ⟨I'.fr,fun q u hq=>keep v _ _ (fun d hd e=>?_) (h'.l_ q u hq),fun x hx=>?_,FQ h3⟩ M' h4 ?_
 ·rw[← e,(gL j o' d ho hd).1] at hq;cases hq
 ·rcases h2 x hx with h5|⟨e,h5,h6,rfl⟩
  ·exact hT v x h5
  ·have:=I'.at_ e h5
   rwa [h6] at this
 ·cases hd:o'.dst with
  | none=>exact .none hd rfl
  | some d=>
   refine .some d v hd (lT h'.fr (gL j o' d ho hd).2) fun n k hk hkj=>absurd hkj (Fm Tl k (ajm hk))
include rU gL in
theorem vL{F:List Nat}{ops:Array Oper}{Q:Act→World→Prop}(hQ:∀ a l' bs rs w,Fs a N l'→aC B w0 w bs rs→k l' bs rs w→Q a w):∀ {t:Tr} {T:Slots} {bs:List Bx} {rs:List Rw} {a:Act} {w:World},Iy KP B w0 N l L K kb iO k t T bs rs w→TI N l K T a→aC B w0 w bs rs→tT Tryz.prog ops L K (xs F K) (Jm B w0 iO) (XE KP N) Q t a w
 | .done,T,bs,rs,a,w,hv,h,M=>fun a' hA hk=>hQ a' _ bs rs w (h.end rU hA hk) M (cG (cG hv))
 | .step j t,T,bs,rs,a,w,hv,h,M=>fun o ho a' hA hb Q' hn pJ=>vN rU gL hv h M ho hA hb pJ fun a1 w1 T' bs' rs' h' M' ⟨h1,h2⟩ mv=>by
  refine hn a1 w1 ⟨M'.below,fun b hbx=>M'.box b ?_⟩ mv (vL hQ h2 h' M');obtain⟨s,h5,h6⟩:=AZ h1;subst h5;exact h6 b hbx
 | .last j,T,bs,rs,a,w,hv,h,M=>fun o ho a' hA hb Q' hn pJ=>vN rU gL hv h M ho hA hb pJ fun a1 w1 T' bs' rs' h' M' h1 mv=>hn a1 w1 mv fun a2 WW hk=>hQ a2 _ bs' rs' w1 (h'.end rU WW hk) M' (cG (cG h1))
 | .alt x y,T,bs,rs,a,w,hv,h,M=>⟨vL hQ hv.1 h M,vL hQ hv.2 h M⟩
end
theorem YX{X Y:Prop}{KP:PK}{B:Nat}{w0 w:World}{N:Nat}{l:Slots}{bs:List Bx}{rs:List Rw}{ops:Array Oper}{id:Nat}{k:Slots→List Bx→List Rw→World→Prop}(K0:List Kn)(F:List Nat)(t:Tr)(kb:List Nat)(hk0:JG ops.toList F K0=true)(h0:xq N ops.toList F t=true)
 (h:Oy ops.toList fun ds=>FT ds l fun l'=>R6 kb bs fun iO=>KE B w0 l' iO ops.toList F K0 fun K=>Mb K l ds fun T=>∀ w',ajj w.heap.size w w'→aC B w0 w' bs rs→Iy KP B w0 N l' ops.toList K kb iO k t T bs rs w') :
 X∨Y∨∀ (a:Act) (Q:Exit→Act→World→Prop),Fs a N l→aC B w0 w bs rs→(∀ Pn,KP=some Pn→∀ a' ch w',Fr a' N→Pn ch w'→Q (.panic ch) a' w')→(∀ a' l' bs' rs' w',Fs a' N l'→aC B w0 w' bs' rs'→k l' bs' rs' w'→Q .normal a' w')→(Code.region id ops true).wp Tryz.prog Q a w:=by
 refine .inr (.inr fun a Q Fa M pJ next=>?_);obtain⟨L,rfl⟩:∃ L:List Oper,ops=L.toArray:=⟨ops.toList,by simp⟩;rw[List.toList_toArray] at hk0 h0 h;unfold xq at h0;simp only[ajt,decide_eq_true_eq] at h0;obtain⟨fT,hnd,hbd,hcd,hsub⟩:=h0;obtain⟨l',h,hl'⟩:=rV (yJ h);obtain⟨iO,h,hJ⟩:=AZ h;obtain⟨K,h,WS,hK⟩:=AR (N:=N) h;obtain⟨hk1,hk2⟩:=wz hk0;obtain⟨T0,h,Nc⟩:=ug h;have hin:∀ (j:Nat) (o:Oper) (d:Nat),L[j]?=some o→o.dst=some d→d∈L.filterMap (·.dst):=fun j o d ho hd=>List.mem_filterMap.2 ⟨o,ajm ho,hd⟩
 have hno:∀ d,d∈L.filterMap (·.dst)→look d l'=none:=fun d hd=>by
  rw[hl',iT.2 hd];rfl
 have hold:∀ q v,look q l'=some v→look q l=some v∧(L.filterMap (·.dst)).contains q=false:=fun q v hq=>by
  rw[hl'] at hq
  cases hm:jC q (L.filterMap (·.dst)) with
  | true=>rw[hm] at hq;cases hq
  | false=>
   rw[hm] at hq;refine⟨hq,?_⟩
   cases hc:(L.filterMap (·.dst)).contains q with
   | false=>rfl
   | true=>
    have:q∈L.filterMap (·.dst):=by simpa using hc
    rw[iT.2 this] at hm;cases hm
 have Q9:∀ k∈K0++K,∃ o:Oper,L[k.1]?=some o∧o.dst=some k.2.1:=fun k hk=>by
  rcases aju.1 hk with hk|hk
  ·exact hk1 k hk
  ·obtain⟨o,h1,h2,-⟩:=hK k hk;exact⟨o,h1,h2⟩
 have DB:∀ k∈K0++K,k.2.1∈L.filterMap (·.dst):=fun k hk=>by
  obtain⟨o,h1,h2⟩:=Q9 k hk;exact hin _ _ _ h1 h2
 have rU:∀ q v,look q l'=some v→∀ k∈K0++K,k.2.1≠q:=fun q v hq k hk e=>by
  have h1:=hno _ (DB k hk);rw[e,hq] at h1;cases h1
 have gL:∀ (j:Nat) (o:Oper) (d:Nat),L[j]?=some o→o.dst=some d→look d l'=none∧d<N:=fun j o d ho hd=>⟨hno d (hin j o d ho hd),by
  have:=ajr.1 hbd d (hin j o d ho hd);simpa using this⟩
 have Md:=M.keep (w':=w.drew) (Below.refl _ _).drew;refine q_ (Pp:=XE KP N) (fun ch a w h=>by obtain⟨h1,Pn,h2,h3⟩:=h;exact pJ Pn h2 a ch w h1 h3) (K0++K) F t (Jm B w0 iO) (by kernel_rfl) fT ?_ ?_ hnd hbd hcd hsub Fa.fr ?_ ⟨Md.below,fun b hb=>Md.box b ?_⟩ (vL rU gL (fun a l' bs rs w F M h=>next a l' bs rs w F M h) (h w.drew (Below.refl _ _).drew Md) ⟨Fa.fr,fun q v hq=>Fa.at_ q v (hold q v hq).1,fun x hx=>Fa.at_ _ _ (Nc x hx).1,fun x hx=>(Nc x hx).2⟩ Md)
 ·rw[ajr];intro k hk;obtain⟨o,h1,h2⟩:=Q9 k hk;simp[h1,h2]
 ·rw[ajr];intro i hi;rw[← WS] at hi;obtain⟨k,hk,rfl⟩:=List.mem_map.1 hi;exact List.any_eq_true.2 ⟨k,List.mem_append_right _ hk,by simp⟩
 ·have key:∀ K2:List Kn,(∀ k∈K2,F.contains k.1=true→XQ B w0 N l' iO L (K0++K) k)→pz Tryz.prog L F (K0++K) (Jm B w0 iO) a N K2:=by
   intro K2
   induction K2 with
   | nil=>intro _;trivial
   | cons k r ih=>
    intro h2;refine⟨fun HV o ho b u hf hj hq hb=>?_,ih fun k' hk'=>h2 k' (List.mem_cons_of_mem _ hk')⟩;obtain⟨o',h3,-,h4,h5⟩:=h2 k (List.mem_cons_self ..) HV;obtain rfl:o'=o:=ajv (h3.symm.trans ho)
    exact⟨dN h4,h5 b u hf hj (fun q v hv=>hq q v (hold q v hv).2 (Fa.at_ q v (hold q v hv).1)) fun k' hk' he=>by
     obtain⟨i,hi⟩:=List.getElem?_of_mem hk';exact hb i k' hi (tE he)⟩
  exact key _ fun k hk HV=>(aju.1 hk).elim (fun h=>by rw[hk2 k h] at HV;cases HV) (hK k)
 ·exact hJ b hb
theorem spP{X Y:Prop}{KP:PK}{B:Nat}{w0 w:World}{N:Nat}{l:Slots}{bs:List Bx}{rs:List Rw}{ops:Array Oper}{id:Nat}{k:Slots→List Bx→List Rw→World→Prop}(F:List Nat)(t:Tr)(kb:List Nat)(h0:xq N ops.toList F t=true)
 (h:Oy ops.toList fun ds=>FT ds l fun l'=>R6 kb bs fun iO=>KE B w0 l' iO ops.toList F [] fun K=>Mb K l ds fun T=>∀ w',ajj w.heap.size w w'→aC B w0 w' bs rs→Iy KP B w0 N l' ops.toList K kb iO k t T bs rs w') :
 X∨Y∨∀ (a:Act) (Q:Exit→Act→World→Prop),Fs a N l→aC B w0 w bs rs→(∀ Pn,KP=some Pn→∀ a' ch w',Fr a' N→Pn ch w'→Q (.panic ch) a' w')→(∀ a' l' bs' rs' w',Fs a' N l'→aC B w0 w' bs' rs'→k l' bs' rs' w'→Q .normal a' w')→(Code.region id ops true).wp Tryz.prog Q a w:=YX [] F t kb rfl h0 h
end Go.Proofs.YtkkmjdceiocnbaaGreatDoor
namespace Go.Proofs.YtkkmjdceiocnbaaGreatDoor
open Go Go.RowKit
theorem p7{w:World}{base e k n:Nat}{v:Value}{xs:List Value}(h:w.ownsRow base e k v n xs):∃ a c,v=.slice a n c∧n≤c∧n≤9223372036854775807:=by
 rcases h.2 with⟨rfl,rfl⟩|⟨g,cap,cur,rfl,-,-,h1,h2,-⟩
 ·exact⟨none,0,rfl,Nat.le_refl _,by decide⟩
 ·exact⟨_,_,rfl,h1,Nat.le_trans h1 h2⟩
def RowsIn(B:Nat)(w:World)(T:List Rw):Prop:=(∀ r∈T,w.ownsRow B r.e r.k r.v r.n r.xs)∧T.Pairwise fun r s=>r.v.ownBlock=none∨r.v.ownBlock≠s.v.ownBlock
theorem RowsIn.keep{B:Nat}{w w':World}{T:List Rw}(h:RowsIn B w T)(hb:ajj w.heap.size w w'):RowsIn B w' T:=⟨fun r hr=>CY hb (h.1 r hr) (Nat.le_refl _),h.2⟩
theorem RowsIn.low{B C:Nat}{w:World}{T:List Rw}(h:RowsIn B w T)(hc:C≤B):RowsIn C w T:=⟨fun r hr=>vZ (h.1 r hr) hc,h.2⟩
theorem RowsIn.nil(B:Nat)(w:World):RowsIn B w []:=⟨fun _ h=>(by cases h),.nil⟩
theorem aC.mQ{B:Nat}{w0 w w':World}{bs:List Bx}{rs T:List Rw}(M:aC B w0 w bs rs)(hb:ajj w.heap.size w w')(hT:RowsIn w.heap.size w' T):aC B w0 w' bs (rs++T):=by
 have M':=M.keep hb;refine⟨M'.below,M'.le,M'.old,M'.box,M.lo,M.nd,fun r hr=>?_,fun r hr b hb'=>?_,List.pairwise_append.2 ⟨M.tZ,hT.2,fun r hr s hs=>?_⟩⟩
 ·rcases aju.1 hr with hr|hr
  ·exact M'.row r hr
  ·exact vZ (hT.1 r hr) M.big
 ·rcases aju.1 hr with hr|hr
  ·exact M.far r hr b hb'
  ·intro e;have:=((hT.1 r hr).lt _ e).1;have:=(M.box b hb').lt;omega
 ·cases e:r.v.ownBlock with
  | none=>exact .inl rfl
  | some q=>
   refine .inr fun e2=>?_
   have h1:=((M.row r hr).lt q e).2;have h2:=((hT.1 s hs).lt q e2.symm).1;omega
theorem aC.gH{B:Nat}{w0 w:World}{bs:List Bx}{rs:List Rw}(M:aC B w0 w bs rs):RowsIn B w rs:=⟨M.row,M.tZ⟩
theorem aC.form{B:Nat}{w0 w:World}{bs:List Bx}{rs:List Rw}(M:aC B w0 w bs rs)(i:Nat){v:Value}{e:TypeId}{k n:Nat}{xs:List Value}(h:rs[i]?=some ⟨v,e,k,n,xs⟩):∃ a c,v=.slice a n c:=by
 obtain⟨a,c,h,-⟩:=p7 (M.r i h);exact⟨a,c,h⟩
inductive iX (T:List Rw):List Value→aI→Prop
 | node {op a rel b:Int} {names:List ByteArray} {set:aq} {kids:List aI} {nv kv:Value} {es:List (List Value)}:nv.oneCell'=true→kv.oneCell'=true→(⟨nv,9,1,names.length,names.flatMap aO⟩:Rw)∈T→(⟨kv,84,10,kids.length,es.flatten⟩:Rw)∈T→es.length=kids.length→(∀ x∈es,x.length=10) →
  (∀ (i:Nat) x y,es[i]?=some x→kids[i]?=some y→iX T x y) →
  iX T [.int .i64 op,.int .i64 a,.int .i64 rel,.int .i64 b,nv,.int .u64 set.a,.int .u64 set.b,.int .u64 set.c,.int .u64 set.d,kv] (.node op a rel b names set kids)
theorem iX.mono{T T':List Rw}(hs:∀ r∈T,r∈T'){cs:List Value}{e:aI}(h:iX T cs e):iX T' cs e:=by
 induction h with
 | node h1 h2 h3 h4 h5 h6 _ ih=>exact .node h1 h2 (hs _ h3) (hs _ h4) h5 h6 ih
theorem iX.one{T:List Rw}{cs:List Value}{e:aI}(h:iX T cs e):∀ u∈cs,u.oneCell'=true:=by
 cases h with
 | node h1 h2=>
  intro u hu;simp only[List.mem_cons,List.not_mem_nil,or_false] at hu;rcases hu with rfl|rfl|rfl|rfl|rfl|rfl|rfl|rfl|rfl|rfl<;>first|rfl|assumption
theorem Ep(l:List ByteArray):∀ u∈l.flatMap aO,u.oneCell'=true:=fun u hu=>by
 obtain⟨s,-,hs⟩:=List.mem_flatMap.1 hu;simp only[aO,ajq] at hs;subst hs;rfl
theorem iX.at_{T:List Rw}{B:Nat}{w:World}(hT:RowsIn B w T){cs:List Value}{e:aI}(h:iX T cs e):bV w cs e:=by
 induction h with
 | @node op a rel b names set kids nv kv es h1 h2 h3 h4 h5 h6 hk ih=>
  refine .node (SliceAt.iM (hT.1 _ h3) (Ep _)) h5 h6 (SliceAt.iM (hT.1 _ h4) ?_) ih;intro u hu;obtain⟨x,hx,hux⟩:=List.mem_flatten.1 hu;obtain⟨i,hi⟩:=List.getElem?_of_mem hx;obtain⟨y,hy⟩:∃ y,kids[i]?=some y:=⟨_,ajl (by have:=(ajp.1 hi).1;rw[h5] at this;exact this)⟩;exact(hk i x y hi hy).one u hux
theorem lY{es:List (List Value)}{x:List Value}{k:Nat}(h:∀ z∈es,z.length=k)(hx:x.length=k):∀ z∈es++[x],z.length=k:=fun z hz=>by
 rcases aju.1 hz with hz|hz
 ·exact h z hz
 ·rw[ajq.1 hz];exact hx
theorem jk{es:List (List Value)}{x:List Value}:es.flatten++x=(es++[x]).flatten:=by rw[List.flatten_append];simp
theorem NJ{B:Nat}{w0 w:World}{bs:List Bx}{rs:List Rw}{X:Prop}{f:FuncId}{args:Array Value}{e kk n:Nat}{xs:List Value}{K:Value→List Bx→List Rw→World→Prop}(M:aC B w0 w bs rs)
 (hc:Calls Tryz.prog f args w fun r w'=>∃ u,r=.returned u∧(w'.ownsRow w.heap.size e kk u n xs∧ajj w.heap.size w w')) (h:∀ a c w',aC B w0 w' bs (⟨.slice a n c,e,kk,n,xs⟩::rs)→K (.slice a n c) bs (⟨.slice a n c,e,kk,n,xs⟩::rs) w') :
 X∨∃ R:Value→World→Prop,(Calls Tryz.prog f args w fun e w'=>∃ v,e=.returned v∧R v w')∧∀ v w',R v w'→∃ bs' rs',aC B w0 w' bs' rs'∧K v bs' rs' w':=
 .inr ⟨_,hc,fun v w' ⟨h1,h2⟩=>by
  obtain⟨a,c,rfl,-,-⟩:=p7 h1;have M':=M.qo (r:=⟨.slice a n c,e,kk,n,xs⟩) h2 h1;exact⟨_,_,M',h a c w' M'⟩⟩
theorem O4{α:Type}{l:List α}{i:Nat}{b:α}{f:List α→Prop}(hi:i<l.length)(h:f (l.set i b)):pW l i b f:=by
 induction l generalizing i f with
 | nil=>exact absurd hi (Nat.not_lt_zero _)
 | cons x r ih=>cases i with
  | zero=>exact h
  | succ i=>exact ih (f:=fun r'=>f (x::r')) (by simpa using hi) h
theorem zB{B:Nat}{w0 w:World}{bs zA:List Bx}{rs zn:List Rw}{u v:Value}{e kk Io nn mm:Nat}{xs news:List Value}{k:Value→List Bx→List Rw→World→Prop}(i:Nat)(hM:aC B w0 w bs rs→aC B w0 w zA zn)(hr:zn[i]?=some ⟨v,e,kk,nn,xs⟩)(hs:SliceAt w u kk mm news)
 (hb:nn+mm≤maxLen∧(nn+mm)*Io≤140737488355328) (h:∀ a c w',pW zn i ⟨.slice a (nn+mm) c,e,kk,nn+mm,xs++news⟩ fun rs'=>aC B w0 w' zA rs'→k (.slice a (nn+mm) c) zA rs' w') (hW:Nat.beq e 59=false∨w0.heap.size≤B:=by first|exact .inl rfl|exact .inr (Nat.le_refl _)):apO B w0 bs rs w u v e kk Io k:=
 ap i hM hr hs hb (fun v' w'=>O4 (ajp.1 hr).1 fun M=>by
  obtain⟨a,c,rfl⟩:=M.form i (v:=v') (e:=e) (k:=kk) (n:=nn+mm) (xs:=xs++news) (by rw[List.getElem?_set_self (ajp.1 hr).1]);exact lg (h a c w') M) hW
theorem RowsIn.right{B:Nat}{w:World}{A C:List Rw}(h:RowsIn B w (A++C)):RowsIn B w C:=⟨fun r hr=>h.1 r (aju.2 (.inr hr)),(List.pairwise_append.1 h.2).2.1⟩
theorem RowsIn.left{B:Nat}{w:World}{A C:List Rw}(h:RowsIn B w (A++C)):RowsIn B w A:=⟨fun r hr=>h.1 r (aju.2 (.inl hr)),(List.pairwise_append.1 h.2).1⟩
theorem RowsIn.sub{B:Nat}{w:World}{T T':List Rw}(h:RowsIn B w T)(hs:T'.Sublist T):RowsIn B w T':=⟨fun r hr=>h.1 r (hs.subset hr),h.2.sublist hs⟩
theorem Lp{a r l:List Nat}(h:a++r=l):∃ i,i≤l.length∧r=l.drop i:=⟨a.length,by rw[← h];simp,by rw[← h];simp⟩
theorem Fh{l:List Nat}(hb:Bytes l)(e:(number l).2.2=0):∃ i,i≤l.length∧(number l).2.1=l.drop i:=Lp (lH (n:=(number l).1) (r:=(number l).2.1) hb (by rw[← e]))
theorem Jw{g off c i:Nat}{l:List Nat}(hi:i≤l.length):∃ off' c',rE g off l.length (l.drop i) 0=.slice (some ⟨g,off',none⟩) (l.drop i).length c'∧(l.drop i).length≤c'∧∀ w,aj w (.slice (some ⟨g,off,none⟩) l.length c) l→aj w (.slice (some ⟨g,off',none⟩) (l.drop i).length c') (l.drop i):=by
 have e:rE g off l.length (l.drop i) 0=vw g off l.length i:=by
  unfold rE;rw[if_pos rfl,List.length_drop,show l.length-(l.length-i)=i by omega]
 refine⟨if l.length=i then off else off+i,l.length-i,?_,by rw[List.length_drop];exact Nat.le_refl _,fun w h=>?_⟩
 ·rw[e,List.length_drop];unfold vw;split<;>rfl
 ·have h2:=zO h hi;rw[List.length_drop];unfold vw at h2;split at h2<;>rename_i h3
  ·rw[if_pos h3];exact h2
  ·rw[if_neg h3];exact h2
theorem Pv{g off c:Nat}{l r:List Nat}(hr:∃ i,i≤l.length∧r=l.drop i):∃ off' c',rE g off l.length r 0=.slice (some ⟨g,off',none⟩) r.length c'∧r.length≤c'∧∀ w,aj w (.slice (some ⟨g,off,none⟩) l.length c) l→aj w (.slice (some ⟨g,off',none⟩) r.length c') r:=by
 obtain⟨i,hi,rfl⟩:=hr;exact Jw hi
def fQ(v:Value)(l:List Nat):Prop:=∃ g off c,v=.slice (some ⟨g,off,none⟩) l.length c∧l.length≤c
def tU(v:Value)(l:List Nat)(u:Value)(r:List Nat)(e:Int):Prop:=if e=0 then fQ u r∧∀ w,aj w v l→aj w u r else u=.slice none 0 0
theorem tU.ok{v u:Value}{l r:List Nat}(h:tU v l u r 0):fQ u r∧∀ w,aj w v l→aj w u r:=by unfold tU at h;rwa [if_pos rfl] at h
theorem tU.no{v u:Value}{l r:List Nat}{e:Int}(he:e≠0)(h:tU v l u r e):u=.slice none 0 0:=by unfold tU at h;rwa [if_neg he] at h
theorem Mf{g off c:Nat}{l r:List Nat}{e:Int}(h:e=0→∃ i,i≤l.length∧r=l.drop i):tU (.slice (some ⟨g,off,none⟩) l.length c) l (rE g off l.length r e) r e:=by
 unfold tU;split
 ·rename_i e0;obtain⟨off',c',h1,h2,h3⟩:=Pv (g:=g) (off:=off) (c:=c) (h e0);subst e0;rw[h1];exact⟨⟨g,off',c',rfl,h2⟩,h3⟩
 ·rename_i e0;unfold rE;rw[if_neg e0]
theorem Hj{w0:World}{v:Value}{l:List Nat}(hs:fQ v l)(h:aj w0 v l):Calls Tryz.prog 257 #[v] w0 (fun r w'=>∃ u,r=.returned (.tuple #[.int .u64 ((number l).1:Int),u,.int .i64 (number l).2.2])∧tU v l u (number l).2.1 (number l).2.2∧ajj w0.heap.size w0 w'):=by
 obtain⟨g,off,c,rfl,hc⟩:=hs;exact(C5 h hc).mono fun _ _ ⟨h1,h2⟩=>⟨_,h1,Mf (fun e=>Fh h.2 e),h2⟩
theorem VK{w0:World}{v:Value}{l:List Nat}(hs:fQ v l)(h:aj w0 v l):Calls Tryz.prog 299 #[v] w0 (fun r w'=>∃ u,r=.returned (.tuple #[.int .i64 (bZ l).1,u,.int .i64 (bZ l).2.2])∧tU v l u (bZ l).2.1 (bZ l).2.2∧ajj w0.heap.size w0 w'):=by
 obtain⟨g,off,c,rfl,hc⟩:=hs;exact(L5 h hc).mono fun _ _ ⟨h1,h2⟩=>⟨_,h1,Mf (fun e=>Lp (zR (m:=(bZ l).1) (r:=(bZ l).2.1) h.2 (by rw[← e])).1),h2⟩
theorem oQ{P:Program}{a:Act}{w:World}{o:Oper}{t e:TypeId}{x hi:Operand}{g off n c h k:Nat}{hk:IntKind}(ho:o.op=.slice t x none (some hi) none)(hx:a.eval x=.slice (some ⟨g,off,none⟩) n c)(hh:a.eval hi=.int hk (h:Int))(hhc:h≤c)
 (hu:P.underlying t=some (.slice e)) (hs:(P.info? e).map (·.size)=some k):(execOp a.eval o).run P w=.ok (.value (.slice (some ⟨g,off,none⟩) h c)) w:=by
 by_cases hc:0<c
 ·exact nO ho hx hh hhc hc hu hs
 ·obtain rfl:c=0:=by omega
  obtain rfl:h=0:=by omega
  unfold execOp;simp[ho,hx,hh,Instr.sliceAt,Sem.run_bind,run_underlying hu w,Result.andThen_ok,Instr.slice,Instr.sliceBounds,Instr.sliceBound,asIntOf,Sem.run_pure,run_sizeOf hs]
theorem mR{w:World}{g off c n:Nat}{l:List Nat}(h:aj w (.slice (some ⟨g,off,none⟩) l.length c) l)(hn:n≤l.length):aj w (.slice (some ⟨g,off,none⟩) n c) (l.take n):=zY h hn
theorem RS{g off m:Nat}{l:List Nat}(hm:m≤l.length):fQ (vw g off l.length m) (l.drop m):=by
 unfold vw;split<;>exact⟨_,_,_,by rw[List.length_drop],by rw[List.length_drop];exact Nat.le_refl _⟩
theorem RO{w0:World}{v:Value}{l:List Nat}(hs:fQ v l)(h:aj w0 v l)(hL:l.length≤aF):Calls Tryz.prog 297 #[v,.int .i64 256] w0 (fun r w'=>∃ u,r=.returned (.tuple #[.string (strOf (kR l 256).1),u,.int .i64 (kR l 256).2.2])∧tU v l u (kR l 256).2.1 (kR l 256).2.2∧ajj w0.heap.size w0 w'):=by
 have ho:=Hj hs h;have hlt:=j8 l;have hlen:=Fj h.2;unfold kR;obtain⟨n,r,e,hX⟩:∃ n r e,number l=(n,r,e):=⟨_,_,_,rfl⟩;rw[hX] at ho hlt hlen ⊢;dsimp only at ho hlt hlen ⊢;have s0:strOf []=⟨#[]⟩:=rfl;refine bU [] (fn:=Tryz.f297) Tryz.func297 rfl Tryz.ntmps297 rfl<|cg (R:=fun x w'=>∃ u,x=.tuple #[.int .u64 (n:Int),u,.int .i64 e]∧tU v l u r e∧ajj w0.heap.size w0 w')<|an (ho.mono fun _ _ ⟨u,h1,h2⟩=>⟨_,h1,u,rfl,h2⟩) ?_;rintro _ w1 ⟨u,rfl,hl,hb⟩;refine⟨[],[],(Mm.start w0).keep hb,?_⟩;have M1:=(Mm.start w0).keep hb;by_cases he:e=0
 ·subst he;obtain⟨⟨g,off,c,rfl,hc⟩,hby⟩:=hl.ok;rw[if_neg (by decide)];refine an (fun h1=>absurd h1 (by decide)) fun _=>ei (x:=.int .u64 256)<|an (fun _ a w o ho hv=>(dw ho (aQ hv) u3 uR).trans (by rw[show IntKind.u64.wrap 256=256 from rfl]))<|an (fun h2 M=>⟨.slice none 0 0,?_,?_,M.below⟩) fun h2=>?_
  ·have h3:(256:Int)<(n:Int):=by simpa using h2
   rw[if_pos (.inr h3)];rfl
  ·have h3:(256:Int)<(n:Int):=by simpa using h2
   rw[if_pos (.inr h3)];unfold tU;rw[if_neg (by decide)]
  have h3:¬ ((256:Int)<0∨(256:Int)<(n:Int)):=by have h4:¬ (256:Int)<(n:Int):=by simpa using h2
                                                omega
  rw[if_neg h3];refine ei (x:=.int .u64 (r.length:Int))<|an (fun a w o ho hv=>(dw ho (aQ hv) u3 uR).trans (by rw[wK (by unfold cW;unfold aF at hL;omega)]))<|an (fun h4 M=>⟨.slice none 0 0,?_,?_,M.below⟩) fun h4=>?_
  ·rw[if_pos (by simpa using h4)];rfl
  ·rw[if_pos (by simpa using h4)];unfold tU;rw[if_neg (by decide)]
  have h5:¬ r.length<n:=by simpa using h4
  rw[if_neg h5];have aaz:=hby w1 (h.keep hb)
  have fin:tU v l (vw g off r.length n) (r.drop n) 0:=by
   unfold tU;rw[if_pos rfl];exact⟨RS (by omega),fun w hw=>zO (hby w hw) (by omega)⟩
  refine sp [0,1,2,4,5,6] (.alt (.step 3 (.step 7 (.step 8 (.step 9 (.step 10 .done))))) (.step 7 (.step 3 (.step 8 (.step 9 (.step 10 .done)))))) [] (by kernel_rfl)<|ei (x:=.slice (some ⟨g,off,none⟩) n c)<|an (fun a w o ho hv=>oQ ho (aQ hv) (cO hv) (by omega) IG VG)<|ei (x:=.int .i64 (n:Int))<|an (fun a w o ho hv=>(dw ho (aQ hv) uR u3).trans (by rw[zI _ (by omega)]))<|fun w2 hb2 M2=>an ?_ ?_
  ·exact J6 M2 (mR (aaz.keep hb2) (by omega))<|an rfl<|cl<|an (xI (by omega) hc) fun w3 M3=>an rfl<|an rfl<|an rfl<|an rfl<|fun M=>⟨_,rfl,fin,M.below⟩
  ·exact cl<|an (xI (by omega) hc) fun w3 M3=>an rfl<|J6 M3 (mR (hby w3 (h.keep M3.below)) (by omega))<|an rfl<|an rfl<|an rfl<|an rfl<|fun M=>⟨_,rfl,fin,M.below⟩
 ·rw[if_pos he];exact an (fun _=>fun M=>⟨.slice none 0 0,rfl,by unfold tU;rw[if_neg he],M.below⟩) fun h1=>absurd h1 (by simpa using he)
theorem V9:∀ xs:List Nat,xs.length≤4→xs=[]∨(∃ a,xs=[a])∨(∃ a b,xs=[a,b])∨(∃ a b c,xs=[a,b,c])∨∃ a b c d,xs=[a,b,c,d]
 | [],_=>.inl rfl
 | [a],_=>.inr (.inl ⟨a,rfl⟩)
 | [a,b],_=>.inr (.inr (.inl ⟨a,b,rfl⟩))
 | [a,b,c],_=>.inr (.inr (.inr (.inl ⟨a,b,c,rfl⟩)))
 | [a,b,c,d],_=>.inr (.inr (.inr (.inr ⟨a,b,c,d,rfl⟩)))
 | _::_::_::_::_::_,h=>by simp at h
def I5(l:List Nat):aq:=⟨(mI l).1.getD 0 0,(mI l).1.getD 1 0,(mI l).1.getD 2 0,(mI l).1.getD 3 0⟩
def q4(xs:List Nat):Array Value:=#[.int .u64 ((xs.getD 0 0:Nat):Int),.int .u64 ((xs.getD 1 0:Nat):Int),.int .u64 ((xs.getD 2 0:Nat):Int),.int .u64 ((xs.getD 3 0:Nat):Int)]
def Pf(B:Nat)(w0:World)(R:Ending→World→Prop)(l:Slots)(bs:List Bx)(rs:List Rw)(w:World):List ResultVar→Prop
 | [.cell s ty,.tmp u,.tmp t]=>(match look u l with|some v=>(match look t l with|some v2=>D5 l bs s ty fun cs=>aC B w0 w bs rs→R (.returned (.tuple #[.agg cs.toArray,v,v2])) w|none=>False)|none=>False)
 | _=>False
def VR(fn:Func)(B:Nat)(w0:World)(R:Ending→World→Prop):KK:=fun e l bs rs w=>match e with
 | .normal=>Pf B w0 R l bs rs w fn.results.toList
 | .ret=>Pf B w0 R l bs rs w fn.results.toList
 | _=>False
theorem G7{fn:Func}{R:Ending→World→Prop}{a:Act}{N:Nat}{l:Slots}{bs:List Bx}{rs:List Rw}{B:Nat}{w0 w:World}(F:Fs a N l)(M:aC B w0 w bs rs)(h:Pf B w0 R l bs rs w fn.results.toList):bodyPost Tryz.prog fn R .ret a w:=by
 generalize hL:fn.results.toList=L at h;unfold Pf at h;split at h
 ·rename_i s ty u t;have hr:fn.results=#[.cell s ty,.tmp u,.tmp t]:=by rw[← Array.toList_inj,hL]
  split at h
  ·rename_i v hv2;split at h
   ·rename_i v3 KH;obtain⟨g,cs,hv,hl,h⟩:=yP M h;refine⟨F.fr.defers,_,?_,h M⟩;have h2:a.tmps.getD s undef=.pointer (some ⟨g,0,none⟩):=F.e s hv;have k2:a.tmps.getD u undef=v:=F.e u hv2;have k3:a.tmps.getD t undef=v3:=F.e t KH;rw[ajs] at h2 k2 k3;simp[results,hr,h2,k2,k3,asAddr,hl]
   ·exact h.elim
  ·exact h.elim
 ·exact h.elim
theorem Vw{f:FuncId}{fn:Func}{c:Code}{N:Nat}(J:List Nat){vs:List Value}{R:Ending→World→Prop}{w0:World}(hf:Tryz.prog.funcs[f]?=some fn)(hb:fn.body=some c)(hn:fn.ntmps=N)(hN:Nat.ble vs.length N=true)
 (h:zj none w0.heap.size w0 N J c (FW 0 vs) [] [] w0 (VR fn w0.heap.size w0 R)):Calls Tryz.prog f vs.toArray w0 R:=by
 refine en hf hb hn (by simpa using hN) rfl fun a F=>gF h F (Mm.start w0) (fun _ h=>by cases h) fun e a l bs rs w F M hk=>?_
 cases e with
 | normal=>exact pQ (G7 F M hk)
 | ret=>exact G7 F M hk
 | _=>exact hk.elim
theorem VO{w0:World}{v:Value}{l:List Nat}(hs:fQ v l)(h:aj w0 v l):Calls Tryz.prog 298 #[v] w0 (fun r w'=>∃ u,r=.returned (.tuple #[.agg #[.int .u64 ((I5 l).a:Nat),.int .u64 ((I5 l).b:Nat),.int .u64 ((I5 l).c:Nat),.int .u64 ((I5 l).d:Nat)],u,.int .i64 (mI l).2.2])∧tU v l u (mI l).2.1 (mI l).2.2∧ajj w0.heap.size w0 w'):=by
 have ho:=fun(w:World) (hw:aj w v l)=>Hj hs hw
 have hlt:=j8 l;unfold I5 mI;obtain⟨k,r0,e,hX⟩:∃ n r e,number l=(n,r,e):=⟨_,_,_,rfl⟩;rw[hX] at hlt ⊢;simp only[hX] at ho;dsimp only at hlt ⊢;refine Vw [] (fn:=Tryz.f298) Tryz.func298 rfl Tryz.ntmps298 rfl<|ei<|an pG fun g1 w1 M1=>ei<|an pG fun g2 w2 M2=>cg (R:=fun x w'=>∃ u,x=.tuple #[.int .u64 (k:Int),u,.int .i64 e]∧tU v l u r0 e∧ajj w2.heap.size w2 w')<|an ((ho _ (h.keep M2.below)).mono fun _ _ ⟨u,h1,h2⟩=>⟨_,h1,u,rfl,h2⟩) ?_
 rintro _ w3 ⟨u,rfl,hl,hb⟩;have M3:=M2.keep hb;refine⟨_,_,M3,?_⟩;have SE:∀ {e:Int},e≠0→tU v l (.slice none 0 0) [] e:=fun he=>by unfold tU;rw[if_neg he]
 by_cases he:e=0
 rotate_left
 ·rw[if_pos he];exact an (fun _=>ei (x:=.agg #[.int .u64 0,.int .u64 0,.int .u64 0,.int .u64 0])<|an (bd (by kernel_rfl))<|lb 1<|an ⟨rfl,rfl⟩ fun w4 M4=>ei (x:=1)<|an rfl fun M=>⟨.slice none 0 0,rfl,SE he,M.below⟩) fun h1=>absurd h1 (by simpa using he)
 subst he;obtain⟨hs0,aaA⟩:=hl.ok;refine an (fun h1=>absurd h1 (by decide)) fun _=>?_
 rw[if_neg (by decide)];refine an (fun h2=>?_) fun h2=>?_
 ·rw[if_pos (by have:=of_decide_eq_true h2;omega)];exact ei (x:=.agg #[.int .u64 0,.int .u64 0,.int .u64 0,.int .u64 0])<|an (bd (by kernel_rfl))<|lb 1<|an ⟨rfl,rfl⟩ fun w4 M4=>ei (x:=1)<|an rfl fun M=>⟨.slice none 0 0,rfl,SE (by decide),M.below⟩
 have Q5:k≤4:=by have:=of_decide_eq_false h2;omega
 rw[if_neg (by omega)];refine ei (x:=.int .i64 (k:Int))<|an (fun a w o ho hv=>(dw ho (aQ hv) uR u3).trans (by rw[zI _ (by omega)]))<|lp (ι:=List Nat×List Nat×Value) (fun z=>[(7,z.2.2),(27,.int .i64 (z.1.length:Int))]) (fun z=>[(g2,77,#[.int .u64 ((z.1.getD 0 0:Nat):Int),.int .u64 ((z.1.getD 1 0:Nat):Int),.int .u64 ((z.1.getD 2 0:Nat):Int),.int .u64 ((z.1.getD 3 0:Nat):Int)]),(g1,77,#[.int .u64 0,.int .u64 0,.int .u64 0,.int .u64 0])]) (fun _=>[]) (fun z _=>z.1.length≤k∧fQ z.2.2 z.2.1∧(∀ w,aj w v l→aj w z.2.2 z.2.1)∧bH k r0=(z.1++(bH (k-z.1.length) z.2.1).1,(bH (k-z.1.length) z.2.1).2.1,(bH (k-z.1.length) z.2.1).2.2)) (fun z=>k-z.1.length) ([],r0,u) (an ⟨⟨rfl,rfl,trivial⟩,fun M=>⟨M,ajk _,hs0,aaA,rfl⟩⟩ ?_);clear M3 M2 M1;rintro⟨xs,r,u1⟩ w M ⟨hxk,hsr,hbr,hG⟩;dsimp only at hxk hsr hbr hG;refine an (fun h3=>?_) fun h3=>?_
 ·have Bv:xs.length<k:=by simp at h3;omega
  obtain⟨m,hm⟩:∃ m,k-xs.length=m+1:=⟨k-xs.length-1,by omega⟩;have hm2:k-(xs.length+1)=m:=by omega
  have hstep:bH (m+1) r=if (number r).2.2≠0 then ([],[],(number r).2.2) else ((number r).1::(bH m (number r).2.1).1,(bH m (number r).2.1).2.1,(bH m (number r).2.1).2.2):=rfl
  rw[hm] at hG;have hnr:=Hj hsr (hbr w (h.keep M.below));have Ww:=j8 r;obtain⟨n,r',e',hY⟩:∃ n r5 e,number r=(n,r5,e):=⟨_,_,_,rfl⟩;rw[hY] at hstep hnr Ww;dsimp only at hstep hnr Ww;refine cg (R:=fun x w'=>∃ u,x=.tuple #[.int .u64 (n:Int),u,.int .i64 e']∧tU u1 r u r' e'∧ajj w.heap.size w w')<|an (hnr.mono fun _ _ ⟨u,h1,h2⟩=>⟨_,h1,u,rfl,h2⟩) ?_;rintro _ w4 ⟨u2,rfl,hl2,hb2⟩;have M4:=M.keep hb2;refine⟨_,_,M4,?_⟩
  have hX4:xs=[]∨(∃ a,xs=[a])∨(∃ a b,xs=[a,b])∨∃ a b c,xs=[a,b,c]:=by
   rcases V9 xs (by omega) with h|h|h|h|⟨a,b,c,d,rfl⟩
   ·exact .inl h
   ·exact .inr (.inl h)
   ·exact .inr (.inr (.inl h))
   ·exact .inr (.inr (.inr h))
   ·simp at Bv;omega
  by_cases he':e'=0
  ·subst he';rw[if_neg (by decide)] at hstep;obtain⟨cq,FI⟩:=hl2.ok;rw[hstep] at hG
   have Yg:bH k r0=((xs++[n])++(bH (k-(xs++[n]).length) r').1,(bH (k-(xs++[n]).length) r').2.1,(bH (k-(xs++[n]).length) r').2.2):=by
    rw[hG,ajo,List.length_singleton,hm2];simp
   rcases hX4 with rfl|⟨a,rfl⟩|⟨a,b,rfl⟩|⟨a,b,c,rfl⟩
   ·exact ei (x:=0)<|an ⟨rfl,by decide⟩<|lb 0<|an ⟨rfl,rfl⟩ fun w5 M5=>an (fun h5=>absurd h5 (by decide)) fun _=>an (by simp)<|bk ([n],r',u2) ⟨rfl,rfl,trivial⟩ (fun M=>⟨M,by simp at Bv ⊢;omega,cq,fun w hw=>FI w (hbr w hw),Yg⟩) (by simp at Bv ⊢;omega)
   ·exact ei (x:=1)<|an ⟨rfl,by decide⟩<|lb 0<|an ⟨rfl,rfl⟩ fun w5 M5=>an (fun h5=>absurd h5 (by decide)) fun _=>an (by simp)<|bk ([a,n],r',u2) ⟨rfl,rfl,trivial⟩ (fun M=>⟨M,by simp at Bv ⊢;omega,cq,fun w hw=>FI w (hbr w hw),Yg⟩) (by simp at Bv ⊢;omega)
   ·exact ei (x:=2)<|an ⟨rfl,by decide⟩<|lb 0<|an ⟨rfl,rfl⟩ fun w5 M5=>an (fun h5=>absurd h5 (by decide)) fun _=>an (by simp)<|bk ([a,b,n],r',u2) ⟨rfl,rfl,trivial⟩ (fun M=>⟨M,by simp at Bv ⊢;omega,cq,fun w hw=>FI w (hbr w hw),Yg⟩) (by simp at Bv ⊢;omega)
   ·exact ei (x:=3)<|an ⟨rfl,by decide⟩<|lb 0<|an ⟨rfl,rfl⟩ fun w5 M5=>an (fun h5=>absurd h5 (by decide)) fun _=>an (by simp)<|bk ([a,b,c,n],r',u2) ⟨rfl,rfl,trivial⟩ (fun M=>⟨M,by simp at Bv ⊢;omega,cq,fun w hw=>FI w (hbr w hw),Yg⟩) (by simp at Bv ⊢;omega)
  ·rw[if_pos he'] at hstep;rw[hstep] at hG;have hsF:(bH k r0).2.2=e':=by rw[hG]
   rw[hsF,if_pos he'];rcases hX4 with rfl|⟨a,rfl⟩|⟨a,b,rfl⟩|⟨a,b,c,rfl⟩
   ·exact ei (x:=0)<|an ⟨rfl,by decide⟩<|lb 0<|an ⟨rfl,rfl⟩ fun w5 M5=>an (fun _=>ei (x:=.agg #[.int .u64 0,.int .u64 0,.int .u64 0,.int .u64 0])<|an (bd (by kernel_rfl))<|lb 1<|an ⟨rfl,rfl⟩ fun w4 M4=>ei (x:=1)<|an rfl fun M=>⟨.slice none 0 0,rfl,SE he',M.below⟩) fun h5=>absurd h5 (by simpa using he')
   ·exact ei (x:=1)<|an ⟨rfl,by decide⟩<|lb 0<|an ⟨rfl,rfl⟩ fun w5 M5=>an (fun _=>ei (x:=.agg #[.int .u64 0,.int .u64 0,.int .u64 0,.int .u64 0])<|an (bd (by kernel_rfl))<|lb 1<|an ⟨rfl,rfl⟩ fun w4 M4=>ei (x:=1)<|an rfl fun M=>⟨.slice none 0 0,rfl,SE he',M.below⟩) fun h5=>absurd h5 (by simpa using he')
   ·exact ei (x:=2)<|an ⟨rfl,by decide⟩<|lb 0<|an ⟨rfl,rfl⟩ fun w5 M5=>an (fun _=>ei (x:=.agg #[.int .u64 0,.int .u64 0,.int .u64 0,.int .u64 0])<|an (bd (by kernel_rfl))<|lb 1<|an ⟨rfl,rfl⟩ fun w4 M4=>ei (x:=1)<|an rfl fun M=>⟨.slice none 0 0,rfl,SE he',M.below⟩) fun h5=>absurd h5 (by simpa using he')
   ·exact ei (x:=3)<|an ⟨rfl,by decide⟩<|lb 0<|an ⟨rfl,rfl⟩ fun w5 M5=>an (fun _=>ei (x:=.agg #[.int .u64 0,.int .u64 0,.int .u64 0,.int .u64 0])<|an (bd (by kernel_rfl))<|lb 1<|an ⟨rfl,rfl⟩ fun w4 M4=>ei (x:=1)<|an rfl fun M=>⟨.slice none 0 0,rfl,SE he',M.below⟩) fun h5=>absurd h5 (by simpa using he')
 ·have hx:xs.length=k:=by simp at h3;omega
  have hG0:bH k r0=(xs,r,0):=by rw[hG,hx,Nat.sub_self];simp[bH]
  rw[hG0];dsimp only;rw[if_neg (by decide)];have fin:tU v l u1 r 0:=by unfold tU;rw[if_pos rfl];exact⟨hsr,hbr⟩
  subst hx;rcases V9 xs Q5 with rfl|⟨a,rfl⟩|⟨a,b,rfl⟩|⟨a,b,c,rfl⟩|⟨a,b,c,d,rfl⟩
  ·rw[if_neg (by simp)];exact an (fun h=>absurd h (by decide))<|ei (x:=0)<|an (fun h=>absurd h (by decide))<|lb 0<|an (fun _=>rfl)<|an (fun h=>absurd h (by decide)) fun _=>lb 0<|an rfl<|lb 1<|an ⟨rfl,rfl⟩ fun w4 M4=>ei (x:=1)<|an rfl fun M=>⟨u1,rfl,fin,M.below⟩
  all_goals
   refine an (fun h=>by simp)<|ei<|an (fun h=>⟨rfl,by simp⟩)<|lb 0<|an (fun _=>rfl)<|an (fun h6=>?_) fun h6=>?_
   ·rw[if_pos ⟨by simp,by simp at h6 ⊢;omega⟩];exact ei (x:=.agg #[.int .u64 0,.int .u64 0,.int .u64 0,.int .u64 0])<|an (bd (by kernel_rfl))<|lb 1<|an ⟨rfl,rfl⟩ fun w4 M4=>ei (x:=1)<|an rfl fun M=>⟨.slice none 0 0,rfl,SE (by decide),M.below⟩
   ·rw[if_neg (by simp at h6 ⊢;omega)];exact lb 0<|an rfl<|lb 1<|an ⟨rfl,rfl⟩ fun w4 M4=>ei (x:=1)<|an rfl fun M=>⟨u1,rfl,fin,M.below⟩
end Go.Proofs.YtkkmjdceiocnbaaGreatDoor

import Derived.Test.YtkkmjdceiocnbaaGreatDoorS5
open Bool renaming and_eq_true→akx
open Go.RowKit renaming Below→ako
open List renaming getElem?_eq_getElem→akq,mem_of_getElem?→akr,take_length→aks,length_append→akt,flatMap_append→aku,getElem?_eq_some_iff→akv,mem_singleton→akw,mem_append→aky,all_eq_true→akz
open Nat renaming zero_le→akp
open Option.some renaming inj→akA
set_option maxRecDepth 100000
set_option maxHeartbeats 8000000
set_option linter.unusedSectionVars false
set_option linter.unusedSimpArgs false
set_option linter.unusedVariables false
namespace Go.Proofs.YtkkmjdceiocnbaaGreatDoor
open Go Go.RowKit
theorem J9:Cn Jd kL (fun x=>om x.name∧wL x.perms):=fun l x r hb h=>by
 obtain⟨a,r1,h1,h⟩:=bt h;obtain⟨b,r2,h2,h⟩:=bt h;obtain⟨rfl,rfl⟩:=gY h;obtain⟨e1,b1,g1⟩:=eF l _ _ hb h1;obtain⟨e2,b2,g2⟩:=vZ r1 _ _ b1 h2;refine⟨?_,b2,g1,g2⟩;show eS a++eL eS b++r=l;rw[List.append_assoc,e2,e1]
theorem J3(v:Nat):Cn (IY v) (eTyp v) (fun x=>om x.name∧wL x.jg∧(v<2→x.perm=false)):=fun l x r hb h=>by
 obtain⟨a,r1,h1,h⟩:=bt h;obtain⟨b,r2,h2,h⟩:=bt h;obtain⟨c,r3,h3,h⟩:=bt h;obtain⟨rfl,rfl⟩:=gY h;obtain⟨e1,b1,g1⟩:=eF l _ _ hb h1;obtain⟨e2,b2,g2⟩:=vZ r1 _ _ b1 h2;obtain⟨e3,b3,-,g3⟩:=Hl uz trivial r2 _ _ b2 h3;refine⟨?_,b3,g1,g2,fun hv=>g3 (by omega)⟩;show eS a++(eL eS b++(if 2≤v then eB c else []))++r=l;simp only[List.append_assoc];rw[e3,e2,e1]
theorem Ka:Cn Jf kM (fun x=>om x.name∧x.types.Ok):=fun l x r hb h=>by
 obtain⟨a,r1,h1,h⟩:=bt h;obtain⟨b,r2,h2,h⟩:=bt h;obtain⟨rfl,rfl⟩:=gY h;obtain⟨e1,b1,g1⟩:=eF l _ _ hb h1;obtain⟨e2,b2,g2⟩:=eY r1 _ _ b1 h2;refine⟨?_,b2,g1,g2⟩;show eS a++eT b++r=l;rw[List.append_assoc,e2,e1]
theorem J7:Cn I8 kJ (fun x=>om x.name∧x.types.Ok∧x.next.Ok):=fun l x r hb h=>by
 obtain⟨a,r1,h1,h⟩:=bt h;obtain⟨b,r2,h2,h⟩:=bt h;obtain⟨c,r3,h3,h⟩:=bt h;obtain⟨rfl,rfl⟩:=gY h;obtain⟨e1,b1,g1⟩:=eF l _ _ hb h1;obtain⟨e2,b2,g2⟩:=eY r1 _ _ b1 h2;obtain⟨e3,b3,g3⟩:=eY r2 _ _ b2 h3;refine⟨?_,b3,g1,g2,g3⟩;show eS a++(eT b++eT c)++r=l;simp only[List.append_assoc];rw[e3,e2,e1]
theorem J2:Cn IX kF (fun x=>om x.name∧x.roles.Ok∧Fu x.dflt∧C6 x.rng):=fun l x r hb h=>by
 obtain⟨a,r1,h1,h⟩:=bt h;obtain⟨b,r2,h2,h⟩:=bt h;obtain⟨c,r3,h3,h⟩:=bt h;obtain⟨d,r4,h4,h⟩:=bt h;obtain⟨rfl,rfl⟩:=gY h;obtain⟨e1,b1,g1⟩:=eF l _ _ hb h1;obtain⟨e2,b2,g2⟩:=eY r1 _ _ b1 h2;obtain⟨e3,b3,g3⟩:=Fb r2 _ _ b2 h3;obtain⟨e4,b4,g4⟩:=CB r3 _ _ b3 h4;refine⟨?_,b4,g1,g2,g3,g4⟩;show eS a++(eT b++(sq c++uy d))++r=l;simp only[List.append_assoc];rw[e4,e3,e2,e1]
theorem J_:Cn Je jx (fun x=>om x.name):=fun l x r hb h=>by
 obtain⟨a,r1,h1,h⟩:=bt h;obtain⟨b,r2,h2,h⟩:=bt h;obtain⟨rfl,rfl⟩:=gY h;obtain⟨e1,b1,g1⟩:=eF l _ _ hb h1;obtain⟨e2,b2,-⟩:=uz r1 _ _ b1 h2;refine⟨?_,b2,g1⟩;show eS a++eB b++r=l;rw[List.append_assoc,e2,e1]
theorem J5:Cn I6 kH Z6:=fun l x r hb h=>by
 obtain⟨a,r1,h1,h⟩:=bt h;obtain⟨b,r2,h2,h⟩:=bt h;obtain⟨c,r3,h3,h⟩:=bt h;obtain⟨d,r4,h4,h⟩:=bt h;obtain⟨e,r5,h5,h⟩:=bt h;obtain⟨f,r6,h6,h⟩:=bt h;obtain⟨g,r7,h7,h⟩:=bt h;obtain⟨rfl,rfl⟩:=gY h;obtain⟨e1,b1,g1⟩:=dA l _ _ hb h1;obtain⟨e2,b2,g2⟩:=eY r1 _ _ b1 h2;obtain⟨e3,b3,g3⟩:=eY r2 _ _ b2 h3;obtain⟨e4,b4,-⟩:=uz r3 _ _ b3 h4;obtain⟨e5,b5,g5⟩:=dA r4 _ _ b4 h5;obtain⟨e6,b6,g6⟩:=dA r5 _ _ b5 h6;obtain⟨e7,b7,g7⟩:=yP r6 _ _ b6 h7;refine⟨?_,b7,g1,g2,g3,g5,g6,g7⟩;show eN a++(eT b++(eT c++(eB d++(eN e++(eN f++eC g)))))++r=l;simp only[List.append_assoc];rw[e7,e6,e5,e4,e3,e2,e1]
theorem J4(v:Nat):Cn (IZ v) (jX v) (fun x=>Z1 x∧(v<2→x.name=⟨#[]⟩)):=fun l x r hb h=>by
 obtain⟨a,r1,h1,h⟩:=bt h;obtain⟨b,r2,h2,h⟩:=bt h;obtain⟨c,r3,h3,h⟩:=bt h;obtain⟨d,r4,h4,h⟩:=bt h;obtain⟨e,r5,h5,h⟩:=bt h;obtain⟨f,r6,h6,h⟩:=bt h;obtain⟨g,r7,h7,h⟩:=bt h;obtain⟨rfl,rfl⟩:=gY h;obtain⟨e1,b1,g1⟩:=dA l _ _ hb h1;obtain⟨e2,b2,g2⟩:=eY r1 _ _ b1 h2;obtain⟨e3,b3,g3⟩:=eY r2 _ _ b2 h3;obtain⟨e4,b4,g4⟩:=dA r3 _ _ b3 h4;obtain⟨e5,b5,g5,k5⟩:=Hl eF (by show(0:Nat)≤256;omega) r4 _ _ b4 h5;obtain⟨e6,b6,g6⟩:=dA r5 _ _ b5 h6;obtain⟨e7,b7,g7⟩:=yP r6 _ _ b6 h7;refine⟨?_,b7,⟨g1,g2,g3,g4,g5,g6,g7⟩,fun hv=>k5 (by omega)⟩;show eN a++(eT b++(eT c++(eN d++((if 2≤v then eS e else [])++(eN f++eC g)))))++r=l;simp only[List.append_assoc];rw[e7,e6,e5,e4,e3,e2,e1]
theorem J6:Cn I7 kI (fun x=>x.roles.Ok∧x.types.Ok∧qz x.cls∧qz x.res):=fun l x r hb h=>by
 obtain⟨a,r1,h1,h⟩:=bt h;obtain⟨b,r2,h2,h⟩:=bt h;obtain⟨c,r3,h3,h⟩:=bt h;obtain⟨d,r4,h4,h⟩:=bt h;obtain⟨rfl,rfl⟩:=gY h;obtain⟨e1,b1,g1⟩:=eY l _ _ hb h1;obtain⟨e2,b2,g2⟩:=eY r1 _ _ b1 h2;obtain⟨e3,b3,g3⟩:=dA r2 _ _ b2 h3;obtain⟨e4,b4,g4⟩:=dA r3 _ _ b3 h4;refine⟨?_,b4,g1,g2,g3,g4⟩;show eT a++(eT b++(eN c++eN d))++r=l;simp only[List.append_assoc];rw[e4,e3,e2,e1]
theorem J8:Cn I_ jR (fun x=>x.src.Ok∧x.tgt.Ok∧qz x.cls∧C6 x.rng):=fun l x r hb h=>by
 obtain⟨a,r1,h1,h⟩:=bt h;obtain⟨b,r2,h2,h⟩:=bt h;obtain⟨c,r3,h3,h⟩:=bt h;obtain⟨d,r4,h4,h⟩:=bt h;obtain⟨rfl,rfl⟩:=gY h;obtain⟨e1,b1,g1⟩:=eY l _ _ hb h1;obtain⟨e2,b2,g2⟩:=eY r1 _ _ b1 h2;obtain⟨e3,b3,g3⟩:=dA r2 _ _ b2 h3;obtain⟨e4,b4,g4⟩:=CB r3 _ _ b3 h4;refine⟨?_,b4,g1,g2,g3,g4⟩;show eT a++(eT b++(eN c++uy d))++r=l;simp only[List.append_assoc];rw[e4,e3,e2,e1]
theorem Fg:Cn Jc kK (fun x=>qz x.cls∧qz x.perms∧vJ 12 x.expr):=fun l x r hb h=>by
 obtain⟨a,r1,h1,h⟩:=bt h;obtain⟨b,r2,h2,h⟩:=bt h;obtain⟨c,r3,h3,h⟩:=bt h;obtain⟨d,r4,h4,h⟩:=bt h;obtain⟨rfl,rfl⟩:=gY h;obtain⟨e1,b1,g1⟩:=dA l _ _ hb h1;obtain⟨e2,b2,g2⟩:=dA r1 _ _ b1 h2;obtain⟨e3,b3,-⟩:=uz r2 _ _ b2 h3;obtain⟨e4,b4,g4⟩:=uD 12 r3 _ _ b3 h4;refine⟨?_,b4,g1,g2,g4⟩;show eN a++(eN b++(eB c++eE d))++r=l;simp only[List.append_assoc];rw[e4,e3,e2,e1]
theorem E9:Cn I5 kG (fun x=>om x.name∧Fx x.ctx):=fun l x r hb h=>by
 obtain⟨a,r1,h1,h⟩:=bt h;obtain⟨b,r2,h2,h⟩:=bt h;obtain⟨rfl,rfl⟩:=gY h;obtain⟨e1,b1,g1⟩:=eF l _ _ hb h1;obtain⟨e2,b2,g2⟩:=Fe r1 _ _ b1 h2;refine⟨?_,b2,g1,g2⟩;show eS a++vD b++r=l;rw[List.append_assoc,e2,e1]
theorem Fc:Cn Jb jc (fun x=>om x.pat∧qz x.kind∧Fx x.ctx):=fun l x r hb h=>by
 obtain⟨a,r1,h1,h⟩:=bt h;obtain⟨b,r2,h2,h⟩:=bt h;obtain⟨c,r3,h3,h⟩:=bt h;obtain⟨rfl,rfl⟩:=gY h;obtain⟨e1,b1,g1⟩:=eF l _ _ hb h1;obtain⟨e2,b2,g2⟩:=dA r1 _ _ b1 h2;obtain⟨e3,b3,g3⟩:=Fe r2 _ _ b2 h3;refine⟨?_,b3,g1,g2,g3⟩;show eS a++(eN b++vD c)++r=l;simp only[List.append_assoc];rw[e3,e2,e1]
theorem Fh:Cn Jg jd (fun x=>om x.name∧qz x.kind∧x.src.Ok∧x.tgt.Ok):=fun l x r hb h=>by
 obtain⟨a,r1,h1,h⟩:=bt h;obtain⟨b,r2,h2,h⟩:=bt h;obtain⟨c,r3,h3,h⟩:=bt h;obtain⟨d,r4,h4,h⟩:=bt h;obtain⟨rfl,rfl⟩:=gY h;obtain⟨e1,b1,g1⟩:=eF l _ _ hb h1;obtain⟨e2,b2,g2⟩:=dA r1 _ _ b1 h2;obtain⟨e3,b3,g3⟩:=eY r2 _ _ b2 h3;obtain⟨e4,b4,g4⟩:=eY r3 _ _ b3 h4;refine⟨?_,b4,g1,g2,g3,g4⟩;show eS a++(eN b++(eT c++eT d))++r=l;simp only[List.append_assoc];rw[e4,e3,e2,e1]
theorem mT(l:List Nat):(eP l).length=l.length+4:=by simp[eP,cM]
theorem MC(l:List Nat):gZ (eP l)=(l,0):=by
 unfold gZ;rw[if_neg (by rw[mT];omega),mT,Nat.add_sub_cancel];unfold eP;rw[List.take_left,List.drop_left,if_pos rfl]
def zW:Ps Nat:=fun f=>if f.length<4 then .error 5 else if f.take 4=[65,67,80,66] then (pb sL fun n=>if 1≤n∧n≤3 then pp n else pe 8) (f.drop 4) else .error 6
def cS(l:List Nat):Except Int (Nat×List Nat):=if (gZ l).2=0 then zW (gZ l).1 else .error (gZ l).2
def wN(l:List Nat):Except Int Nat:=match cS l with
 | .ok (n,_)=>.ok n
 | .error e=>.error e
section
variable (A8:aD→Int)
def nW(l:List Nat):Except Int (aD×Nat):=match cS l with
 | .error e=>.error e
 | .ok (n,r)=>match wY n r with
  | .error e=>.error e
  | .ok (p,r')=>if r'=[] then (if A8 p=0 then .ok (p,n) else .error (A8 p)) else .error 6
def cr(p:aD):Nat:=if 0<p.files.length∨0<p.asserts.length then 3 else if 0<p.ranges.length∨p.types.any (·.perm)=true∨p.trans.any (fun t=>decide (t.name.size≠0))=true then 2 else 1
def gb(p:aD)(v:Int):Except Int (List Nat):=if 1≤v∧v≤3 then (if A8 p=0 then (if v<cr p then .error 2 else .ok (eP (dM v.toNat p))) else .error (A8 p)) else .error 8
variable {A8}
theorem sw.at{v:Nat}{p:aD}(h:sw 3 p)(hv:cr p≤v):sw v p:=by
 have h3:v<3→p.files=[]∧p.asserts=[]:=fun RB=>by
  unfold cr at hv;split at hv
  ·omega
  ·rename_i hn;exact⟨List.eq_nil_of_length_eq_zero (by omega),List.eq_nil_of_length_eq_zero (by omega)⟩
 have h2:v<2→p.ranges=[]∧(∀ t∈p.types,t.perm=false)∧∀ t∈p.trans,t.name=⟨#[]⟩:=fun hv2=>by
  unfold cr at hv;split at hv
  ·omega
  ·split at hv
   ·omega
   ·rename_i hn;rw[not_or,not_or] at hn;refine⟨List.eq_nil_of_length_eq_zero (by omega),fun t ht=>?_,fun t ht=>?_⟩
    ·have:=hn.2.1;rw[List.any_eq_true] at this
     cases hp:t.perm with
     | false=>rfl
     | true=>exact absurd ⟨t,ht,hp⟩ this
    ·have:=hn.2.2;rw[List.any_eq_true] at this
     have hs:t.name.size=0:=by
      refine Classical.byContradiction fun hne=>this ⟨t,ht,by simpa using hne⟩
     cases hnm:t.name with
     | mk d=>
      rw[hnm] at hs;have hs:d.size=0:=hs;rw[Array.eq_empty_of_size_eq_zero hs]
 exact { h with
  types:=⟨h.types.1,fun x hx=>⟨(h.types.2 x hx).1,(h.types.2 x hx).2.1,fun hv=>(h2 hv).2.1 x hx⟩⟩
  trans:=⟨h.trans.1,fun x hx=>⟨(h.trans.2 x hx).1,fun hv=>(h2 hv).2.2 x hx⟩⟩
  ranges:=⟨h.ranges.1,fun hv=>(h2 hv).1⟩
  files:=⟨h.files.1,fun hv=>(h3 hv).1⟩
  asserts:=⟨h.asserts.1,fun hv=>(h3 hv).2⟩ }
theorem sw.least{v:Nat}{p:aD}(h:sw v p)(h1:1≤v):cr p≤v∧sw 3 p:=by
 constructor
 ·unfold cr;split
  ·rename_i hh;refine Classical.byContradiction fun hv=>?_
   rw[h.files.2 (by omega),h.asserts.2 (by omega)] at hh;simp at hh
  ·split
   ·rename_i _ hh;refine Classical.byContradiction fun hv=>?_
    rw[h.ranges.2 (by omega)] at hh;simp only[List.length_nil,Nat.lt_irrefl,false_or,List.any_eq_true] at hh;rcases hh with⟨t,ht,hp⟩|⟨t,ht,hp⟩
    ·rw[(h.types.2 t ht).2.2 (by omega)] at hp;cases hp
    ·rw[(h.trans.2 t ht).2 (by omega)] at hp;exact absurd hp (by decide)
   ·exact h1
 ·exact { h with
   types:=⟨h.types.1,fun x hx=>⟨(h.types.2 x hx).1,(h.types.2 x hx).2.1,fun hv=>by omega⟩⟩
   trans:=⟨h.trans.1,fun x hx=>⟨(h.trans.2 x hx).1,fun hv=>by omega⟩⟩
   ranges:=⟨h.ranges.1,fun hv=>by omega⟩
   files:=⟨h.files.1,fun hv=>by omega⟩
   asserts:=⟨h.asserts.1,fun hv=>by omega⟩ }
theorem vW(v:Nat)(h1:1≤v)(h3:v≤3)(p:aD):cS (eP (dM v p))=.ok (v,i_ v p):=by
 unfold cS;rw[MC,if_pos rfl];unfold zW dM;rw[if_neg (by simp),if_pos (by rfl)];show pb sL _ (bn v++i_ v p)=_;unfold pb;rw[En (by omega:v<18446744073709551616)];show(if 1≤v∧v≤3 then pp v else pe 8) (i_ v p)=_;rw[if_pos ⟨h1,h3⟩];rfl
end
theorem z6(w0:World)(n:Int)(hn:gA n):Calls Tryz.prog 30 #[.int .i64 n] w0 (fun r w'=>r=.returned (.bool (decide (1≤n)&&decide (n≤3)))∧ako w0.heap.size w0 w'):=by
 refine bM [] (fn:=Tryz.f30) Tryz.func30 rfl Tryz.ntmps30 rfl<|fun M=>⟨rfl,M.below⟩
theorem WZ{w0:World}{cs:List Value}{x:gh}(hx:jk w0 cs x):Calls Tryz.prog 79 #[.agg cs.toArray] w0 (fun r w'=>r=.returned (.bool x.perm)∧ako w0.heap.size w0 w'):=by
 obtain⟨pv,rfl,hl2⟩:=hx;obtain⟨pa,pc,rfl,-⟩:=aN.get hl2;exact bM [] (fn:=Tryz.f79) Tryz.func79 rfl Tryz.ntmps79 rfl<|fun g1 w1 M1=>lb 0<|an rfl<|fun M=>⟨rfl,M.below⟩
theorem TH(w0:World)(x:dH):Calls Tryz.prog 81 #[.agg x.cells.toArray] w0 (fun r w'=>r=.returned (.bool (decide (x.name.size≠0)))∧ako w0.heap.size w0 w'):=by
 refine bM [] (fn:=Tryz.f81) Tryz.func81 rfl Tryz.ntmps81 rfl<|fun g1 w1 M1=>lb 0<|an rfl<|fun M=>⟨?_,M.below⟩
 have h:(x.name.toList == (⟨#[]⟩:ByteArray).toList)=decide (x.name.size=0):=by
  rw[kZ,decide_eq_decide];exact⟨fun e=>by rw[e];rfl,fun e=>ByteArray.ext (Array.eq_empty_of_size_eq_zero e)⟩
 show Ending.returned (.bool (!x.name.toList == (⟨#[]⟩:ByteArray).toList))=_;rw[h];by_cases e:x.name.size=0<;>simp[e]
theorem Ht{α:Type}{l:List α}{q:α→Bool}{j:Nat}{y:α}(hy:l[j]?=some y)(h:(l.take j).any q=false)(hq:q y=false):(l.take (j+1)).any q=false:=by
 rw[List.take_add_one,hy,List.any_append,h];simp[hq]
theorem Qq{w0:World}{l:List gh}{av:Value}(hv:aj 3 (jk w0) w0 av l):Calls Tryz.prog 193 #[av,.func (.func 79) #[] #[]] w0 (fun r w'=>∃ v,r=.returned v∧((∃ z:Int,v=.int .i64 z∧gA z∧decide (0≤z)=l.any (·.perm))∧ako w0.heap.size w0 w')):=by
 have hv':=hv;obtain⟨la,lk,rfl,hm1,hm2,-⟩:=aj.form hv' (by decide);refine bM [] (fn:=Tryz.f193) Tryz.func193 rfl Tryz.ntmps193 rfl<|lr (ι:=Nat) (fun j=>[(8,.int .i64 (j:Int))]) (fun j _=>j≤l.length∧(l.take j).any (·.perm)=false) (fun j=>l.length-j) 0<|an ⟨⟨rfl,trivial⟩,fun M=>⟨M,akp _,rfl⟩⟩ ?_;intro j w1 M1 ⟨hj,hno⟩;refine an (fun h'=>?_) fun h'=>?_
 ·have hlt:j<l.length:=Int.ofNat_lt.1 (of_decide_eq_true h');obtain⟨y,hy⟩:∃ y,l[j]?=some y:=⟨_,akq hlt⟩;obtain⟨b,off,x,e1,hx,hc⟩:=aj.elt hv (by decide) hy;have hx2:=hx;obtain⟨pv,rfl,hl2⟩:=hx2;obtain⟨pa,pc,rfl,-⟩:=aN.get hl2;refine ia<|an ⟨e1,rfl,hlt⟩<|lc<|an (bZ M1.below hc)<|cl<|an (WZ (hx.keep M1.below)) fun w2 M2=>an (fun hp=>fun M=>⟨_,rfl,⟨j,rfl,by unfold gA;omega,?_⟩,M.below⟩) fun hp=>an (by omega)<|bk (j+1) ⟨rfl,trivial⟩ (fun M=>⟨M,hlt,Ht hy hno hp⟩) (show l.length-(j+1)<l.length-j by omega)
  rw[decide_eq_true (by omega)];exact(List.any_eq_true.2 ⟨y,akr hy,hp⟩).symm
 ·have hge:j=l.length:=Nat.le_antisymm hj (Nat.le_of_not_lt fun h2=>of_decide_eq_false h' (Int.ofNat_lt.2 h2));subst hge;rw[aks] at hno;exact fun M=>⟨_,rfl,⟨-1,rfl,by unfold gA;omega,by rw[hno];rfl⟩,M.below⟩
theorem Qr{w0:World}{l:List dH}{av:Value}(hv:SliceAt w0 av 13 l.length (l.flatMap dH.cells)):Calls Tryz.prog 175 #[av,.func (.func 81) #[] #[]] w0 (fun r w'=>∃ v,r=.returned v∧((∃ z:Int,v=.int .i64 z∧gA z∧decide (0≤z)=l.any (fun t=>decide (t.name.size≠0)))∧ako w0.heap.size w0 w')):=by
 have hv':=hv;obtain⟨la,lk,rfl,hm1,hm2,-⟩:=SliceAt.form hv' (by decide);refine bM [] (fn:=Tryz.f175) Tryz.func175 rfl Tryz.ntmps175 rfl<|lr (ι:=Nat) (fun j=>[(8,.int .i64 (j:Int))]) (fun j _=>j≤l.length∧(l.take j).any (fun t=>decide (t.name.size≠0))=false) (fun j=>l.length-j) 0<|an ⟨⟨rfl,trivial⟩,fun M=>⟨M,akp _,rfl⟩⟩ ?_;intro j w1 M1 ⟨hj,hno⟩;refine an (fun h'=>?_) fun h'=>?_
 ·have hlt:j<l.length:=Int.ofNat_lt.1 (of_decide_eq_true h');obtain⟨y,hy⟩:∃ y,l[j]?=some y:=⟨_,akq hlt⟩;obtain⟨b,off,e1,hc⟩:=SliceAt.elt hv (f:=dH.cells) (fun _=>rfl) (by decide) hy hlt;refine ia<|an ⟨e1,rfl,hlt⟩<|lc (x:=y.cells)<|an (bZ M1.below hc)<|cl<|an (TH w1 y) fun w2 M2=>an (fun hp=>fun M=>⟨_,rfl,⟨j,rfl,by unfold gA;omega,?_⟩,M.below⟩) fun hp=>an (by omega)<|bk (j+1) ⟨rfl,trivial⟩ (fun M=>⟨M,hlt,Ht hy hno hp⟩) (show l.length-(j+1)<l.length-j by omega)
  rw[decide_eq_true (by omega)];exact(List.any_eq_true.2 ⟨y,akr hy,hp⟩).symm
 ·have hge:j=l.length:=Nat.le_antisymm hj (Nat.le_of_not_lt fun h2=>of_decide_eq_false h' (Int.ofNat_lt.2 h2));subst hge;rw[aks] at hno;exact fun M=>⟨_,rfl,⟨-1,rfl,by unfold gA;omega,by rw[hno];rfl⟩,M.below⟩
theorem J0{w0:World}{l:List gh}{av:Value}(hv:aj 3 (jk w0) w0 av l):Calls Tryz.prog 78 #[av,.func (.func 79) #[] #[]] w0 (fun r w'=>r=.returned (.bool (l.any (·.perm)))∧ako w0.heap.size w0 w'):=by
 refine bM [] (fn:=Tryz.f78) Tryz.func78 rfl Tryz.ntmps78 rfl<|cg<|an (Qq hv) fun v w1 ⟨⟨z,hz,_,hd⟩,hb⟩=>⟨[],[],(Mm.start w0).keep hb,?_⟩
 subst hz;exact fun M=>⟨by rw[← hd];rfl,M.below⟩
theorem JZ{w0:World}{l:List dH}{av:Value}(hv:SliceAt w0 av 13 l.length (l.flatMap dH.cells)):Calls Tryz.prog 80 #[av,.func (.func 81) #[] #[]] w0 (fun r w'=>r=.returned (.bool (l.any (fun t=>decide (t.name.size≠0))))∧ako w0.heap.size w0 w'):=by
 refine bM [] (fn:=Tryz.f80) Tryz.func80 rfl Tryz.ntmps80 rfl<|cg<|an (Qr hv) fun v w1 ⟨⟨z,hz,_,hd⟩,hb⟩=>⟨[],[],(Mm.start w0).keep hb,?_⟩
 subst hz;exact fun M=>⟨by rw[← hd];rfl,M.below⟩
theorem Fk{w0:World}{p:aD}{c0 c1 c2 c3 c4 c5 c6 c7 c8 c9 c10 c11 c12 c13 c14 c15 c16:Value}(hp:aA w0 c0 c1 c2 c3 c4 c5 c6 c7 c8 c9 c10 c11 c12 c13 c14 c15 c16 p):Calls Tryz.prog 32 #[.agg #[c0,c1,c2,c3,c4,c5,c6,c7,c8,c9,c10,c11,c12,c13,c14,c15,c16]] w0 (fun r w'=>r=.returned (.int .i64 (cr p:Int))∧ako w0.heap.size w0 w'):=by
 obtain⟨_,_,_,_,_,_,_,_,_,_,_,_,_,_,_,_,_,_,_,_,_,_,_,_,_,_,_,_,_,_,_,_,_,_,rfl,rfl,rfl,rfl,rfl,rfl,rfl,rfl,rfl,rfl,rfl,rfl,rfl,rfl,rfl,rfl,rfl⟩:=hp.open;refine bM [] (fn:=Tryz.f32) Tryz.func32 rfl Tryz.ntmps32 rfl<|fun g1 w1 M1=>lb 0<|an rfl<|lb 0<|an (fun _=>rfl)<|an (fun h=>?_) fun h=>?_
 ·refine fun M=>⟨?_,M.below⟩
  have:0<p.files.length∨0<p.asserts.length:=by simpa using h
  unfold cr;rw[if_pos this];rfl
 ·have hno:¬ (0<p.files.length∨0<p.asserts.length):=by simpa using h
  refine lb 0<|an rfl<|lb 0<|an (fun _=>rfl)<|cl<|an (fun _=>J0 (hp.keep M1.below).types) fun w2 M2=>lb 0<|an (fun _=>rfl)<|cl<|an (fun _=>JZ (hp.keep M2.below).trans) fun w3 M3=>an (fun h=>?_) fun h=>?_
  ·refine fun M=>⟨?_,M.below⟩
   have:0<p.ranges.length∨p.types.any (·.perm)=true∨p.trans.any (fun t=>decide (t.name.size≠0))=true:=by simpa[or_assoc] using h
   unfold cr;rw[if_neg hno,if_pos this];rfl
  ·refine fun M=>⟨?_,M.below⟩
   have:¬ (0<p.ranges.length∨p.types.any (·.perm)=true∨p.trans.any (fun t=>decide (t.name.size≠0))=true):=by simpa[or_assoc,and_assoc] using h
   unfold cr;rw[if_neg hno,if_neg this];rfl
theorem NN{a b:List Nat}:Bytes (a++b)↔Bytes a∧Bytes b:=⟨fun h=>⟨fun x hx=>h x (List.mem_append_left _ hx),fun x hx=>h x (List.mem_append_right _ hx)⟩,fun h=>h.1.append h.2⟩
theorem rU(s:ByteArray):Bytes (eS s):=(iT _).append (uV s)
theorem LN(b:Bool):Bytes (eB b):=by cases b<;>simp[eB,Bytes]
theorem Uw(n:Int):Bytes (eC n):=iT _
theorem E2(l:iL):Bytes (sq l):=(j6 _).append (iT _)
theorem E0(r:mS):Bytes (uy r):=(E2 _).append (E2 _)
theorem LL(c:eG):Bytes (vD c):=(j6 _).append ((j6 _).append ((j6 _).append (E0 _)))
theorem Lx{α:Type}{f:α→List Nat}{l:List α}(h:∀ x∈l,Bytes (f x)):Bytes (l.flatMap f):=fun x hx=>by
 obtain⟨y,h1,h2⟩:=List.mem_flatMap.1 hx;exact h y h1 x h2
theorem nV{α:Type}{f:α→List Nat}{l:List α}(h:∀ x,Bytes (f x)):Bytes (eL f l):=(j6 _).append (Lx fun x _=>h x)
theorem WQ(op a rel b:Int)(s:aE):Bytes (wA op a rel b s):=by
 unfold wA;refine(j6 _).append ?_;split
 ·exact j6 _
 ·split
  ·exact(j6 _).append ((j6 _).append (j6 _))
  ·split
   ·exact(j6 _).append qc
   ·intro x hx;cases hx
theorem Uu:∀ e:aS,Bytes (eE e):=aS.ind fun e ih=>by
 rw[Rc];exact Bytes.append (WQ _ _ _ _ _) (Lx ih)
theorem GS{c:Prop}[Decidable c]{l:List Nat}(h:Bytes l):Bytes (if c then l else []):=by
 split
 ·exact h
 ·intro x hx;cases hx
theorem Tq(v:Nat)(p:aD):Bytes (i_ v p):=by
 unfold i_;simp only[NN];refine⟨nV fun x=>?_,nV fun x=>?_,nV fun x=>?_,nV fun x=>?_,nV fun x=>?_,nV fun x=>?_,nV rU,nV rU,nV Uu,nV fun x=>?_,nV fun x=>?_,nV fun x=>?_,GS (nV fun x=>?_),nV fun x=>?_,nV fun x=>?_,GS (nV fun x=>?_),GS (nV fun x=>?_)⟩
 ·unfold kL;exact(rU _).append (nV rU)
 ·unfold eTyp;exact(rU _).append ((nV rU).append (GS (LN _)))
 ·unfold kM;exact(rU _).append qc
 ·unfold kJ;exact(rU _).append (qc.append qc)
 ·unfold kF;exact(rU _).append (qc.append ((E2 _).append (E0 _)))
 ·unfold jx;exact(rU _).append (LN _)
 ·unfold kH;exact(j6 _).append (qc.append (qc.append ((LN _).append ((j6 _).append ((j6 _).append (Uw _))))))
 ·unfold jX;exact(j6 _).append (qc.append (qc.append ((j6 _).append ((GS (rU _)).append ((j6 _).append (Uw _))))))
 ·unfold kI;exact qc.append (qc.append ((j6 _).append (j6 _)))
 ·unfold jR;exact qc.append (qc.append ((j6 _).append (E0 _)))
 ·unfold kK;exact(j6 _).append ((j6 _).append ((LN _).append (Uu _)))
 ·unfold kG;exact(rU _).append (LL _)
 ·unfold jc;exact(rU _).append ((j6 _).append (LL _))
 ·unfold jd;exact(rU _).append ((j6 _).append (qc.append qc))
theorem kR(v:Nat)(p:aD):Bytes (dM v p):=by
 unfold dM;exact Bytes.append (by simp[Bytes]) ((iT _).append (Tq v p))
def NU(w0:World)(x:Except Int (List Nat)):Ending→World→Prop:=fun r w'=>∃ v e,r=.returned (.tuple #[v,.int .i64 e])∧(match x with
 | .error k=>e=k∧v=.slice none 0 0
 | .ok b=>e=0∧w'.ownsRow w0.heap.size 5 1 v b.length (byteCells b))∧ako w0.heap.size w0 w'
theorem JQ{A8:aD→Int}{w0:World}{p:aD}{ver:Int}{c0 c1 c2 c3 c4 c5 c6 c7 c8 c9 c10 c11 c12 c13 c14 c15 c16:Value}(hp:aA w0 c0 c1 c2 c3 c4 c5 c6 c7 c8 c9 c10 c11 c12 c13 c14 c15 c16 p)(hok:p.Ok)(hv:gA ver)
 (yE:∀ w,aA w c0 c1 c2 c3 c4 c5 c6 c7 c8 c9 c10 c11 c12 c13 c14 c15 c16 p→Calls Tryz.prog 31 #[.agg #[c0,c1,c2,c3,c4,c5,c6,c7,c8,c9,c10,c11,c12,c13,c14,c15,c16]] w (fun r w'=>r=.returned (.int .i64 (A8 p))∧ako w.heap.size w w'))
 (hb:A8 p=0→∀ v:Nat,v≤3→(i_ v p).length+2000≤aT) :
 Calls Tryz.prog 13 #[.agg #[c0,c1,c2,c3,c4,c5,c6,c7,c8,c9,c10,c11,c12,c13,c14,c15,c16],.int .i64 ver] w0 (NU w0 (gb A8 p ver)):=by
 refine bM [] (fn:=Tryz.f13) Tryz.func13 rfl Tryz.ntmps13 rfl<|fun g1 w1 M1=>cl<|an (z6 w1 ver hv) fun w2 M2=>an (fun h=>?_) fun h=>?_
 ·have hno:¬ (1≤ver∧ver≤3):=by have h2:=h;simp at h2;omega
  exact fun M=>⟨_,_,rfl,by unfold gb;rw[if_neg hno];exact⟨rfl,rfl⟩,M.below⟩
 have hyes:1≤ver∧ver≤3:=by simpa using h
 refine lb 0<|an rfl<|cl<|an (yE w2 (hp.keep M2.below)) fun w3 M3=>an (fun h=>?_) fun h=>?_
 ·have hno:¬ A8 p=0:=by simpa using h
  exact fun M=>⟨_,_,rfl,by unfold gb;rw[if_pos hyes,if_neg hno];exact⟨rfl,rfl⟩,M.below⟩
 have Cg:A8 p=0:=by simpa using h
 refine lb 0<|an rfl<|cl<|an (Fk (hp.keep M3.below)) fun w4 M4=>an (fun h=>?_) fun h=>?_
 ·have hlt:ver<cr p:=of_decide_eq_true h;exact fun M=>⟨_,_,rfl,by unfold gb;rw[if_pos hyes,if_pos Cg,if_pos hlt];exact⟨rfl,rfl⟩,M.below⟩
 have hge:¬ ver<cr p:=of_decide_eq_false h;obtain⟨v,rfl⟩:=Int.eq_ofNat_of_zero_le (a:=ver) (by omega);have hlen:=hb Cg v (by omega);have h5:nr [(g1,39,#[c0,c1,c2,c3,c4,c5,c6,c7,c8,c9,c10,c11,c12,c13,c14,c15,c16])] []:=nr.nil.cons;have hm:cN ⟨#[65,67,80,66]⟩=[65,67,80,66]:=by decide
 refine ei (x:=.agg #[.slice none 0 0,.int .i64 0,.int .i8 0,.int .i64 (v:Int)])<|an (bd (by kernel_rfl))<|fun g2 w5 M5=>cg (R:=fun r w'=>r=.tuple #[.int .i64 4,.nilIface]∧TM w0.heap.size w0 w' [(g1,39,#[c0,c1,c2,c3,c4,c5,c6,c7,c8,c9,c10,c11,c12,c13,c14,c15,c16])] [] g2 (v:Int) [65,67,80,66])<|an ?_ ?_
 ·have hw:=xE (s:=⟨#[65,67,80,66]⟩) (xs:=[]) (M5.bS 5 1) h5 (by unfold aT;decide);rw[hm] at hw;exact hw.mono fun e w' ⟨h1,h2⟩=>⟨_,h1,rfl,h2⟩
 rintro _ w6 ⟨rfl,v6,MJ,M6⟩;refine⟨_,_,M6,?_⟩;refine fun g3 w7 M7=>fB 1 M7 rfl (fun M=>bL (ns:=[(v:Int)]) M h5 (by simp) (by unfold aT at *;simp)) fun v8 Yk w8 M8=>lb 2<|an rfl<|fB 1 M8 rfl (fun M=>FK hp hok M h5.cons (by have:=aV (v:Int);simp only[akt,List.flatMap_cons,List.flatMap_nil,List.length_cons,List.length_nil];omega)) fun v9 Ud w9 M9=>?_
 have hbody:[65,67,80,66]++List.flatMap eN [(v:Int)]++i_ v p=dM v p:=by
  unfold dM;rw[List.append_assoc,List.flatMap_cons,List.flatMap_nil,List.append_nil,Ec (by omega)]
 have hbl:(dM v p).length≤(i_ v p).length+14:=by
  have:=bG (n:=v) (by omega);unfold dM;simp only[akt,List.length_cons,List.length_nil];omega
 have M9b:aQ w0.heap.size w0 w9 [cH g2 v9 Ud (v:Int),(g1,39,#[c0,c1,c2,c3,c4,c5,c6,c7,c8,c9,c10,c11,c12,c13,c14,c15,c16])] [bf v9 (dM v p)]:=(M9.only (.cons _ (.refl _)) (.refl _)).cast rfl (by rw[hbody]);refine cg (R:=fun r w'=>r=v9∧aQ w0.heap.size w0 w' [cH g2 v9 Ud (v:Int),(g1,39,#[c0,c1,c2,c3,c4,c5,c6,c7,c8,c9,c10,c11,c12,c13,c14,c15,c16])] [bf v9 (dM v p)])<|an ((DQ M9b (by simp[dM])).mono fun e w' ⟨h1,h2⟩=>⟨_,h1,rfl,h2⟩) ?_;rintro _ pT ⟨rfl,j3⟩;refine⟨_,_,j3,cw j3 (F8 (dV (j3.r 0 rfl) (kR v p)) (by omega)) fun u yY M11=>fun M=>⟨_,_,rfl,?_,M.below⟩⟩;unfold gb;rw[if_pos hyes,if_pos Cg,if_neg hge];exact⟨rfl,M.r 0 rfl⟩
def anyI(n:Int):List Value:=[.int .i64 n]
def F7(l:List Int):Int:=l.foldl (fun a x=>bits .or .u64 a (IntKind.u64.wrap (1*2^(x:Int).toNat))) 0
theorem Mj{l:List Int}{m:Nat}{y:Int}(hy:l[m]?=some y):F7 (l.take (m+1))=bits .or .u64 (F7 (l.take m)) (IntKind.u64.wrap (1*2^(y:Int).toNat)):=by
 unfold F7;rw[cE hy,List.foldl_append];rfl
theorem QY{P:Program}{o:Oper}{a:Act}{w:World}{ty yt:TypeId}{x y:Operand}{k:IntKind}{m n:Int}(ho:o.op=.binOp .rem ty x y yt)(hx:a.eval x=.int k m)(hy:a.eval y=.int k n)(h0:n≠0):(execOp a.eval o).run P w=.ok (.value (.int k (m.tmod n))) w:=by
 unfold execOp;simp[ho,hx,hy,eqGuard,binOp,Op.intDiv,h0]
theorem R_(w0:World)(v:Value)(l:List Int)(h:SliceAt w0 v 1 l.length (l.flatMap anyI))(hl:∀ y∈l,0≤y∧y<64):Calls Tryz.prog 73 #[v] w0 (fun(r:Ending) (w':World)=>r=.returned (.agg #[.int .u64 (F7 l),.int .u64 0,.int .u64 0,.int .u64 0])∧ako w0.heap.size w0 w'):=by
 obtain⟨la,lk,rfl,hk,hm,-⟩:=SliceAt.form h (by decide);refine bM [] (fn:=Tryz.f73) Tryz.func73 rfl Tryz.ntmps73 rfl<|ei<|an m_ fun g1 w1 M1=>ei<|an m_ fun g2 w2 M2=>lp (ι:=Nat) (fun m=>[(4,.int .i64 (m:Int))]) (fun m=>(g2,77,#[.int .u64 (F7 (l.take m)),.int .u64 0,.int .u64 0,.int .u64 0])::_) (fun _=>[]) (fun m _=>m≤l.length) (fun m=>l.length-m) 0 (an ⟨⟨rfl,trivial⟩,fun M=>⟨M,akp _⟩⟩ ?_)
 intro m w M hm2;refine an (fun h2=>?_) fun h2=>?_
 ·have hlt:m<l.length:=by simp at h2;omega
  obtain⟨y,hy⟩:∃ y,l[m]?=some y:=⟨_,akq hlt⟩;obtain⟨b,o,e,hc⟩:=SliceAt.elt h (fun _=>rfl) (by decide) hy hlt;have VZ:=hl y (akr hy);obtain⟨r,hr,rfl⟩:∃ r:Nat,r<64∧y=((64*0+r:Nat):Int):=⟨y.toNat,by omega,by omega⟩
  have hn:F7 (l.take (m+1))=bits .or .u64 (F7 (l.take m)) ((2^r:Nat):Int):=by
   rw[Mj hy,Int.toNat_natCast,Int.one_mul,show 64*0+r=r by omega,uO hr]
  exact dr (by kernel_rfl)<|ia<|an ⟨e,rfl,hlt⟩<|lc (x:=.int .i64 ((64*0+r:Nat):Int))<|an (bZ M.below hc 0 _ rfl)<|ei<|an (fun a w o ho hv=>sJ (q:=0) (by decide) hr ho (aY hv) (cC hv))<|ia<|an ⟨e,rfl,hlt⟩<|lc (x:=.int .i64 ((64*0+r:Nat):Int))<|an (bZ M.below hc 0 _ rfl)<|ei<|an (fun a w o ho hv=>sJ (q:=0) (by decide) hr ho (aY hv) (cC hv))<|ei<|an ⟨rfl,by decide⟩<|lb 0<|an rfl<|ia<|an ⟨e,rfl,hlt⟩<|lc (x:=.int .i64 ((64*0+r:Nat):Int))<|an (bZ M.below hc 0 _ rfl)<|ei<|an (fun a w o ho hv=>Sl hr ho (aY hv) (cC hv))<|ei<|an (fun a w o ho hv=>R8 hr ho (aY hv) (cC hv))<|ei<|an hn.symm<|ei<|an ⟨rfl,by decide⟩<|fun w4 uq M4=>lb 0<|an ⟨rfl,rfl⟩ fun w5 M5=>an (by omega)<|bk (m+1) ⟨rfl,trivial⟩ (fun M=>⟨M,by omega⟩) (by dsimp only;omega)
 ·obtain rfl:m=l.length:=by simp at h2;omega
  exact lb 0<|an rfl<|lb 1<|an ⟨rfl,rfl⟩ fun w5 M5=>ei (x:=1)<|an rfl fun M=>⟨by dsimp only;rw[aks],M.below⟩
abbrev C5 (w:World) (v:Value) (l:List Nat):Prop:=SliceAt w v 1 l.length (byteCells l)
theorem LW{w:World}{v:Value}{l:List Nat}(h:C5 w v l):
 ∃ a c,v=.slice a l.length c∧l.length≤c∧l.length≤9223372036854775807∧∀ k:Nat,k<l.length→∃ (y b off:Nat),a=some ⟨b,off,none⟩∧l[k]?=some y∧w.cell? ⟨b,off+k,none⟩=some (.int .u8 y):=by
 obtain⟨a,c,rfl,hc0,hm,ha⟩:=SliceAt.form h (by omega);refine⟨a,c,rfl,hc0,hm,fun k hk=>?_⟩;obtain⟨b,off,rfl,hc⟩:=ha k hk;exact⟨l[k],b,off,rfl,akq hk,by simpa using hc 0 _ (by simp[byteCells,hk])⟩
theorem qO{w:World}{B:Nat}{v:Value}{l:List Nat}(h:w.ownsRow B 5 1 v l.length (byteCells l)):C5 w v l:=SliceAt.r_ h (kQ l)
def Hz(w0:World)(l:List Nat):Ending→World→Prop:=fun r w'=>∃ v,r=.returned v∧(w'.ownsRow w0.heap.size 5 1 v l.length (byteCells l)∧ako w0.heap.size w0 w')
theorem xP(v:Value)(l:List Nat)(y:Nat):(⟨v,5,1,l.length+1,byteCells l++[Value.int .u8 (y:Int)]⟩:Rw)=bf v (l++[y]):=by
 simp[byteCells]
theorem Bq{l:List Nat}{j y:Nat}(h:l[j]?=some y):l.take (j+1)=l.take j++[y]:=by
 rw[List.take_add_one,h];rfl
theorem Cj{w0:World}{u v:Value}{xs ys:List Nat}(ha:C5 w0 u xs)(hb:C5 w0 v ys)(hl:xs.length+ys.length≤aT):Calls Tryz.prog 128 #[u,v] w0 (Hz w0 (xs++ys)):=by
 obtain⟨a,ca,rfl,_,hma,ea⟩:=LW ha;obtain⟨b,cb',rfl,_,hmb,eb⟩:=LW hb;refine bM [] (fn:=Tryz.f128) Tryz.func128 rfl Tryz.ntmps128 rfl<|lq (ι:=Nat×Value) (fun z=>[(5,z.2),(6,.int .i64 (z.1:Int))]) (fun z=>[bf z.2 (xs.take z.1)]) (fun z _=>z.1≤xs.length) (fun z=>xs.length-z.1) (0,.slice none 0 0)<|an ⟨⟨rfl,rfl,trivial⟩,fun M=>⟨M.bS 5 1,akp _⟩⟩ ?_;rintro⟨j,r⟩ w1 M1 hj;have hj:j≤xs.length:=hj;have hjl:(xs.take j).length=j:=by rw[List.length_take];omega
 refine an (fun h=>?_) fun h=>?_
 ·have hlt:j<xs.length:=Int.ofNat_lt.1 (of_decide_eq_true h);obtain⟨y,b',off,rfl,hy,hcell⟩:=ea j hlt;exact ia<|an ⟨rfl,rfl,hlt⟩<|lc (x:=.int .u8 (y:Int))<|an (cell_later M1.below (by simpa using hcell))<|fun g2 w2 M2=>ap 0 id rfl (M2.slice 0 rfl rfl rfl (by simp[maxLen])) ⟨by unfold maxLen;unfold aT at hl;dsimp only;omega,by unfold aT at hl;dsimp only;omega⟩ fun v3 w3 M3=>an (by omega)<|bk (j+1,v3) ⟨rfl,rfl,trivial⟩ (fun M=>⟨(M.only (.cons _ (.refl _)) (.refl _)).cast rfl (by rw[Bq hy,← xP]),hlt⟩) (by dsimp only;omega)
 have hge:j=xs.length:=Nat.le_antisymm hj (Nat.le_of_not_lt fun h'=>of_decide_eq_false h (Int.ofNat_lt.2 h'));subst hge;refine lq (ι:=Nat×Value) (fun z=>[(5,z.2),(7,.int .i64 (z.1:Int))]) (fun z=>[bf z.2 (xs++ys.take z.1)]) (fun z _=>z.1≤ys.length) (fun z=>ys.length-z.1) (0,r)<|an ⟨⟨rfl,rfl,trivial⟩,fun M=>⟨M.cast rfl (by simp),akp _⟩⟩ ?_;rintro⟨i,r2⟩ w2 M2 hi;have hi:i≤ys.length:=hi;have ET:(xs++ys.take i).length=xs.length+i:=by rw[akt,List.length_take];omega
 refine an (fun h=>?_) fun h=>?_
 ·have hlt:i<ys.length:=Int.ofNat_lt.1 (of_decide_eq_true h);obtain⟨y,b',off,rfl,hy,hcell⟩:=eb i hlt;exact ia<|an ⟨rfl,rfl,hlt⟩<|lc (x:=.int .u8 (y:Int))<|an (cell_later M2.below (by simpa using hcell))<|fun g3 w3 M3=>ap 0 id rfl (M3.slice 0 rfl rfl rfl (by simp[maxLen])) ⟨by unfold maxLen;unfold aT at hl;dsimp only;omega,by unfold aT at hl;dsimp only;omega⟩ fun v4 w4 M4=>an (by omega)<|bk (i+1,v4) ⟨rfl,rfl,trivial⟩ (fun M=>⟨(M.only (.cons _ (.refl _)) (.refl _)).cast rfl (by rw[Bq hy,← List.append_assoc,← xP]),hlt⟩) (by dsimp only;omega)
 have hge:i=ys.length:=Nat.le_antisymm hi (Nat.le_of_not_lt fun h'=>of_decide_eq_false h (Int.ofNat_lt.2 h'));subst hge;exact fun M=>⟨_,rfl,by have h:=M.r 0 rfl;dsimp only at h;rwa [aks] at h,M.below⟩
theorem Vd{P:Program}{o:Oper}{a:Act}{w:World}{ty yt:TypeId}{x y:Operand}{m:Nat}(hm:fA m)(ho:o.op=.binOp .quo ty x y yt)(hx:a.eval x=.int .u64 (m:Int))(hy:a.eval y=.int .u64 128):(execOp a.eval o).run P w=.ok (.value (.int .u64 ((m/128:Nat):Int))) w:=by
 rw[LH ho hx hy (by decide),Int.tdiv_eq_ediv_of_nonneg (by omega),show((m:Int)/128)=((m/128:Nat):Int) by omega,Bg (by unfold fA at *;omega)]
theorem Vb{P:Program}{o:Oper}{a:Act}{w:World}{ty yt:TypeId}{x y:Operand}{m:Nat}(ho:o.op=.binOp .rem ty x y yt)(hx:a.eval x=.int .u64 (m:Int))(hy:a.eval y=.int .u64 128):(execOp a.eval o).run P w=.ok (.value (.int .u64 ((m%128:Nat):Int))) w:=by
 rw[QY ho hx hy (by decide),Int.tmod_eq_emod_of_nonneg (by omega),show((m:Int)%128)=((m%128:Nat):Int) by omega]
theorem Rj(w0:World)(n:Nat)(hn:fA n):Calls Tryz.prog 293 #[.int .u64 (n:Int)] w0 (Hz w0 (bn n)):=by
 have CZ:=bG hn;refine bM [] (fn:=Tryz.f293) Tryz.func293 rfl Tryz.ntmps293 rfl<|lq (ι:=List Nat×Value×Nat) (fun z=>[(0,.int .u64 (z.2.2:Int)),(3,z.2.1)]) (fun z=>[bf z.2.1 z.1]) (fun z _=>z.1++bn z.2.2=bn n∧fA z.2.2) (fun z=>z.2.2) ([],.slice none 0 0,n)<|an ⟨⟨rfl,rfl,trivial⟩,fun M=>⟨M.bS 5 1,rfl,hn⟩⟩ ?_;rintro⟨ys,u,m⟩ w1 M1 ⟨hR,hm⟩;dsimp only at hR hm;have hlen:(ys++bn m).length≤10:=by rw[hR];exact CZ
 have hnb:∀ (k:Nat),k<12→k≤maxLen∧k*1≤140737488355328:=fun k hk=>by unfold maxLen;omega
 refine an (fun h=>?_) fun h=>?_
 ·have h:128≤m:=Int.ofNat_le.1 (of_decide_eq_true h);rw[bn,if_neg (by omega)] at hlen hR;simp only[akt,List.length_cons] at hlen;refine ei (x:=.int .u64 ((m%128:Nat):Int))<|an (fun a w o ho hv=>Vb ho (aY hv) (cC hv))<|ei (x:=.int .u8 ((m%128:Nat):Int))<|an (fun a w o ho hv=>(eI ho (aY hv) zL u5).trans (by rw[Ky,show m%128%256=m%128 by omega]))<|an (by omega)<|fun g2 w2 M2=>ap 0 id rfl (M2.slice 0 rfl rfl rfl (by simp[maxLen])) (hnb _ (by simp;omega)) fun v3 w3 M3=>ei (x:=.int .u64 ((m/128:Nat):Int))<|an (fun a w o ho hv=>Vd hm ho (aY hv) (cC hv))<|bk (ys++[m%128+128],v3,m/128) ⟨rfl,rfl,trivial⟩ (fun M=>⟨(M.only (.cons _ (.refl _)) (.refl _)).cast rfl (by rw[← xP,show((m%128+128:Nat):Int)=((m%128:Nat):Int)+128 by omega]),by rw[List.append_assoc];exact hR,by unfold fA at *;dsimp only;omega⟩) (by dsimp only;omega)
 ·have h:m<128:=Nat.lt_of_not_le fun h'=>of_decide_eq_false h (Int.ofNat_le.2 h')
  rw[bn,if_pos (by omega)] at hlen hR;simp only[akt,List.length_cons,List.length_nil] at hlen;refine ei (x:=.int .u8 (m:Int))<|an (fun a w o ho hv=>(eI ho (aY hv) zL u5).trans (by rw[Ky,Nat.mod_eq_of_lt (show m<256 by omega)]))<|fun g2 w2 M2=>ap 0 id rfl (M2.slice 0 rfl rfl rfl (by simp[maxLen])) (hnb _ (by simp;omega)) fun v3 w3 M3=>fun M=>?_
  have M':aQ w0.heap.size w0 _ _ [bf v3 (ys++[m])]:=M.cast rfl (congrArg (fun r=>[r]) (xP v3 ys m));rw[hR] at M';exact⟨_,rfl,M'.r 0 rfl,M'.below⟩
theorem mD{w0:World}{v:Value}{xs:List Nat}{n:Nat}(hs:C5 w0 v xs)(hn:fA n)(hb:xs.length+10≤aT):Calls Tryz.prog 200 #[v,.int .u64 (n:Int)] w0 (Hz w0 (xs++bn n)):=by
 have CZ:=bG hn;refine bM [] (fn:=Tryz.f200) Tryz.func200 rfl Tryz.ntmps200 rfl<|cw (Mm.start w0) (Rj w0 n hn) fun u w1 M1=>cw M1 (Cj (hs.keep M1.below) (qO (M1.r 0 rfl)) (by omega)) fun u2 w2 M2=>fun M=>⟨_,rfl,M.r 0 rfl,M.below⟩
theorem Mz{w0:World}{v:Value}{xs:List Nat}{s:ByteArray}(hs:C5 w0 v xs)(hb:xs.length+10+s.size≤aT):Calls Tryz.prog 294 #[v,.string s] w0 (Hz w0 (xs++eS s)):=by
 have hu:fA s.size:=by unfold fA;unfold aT at hb;omega
 have CZ:=bG hu;refine bM [] (fn:=Tryz.f294) Tryz.func294 rfl Tryz.ntmps294 rfl<|ei (x:=.int .u64 (s.size:Int))<|an (fun a w o ho hv=>(eI ho (aY hv) u3 zL).trans (by rw[Bg hu]))<|cw (Mm.start w0) (mD hs hu (by omega)) fun u w1 M1=>cvs M1 (by omega) fun v2 w2 h2 M2=>cw M2 (Cj (qO (M2.r 0 rfl)) h2.1 (by simp only[akt,gD];omega)) fun u3 w3 M3=>fun M=>⟨_,rfl,by have:=M.r 0 rfl;rwa [List.append_assoc] at this,M.below⟩
theorem Pq{w0:World}{v:Value}{xs:List Nat}{m:Int}(hs:C5 w0 v xs)(hm:gA m)(hb:xs.length+10≤aT):Calls Tryz.prog 296 #[v,.int .i64 m] w0 (Hz w0 (xs++eC m)):=by
 have hz:=Bf hm;refine bM [] (fn:=Tryz.f296) Tryz.func296 rfl Tryz.ntmps296 rfl<|an (fun h=>?_) fun h=>?_
 ·have h0:0≤m:=of_decide_eq_true h;have e:(Fy m:Int)=2*m:=by unfold Fy;rw[if_pos h0];omega
  exact ei (x:=.int .u64 m)<|an (fun a w o ho hv=>(eI ho (aY hv) u2 zL).trans (by rw[show IntKind.u64.wrap m=m by unfold gA at hm;simp[IntKind.wrap,IntKind.bits,IntKind.signed];omega]))<|an (by unfold gA at hm;omega)<|cw (Mm.start w0) (e▸mD hs hz hb) fun u w1 M1=>fun M=>⟨_,rfl,M.r 0 rfl,M.below⟩
 ·have h0:¬ 0≤m:=of_decide_eq_false h;have e:(Fy m:Int)=2*(-(m+1))+1:=by unfold Fy;rw[if_neg h0];omega
  exact an (by unfold gA at hm;omega)<|an (by unfold gA at hm;omega)<|ei (x:=.int .u64 (-(m+1)))<|an (fun a w o ho hv=>(eI ho (aY hv) u2 zL).trans (by rw[show IntKind.u64.wrap (0-(m+1))=-(m+1) by unfold gA at hm;simp[IntKind.wrap,IntKind.bits,IntKind.signed];omega]))<|an (by unfold gA at hm;omega)<|an (by unfold gA at hm;omega)<|cw (Mm.start w0) (e▸mD hs hz hb) fun u w1 M1=>fun M=>⟨_,rfl,M.r 0 rfl,M.below⟩
theorem Gg{w0:World}{v:Value}{xs:List Nat}{s:aE}(hv:C5 w0 v xs)(hs:s.Ok)(hl:xs.length+60≤aT):
 Calls Tryz.prog 295 #[v,.agg #[.int .u64 (s.a:Int),.int .u64 (s.b:Int),.int .u64 (s.c:Int),.int .u64 (s.d:Int)]] w0 (Hz w0 (xs++eT s)):=by
 obtain⟨a,b,c,d⟩:=s;obtain⟨ha,hb,hc,hd⟩:=hs;dsimp only at ha hb hc hd;refine bM [] (fn:=Tryz.f295) Tryz.func295 rfl Tryz.ntmps295 rfl<|fun g1 w1 M1=>lr (ι:=Nat) (fun k=>[(5,.int .i64 (k:Int))]) (fun k _=>k≤4∧dw a b c d≤k) (fun k=>k) 4<|an ⟨⟨rfl,trivial⟩,fun M=>⟨M,Nat.le_refl _,sE a b c d⟩⟩ ?_
 intro k w2 M2 ⟨hk,hpre⟩
 obtain⟨y,hy,S5⟩:∃ y,fA y∧(0<k→([a,b,c,d]:List Nat)[k-1]?=some y):=by
  by_cases h0:0<k
  ·obtain⟨y,h1,h2⟩:=AA ha hb hc hd (j:=k-1) (by omega);exact⟨y,h2,fun _=>h1⟩
  ·exact⟨0,by unfold fA;omega,fun h=>absurd h h0⟩
 have hW:=M2.b 0 rfl;have hpos:decide (0<(k:Int))=true→0<k:=fun h=>Int.ofNat_lt.1 (of_decide_eq_true h)
 refine an (fun h=>by have:=hpos h;omega)<|ei (x:=k-1)<|an (fun h=>⟨by have:=hpos h;omega,by have:=hpos h;omega⟩)<|lc (x:=.int .u64 (y:Int))<|an (fun h=>?_)<|an (fun h=>?_) fun h=>?_
 ·rw[Nat.zero_add,Nat.mul_one,hW.cell];exact vQ (S5 (hpos h))
 ·have h1:0<k:=hpos (by simpa using(Bool.and_eq_true_iff.1 h).1);have h2:y=0:=Int.ofNat_inj.1 (of_decide_eq_true (Bool.and_eq_true_iff.1 h).2);subst h2;exact an (by omega)<|bk (k-1) ⟨congrArg (fun z=>some (Value.int .i64 z)) (show(k:Int)-1=((k-1:Nat):Int) by omega),trivial⟩ (fun M=>⟨M,by omega,Dn (S5 h1) (by omega)⟩) (show k-1<k by omega)
 ·have hk2:dw a b c d=k:=by
   refine Nat.le_antisymm hpre ?_;rcases Nat.eq_zero_or_pos k with h0|h0
   ·omega
   ·have:=Dp (S5 h0) (fun e=>by subst e;simp[h0] at h);omega
  clear h S5 hpre hy;have Wj:fA k:=by unfold fA;omega
  have CZ:=bG Wj;refine ei (x:=.int .u64 (k:Int))<|an (fun a w o ho hv=>(eI ho (aY hv) u3 zL).trans (by rw[Bg Wj]))<|cw M2 (mD (hv.keep M2.below) Wj (by omega)) fun v3 w3 M3=>lq (ι:=Nat×Value) (fun z=>[(6,z.2),(7,.int .i64 (z.1:Int))]) (fun z=>[bf z.2 (xs++bn k++(([a,b,c,d]:List Nat).take z.1).flatMap bn)]) (fun z _=>z.1≤k) (fun z=>k-z.1) (0,v3)<|an ⟨⟨rfl,rfl,trivial⟩,fun M=>⟨M.cast rfl (by simp),akp _⟩⟩ ?_
  rintro⟨j,u⟩ w4 M4 hj;have hj:j≤k:=hj;have hf:=Cm (j:=j) (Nat.le_trans hj hk) ha hb hc hd;have hlen:(xs++bn k++(([a,b,c,d]:List Nat).take j).flatMap bn).length+10≤aT:=by simp only[akt];omega
  have hfin:xs++bn k++(([a,b,c,d]:List Nat).take k).flatMap bn=xs++eT ⟨a,b,c,d⟩:=by rw[List.append_assoc];unfold eT mh;rw[hk2]
  refine an (fun h=>?_) fun h=>?_
  ·have hlt:j<k:=Int.ofNat_lt.1 (of_decide_eq_true h);obtain⟨y,h1,h2⟩:=AA ha hb hc hd (j:=j) (by omega);exact ei (x:=j)<|an ⟨rfl,by omega⟩<|lc (x:=.int .u64 (y:Int))<|an (by rw[(M4.b 0 rfl).cell];simpa using vQ h1)<|cw M4 (mD (qO (M4.r 0 rfl)) h2 hlen) fun v5 w5 M5=>an (by omega)<|bk (j+1,v5) ⟨rfl,rfl,trivial⟩ (fun M=>⟨(M.only (.refl _) (.cons_cons _ (.cons _ (.refl _)))).cast rfl (by rw[List.take_add_one,h1,aku,List.append_assoc (xs++bn k)];simp),hlt⟩) (by dsimp only;omega)
  ·have hge:j=k:=Nat.le_antisymm hj (Nat.le_of_not_lt fun h'=>of_decide_eq_false h (Int.ofNat_lt.2 h'));subst hge;exact fun M=>⟨u,rfl,by have:=M.r 0 rfl;rwa [hfin] at this,M.below⟩
def Kj(l:List Int)(i:Nat):Int:=match l[i]? with
 | some x=>x
 | none=>0
def jv(l:List Int):Int:=ah (Kj l) l.length 0
theorem rT{l:List Int}:jv l=0↔∀ x∈l,x=0:=by
 unfold jv;rw[mW];constructor
 ·intro h x hx;obtain⟨i,hi⟩:=List.getElem?_of_mem hx;have:=h i (akp _) (by have:=(akv.1 hi).1;omega);unfold Kj at this;rw[hi] at this;exact this
 ·intro h i _ hi;unfold Kj;rw[akq (by omega:i<l.length)];exact h _ (List.getElem_mem _)
def oO(ok ig vc cd:Bool):Bool:=!ok||!ig||!vc||!cd
def tW(sa sb:Bool)(r:bY):Bool:=!sa||(!sb&&!r.self)||decide (r.perms=0)||(decide (r.kind=4)&&!(decide (r.cond=0)))
def o_(nT nC:Nat)(cl:List gi)(r:bY):Int:=
 if r.kind<1 then 13 else if 4<r.kind then 13
 else if oO (r.src.within (aE.all nT)) (r.tgt.within (aE.all nT)) (eM cl r.cls r.perms) (lX nC r.cond)=true then 3
 else if tW (bD r.src) (bD r.tgt) r=true then 2 else 0
def eu(p:aD)(i:Nat):Int:=match p.conds[i]? with
 | some e=>cW p.bools.length e
 | none=>0
def iB(p:aD)(i:Nat):Int:=match p.rules[i]? with
 | some r=>o_ p.types.length p.conds.length p.classes r
 | none=>0
def cP(p:aD):Int:=if 64<p.conds.length then 4 else if ah (eu p) p.conds.length 0=0 then (if 4096<p.rules.length then 4 else ah (iB p) p.rules.length 0) else ah (eu p) p.conds.length 0
def Ks(w:World)(base:Nat)(v:Value)(l:List ByteArray):Prop:=w.ownsRow base 9 1 v l.length (l.flatMap aR)
theorem OM(l:List ByteArray):∀ u∈l.flatMap aR,u.oneCell'=true:=by
 intro u hu;obtain⟨s,-,hs⟩:=List.mem_flatMap.1 hu;rw[akw.1 hs];rfl
theorem Pt{w:World}{base:Nat}{v:Value}{l:List ByteArray}(h:Ks w base v l):aN w v l:=SliceAt.r_ h (OM l)
def jA(nT:Nat)(before:List ByteArray)(y:fI):Int:=
 if aU [y.name] before=0 then
  (if y.kind<1 then 13 else if 3<y.kind then 13
   else if (!(y.src.within (aE.all nT))||!(y.tgt.within (aE.all nT)))=true then 3
   else if (!(bD y.src)||!(bD y.tgt))=true then 2 else 0)
 else aU [y.name] before
def dX(p:aD)(i:Nat):Int:=match p.asserts[i]? with
 | some y=>jA p.types.length ((p.asserts.take i).map (·.name)) y
 | none=>0
def dG(p:aD):Int:=if 64<p.asserts.length then 4 else ah (dX p) p.asserts.length 0
def gU:dI:=⟨⟨#[111,98,106,101,99,116,95,114]⟩,aE.zero,aE.zero⟩
theorem ur(r:dI)(w:World):(Op.equalIn 10000 136 (.agg #[.string r.name,.int .u64 r.types.a,.int .u64 r.types.b,.int .u64 r.types.c,.int .u64 r.types.d,.int .u64 r.next.a,.int .u64 r.next.b,.int .u64 r.next.c,.int .u64 r.next.d]) (.agg #[.string ⟨#[111,98,106,101,99,116,95,114]⟩,.int .u64 0,.int .u64 0,.int .u64 0,.int .u64 0,.int .u64 0,.int .u64 0,.int .u64 0,.int .u64 0])).run Tryz.prog w=.ok (decide (r=gU)) w:=by
 rw[show(10000:Nat)=9997+3 from rfl,WD];congr 1;rw[Bool.eq_iff_iff];obtain⟨n,⟨a,b,c,d⟩,⟨a',b',c',d'⟩⟩:=r;simp only[decide_eq_true_eq,gU,aE.zero,aE.mk.injEq,dI.mk.injEq,and_assoc];refine and_congr_right fun _=>?_
 omega
def qD(nT nR:Nat)(before:List ByteArray)(y:dI):Int:=
 if aU [y.name] before=0 then
  (if y.types.within (aE.all nT)=false then 3 else if kf nR y.next=false then 3 else 0)
 else aU [y.name] before
def ji(p:aD)(i:Nat):Int:=match p.roles[i]? with
 | some y=>qD p.types.length p.roles.length ((p.roles.take i).map (·.name)) y
 | none=>0
def dO(p:aD):Int:=if 32<p.roles.length then 4 else if p.roles[0]?≠some gU then 2 else ah (ji p) (p.roles.length-1) 1
theorem vU{p:aD}(h:p.roles.length=0):p.roles[0]?≠some gU:=by
 rw[List.getElem?_eq_none (by omega)];simp
theorem AX{p:aD}{r:dI}(h:p.roles[0]?=some r)(hn:¬ r=gU):p.roles[0]?≠some gU:=by
 rw[h];simpa using hn
theorem head_eq{p:aD}{r:dI}(h:p.roles[0]?=some r)(hn:r=gU):¬ p.roles[0]?≠some gU:=by
 rw[h];simpa using hn
theorem tX{p:aD}{r:dI}(h:p.roles[0]?=some r)(hn:r=gU):[(⟨#[111,98,106,101,99,116,95,114]⟩:ByteArray)]=(p.roles.take 1).map (·.name):=by
 cases hp:p.roles with
 | nil=>rw[hp] at h;simp at h
 | cons x l=>rw[hp] at h;simp at h;subst h hn;rfl
def bh(l:List gh):List ByteArray:=l.flatMap fun t=>t.name::t.jg
theorem vN{l:List gh}(h:∀ t∈l,t.jg.length≤4):(bh l).length≤l.length*5:=by
 induction l with
 | nil=>simp[bh]
 | cons t l ih=>
  have h1:=h t (by simp);have h2:=ih fun x hx=>h x (by simp[hx])
  unfold bh at *;rw[List.flatMap_cons,akt,List.length_cons,List.length_cons];omega
theorem oM{y:gh}(h:y.Ok):∀ s∈y.name::y.jg,bW s:=fun s hs=>by
 rcases List.mem_cons.1 hs with rfl|hs
 ·exact h.name
 ·exact h.jg.all s hs
def OE(before:List ByteArray)(y:gh):Int:=aU (y.name::y.jg) before
def iz(p:aD)(i:Nat):Int:=match p.types[i]? with
 | some y=>OE (bh (p.types.take i)) y
 | none=>0
def ru(nT:Nat)(before:List ByteArray)(y:fH):Int:=
 if aU [y.name] before=0 then (if y.types.within (aE.all nT)=false then 3 else 0) else aU [y.name] before
def iJ(p:aD)(i:Nat):Int:=match p.attrs[i]? with
 | some y=>ru p.types.length (bh p.types++(p.attrs.take i).map (·.name)) y
 | none=>0
def eO(p:aD):Int:=if 256<p.types.length then 4 else if ah (iz p) p.types.length 0=0 then (if 64<p.attrs.length then 4 else ah (iJ p) p.attrs.length 0) else ah (iz p) p.types.length 0
variable [DS]
section
variable {P:Program} {ops:Array Oper} {Q:Exit→Act→World→Prop}
theorem CR{Pp:List PanicEntry→Act→World→Prop}(hP:∀ ch a w,Pp ch a w→Q (.panic ch) a w){i:Nat}{o:Oper}{a:Act}{w:World}{K:Act→World→Prop}(ho:ops[i]?=some o)
 (h:∀ Q':Exit→Act→World→Prop,(∀ a w,K a w→Q' .normal a w)→(∀ ch a w,Pp ch a w→Q' (.panic ch) a w)→wpList P ops Q' [o] a w):wpOp P ops Q i K a w:=by
 have h1:=h (fun e a w=>match e with|.normal=>K a w|e=>Q e a w) (fun _ _ h=>h) (fun ch a w h=>hP ch a w h);unfold wpOp;rw[ho];simp only[wpList] at h1;dsimp only;split
 ·rename_i hw;rw[if_pos hw] at h1;refine h1.imp (fun h2=>?_) (fun h2=>⟨h2.1,h2.2⟩);unfold Oper.wp at *;generalize (execOp a.eval o).run P w=r at *
  cases r with
  | ok n w'=>
   cases n<;>simp only[Oper.upon] at h2 ⊢<;>first|exact h2|exact Calls.mono h2 (fun e w'' he=>by cases e<;>exact he)
  | halt x w'=>cases x<;>simp only[Oper.upon] at h2 ⊢<;>exact h2
 ·rename_i hw;rw[if_neg hw] at h1;exact h1
theorem Bj{Pp:List PanicEntry→Act→World→Prop}(hP:∀ ch a w,Pp ch a w→Q (.panic ch) a w){id:Nat}{l:List Oper}{a:Act}{w:World}(hm:P.follows .mixedOrders=true)(jQ:ordered 0 l=true)(I:(Nat→Bool)→Act→World→Prop)
 (h0:I (fun _=>false) a w.drew) (hstep:∀ (i:Nat) (o:Oper),l[i]?=some o→∀ (L:Nat→Bool) (a:Act) (w:World) (Q':Exit→Act→World→Prop),I L a w→L i=false→(∀ e∈o.after.toList,Region.binds .any e=true→L e.on=true)→(∀ a w,I (upd L i) a w→Q' .normal a w)→(∀ ch a w,Pp ch a w→Q' (.panic ch) a w)→wpList P l.toArray Q' [o] a w)
 (hend:∀ (L:Nat→Bool) (a:Act) (w:World),I L a w→(∀ i,i<l.length→L i=true)→Q .normal a w) :
 (Code.region id l.toArray true).wp P Q a w:=by
 refine wp_region_any hm (Df I (fun i o ho e he hb=>?_) (fun i o ho L a w hI hL ha=>?_) (fun L a w hI hL=>hend L a w hI (by simpa using hL)) _ _ a _ (by simp) ?_ ?_)
 ·have:=mL 0 l jQ i o (by simpa using ho) e he hb;omega
 ·exact CR hP ho fun Q' hQ' hp=>hstep i o (by simpa using ho) L a w Q' hI hL ha hQ' hp
 ·exact Nat.le_trans (List.count_le_length ..) (by simp)
 ·have:(fun j=>(Array.replicate l.toArray.size false).getD j false)=fun _=>false:=by
   funext j
   rw[Array.getD_eq_getD_getElem?,Array.getElem?_replicate];split<;>rfl
  rw[this];exact h0
end
section
variable (P:Program) (ops:Array Oper) (l:List Oper) (K:List Kn) (X:List Nat) (J:World→Prop) (Pp:List PanicEntry→Act→World→Prop) (Q:Act→World→Prop)
def yU:Tr→Act→World→Prop
 | .done,a,w=>∀ a',Aa X a a'→(∀ (n:Nat) (k:Kn),K[n]?=some k→At a' k.2.1 k.2.2)→Q a' w
 | .step j t,a,w=>∀ o,l[j]?=some o→∀ a',Aa X a a'→(∀ (n:Nat) (k:Kn),K[n]?=some k→Bd o k.1→At a' k.2.1 k.2.2)→∀ Q':Exit→Act→World→Prop,(∀ a1 w1,J w1→Moved K j o a' a1→yU t a1 w1→Q' .normal a1 w1)→(∀ ch a1 w1,Pp ch a1 w1→Q' (.panic ch) a1 w1)→wpList P ops Q' [o] a' w
 | .last j,a,w=>∀ o,l[j]?=some o→∀ a',Aa X a a'→(∀ (n:Nat) (k:Kn),K[n]?=some k→Bd o k.1→At a' k.2.1 k.2.2)→∀ Q':Exit→Act→World→Prop,(∀ a1 w1,Moved K j o a' a1→(∀ a2,Aa X a1 a2→(∀ (n:Nat) (k:Kn),K[n]?=some k→At a2 k.2.1 k.2.2)→Q a2 w1)→Q' .normal a1 w1)→(∀ ch a1 w1,Pp ch a1 w1→Q' (.panic ch) a1 w1)→wpList P ops Q' [o] a' w
 | .alt x y,a,w=>yU x a w∧yU y a w
end
section
variable {P:Program} {ops:Array Oper} {l:List Oper} {K:List Kn} {X F:List Nat} {J:World→Prop} {Pp:List PanicEntry→Act→World→Prop} {Q:Act→World→Prop}
theorem zh:∀ {t:Tr} {E:List Nat} {a:Act} {w:World} {j:Nat},yU P ops l K X J Pp Q t a w→lY l F t E=true→j∈heads t→(∃ t',yU P ops l K X J Pp Q (.step j t') a w∧lY l F (.step j t') E=true)∨(yU P ops l K X J Pp Q (.last j) a w∧lY l F (.last j) E=true)
 | .done,_,_,_,_,_,_,h=>by cases h
 | .step j t,E,a,w,i,h,hs,hi=>by
  obtain rfl:i=j:=by simpa[heads] using hi
  exact .inl ⟨t,h,hs⟩
 | .last j,E,a,w,i,h,hs,hi=>by
  obtain rfl:i=j:=by simpa[heads] using hi
  exact .inr ⟨h,hs⟩
 | .alt x y,E,a,w,i,h,hs,hi=>by
  simp only[lY,akx] at hs;rcases aky.1 hi with hi|hi
  ·exact zh h.1 hs.1 hi
  ·exact zh h.2 hs.2 hi
theorem F4:∀ {t:Tr} {E:List Nat} {a:Act} {w:World},yU P ops l K X J Pp Q t a w→lY l F t E=true→(∀ j,j<l.length→F.contains j=true∨E.contains j=true)→yU P ops l K X J Pp Q .done a w
 | .done,_,_,_,h,_,_=>h
 | .step j t,E,a,w,h,hs,hE=>by
  simp only[lY,akx,decide_eq_true_iff] at hs;obtain⟨⟨⟨⟨h1,h2⟩,h3⟩,_⟩,_⟩:=hs;rcases hE j h3 with h|h
  ·rw[h] at h2;cases h2
  ·rw[h] at h1;cases h1
 | .last j,E,a,w,h,hs,hE=>by
  simp only[lY,akx,decide_eq_true_iff] at hs;obtain⟨⟨⟨⟨⟨h1,h2⟩,h3⟩,_⟩,_⟩,_⟩:=hs;rcases hE j h3 with h|h
  ·rw[h] at h2;cases h2
  ·rw[h] at h1;cases h1
 | .alt x y,E,a,w,h,hs,hE=>by
  simp only[lY,akx] at hs;exact F4 h.1 hs.1 hE
end
section
variable {P:Program} {Q:Exit→Act→World→Prop}
theorem wD{Pp:List PanicEntry→Act→World→Prop}(hP:∀ ch a w,Pp ch a w→Q (.panic ch) a w){id:Nat}{l:List Oper}{a:Act}{w:World}{N:Nat}(K:List Kn)(F:List Nat)(t:Tr)(J:World→Prop)
 (hm:P.follows .mixedOrders=true) (jQ:ordered 0 l=true) (hK:(K.all fun k=>((l[k.1]?).bind (·.dst)) == some k.2.1)=true) (hF:(F.all fun i=>K.any fun k=>k.1 == i)=true) (hnd:(l.filterMap (·.dst)).Nodup) (hbd:((l.filterMap (·.dst)).all fun s=>Nat.blt s N)=true)
 (Wq:((cand l F []).all fun i=>(heads t).contains i)=true) (hsub:lY l F t []=true)
 (hf:Fr a N) (hfl:uF P l F K J a N K) (hJ:J w.drew) (hsp:yU P l.toArray l K (xs F K) J Pp (Q .normal) t a w.drew):(Code.region id l.toArray true).wp P Q a w:=by
 have hidx:=Js hnd
 have G3:∀ k∈K,∃ o:Oper,l[k.1]?=some o∧o.dst=some k.2.1:=fun k hk=>by
  have h:=akz.1 hK k hk;have h:(l[k.1]?).bind (·.dst)=some k.2.1:=by simpa using h
  cases e:l[k.1]? with
  | none=>rw[e] at h;cases h
  | some o=>rw[e] at h;exact⟨o,rfl,h⟩
 have hin:∀ (i:Nat) (o:Oper) (s:Nat),l[i]?=some o→o.dst=some s→(l.filterMap (·.dst)).contains s=true:=fun i o s ho hs=>by
  have:s∈l.filterMap (·.dst):=List.mem_filterMap.2 ⟨o,akr ho,hs⟩;simpa using this
 refine Bj (Pp:=Pp) hP hm jQ (fun L b u=>(∀ j o,l[j]?=some o→L j=true→∀ e∈o.after.toList,Region.binds .any e=true→L e.on=true)∧Fr b N∧(J u∨∀ f,F.contains f=true→L f=true)∧(∀ j v,(l.filterMap (·.dst)).contains j=false→At a j v→At b j v) ∧
  (∀ k∈K,L k.1=true→At b k.2.1 k.2.2)∧∃ t E a0,(∀ j,j<l.length→F.contains j=false→L j=E.contains j)∧((cand l F E).all fun i=>(heads t).contains i)=true∧lY l F t E=true∧Aa (xs F K) a0 b∧yU P l.toArray l K (xs F K) J Pp (Q .normal) t a0 u) ?_ ?_ ?_
 ·exact⟨fun _ _ _ h=>(by cases h),hf,.inl hJ,fun _ _ _ h=>h,fun _ _ h=>(by cases h),t,[],a,fun _ _ _=>rfl,Wq,hsub,.refl _ _,hsp⟩
 ·have key:∀ (i:Nat) (o:Oper),l[i]?=some o→∀ (L:Nat→Bool) (b:Act) (u:World) (Q':Exit→Act→World→Prop),((∀ j o,l[j]?=some o→L j=true→∀ e∈o.after.toList,Region.binds .any e=true→L e.on=true)∧Fr b N∧(J u∨∀ f,F.contains f=true→L f=true)∧(∀ j v,(l.filterMap (·.dst)).contains j=false→At a j v→At b j v) ∧
   (∀ k∈K,L k.1=true→At b k.2.1 k.2.2)∧∃ t E a0,(∀ j,j<l.length→F.contains j=false→L j=E.contains j)∧((cand l F E).all fun i=>(heads t).contains i)=true∧lY l F t E=true∧Aa (xs F K) a0 b∧yU P l.toArray l K (xs F K) J Pp (Q .normal) t a0 u)→L i=false →
   (∀ e∈o.after.toList,Region.binds .any e=true→L e.on=true) →
   (∀ b u,((∀ j o,l[j]?=some o→upd L i j=true→∀ e∈o.after.toList,Region.binds .any e=true→upd L i e.on=true)∧Fr b N∧(J u∨∀ f,F.contains f=true→upd L i f=true)∧(∀ j v,(l.filterMap (·.dst)).contains j=false→At a j v→At b j v) ∧
   (∀ k∈K,upd L i k.1=true→At b k.2.1 k.2.2)∧∃ t E a0,(∀ j,j<l.length→F.contains j=false→upd L i j=E.contains j)∧((cand l F E).all fun i=>(heads t).contains i)=true∧lY l F t E=true∧Aa (xs F K) a0 b∧yU P l.toArray l K (xs F K) J Pp (Q .normal) t a0 u)→Q' .normal b u)→(∀ ch a w,Pp ch a w→Q' (.panic ch) a w)→wpList P l.toArray Q' [o] b u:=by
   intro i o ho L b u Q' ⟨hcl,hfr,hj,hout,hkn,t,E,a0,JF,hc,hs,hag,hsp⟩ hL hA Ci uJ;have ET:=(akv.1 ho).1;have up:∀ j,L j=true→upd L i j=true:=fun j hj=>by simp[upd,hj]
   have hcl':∀ j o,l[j]?=some o→upd L i j=true→∀ e∈o.after.toList,Region.binds .any e=true→upd L i e.on=true:=by
    intro j o' hj G2 e he hb;by_cases hji:j=i
    ·subst hji;obtain rfl:o=o':=akA (ho.symm.trans hj);exact up _ (hA e he hb)
    ·have hne:(j == i)=false:=by simpa using hji
     exact up _ (hcl j o' hj (by simpa[upd,hne] using G2) e he hb)
   have mN:∀ (n:Nat) (k:Kn),K[n]?=some k→Bd o k.1→At b k.2.1 k.2.2:=fun n k hk ⟨gr,he,hb⟩=>hkn k (akr hk) (hA _ he hb)
   have keep:∀ {b':Act} {d:Nat} {v:Value},o.dst=some d→Put b d v b'→(∀ k∈K,k.1=i→k.2.2=v)→(∀ j v,(l.filterMap (·.dst)).contains j=false→At a j v→At b' j v)∧∀ k∈K,upd L i k.1=true→At b' k.2.1 k.2.2:=by
    intro b' d v hd hp hv;constructor
    ·intro j x Wk hx;refine hp.old ?_ (hout j x Wk hx)
     cases e:j == d with
     | false=>rfl
     | true=>
      have e':j=d:=by simpa using e
      rw[e',hin i o d ho hd] at Wk;cases Wk
    ·intro k hk Wt;obtain⟨o',ho',hd'⟩:=G3 k hk;by_cases hki:k.1=i
     ·rw[hki] at ho';obtain rfl:o=o':=akA (ho.symm.trans ho');obtain rfl:d=k.2.1:=akA (hd.symm.trans hd');rw[hv k hk hki];exact hp.now
     ·have hne:(k.1 == i)=false:=by simpa using hki
      refine hp.old ?_ (hkn k hk (by simpa[upd,hne] using Wt))
      cases e:k.2.1 == d with
      | false=>rfl
      | true=>
       have e':k.2.1=d:=by simpa using e
       exact absurd (hidx k.1 i o' o d ho' ho (by rw[hd',e']) hd) hki
   cases G6:F.contains i with
   | true=>
    have hj:J u:=by
     rcases hj with hj|hj
     ·exact hj
     ·rw[hj i G6] at hL;cases hL
    obtain⟨k,hk,hki⟩:=List.any_eq_true.1 (akz.1 hF i (by simpa using G6));have hki:k.1=i:=by simpa using hki
    obtain⟨o',ho',hd'⟩:=G3 k hk;rw[hki] at ho';obtain rfl:o=o':=akA (ho.symm.trans ho');obtain⟨hw,hr⟩:=qZ hfl k hk (by rw[hki];exact G6) o (by rw[hki];exact ho) b u hfr hj hout mN
    have hsN:k.2.1<N:=by
     have:=akz.1 hbd k.2.1 (List.mem_filterMap.2 ⟨o,akr ho,hd'⟩);simpa using this
    refine pS hw hr hd' hfr hsN fun b' hp=>wpList_nil (Ci b' u ?_)
    have hkv:∀ k'∈K,k'.1=i→k'.2.2=k.2.2:=fun k' hk' e=>by
     obtain⟨_,_,_⟩:=G3 k' hk';obtain⟨w2,h2⟩:=qZ hfl k' hk' (by rw[e];exact G6) o (by rw[e];exact ho) b u hfr hj hout mN;rw[hr] at h2;injection h2 with h2;injection h2 with h2;exact h2.symm
    obtain⟨g1,g2⟩:=keep hd' hp hkv;refine⟨hcl',hp.fr hfr,.inl hj,g1,g2,t,E,a0,fun j hjl JC=>?_,hc,hs,hag.put hp ?_,hsp⟩
    ·have hne:(j == i)=false:=by
      cases e:j == i with
      | false=>rfl
      | true=>
       have e':j=i:=by simpa using e
       rw[e',G6] at JC;cases JC
     rw[← JF j hjl JC];simp[upd,hne]
    ·have:k.2.1∈xs F K:=List.mem_filterMap.2 ⟨k,hk,by rw[hki,G6];rfl⟩;simpa using this
   | false=>
    have hEi:E.contains i=false:=by rw[← JF i ET G6];exact hL
    have hmem:=Gu (F:=F) (E:=E) ho G6 hEi fun e he hb=>by
     have hLe:=hA e he hb;have hlt:=mL 0 l jQ i o ho e he hb
     cases hFe:F.contains e.on with
     | true=>exact .inl rfl
     | false=>exact .inr (by rw[← JF e.on (by omega) hFe];exact hLe)
    have hh:=akz.1 hc i hmem
    have fin:∀ a1,Moved K i o b a1→Fr a1 N∧(∀ j v,(l.filterMap (·.dst)).contains j=false→At a j v→At a1 j v)∧∀ k∈K,upd L i k.1=true→At a1 k.2.1 k.2.2:=by
     intro a1 Qz;rcases Qz with⟨hd,rfl⟩|⟨d,v,hd,hp,hv⟩
     ·refine⟨hfr,hout,fun k hk Wt=>?_⟩;obtain⟨o',ho',hd'⟩:=G3 k hk;by_cases hki:k.1=i
      ·rw[hki] at ho';obtain rfl:o=o':=akA (ho.symm.trans ho');rw[hd] at hd';cases hd'
      ·have hne:(k.1 == i)=false:=by simpa using hki
       exact hkn k hk (by simpa[upd,hne] using Wt)
     ·obtain⟨g1,g2⟩:=keep hd hp fun k hk e=>by
       obtain⟨n,hn⟩:=List.getElem?_of_mem hk;exact hv n k hn e
      exact⟨hp.fr hfr,g1,g2⟩
    rcases zh hsp hs (j:=i) (by simpa using hh) with⟨t',h1,h2⟩|⟨h1,h2⟩
    ·simp only[lY,akx] at h2;refine h1 o ho b hag mN Q' (fun a1 w1 hJ1 Qz hS=>Ci a1 w1 ?_) uJ;have fin:=fin a1 Qz;refine⟨hcl',fin.1,.inl hJ1,fin.2.1,fin.2.2,t',i::E,a1,fun j hjl JC=>?_,h2.1.2,h2.2,.refl _ _,hS⟩;simp only[upd,List.contains_cons,JF j hjl JC]
    ·simp only[lY,akx] at h2;refine h1 o ho b hag mN Q' (fun a1 w1 Qz hS=>Ci a1 w1 ?_) uJ;have fin:=fin a1 Qz;refine⟨hcl',fin.1,.inr fun f hfF=>?_,fin.2.1,fin.2.2,.done,i::E,a1,fun j hjl JC=>?_,h2.1.1.2,h2.1.2,.refl _ _,hS⟩
     ·have h3:=h2.2;rw[ho] at h3;obtain⟨e,he,hb⟩:=List.any_eq_true.1 (akz.1 h3 f (by simpa using hfF));simp only[akx,beq_iff_eq] at hb;exact up f (by rw[← hb.2];exact hA e he hb.1)
     ·simp only[upd,List.contains_cons,JF j hjl JC]
  exact key
 ·intro L b u ⟨hcl,hfr,hj,hout,hkn,t,E,a0,JF,hc,hs,hag,hsp⟩ hall
  have h:=F4 hsp hs fun j hjl=>by
   cases hF:F.contains j with
   | true=>exact .inl rfl
   | false=>exact .inr (by rw[← JF j hjl hF];exact hall j hjl)
  exact h b hag fun n k hk=>hkn k (akr hk) (hall k.1 (by
   obtain⟨o,ho,_⟩:=G3 k (akr hk);exact(akv.1 ho).1))
end
theorem Dd{N:Nat}{Pp:List PanicEntry→World→Prop}{P:Program}{ops ops':Array Oper}{Q:Exit→Act→World→Prop}{S:Act→World→Prop}{o:Oper}{a:Act}{w:World}(hg:o.guard=none)(hS:∀ a w,S a w→a.defers=DS.ds)(h0:a.defers=DS.ds)
 (h:wpList P ops' (fun e a w=>(e=.normal∧S a w)∨∃ ch,e=.panic ch∧Fr a N∧Pp ch w) [o] a w) (hP:∀ ch a w',Fr a N→Pp ch w'→Q (.panic ch) a w') (next:∀ a1 w1,S a1 w1→(∃ v,a1=a.put o.dst v)→Q .normal a1 w1):wpList P ops Q [o] a w:=by
 have hw:∀ ops,Region.wanted o (yielded ops a.tmps)=true:=fun ops=>gB hg
 have hno:¬ LetsOut (fun e a w=>(e=Exit.normal∧S a w)∨∃ ch,e=Exit.panic ch∧Fr a N∧Pp ch w):=fun⟨_,_,h⟩=>by
  rcases h with⟨h,_⟩|⟨_,h,_⟩<;>cases h
 have hn:∀ {a1:Act} {w1:World},((Exit.normal=Exit.normal∧S a1 w1)∨∃ ch,Exit.normal=Exit.panic ch∧Fr a1 N∧Pp ch w1)→S a1 w1:=fun h=>by
  rcases h with⟨_,h⟩|⟨_,h,_⟩
  ·exact h
  ·cases h
 have hp:∀ {a1:Act} {w1:World} {c:List PanicEntry},((Exit.panic c=Exit.normal∧S a1 w1)∨∃ ch,Exit.panic c=Exit.panic ch∧Fr a1 N∧Pp ch w1)→Q (.panic c) a1 w1:=fun h=>by
  rcases h with⟨h,_⟩|⟨_,h,h1,h2⟩
  ·cases h
  ·cases h;exact hP _ _ _ h1 h2
 unfold wpList at h ⊢;rw[if_pos (hw _)] at h ⊢;rcases h with h|⟨_,h⟩
 case inr=>exact absurd h hno
 refine .inl ?_;unfold Oper.wp at h ⊢;generalize (execOp a.eval o).run P w=r at h ⊢
 match r,h with
 | .ok (.value v) w',h=>exact next _ _ (hn h) ⟨_,rfl⟩
 | .ok .skip w',h=>exact next _ _ (hn h) ⟨_,rfl⟩
 | .ok (.defer d) w',h=>exact absurd ((hS _ _ (hn h)).trans h0.symm) (by cases o.dst<;>simp[Act.put])
 | .ok (.enter f args) w',h=>
  refine Calls.mono h fun e w'' h=>?_
  match e,h with
  | .returned v,h=>exact next _ _ (hn h) ⟨_,rfl⟩
  | .panicked c,h=>exact hp h
  | .outgrown,h=>exact absurd h hno
 | .ok (.row row args) w',h=>exact Rows.mono h fun v w'' h=>next _ _ (hn h) ⟨_,rfl⟩
 | .halt (.panic v) w',h=>exact hp h
def L6(KP:PK)(B:Nat)(w0:World)(N:Nat)(l:Slots)(L:List Oper)(K:List Kn)(j:Nat)(T:Slots)(bs:List Bx)(rs:List Rw)(w:World)(k:Slots→List Bx→List Rw→World→Prop):Prop:=
 vg L j fun o=>match o.guard with
  | some _=>False
  | none=>flO o.dst T fun T1=>bif oN o T1 then bif Vz j K then pO T1 (tI K o) fun S=>xO KP B w0 N l o S.length (yG 0 S) bs rs w fun m' bs' rs' w'=>newS (m'.length-S.length) m' T1 fun T'=>bif WA K T' then k T' bs' rs' w' else False else (pO T1 (tI K o) fun S=>xO KP B w0 N l o S.length (yG 0 S) bs rs w fun m' bs' rs' w'=>newS (m'.length-S.length) m' [] fun T'=>Xm K j o.dst (k T1 bs' rs' w') T') else False
def L3(KP:PK)(B:Nat)(w0:World)(N:Nat)(l:Slots)(L:List Oper)(K:List Kn)(kb:List Nat)(mA:List Bx)(k:Slots→List Bx→List Rw→World→Prop):Tr→Slots→List Bx→List Rw→World→Prop
 | .done,T,bs,rs,w=>pO (Fo K) l fun r=>pO T r fun l'=>k l' bs rs w
 | .step j t,T,bs,rs,w=>L6 KP B w0 N l L K j T bs rs w fun T' bs' rs' w'=>(Va kb bs' fun b=>b=mA)∧L3 KP B w0 N l L K kb mA k t T' bs' rs' w'
 | .last j,T,bs,rs,w=>L6 KP B w0 N l L K j T bs rs w fun T' bs' rs' w'=>pO (Fo K) l fun r=>pO T' r fun l'=>k l' bs' rs' w'
 | .alt x y,T,bs,rs,w=>L3 KP B w0 N l L K kb mA k x T bs rs w∧L3 KP B w0 N l L K kb mA k y T bs rs w
section
variable {KP:PK} {B:Nat} {w0:World} {N:Nat} {l:Slots} {mA:List Bx} {L:List Oper} {K:List Kn} {kb:List Nat} {k:Slots→List Bx→List Rw→World→Prop}
variable (xg:∀ q v,look q l=some v→∀ k∈K,k.2.1≠q) (kD:∀ (j:Nat) (o:Oper) (d:Nat),L[j]?=some o→o.dst=some d→look d l=none∧d<N)
def Z7(KP:PK)(N:Nat):List PanicEntry→Act→World→Prop:=fun ch a w=>Fr a N∧∃ Pn,KP=some Pn∧Pn ch w
include xg kD in
theorem Ap{F:List Nat}{ops:Array Oper}{Q':Exit→Act→World→Prop}{j:Nat}{T:Slots}{bs:List Bx}{rs:List Rw}{a a':Act}{w:World}{kk:Slots→List Bx→List Rw→World→Prop}(hv:L6 KP B w0 N l L K j T bs rs w kk)(h:TI N l K T a)(M:aQ B w0 w bs rs){o:Oper}(ho:L[j]?=some o)
 (hA:Aa (xs F K) a a') (hb:∀ (n:Nat) (k:Kn),K[n]?=some k→Bd o k.1→At a' k.2.1 k.2.2)
 (uJ:∀ ch a w,Z7 KP N ch a w→Q' (.panic ch) a w) (next:∀ a1 w1 T' bs' rs',TI N l K T' a1→aQ B w0 w1 bs' rs'→kk T' bs' rs' w1→Moved K j o a' a1→Q' .normal a1 w1):wpList Tryz.prog ops Q' [o] a' w:=by
 unfold L6 at hv;obtain⟨o',ho',hv⟩:=jt hv;obtain rfl:o'=o:=akA (ho'.symm.trans ho);split at hv
 ·exact hv.elim
 rename_i hg;obtain⟨T1,hv,RF⟩:=QO hv;obtain⟨Wb,hv⟩:=cB hv;have h':=h.UE xg hA
 have keep:∀ v q u,(∀ d,o'.dst=some d→d≠q)→At a' q u→At (a'.put o'.dst v) q u:=fun v q u hq hu=>by
  cases hd:o'.dst with
  | none=>exact hu
  | some d=>
   refine(qL h'.fr (kD j o' d ho hd).2).old ?_ hu;simpa using fun e=>hq d hd e.symm
 have hT:∀ v,∀ x∈T1,At (a'.put o'.dst v) x.1 x.2:=fun v x hx=>keep v _ _ (fun d hd=>by
  unfold oN at Wb;rw[hd] at Wb;exact fun e=>sQ (Qn Wb) x hx e.symm) (h'.T_ x (RF x hx))
 have hS:∀ x∈T1++tI K o',At a' x.1 x.2:=fun x hx=>by
  rcases aky.1 hx with hx|hx
  ·exact h'.T_ x (RF x hx)
  ·obtain⟨k,h1,h2,rfl⟩:=yu hx;obtain⟨i,hi⟩:=List.getElem?_of_mem h1;exact hb i k hi (yI h2)
 have I:Inv (wu o' (T1++tI K o')) a' N l (yG 0 (T1++tI K o')) (T1++tI K o').length:=VU h'.fr hS h'.l_
 cases Wd:Vz j K with
 | false=>
  rw[Wd] at hv;replace hv:=fP hv;refine Dd (N:=N) (Pp:=fun ch w=>∃ Pn,KP=some Pn∧Pn ch w) (ops':=wu o' (T1++tI K o')) (S:=fun a1 w1=>∃ m' bs' rs',Inv (wu o' (T1++tI K o')) a1 N l m' ((T1++tI K o').length+1)∧aQ B w0 w1 bs' rs'∧newS (m'.length-(T1++tI K o').length) m' [] fun T'=>Xm K j o'.dst (kk T1 bs' rs' w1) T') hg (fun a w ⟨_,_,_,I,_⟩=>I.fr.defers) h'.fr.defers (ql I M AJ hv (fun Pn e a ch w ⟨_,_,I⟩ hp=>.inr ⟨ch,rfl,I.fr,Pn,e,hp⟩) fun a1 m' bs' rs' w1 I' M' h'=>wpList_nil (.inl ⟨rfl,m',bs',rs',I',M',h'⟩)) (fun ch a w' hf hp=>uJ ch a w' ⟨hf,hp⟩) ?_;rintro a1 w1 ⟨m',bs',rs',I',M',hn⟩ ⟨v,rfl⟩;obtain⟨T',h1,h2⟩:=yp hn;unfold Xm at h1;split at h1
  ·exact h1.elim
  rename_i s u r;split at h1
  ·obtain⟨h3,h4⟩:=cB h1;obtain⟨h5,h6⟩:=EJ h4
   obtain⟨d,hd⟩:∃ d,o'.dst=some d:=by
    cases hd:o'.dst with
    | none=>rw[hd] at h3;cases h3
    | some d=>exact⟨d,rfl⟩
   have hs:d=s:=by rw[hd] at h3;exact Nat.eq_of_beq_eq_true h3
   have hat:At (a'.put o'.dst v) s u:=by
    rcases h2 (s,u) (List.mem_cons_self ..) with h7|⟨e,h7,h8,h9⟩
    ·cases h7
    ·have:=I'.at_ e h7;rw[h8] at this;obtain⟨rfl,rfl⟩:=Prod.mk.inj h9;exact this
   have hp:Put a' d v (a'.put o'.dst v):=by rw[hd];exact qL h'.fr (kD j o' d ho hd).2
   have huv:u=v:=by
    have h10:=hp.now;rw[hs] at h10;exact akA (hat.symm.trans h10)
   refine next _ _ T1 bs' rs' ⟨I'.fr,fun q u hq=>keep v _ _ (fun d hd e=>?_) (h'.l_ q u hq),hT v,fun x hx=>h'.K_ x (RF x hx)⟩ M' h5 (.some d v hd hp fun n k hk hkj=>(h6 k (akr hk) hkj).trans huv)
   rw[← e,(kD j o' d ho hd).1] at hq;cases hq
  ·exact h1.elim
 | true=>
 rw[Wd] at hv;replace hv:=fP hv;refine Dd (N:=N) (Pp:=fun ch w=>∃ Pn,KP=some Pn∧Pn ch w) (ops':=wu o' (T1++tI K o')) (S:=fun a1 w1=>∃ m' bs' rs',Inv (wu o' (T1++tI K o')) a1 N l m' ((T1++tI K o').length+1)∧aQ B w0 w1 bs' rs'∧newS (m'.length-(T1++tI K o').length) m' T1 fun T'=>bif WA K T' then kk T' bs' rs' w1 else False) hg (fun a w ⟨_,_,_,I,_⟩=>I.fr.defers) h'.fr.defers (ql I M AJ hv (fun Pn e a ch w ⟨_,_,I⟩ hp=>.inr ⟨ch,rfl,I.fr,Pn,e,hp⟩) fun a1 m' bs' rs' w1 I' M' h'=>wpList_nil (.inl ⟨rfl,m',bs',rs',I',M',h'⟩)) (fun ch a w' hf hp=>uJ ch a w' ⟨hf,hp⟩) ?_;rintro a1 w1 ⟨m',bs',rs',I',M',hn⟩ ⟨v,rfl⟩;obtain⟨T',h1,h2⟩:=yp hn;obtain⟨h3,h4⟩:=cB h1;refine next _ _ T' bs' rs' ⟨I'.fr,fun q u hq=>keep v _ _ (fun d hd e=>?_) (h'.l_ q u hq),fun x hx=>?_,JL h3⟩ M' h4 ?_
 ·rw[← e,(kD j o' d ho hd).1] at hq;cases hq
 ·rcases h2 x hx with h5|⟨e,h5,h6,rfl⟩
  ·exact hT v x h5
  ·have:=I'.at_ e h5
   rwa [h6] at this
 ·cases hd:o'.dst with
  | none=>exact .none hd rfl
  | some d=>
   refine .some d v hd (qL h'.fr (kD j o' d ho hd).2) fun n k hk hkj=>absurd hkj (Jq Wd k (akr hk))
include xg kD in
theorem Am{F:List Nat}{ops:Array Oper}{Q:Act→World→Prop}(hQ:∀ a l' bs rs w,Fs a N l'→aQ B w0 w bs rs→k l' bs rs w→Q a w):∀ {t:Tr} {T:Slots} {bs:List Bx} {rs:List Rw} {a:Act} {w:World},L3 KP B w0 N l L K kb mA k t T bs rs w→TI N l K T a→aQ B w0 w bs rs→yU Tryz.prog ops L K (xs F K) (Jm B w0 mA) (Z7 KP N) Q t a w
 | .done,T,bs,rs,a,w,hv,h,M=>fun a' hA hk=>hQ a' _ bs rs w (h.end xg hA hk) M (fP (fP hv))
 | .step j t,T,bs,rs,a,w,hv,h,M=>fun o ho a' hA hb Q' hn uJ=>Ap xg kD hv h M ho hA hb uJ fun a1 w1 T' bs' rs' h' M' ⟨h1,h2⟩ mv=>by
  refine hn a1 w1 ⟨M'.below,fun b hbx=>M'.box b ?_⟩ mv (Am hQ h2 h' M');obtain⟨s,h5,h6⟩:=Ei h1;subst h5;exact h6 b hbx
 | .last j,T,bs,rs,a,w,hv,h,M=>fun o ho a' hA hb Q' hn uJ=>Ap xg kD hv h M ho hA hb uJ fun a1 w1 T' bs' rs' h' M' h1 mv=>hn a1 w1 mv fun a2 Zj hk=>hQ a2 _ bs' rs' w1 (h'.end xg Zj hk) M' (fP (fP h1))
 | .alt x y,T,bs,rs,a,w,hv,h,M=>⟨Am hQ hv.1 h M,Am hQ hv.2 h M⟩
end
theorem abw{X Y:Prop}{KP:PK}{B:Nat}{w0 w:World}{N:Nat}{l:Slots}{bs:List Bx}{rs:List Rw}{ops:Array Oper}{id:Nat}{k:Slots→List Bx→List Rw→World→Prop}(K0:List Kn)(F:List Nat)(t:Tr)(kb:List Nat)(hk0:Nb ops.toList F K0=true)(h0:Bw N ops.toList F t=true)
 (h:RH ops.toList fun ds=>JO ds l fun l'=>Va kb bs fun mA=>NV B w0 l' mA ops.toList F K0 fun K=>PG K l ds fun T=>∀ w',ako w.heap.size w w'→aQ B w0 w' bs rs→L3 KP B w0 N l' ops.toList K kb mA k t T bs rs w') :
 X∨Y∨∀ (a:Act) (Q:Exit→Act→World→Prop),Fs a N l→aQ B w0 w bs rs→(∀ Pn,KP=some Pn→∀ a' ch w',Fr a' N→Pn ch w'→Q (.panic ch) a' w')→(∀ a' l' bs' rs' w',Fs a' N l'→aQ B w0 w' bs' rs'→k l' bs' rs' w'→Q .normal a' w')→(Code.region id ops true).wp Tryz.prog Q a w:=by
 refine .inr (.inr fun a Q Fa M uJ next=>?_);obtain⟨L,rfl⟩:∃ L:List Oper,ops=L.toArray:=⟨ops.toList,by simp⟩;rw[List.toList_toArray] at hk0 h0 h;unfold Bw at h0;simp only[akx,decide_eq_true_eq] at h0;obtain⟨jQ,hnd,hbd,hcd,hsub⟩:=h0;obtain⟨l',h,hl'⟩:=xu (Cx h);obtain⟨mA,h,hJ⟩:=Ei h;obtain⟨K,h,Ze,hK⟩:=D9 (N:=N) h;obtain⟨hk1,hk2⟩:=AU hk0;obtain⟨T0,h,QJ⟩:=zl h;have hin:∀ (j:Nat) (o:Oper) (d:Nat),L[j]?=some o→o.dst=some d→d∈L.filterMap (·.dst):=fun j o d ho hd=>List.mem_filterMap.2 ⟨o,akr ho,hd⟩
 have hno:∀ d,d∈L.filterMap (·.dst)→look d l'=none:=fun d hd=>by
  rw[hl',mF.2 hd];rfl
 have hold:∀ q v,look q l'=some v→look q l=some v∧(L.filterMap (·.dst)).contains q=false:=fun q v hq=>by
  rw[hl'] at hq
  cases hm:nj q (L.filterMap (·.dst)) with
  | true=>rw[hm] at hq;cases hq
  | false=>
   rw[hm] at hq;refine⟨hq,?_⟩
   cases hc:(L.filterMap (·.dst)).contains q with
   | false=>rfl
   | true=>
    have:q∈L.filterMap (·.dst):=by simpa using hc
    rw[mF.2 this] at hm;cases hm
 have Uo:∀ k∈K0++K,∃ o:Oper,L[k.1]?=some o∧o.dst=some k.2.1:=fun k hk=>by
  rcases aky.1 hk with hk|hk
  ·exact hk1 k hk
  ·obtain⟨o,h1,h2,-⟩:=hK k hk;exact⟨o,h1,h2⟩
 have G3:∀ k∈K0++K,k.2.1∈L.filterMap (·.dst):=fun k hk=>by
  obtain⟨o,h1,h2⟩:=Uo k hk;exact hin _ _ _ h1 h2
 have xg:∀ q v,look q l'=some v→∀ k∈K0++K,k.2.1≠q:=fun q v hq k hk e=>by
  have h1:=hno _ (G3 k hk);rw[e,hq] at h1;cases h1
 have kD:∀ (j:Nat) (o:Oper) (d:Nat),L[j]?=some o→o.dst=some d→look d l'=none∧d<N:=fun j o d ho hd=>⟨hno d (hin j o d ho hd),by
  have:=akz.1 hbd d (hin j o d ho hd);simpa using this⟩
 have Md:=M.keep (w':=w.drew) (Below.refl _ _).drew;refine wD (Pp:=Z7 KP N) (fun ch a w h=>by obtain⟨h1,Pn,h2,h3⟩:=h;exact uJ Pn h2 a ch w h1 h3) (K0++K) F t (Jm B w0 mA) (by kernel_rfl) jQ ?_ ?_ hnd hbd hcd hsub Fa.fr ?_ ⟨Md.below,fun b hb=>Md.box b ?_⟩ (Am xg kD (fun a l' bs rs w F M h=>next a l' bs rs w F M h) (h w.drew (Below.refl _ _).drew Md) ⟨Fa.fr,fun q v hq=>Fa.at_ q v (hold q v hq).1,fun x hx=>Fa.at_ _ _ (QJ x hx).1,fun x hx=>(QJ x hx).2⟩ Md)
 ·rw[akz];intro k hk;obtain⟨o,h1,h2⟩:=Uo k hk;simp[h1,h2]
 ·rw[akz];intro i hi;rw[← Ze] at hi;obtain⟨k,hk,rfl⟩:=List.mem_map.1 hi;exact List.any_eq_true.2 ⟨k,List.mem_append_right _ hk,by simp⟩
 ·have key:∀ K2:List Kn,(∀ k∈K2,F.contains k.1=true→FlP B w0 N l' mA L (K0++K) k)→uF Tryz.prog L F (K0++K) (Jm B w0 mA) a N K2:=by
   intro K2
   induction K2 with
   | nil=>intro _;trivial
   | cons k r ih=>
    intro h2;refine⟨fun Lu o ho b u hf hj hq hb=>?_,ih fun k' hk'=>h2 k' (List.mem_cons_of_mem _ hk')⟩;obtain⟨o',h3,-,h4,h5⟩:=h2 k (List.mem_cons_self ..) Lu;obtain rfl:o'=o:=akA (h3.symm.trans ho)
    exact⟨gB h4,h5 b u hf hj (fun q v hv=>hq q v (hold q v hv).2 (Fa.at_ q v (hold q v hv).1)) fun k' hk' he=>by
     obtain⟨i,hi⟩:=List.getElem?_of_mem hk';exact hb i k' hi (yI he)⟩
  exact key _ fun k hk Lu=>(aky.1 hk).elim (fun h=>by rw[hk2 k h] at Lu;cases Lu) (hK k)
 ·exact hJ b hb
theorem spP{X Y:Prop}{KP:PK}{B:Nat}{w0 w:World}{N:Nat}{l:Slots}{bs:List Bx}{rs:List Rw}{ops:Array Oper}{id:Nat}{k:Slots→List Bx→List Rw→World→Prop}(F:List Nat)(t:Tr)(kb:List Nat)(h0:Bw N ops.toList F t=true)
 (h:RH ops.toList fun ds=>JO ds l fun l'=>Va kb bs fun mA=>NV B w0 l' mA ops.toList F [] fun K=>PG K l ds fun T=>∀ w',ako w.heap.size w w'→aQ B w0 w' bs rs→L3 KP B w0 N l' ops.toList K kb mA k t T bs rs w') :
 X∨Y∨∀ (a:Act) (Q:Exit→Act→World→Prop),Fs a N l→aQ B w0 w bs rs→(∀ Pn,KP=some Pn→∀ a' ch w',Fr a' N→Pn ch w'→Q (.panic ch) a' w')→(∀ a' l' bs' rs' w',Fs a' N l'→aQ B w0 w' bs' rs'→k l' bs' rs' w'→Q .normal a' w')→(Code.region id ops true).wp Tryz.prog Q a w:=abw [] F t kb rfl h0 h
end Go.Proofs.YtkkmjdceiocnbaaGreatDoor
namespace Go.Proofs.YtkkmjdceiocnbaaGreatDoor
open Go Go.RowKit
theorem sM{w:World}{base e k n:Nat}{v:Value}{xs:List Value}(h:w.ownsRow base e k v n xs):∃ a c,v=.slice a n c∧n≤c∧n≤9223372036854775807:=by
 rcases h.2 with⟨rfl,rfl⟩|⟨g,cap,cur,rfl,-,-,h1,h2,-⟩
 ·exact⟨none,0,rfl,Nat.le_refl _,by decide⟩
 ·exact⟨_,_,rfl,h1,Nat.le_trans h1 h2⟩
def RowsIn(B:Nat)(w:World)(T:List Rw):Prop:=(∀ r∈T,w.ownsRow B r.e r.k r.v r.n r.xs)∧T.Pairwise fun r s=>r.v.ownBlock=none∨r.v.ownBlock≠s.v.ownBlock
theorem RowsIn.keep{B:Nat}{w w':World}{T:List Rw}(h:RowsIn B w T)(hb:ako w.heap.size w w'):RowsIn B w' T:=⟨fun r hr=>Gl hb (h.1 r hr) (Nat.le_refl _),h.2⟩
theorem RowsIn.low{B C:Nat}{w:World}{T:List Rw}(h:RowsIn B w T)(hc:C≤B):RowsIn C w T:=⟨fun r hr=>AF (h.1 r hr) hc,h.2⟩
theorem RowsIn.nil(B:Nat)(w:World):RowsIn B w []:=⟨fun _ h=>(by cases h),.nil⟩
theorem aQ.vV{B:Nat}{w0 w w':World}{bs:List Bx}{rs T:List Rw}(M:aQ B w0 w bs rs)(hb:ako w.heap.size w w')(hT:RowsIn w.heap.size w' T):aQ B w0 w' bs (rs++T):=by
 have M':=M.keep hb;refine⟨M'.below,M'.le,M'.old,M'.box,M.lo,M.nd,fun r hr=>?_,fun r hr b hb'=>?_,List.pairwise_append.2 ⟨M.yZ,hT.2,fun r hr s hs=>?_⟩⟩
 ·rcases aky.1 hr with hr|hr
  ·exact M'.row r hr
  ·exact AF (hT.1 r hr) M.big
 ·rcases aky.1 hr with hr|hr
  ·exact M.far r hr b hb'
  ·intro e;have:=((hT.1 r hr).lt _ e).1;have:=(M.box b hb').lt;omega
 ·cases e:r.v.ownBlock with
  | none=>exact .inl rfl
  | some q=>
   refine .inr fun e2=>?_
   have h1:=((M.row r hr).lt q e).2;have h2:=((hT.1 s hs).lt q e2.symm).1;omega
theorem aQ.pU{B:Nat}{w0 w:World}{bs:List Bx}{rs:List Rw}(M:aQ B w0 w bs rs):RowsIn B w rs:=⟨M.row,M.yZ⟩
theorem aQ.form{B:Nat}{w0 w:World}{bs:List Bx}{rs:List Rw}(M:aQ B w0 w bs rs)(i:Nat){v:Value}{e:TypeId}{k n:Nat}{xs:List Value}(h:rs[i]?=some ⟨v,e,k,n,xs⟩):∃ a c,v=.slice a n c:=by
 obtain⟨a,c,h,-⟩:=sM (M.r i h);exact⟨a,c,h⟩
inductive mH (T:List Rw):List Value→aS→Prop
 | node {op a rel b:Int} {names:List ByteArray} {set:aE} {kids:List aS} {nv kv:Value} {es:List (List Value)}:nv.oneCell'=true→kv.oneCell'=true→(⟨nv,9,1,names.length,names.flatMap aR⟩:Rw)∈T→(⟨kv,84,10,kids.length,es.flatten⟩:Rw)∈T→es.length=kids.length→(∀ x∈es,x.length=10) →
  (∀ (i:Nat) x y,es[i]?=some x→kids[i]?=some y→mH T x y) →
  mH T [.int .i64 op,.int .i64 a,.int .i64 rel,.int .i64 b,nv,.int .u64 set.a,.int .u64 set.b,.int .u64 set.c,.int .u64 set.d,kv] (.node op a rel b names set kids)
theorem mH.mono{T T':List Rw}(hs:∀ r∈T,r∈T'){cs:List Value}{e:aS}(h:mH T cs e):mH T' cs e:=by
 induction h with
 | node h1 h2 h3 h4 h5 h6 _ ih=>exact .node h1 h2 (hs _ h3) (hs _ h4) h5 h6 ih
theorem mH.one{T:List Rw}{cs:List Value}{e:aS}(h:mH T cs e):∀ u∈cs,u.oneCell'=true:=by
 cases h with
 | node h1 h2=>
  intro u hu;simp only[List.mem_cons,List.not_mem_nil,or_false] at hu;rcases hu with rfl|rfl|rfl|rfl|rfl|rfl|rfl|rfl|rfl|rfl<;>first|rfl|assumption
theorem Ih(l:List ByteArray):∀ u∈l.flatMap aR,u.oneCell'=true:=fun u hu=>by
 obtain⟨s,-,hs⟩:=List.mem_flatMap.1 hu;simp only[aR,akw] at hs;subst hs;rfl
theorem mH.at_{T:List Rw}{B:Nat}{w:World}(hT:RowsIn B w T){cs:List Value}{e:aS}(h:mH T cs e):bq w cs e:=by
 induction h with
 | @node op a rel b names set kids nv kv es h1 h2 h3 h4 h5 h6 hk ih=>
  refine .node (SliceAt.r_ (hT.1 _ h3) (Ih _)) h5 h6 (SliceAt.r_ (hT.1 _ h4) ?_) ih;intro u hu;obtain⟨x,hx,hux⟩:=List.mem_flatten.1 hu;obtain⟨i,hi⟩:=List.getElem?_of_mem hx;obtain⟨y,hy⟩:∃ y,kids[i]?=some y:=⟨_,akq (by have:=(akv.1 hi).1;rw[h5] at this;exact this)⟩;exact(hk i x y hi hy).one u hux
theorem qV{es:List (List Value)}{x:List Value}{k:Nat}(h:∀ z∈es,z.length=k)(hx:x.length=k):∀ z∈es++[x],z.length=k:=fun z hz=>by
 rcases aky.1 hz with hz|hz
 ·exact h z hz
 ·rw[akw.1 hz];exact hx
theorem mO{es:List (List Value)}{x:List Value}:es.flatten++x=(es++[x]).flatten:=by rw[List.flatten_append];simp
theorem TA{B:Nat}{w0 w:World}{bs:List Bx}{rs:List Rw}{X:Prop}{f:FuncId}{args:Array Value}{e kk n:Nat}{xs:List Value}{K:Value→List Bx→List Rw→World→Prop}(M:aQ B w0 w bs rs)
 (hc:Calls Tryz.prog f args w fun r w'=>∃ u,r=.returned u∧(w'.ownsRow w.heap.size e kk u n xs∧ako w.heap.size w w')) (h:∀ a c w',aQ B w0 w' bs (⟨.slice a n c,e,kk,n,xs⟩::rs)→K (.slice a n c) bs (⟨.slice a n c,e,kk,n,xs⟩::rs) w') :
 X∨∃ R:Value→World→Prop,(Calls Tryz.prog f args w fun e w'=>∃ v,e=.returned v∧R v w')∧∀ v w',R v w'→∃ bs' rs',aQ B w0 w' bs' rs'∧K v bs' rs' w':=
 .inr ⟨_,hc,fun v w' ⟨h1,h2⟩=>by
  obtain⟨a,c,rfl,-,-⟩:=sM h1;have M':=M.sj (r:=⟨.slice a n c,e,kk,n,xs⟩) h2 h1;exact⟨_,_,M',h a c w' M'⟩⟩
theorem Sb{α:Type}{l:List α}{i:Nat}{b:α}{f:List α→Prop}(hi:i<l.length)(h:f (l.set i b)):wk l i b f:=by
 induction l generalizing i f with
 | nil=>exact absurd hi (Nat.not_lt_zero _)
 | cons x r ih=>cases i with
  | zero=>exact h
  | succ i=>exact ih (f:=fun r'=>f (x::r')) (by simpa using hi) h
theorem Fl{B:Nat}{w0 w:World}{bs C4:List Bx}{rs CT:List Rw}{u v:Value}{e kk LV nn mm:Nat}{xs news:List Value}{k:Value→List Bx→List Rw→World→Prop}(i:Nat)(hM:aQ B w0 w bs rs→aQ B w0 w C4 CT)(hr:CT[i]?=some ⟨v,e,kk,nn,xs⟩)(hs:SliceAt w u kk mm news)
 (hb:nn+mm≤maxLen∧(nn+mm)*LV≤140737488355328) (h:∀ a c w',wk CT i ⟨.slice a (nn+mm) c,e,kk,nn+mm,xs++news⟩ fun rs'=>aQ B w0 w' C4 rs'→k (.slice a (nn+mm) c) C4 rs' w') (hW:Nat.beq e 59=false∨w0.heap.size≤B:=by first|exact .inl rfl|exact .inr (Nat.le_refl _)):apO B w0 bs rs w u v e kk LV k:=
 ap i hM hr hs hb (fun v' w'=>Sb (akv.1 hr).1 fun M=>by
  obtain⟨a,c,rfl⟩:=M.form i (v:=v') (e:=e) (k:=kk) (n:=nn+mm) (xs:=xs++news) (by rw[List.getElem?_set_self (akv.1 hr).1]);exact qm (h a c w') M) hW
theorem RowsIn.right{B:Nat}{w:World}{A C:List Rw}(h:RowsIn B w (A++C)):RowsIn B w C:=⟨fun r hr=>h.1 r (aky.2 (.inr hr)),(List.pairwise_append.1 h.2).2.1⟩
theorem RowsIn.left{B:Nat}{w:World}{A C:List Rw}(h:RowsIn B w (A++C)):RowsIn B w A:=⟨fun r hr=>h.1 r (aky.2 (.inl hr)),(List.pairwise_append.1 h.2).1⟩
theorem RowsIn.sub{B:Nat}{w:World}{T T':List Rw}(h:RowsIn B w T)(hs:T'.Sublist T):RowsIn B w T':=⟨fun r hr=>h.1 r (hs.subset hr),h.2.sublist hs⟩
abbrev iY (W:Nat) (v:Value) (ver:Int):Bx:=(W,211,#[v,.int .i64 ver])
def H6(B:Nat)(w0:World)(bs:List Bx)(rs:List Rw)(W:Nat)(ver:Int)(l:List Nat):Ending→World→Prop:=fun r w'=>r=.returned (.tuple #[])∧∃ v,aQ B w0 w' (iY W v ver::bs) (bf v l::rs)
section
variable {B W:Nat} {w0 w w':World} {bs:List Bx} {rs:List Rw} {v:Value} {ver:Int} {xs ys:List Nat}
theorem gX{L:List Bx}{X:Prop}{f:FuncId}{args:Array Value}{l:List Nat}{K:Value→List Bx→List Rw→World→Prop}(i:Nat)(M:aQ B w0 w L (bf v xs::rs))(hi:L[i]?=some (iY W v ver))
 (hc:aQ B w0 w (iY W v ver::L.eraseIdx i) (bf v xs::rs)→Calls Tryz.prog f args w (H6 B w0 (L.eraseIdx i) rs W ver l))
 (h:∀ v w',wk L i (iY W v ver) fun L'=>aQ B w0 w' L' (bf v l::rs)→K (.tuple #[]) L' (bf v l::rs) w') :
 X∨∃ R:Value→World→Prop,(Calls Tryz.prog f args w fun e w'=>∃ v,e=.returned v∧R v w')∧∀ v w',R v w'→∃ bs' rs',aQ B w0 w' bs' rs'∧K v bs' rs' w':=by
 refine .inr ⟨fun r w'=>r=.tuple #[]∧∃ v,aQ B w0 w' (iY W v ver::L.eraseIdx i) (bf v l::rs),(hc (M.wE (qM hi))).mono fun e w' ⟨h1,h2⟩=>⟨_,h1,rfl,h2⟩,?_⟩;rintro _ w' ⟨rfl,v',M'⟩;have M2:=M'.wE (xZ hi);exact⟨_,_,M2,qm (h _ _) M2⟩
theorem bJ{n:Int}(M:aQ B w0 w (iY W v ver::bs) (bf v xs::rs))(hb:xs.length+10≤aT):Calls Tryz.prog 129 #[.pointer (some ⟨W,0,none⟩),.int .i64 n] w (H6 B w0 bs rs W ver (xs++eN n)):=by
 refine d_ M [] (fn:=Tryz.f129) Tryz.func129 rfl Tryz.ntmps129 rfl<|lb 0<|an rfl<|ei (x:=.int .u64 ((n%18446744073709551616).toNat:Int))<|an (fun a w o ho hv=>(eI ho (aY hv) u3 zL).trans (by rw[Kx]))<|TA M (mD (qO (M.r 0 rfl)) (Bo n) hb) fun va vc w1 M1=>lb 0<|an ⟨rfl,rfl⟩ fun w2 M2=>fun M=>⟨rfl,_,M.only (.refl _) (.cons_cons _ (.cons _ (.refl _)))⟩
theorem Mw{n:Int}(M:aQ B w0 w (iY W v ver::bs) rs)(hv:C5 w v xs)(hb:xs.length+10≤aT):Calls Tryz.prog 129 #[.pointer (some ⟨W,0,none⟩),.int .i64 n] w (H6 B w0 bs rs W ver (xs++eN n)):=by
 refine d_ M [] (fn:=Tryz.f129) Tryz.func129 rfl Tryz.ntmps129 rfl<|lb 0<|an rfl<|ei (x:=.int .u64 ((n%18446744073709551616).toNat:Int))<|an (fun a w o ho hv=>(eI ho (aY hv) u3 zL).trans (by rw[Kx]))<|TA M (mD hv (Bo n) hb) fun va vc w1 M1=>lb 0<|an ⟨rfl,rfl⟩ fun w2 M2=>fun M=>⟨rfl,_,M⟩
theorem qJ{s:ByteArray}(M:aQ B w0 w (iY W v ver::bs) (bf v xs::rs))(hb:xs.length+(eS s).length+10≤aT):Calls Tryz.prog 201 #[.pointer (some ⟨W,0,none⟩),.string s] w (H6 B w0 bs rs W ver (xs++eS s)):=by
 have:=JW s;refine d_ M [] (fn:=Tryz.f201) Tryz.func201 rfl Tryz.ntmps201 rfl<|lb 0<|an rfl<|TA M (Mz (qO (M.r 0 rfl)) (by omega)) fun va vc w1 M1=>lb 0<|an ⟨rfl,rfl⟩ fun w2 M2=>fun M=>⟨rfl,_,M.only (.refl _) (.cons_cons _ (.cons _ (.refl _)))⟩
theorem Pj{n:Int}(M:aQ B w0 w (iY W v ver::bs) (bf v xs::rs))(hn:z_ n)(hb:xs.length+10≤aT):Calls Tryz.prog 208 #[.pointer (some ⟨W,0,none⟩),.int .u32 n] w (H6 B w0 bs rs W ver (xs++eN n)):=by
 refine d_ M [] (fn:=Tryz.f208) Tryz.func208 rfl Tryz.ntmps208 rfl<|lb 0<|an rfl<|ei (x:=.int .u64 ((n%18446744073709551616).toNat:Int))<|an (fun a w o ho hv=>(eI ho (aY hv) Ib zL).trans (by rw[Kx]))<|TA M (mD (qO (M.r 0 rfl)) (Bo n) hb) fun va vc w1 M1=>lb 0<|an ⟨rfl,rfl⟩ fun w2 M2=>fun M=>⟨rfl,_,M.only (.refl _) (.cons_cons _ (.cons _ (.refl _)))⟩
theorem II{m:Int}(M:aQ B w0 w (iY W v ver::bs) (bf v xs::rs))(hm:gA m)(hb:xs.length+10≤aT):Calls Tryz.prog 209 #[.pointer (some ⟨W,0,none⟩),.int .i64 m] w (H6 B w0 bs rs W ver (xs++eC m)):=by
 refine d_ M [] (fn:=Tryz.f209) Tryz.func209 rfl Tryz.ntmps209 rfl<|lb 0<|an rfl<|TA M (Pq (qO (M.r 0 rfl)) hm hb) fun va vc w1 M1=>lb 0<|an ⟨rfl,rfl⟩ fun w2 M2=>fun M=>⟨rfl,_,M.only (.refl _) (.cons_cons _ (.cons _ (.refl _)))⟩
theorem Et{b:Bool}(M:aQ B w0 w (iY W v ver::bs) (bf v xs::rs))(hb:xs.length+10≤aT):Calls Tryz.prog 203 #[.pointer (some ⟨W,0,none⟩),.bool b] w (H6 B w0 bs rs W ver (xs++eB b)):=by
 refine d_ M [] (fn:=Tryz.f203) Tryz.func203 rfl Tryz.ntmps203 rfl<|an (fun h=>?_) fun h=>?_
 ·have h:b=true:=h;subst h;exact gX 0 M rfl (fun M=>bJ (n:=1) M hb) fun v3 w3 M3=>fun M=>⟨rfl,v3,M.cast rfl (by rw[← E4];rfl)⟩
 ·have h:b=false:=h;subst h;exact gX 0 M rfl (fun M=>bJ (n:=0) M hb) fun v3 w3 M3=>fun M=>⟨rfl,v3,M.cast rfl (by rw[← E4];rfl)⟩
theorem qK{s:aE}(M:aQ B w0 w (iY W v ver::bs) (bf v xs::rs))(hs:s.Ok)(hb:xs.length+60≤aT):Calls Tryz.prog 204 #[.pointer (some ⟨W,0,none⟩),.agg #[.int .u64 (s.a:Int),.int .u64 (s.b:Int),.int .u64 (s.c:Int),.int .u64 (s.d:Int)]] w (H6 B w0 bs rs W ver (xs++eT s)):=by
 refine d_ M [] (fn:=Tryz.f204) Tryz.func204 rfl Tryz.ntmps204 rfl<|fun g1 w1 M1=>sp [0,1,2,3,7,8] (.alt (.step 4 (.step 5 (.step 6 (.step 9 .done)))) (.step 5 (.step 4 (.step 6 (.step 9 .done))))) [] (by kernel_rfl)<|fun w2 hb2 M2=>⟨?_,?_⟩
 ·exact lb 1<|an rfl<|an rfl<|lb 0<|an rfl<|an rfl<|TA M2 (Gg (qO (M2.r 0 rfl)) hs hb) fun va vc w3 M3=>an rfl<|lb 1<|an ⟨rfl,rfl⟩ fun w4 M4=>an rfl<|fun M=>⟨rfl,_,M.only (.cons _ (.refl _)) (.cons_cons _ (.cons _ (.refl _)))⟩
 ·exact lb 0<|an rfl<|an rfl<|lb 1<|an rfl<|an rfl<|TA M2 (Gg (qO (M2.r 0 rfl)) hs hb) fun va vc w3 M3=>an rfl<|lb 1<|an ⟨rfl,rfl⟩ fun w4 M4=>an rfl<|fun M=>⟨rfl,_,M.only (.cons _ (.refl _)) (.cons_cons _ (.cons _ (.refl _)))⟩
theorem Er{l:iL}(M:aQ B w0 w (iY W v ver::bs) (bf v xs::rs))(hc:fA l.cats)(hb:xs.length+30≤aT):Calls Tryz.prog 205 #[.pointer (some ⟨W,0,none⟩),.agg #[.int .i64 l.ak,.int .u64 (l.cats:Int)]] w (H6 B w0 bs rs W ver (xs++sq l)):=by
 have h1:=aV l.ak;have hb2:(xs++eN l.ak).length+10≤aT:=by simp only[akt];omega
 refine d_ M [] (fn:=Tryz.f205) Tryz.func205 rfl Tryz.ntmps205 rfl<|fun g1 w1 M1=>lb 0<|an rfl<|gX 1 M1 rfl (fun M=>bJ (n:=l.ak) M (by omega)) fun v3 w3 M3=>sp [0,1,2,3,5,8,9] (.alt (.step 4 (.step 6 (.step 7 (.step 10 .done)))) (.step 6 (.step 4 (.step 7 (.step 10 .done))))) [] (by kernel_rfl)<|fun w2 agw M2=>⟨?_,?_⟩
 ·exact lb 1<|an rfl<|an rfl<|lb 0<|an rfl<|an rfl<|TA M2 (mD (qO (M2.r 0 rfl)) hc hb2) fun va vc w3 M3=>an rfl<|lb 1<|an ⟨rfl,rfl⟩ fun w4 M4=>an rfl<|fun M=>⟨rfl,_,(M.only (.cons _ (.refl _)) (.cons_cons _ (.cons _ (.refl _)))).cast rfl (by unfold sq;rw[← List.append_assoc])⟩
 ·exact lb 0<|an rfl<|an rfl<|lb 1<|an rfl<|an rfl<|TA M2 (mD (qO (M2.r 0 rfl)) hc hb2) fun va vc w3 M3=>an rfl<|lb 1<|an ⟨rfl,rfl⟩ fun w4 M4=>an rfl<|fun M=>⟨rfl,_,(M.only (.cons _ (.refl _)) (.cons_cons _ (.cons _ (.refl _)))).cast rfl (by unfold sq;rw[← List.append_assoc])⟩
theorem Ra{l:iL}(h:fA l.cats):(sq l).length≤20:=by
 have:=aV l.ak;have:=bG h;unfold sq;simp only[akt];omega
theorem IG{r:mS}(M:aQ B w0 w (iY W v ver::bs) (bf v xs::rs))(hc:fA r.low.cats)(hd:fA r.high.cats)(hb:xs.length+60≤aT):Calls Tryz.prog 206 #[.pointer (some ⟨W,0,none⟩),.agg #[.int .i64 r.low.ak,.int .u64 (r.low.cats:Int),.int .i64 r.high.ak,.int .u64 (r.high.cats:Int)]] w (H6 B w0 bs rs W ver (xs++uy r)):=by
 have h1:=Ra (l:=r.low) hc;refine d_ M [] (fn:=Tryz.f206) Tryz.func206 rfl Tryz.ntmps206 rfl<|fun g1 w1 M1=>lb 0<|an rfl<|gX 1 M1 rfl (fun M=>Er (l:=r.low) M hc (by omega)) fun v3 w3 M3=>lb 0<|an rfl<|gX 1 M3 rfl (fun M=>Er (l:=r.high) M hd (by simp only[akt];omega)) fun v4 w4 M4=>fun M=>⟨rfl,v4,(M.only (.cons _ (.refl _)) (.refl _)).cast rfl (by unfold uy;rw[← List.append_assoc])⟩
theorem Dr{c:eG}(M:aQ B w0 w (iY W v ver::bs) (bf v xs::rs))(hc:fA c.rng.low.cats)(hd:fA c.rng.high.cats)(hb:xs.length+100≤aT):Calls Tryz.prog 210 #[.pointer (some ⟨W,0,none⟩),.agg c.cells.toArray] w (H6 B w0 bs rs W ver (xs++vD c)):=by
 have h1:=aV c.user;have h2:=aV c.role;have h3:=aV c.typ;refine d_ M [] (fn:=Tryz.f210) Tryz.func210 rfl Tryz.ntmps210 rfl<|fun g1 w1 M1=>lb 0<|an rfl<|gX 1 M1 rfl (fun M=>bJ (n:=c.user) M (by omega)) fun v3 w3 M3=>lb 0<|an rfl<|gX 1 M3 rfl (fun M=>bJ (n:=c.role) M (by simp only[akt];omega)) fun v4 w4 M4=>lb 0<|an rfl<|gX 1 M4 rfl (fun M=>bJ (n:=c.typ) M (by simp only[akt];omega)) fun v5 w5 M5=>lb 0<|an rfl<|gX 1 M5 rfl (fun M=>IG (r:=c.rng) M hc hd (by simp only[akt];omega)) fun v6 w6 M6=>fun M=>⟨rfl,v6,(M.only (.cons _ (.refl _)) (.refl _)).cast rfl (by unfold vD;simp only[List.append_assoc])⟩
theorem AB{tv:Value}{l:List ByteArray}(M:Mm w0 w (iY W v ver::bs) (bf v xs::rs))(hv:aN w0 tv l)(hb:xs.length+(eL eS l).length+60≤aT):
 Calls Tryz.prog 202 #[.pointer (some ⟨W,0,none⟩),tv] w (H6 w0.heap.size w0 bs rs W ver (xs++eL eS l)):=by
 obtain⟨la,lc',rfl,hl1,hl2,-⟩:=SliceAt.form hv (by decide);have hle:(eL eS l).length=(eN (l.length:Int)).length+(l.flatMap eS).length:=by unfold eL;rw[akt]
 have hne:=aV (l.length:Int);refine d_ M [] (fn:=Tryz.f202) Tryz.func202 rfl Tryz.ntmps202 rfl<|gX 0 M rfl (fun M=>bJ (n:=(l.length:Int)) M (by omega)) fun v3 w3 M3=>lp (ι:=Nat×Value) (fun z=>[(4,.int .i64 (z.1:Int))]) (fun z=>iY W z.2 ver::bs) (fun z=>bf z.2 (xs++(eN (l.length:Int)++(l.take z.1).flatMap eS))::rs) (fun z _=>z.1≤l.length) (fun z=>l.length-z.1) (0,v3)<|an ⟨⟨rfl,trivial⟩,fun M=>⟨M.cast rfl (by simp),akp _⟩⟩ ?_
 rintro⟨j,u⟩ w4 M4 hj;have hj:j≤l.length:=hj;refine an (fun h=>?_) fun h=>?_
 ·have hlt:j<l.length:=Int.ofNat_lt.1 (of_decide_eq_true h);obtain⟨s,hn1⟩:∃ s,l[j]?=some s:=⟨_,akq hlt⟩;have iZ:=fZ eS hn1;obtain⟨b,off,e,hc⟩:=hv.elt (f:=aR) (fun _=>rfl) (by decide) hn1 hlt;exact ia<|an ⟨e,rfl,hlt⟩<|lc (x:=.string s)<|an (bZ M4.below hc 0 _ rfl)<|gX 0 M4 rfl (fun M=>qJ M (by simp only[akt] at *;omega)) fun v6 w6 M6=>an (by omega)<|bk (j+1,v6) ⟨rfl,trivial⟩ (fun M=>⟨M.cast rfl (by rw[List.take_add_one,hn1,aku];simp),hlt⟩) (by dsimp only;omega)
 ·have hge:j=l.length:=Nat.le_antisymm hj (Nat.le_of_not_lt fun h'=>of_decide_eq_false h (Int.ofNat_lt.2 h'));subst hge;exact fun M=>⟨rfl,u,M.cast rfl (congrArg (fun t=>bf u (xs++(eN (l.length:Int)++t.flatMap eS))::rs) aks)⟩
end
section
variable {W:Nat} {ver:Int}
theorem Pm:∀ (e:aS) (w0 w:World) (cs:List Value) (bs:List Bx) (rs:List Rw) (v:Value) (xs:List Nat),bq w0 cs e→e.Ok→Mm w0 w (iY W v ver::bs) (bf v xs::rs)→xs.length+(eE e).length+200≤aT →
 Calls Tryz.prog 207 #[.pointer (some ⟨W,0,none⟩),.agg cs.toArray] w (H6 w0.heap.size w0 bs rs W ver (xs++eE e)):=by
 refine aS.ind fun e ih=>?_
 intro w0 w cs bs rs v xs hE hok M hb;obtain⟨nv,kv,rfl,uH,hkv⟩:=hE.open;obtain⟨na,nc,rfl,-⟩:=aN.get uH;have hkv':=hkv;obtain⟨ka,kc,rfl,-,hkm,-⟩:=aj.form hkv' (by decide);have hee:=Rc e;have hel:(eE e).length=(wA e.op e.a e.rel e.b e.set).length+(e.kids.flatMap eE).length:=by rw[hee,akt]
 have h1:=aV e.op;have h2:=aV e.a;have h3:=aV e.rel;have hhd:=LK hok;refine d_ M [12] (fn:=Tryz.f207) Tryz.func207 rfl Tryz.ntmps207 rfl<|fun g1 w1 M1=>lb 0<|an rfl<|gX 1 M1 rfl (fun M=>bJ (n:=e.op) M (by omega)) fun v3 w3 M3=>jo (ι:=Value) (fun _=>[]) (fun z=>(g1,84,#[.int .i64 e.op,.int .i64 e.a,.int .i64 e.rel,.int .i64 e.b,.slice na e.names.length nc,.int .u64 e.set.a,.int .u64 e.set.b,.int .u64 e.set.c,.int .u64 e.set.d,.slice ka e.kids.length kc])::iY W z ver::bs) (fun z=>bf z (xs++wA e.op e.a e.rel e.b e.set)::rs) (fun _ _=>True)<|an ?_ ?_
 ·refine lb 0<|an rfl<|an (fun h=>?_) fun h=>?_
  ·have hop:e.op=1:=of_decide_eq_true h;exact lb 0<|an rfl<|gX 1 M3 rfl (fun M=>bJ (n:=e.a) M (by simp only[akt];omega)) fun v5 w5 M5=>je v5 trivial (fun M=>⟨M.cast rfl (by unfold wA;rw[if_pos hop];simp),trivial⟩)
  ·have hop1:e.op≠1:=of_decide_eq_false h;refine an (fun h=>?_) fun h=>?_
   ·have hop:e.op=8:=of_decide_eq_true h;exact lb 0<|an rfl<|gX 1 M3 rfl (fun M=>bJ (n:=e.a) M (by simp only[akt];omega)) fun v5 w5 M5=>lb 0<|an rfl<|gX 1 M5 rfl (fun M=>bJ (n:=e.rel) M (by simp only[akt];omega)) fun v6 w6 M6=>lb 0<|an rfl<|gX 1 M6 rfl (fun M=>bJ (n:=e.b) M (by simp only[akt];omega)) fun v7 w7 M7=>je v7 trivial (fun M=>⟨M.cast rfl (by unfold wA;rw[if_neg hop1,if_pos hop];simp),trivial⟩)
   ·have hop2:e.op≠8:=of_decide_eq_false h;refine an (fun h=>?_) fun h=>?_
    ·have hop:e.op=9:=of_decide_eq_true h;exact lb 0<|an rfl<|gX 1 M3 rfl (fun M=>bJ (n:=e.a) M (by simp only[akt];omega)) fun v5 w5 M5=>lb 0<|an rfl<|gX 1 M5 rfl (fun M=>qK (s:=e.set) M hok.set' (by simp only[akt];omega)) fun v7 w7 M7=>je v7 trivial (fun M=>⟨M.cast rfl (by unfold wA;rw[if_neg hop1,if_neg hop2,if_pos hop];simp),trivial⟩)
    ·have Wa:e.op≠9:=of_decide_eq_false h;exact je v3 trivial (fun M=>⟨M.cast rfl (by unfold wA;rw[if_neg hop1,if_neg hop2,if_neg Wa];simp),trivial⟩)
 ·rintro v8 w8 M8 -;refine lp (ι:=Nat×Value) (fun z=>[(4,.int .i64 (z.1:Int))]) (fun z=>(g1,84,#[.int .i64 e.op,.int .i64 e.a,.int .i64 e.rel,.int .i64 e.b,.slice na e.names.length nc,.int .u64 e.set.a,.int .u64 e.set.b,.int .u64 e.set.c,.int .u64 e.set.d,.slice ka e.kids.length kc])::iY W z.2 ver::bs) (fun z=>bf z.2 (xs++(wA e.op e.a e.rel e.b e.set++(e.kids.take z.1).flatMap eE))::rs) (fun z _=>z.1≤e.kids.length) (fun z=>e.kids.length-z.1) (0,v8)<|an ⟨⟨rfl,trivial⟩,fun M=>⟨M.cast rfl (by simp),akp _⟩⟩ ?_;rintro⟨j,u⟩ w9 M9 hj;have hj:j≤e.kids.length:=hj;refine lb 0<|an rfl<|an (fun h=>?_) fun h=>?_
  ·have hlt:j<e.kids.length:=Int.ofNat_lt.1 (of_decide_eq_true h);obtain⟨y,hy⟩:∃ y,e.kids[j]?=some y:=⟨_,akq hlt⟩;have iZ:=fZ eE hy;have iK:=akr hy;obtain⟨b,off,x,e1,AY,hc⟩:=aj.elt hkv (by decide) hy;have Wu:=AY;obtain⟨PB,kv',rfl,Wc,Wi⟩:=AY.open;obtain⟨_,_,rfl,-⟩:=aN.get Wc;obtain⟨_,_,rfl,-,-,-⟩:=aj.form Wi (by decide);exact lb 0<|an rfl<|ia<|an ⟨e1,rfl,hlt⟩<|lc<|an (bZ M9.below hc)<|gX 1 M9 rfl (fun M=>ih y iK w0 _ _ _ _ _ _ Wu (hok.BZ y iK) M (by simp only[akt] at *;omega)) fun v12 Dh y9=>an (by omega)<|bk (j+1,v12) ⟨rfl,trivial⟩ (fun M=>⟨M.cast rfl (by rw[List.take_add_one,hy,aku];simp),hlt⟩) (by dsimp only;omega)
  ·have hge:j=e.kids.length:=Nat.le_antisymm hj (Nat.le_of_not_lt fun h'=>of_decide_eq_false h (Int.ofNat_lt.2 h'));subst hge;exact fun M=>⟨rfl,u,(M.only (.cons _ (.refl _)) (.refl _)).cast rfl (by rw[hee];exact congrArg (fun t=>bf u (xs++(wA e.op e.a e.rel e.b e.set++t.flatMap eE))::rs) aks)⟩
end
end Go.Proofs.YtkkmjdceiocnbaaGreatDoor

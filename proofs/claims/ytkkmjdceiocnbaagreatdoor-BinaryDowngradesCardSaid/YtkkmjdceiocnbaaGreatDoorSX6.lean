import Derived.Test.YtkkmjdceiocnbaaGreatDoorSX5
open List renaming length_append→ajd,getElem?_eq_getElem→ajf,mem_of_getElem?→ajg,flatMap_append→ajh,take_length→aji
open Nat renaming zero_le→aje
set_option maxRecDepth 100000
set_option maxHeartbeats 8000000
set_option linter.unusedSectionVars false
set_option linter.unusedSimpArgs false
set_option linter.unusedVariables false
namespace Go.Proofs.YtkkmjdceiocnbaaGreatDoor
open Go Go.RowKit
section
variable {W:Nat} {ver:Int}
theorem Ib{e:aI}(h:e.Ok):(qV e.op e.a e.rel e.b e.set).length≤90:=by
 have h1:=aG e.op;have h2:=aG e.a;have h3:=aG e.rel;have h4:=aG e.b;have h5:=fM h.set';unfold qV;split
 ·simp only[ajd];omega
 ·split
  ·simp only[ajd];omega
  ·split
   ·simp only[ajd];omega
   ·simp only[ajd,List.length_nil];omega
theorem La:∀ (e:aI) (w0 w:World) (cs:List Value) (bs:List Bx) (rs:List Rw) (v:Value) (lr:Int) (xs:List Nat),bV w0 cs e→e.Ok→Mm w0 w (bC W v lr ver::bs) (aH v xs::rs)→jW bs rs→xs.length+(eE e).length+300≤aF →
 Calls Tryz.prog 105 #[.pointer (some ⟨W,0,none⟩),.agg cs.toArray] w (mJ w0.heap.size w0 bs rs W ver (xs++eE e)):=by
 refine aI.ind fun e ih=>?_
 intro w0 w cs bs rs v lr xs hE hok M h5 hb;obtain⟨nv,kv,rfl,vh,hkv⟩:=hE.open;obtain⟨na,nc,rfl,-⟩:=aJ.get vh;have hkv':=hkv;obtain⟨ka,kc,rfl,-,hkm,-⟩:=au.form hkv' (by decide);have hee:=Nz e;have hel:(eE e).length=(qV e.op e.a e.rel e.b e.set).length+(e.kids.flatMap eE).length:=by rw[hee,ajd]
 have h1:=aG e.op;have h2:=aG e.a;have hhd:=Ib hok;refine bY M [10] (fn:=Tryz.f105) Tryz.func105 rfl Tryz.ntmps105 rfl<|fun g1 w1 M1=>lb 0<|an rfl<|fun g2 w2 M2=>cE 2 M2 rfl (fun M=>bn (ns:=[e.op]) M h5.cons (by simp) (by omega)) fun v3 kL w3 M3=>jo (ι:=Value×Int) (fun _=>[]) (fun z=>(g1,84,#[.int .i64 e.op,.int .i64 e.a,.int .i64 e.rel,.int .i64 e.b,.slice na e.names.length nc,.int .u64 e.set.a,.int .u64 e.set.b,.int .u64 e.set.c,.int .u64 e.set.d,.slice ka e.kids.length kc])::bC W z.1 z.2 ver::bs) (fun z=>aH z.1 (xs++qV e.op e.a e.rel e.b e.set)::rs) (fun _ _=>True)<|an ?_ ?_
 ·refine lb 1<|an rfl<|an (fun h=>?_) fun h=>?_
  ·have hop:e.op=1:=of_decide_eq_true h;exact lb 1<|an rfl<|fun g4 w4 M4=>cE 3 M4 rfl (fun M=>bn (ns:=[e.a]) M h5.cons.cons (by simp) (by simp only[ajd,List.flatMap_cons,List.flatMap_nil,List.length_nil];omega)) fun v5 Js w5 M5=>je (v5,Js) trivial (fun M=>⟨(M.only (.cons _ (.cons _ (.refl _))) (.refl _)).cast rfl (by unfold qV;rw[if_pos hop];simp),trivial⟩)
  ·have hop1:e.op≠1:=of_decide_eq_false h;refine an (fun h=>?_) fun h=>?_
   ·have hop:e.op=8:=of_decide_eq_true h;exact lb 1<|an rfl<|lb 1<|an rfl<|lb 1<|an rfl<|fun g4 w4 M4=>cE 3 M4 rfl (fun M=>bn (ns:=[e.a,e.rel,e.b]) M h5.cons.cons (by simp) (by simp only[ajd,List.flatMap_cons,List.flatMap_nil,List.length_nil];omega)) fun v5 Js w5 M5=>je (v5,Js) trivial (fun M=>⟨(M.only (.cons _ (.cons _ (.refl _))) (.refl _)).cast rfl (by unfold qV;rw[if_neg hop1,if_pos hop];simp),trivial⟩)
   ·have hop2:e.op≠8:=of_decide_eq_false h;refine an (fun h=>?_) fun h=>?_
    ·have hop:e.op=9:=of_decide_eq_true h;exact lb 1<|an rfl<|fun g4 w4 M4=>cE 3 M4 rfl (fun M=>bn (ns:=[e.a]) M h5.cons.cons (by simp) (by simp only[ajd,List.flatMap_cons,List.flatMap_nil,List.length_nil];omega)) fun v5 Js w5 M5=>lb 2<|an rfl<|fun g6 w6 M6=>cE 4 M6 rfl (fun M=>ox (ss:=[e.set]) M h5.cons.cons.cons (by simpa using hok.set') (by simp) (by simp only[ajd,List.flatMap_cons,List.flatMap_nil,List.length_nil];omega)) fun v7 qQ w7 M7=>je (v7,qQ) trivial (fun M=>⟨(M.only (.cons _ (.cons _ (.cons _ (.refl _)))) (.refl _)).cast rfl (by unfold qV;rw[if_neg hop1,if_neg hop2,if_pos hop];simp),trivial⟩)
    ·have Ti:e.op≠9:=of_decide_eq_false h;exact je (v3,kL) trivial (fun M=>⟨(M.only (.cons _ (.refl _)) (.refl _)).cast rfl (by unfold qV;rw[if_neg hop1,if_neg hop2,if_neg Ti];simp),trivial⟩)
 ·rintro⟨v8,X6⟩ w8 M8 -;refine lb 0<|an rfl<|lp (ι:=Nat×Value×Int) (fun z=>[(46,.int .i64 (z.1:Int))]) (fun z=>(g1,84,#[.int .i64 e.op,.int .i64 e.a,.int .i64 e.rel,.int .i64 e.b,.slice na e.names.length nc,.int .u64 e.set.a,.int .u64 e.set.b,.int .u64 e.set.c,.int .u64 e.set.d,.slice ka e.kids.length kc])::bC W z.2.1 z.2.2 ver::bs) (fun z=>aH z.2.1 (xs++(qV e.op e.a e.rel e.b e.set++(e.kids.take z.1).flatMap eE))::rs) (fun z _=>z.1≤e.kids.length) (fun z=>e.kids.length-z.1) (0,v8,X6)<|an ⟨⟨rfl,trivial⟩,fun M=>⟨M.cast rfl (by simp),aje _⟩⟩ ?_;rintro⟨j,u,q⟩ w9 M9 hj;have hj:j≤e.kids.length:=hj;refine an (fun h=>?_) fun h=>?_
  ·have hlt:j<e.kids.length:=Int.ofNat_lt.1 (of_decide_eq_true h);obtain⟨y,hy⟩:∃ y,e.kids[j]?=some y:=⟨_,ajf hlt⟩;have fB:=cS eE hy;have gY:=ajg hy;obtain⟨b,off,x,e1,WU,hc⟩:=au.elt hkv (by decide) hy;have TK:=WU;obtain⟨SA,kv',rfl,Tk,Tn⟩:=WU.open;obtain⟨_,_,rfl,-⟩:=aJ.get Tk;obtain⟨_,_,rfl,-,-,-⟩:=au.form Tn (by decide);exact ia<|an ⟨e1,rfl,hlt⟩<|lc<|an (cL M9.below hc)<|ei<|an Aw fun g10 pE jH=>lb 0<|an ⟨rfl,rfl⟩ fun uO M11=>lb 0<|an rfl<|cE 2 M11 rfl (fun M=>ih y gY w0 _ _ _ _ _ _ _ TK (hok.Hv y gY) M h5.cons.cons (by simp only[ajd] at *;omega)) fun v12 SJ zi q5=>an (by omega)<|bk (j+1,v12,SJ) ⟨rfl,trivial⟩ (fun M=>⟨(M.only (.cons _ (.refl _)) (.refl _)).cast rfl (by rw[List.take_add_one,hy,ajh];simp),hlt⟩) (by dsimp only;omega)
  ·have hge:j=e.kids.length:=Nat.le_antisymm hj (Nat.le_of_not_lt fun h'=>of_decide_eq_false h (Int.ofNat_lt.2 h'));subst hge;exact fun M=>⟨rfl,u,q,(M.only (.cons _ (.refl _)) (.refl _)).cast rfl (by rw[hee];exact congrArg (fun t=>aH u (xs++(qV e.op e.a e.rel e.b e.set++t.flatMap eE))::rs) aji)⟩
end
section
variable {W gc:Nat} {w0 w:World} {bs:List Bx} {rs:List Rw} {v1:Value} {lr:Int} {v:Nat} {ver:Int} {xs:List Nat}
theorem dL{B g:Nat}{L:List Bx}{rs:List Rw}{p:Value}(M:aC B w0 w L rs)(h:((g,92,#[p]):Bx)∈L):w.cell? ⟨g,0,none⟩=some p:=
 (q7.whole (M.box _ h) rfl).cell 0
theorem F4(s:ByteArray):(eS s).length=(aL s.size).length+s.size:=by unfold eS;rw[ajd,dF]
theorem ku{B:Nat}{s:ByteArray}(M:aC B w0 w (bC W v1 lr ver::bs) (aH v1 xs::rs))(h5:jW bs rs)(hb:xs.length+(eS s).length+10≤aF):
 Calls Tryz.prog 88 #[.pointer (some ⟨W,0,none⟩),.string s] w (mJ B w0 bs rs W ver (xs++eS s)):=KY M h5 (by have:=F4 s;omega)
theorem tW{B:Nat}{m:Int}(M:aC B w0 w (bC W v1 lr ver::bs) (aH v1 xs::rs))(h5:jW bs rs)(hm:eF m)(hb:xs.length+10≤aF):
 Calls Tryz.prog 109 #[.pointer (some ⟨W,0,none⟩),.int .i64 m] w (mJ B w0 bs rs W ver (xs++eC m)):=KZ M h5 hm hb
theorem KX{B:Nat}{n:Int}(M:aC B w0 w (bC W v1 lr ver::bs) (aH v1 xs::rs))(h5:jW bs rs)(hn:Ed n)(hb:xs.length+100≤aF):
 Calls Tryz.prog 108 #[.pointer (some ⟨W,0,none⟩),.int .u32 n] w (mJ B w0 bs rs W ver (xs++eN n)):=by
 obtain⟨m,rfl⟩:=Int.eq_ofNat_of_zero_le hn.1;exact KW M h5 (by have:=hn.2;omega) hb
theorem c87{x:jU}{cs:List Value}(hx:qC w0 cs x)(hok:jU.Ok x)(M:Mm w0 w (bC W v1 lr ver::bs) (aH v1 xs::rs))(h5:jW bs rs)(hg:((gc,92,#[.pointer (some ⟨W,0,none⟩)]):Bx)∈bs)(hb:xs.length+(gT x).length+500≤aF):
 Calls Tryz.prog 87 #[.agg cs.toArray,.pointer (some ⟨gc,0,none⟩)] w (mJ w0.heap.size w0 bs rs W ver (xs++gT x)):=by
 obtain⟨pv,rfl,hl2⟩:=hx;have fB:=hl2;obtain⟨pa,pc,rfl,-⟩:=aJ.get fB;have hl:(gT x).length=(eS x.name).length+((eL eS x.perms).length):=by unfold gT;simp only[ajd]
 refine bY M [] (fn:=Tryz.f87) Tryz.func87 rfl Tryz.ntmps87 rfl<|fun g1 w1 M1=>?_
 exact lc (x:=.pointer (some ⟨W,0,none⟩))<|an (dL M1 (by simp[hg]))<|lb 0<|an rfl<|cE 1 M1 rfl (fun M=>ku M h5.cons (by(try simp only[ajd,List.flatMap_cons,List.flatMap_nil,List.length_nil]);omega)) fun v2 lr2 w2 M2=>lc (x:=.pointer (some ⟨W,0,none⟩))<|an (dL M2 (by simp[hg]))<|lb 0<|an rfl<|cE 1 M2 rfl (fun M=>vK M h5.cons hl2 (by(try simp only[ajd,List.flatMap_cons,List.flatMap_nil,List.length_nil]);omega)) fun v3 kL w3 M3=>fun M=>⟨rfl,_,_,(M.only (.cons _ (.refl _)) (.refl _)).cast rfl (by unfold gT;simp[List.append_assoc])⟩
theorem c91{x:gE}{cs:List Value}(hx:jY w0 cs x)(hok:gE.Ok x)(M:Mm w0 w (bC W v1 lr (v:Int)::bs) (aH v1 xs::rs))(h5:jW bs rs)(hg:((gc,92,#[.pointer (some ⟨W,0,none⟩)]):Bx)∈bs)(hb:xs.length+(eTyp v x).length+500≤aF):
 Calls Tryz.prog 91 #[.agg cs.toArray,.pointer (some ⟨gc,0,none⟩)] w (mJ w0.heap.size w0 bs rs W (v:Int) (xs++eTyp v x)):=by
 obtain⟨pv,rfl,hl2⟩:=hx;have fB:=hl2;obtain⟨pa,pc,rfl,-⟩:=aJ.get fB;have hl:(eTyp v x).length=(eS x.name).length+((eL eS x.jy).length+((if 2≤v then eB x.perm else []).length)):=by unfold eTyp;simp only[ajd]
 refine bY M [] (fn:=Tryz.f91) Tryz.func91 rfl Tryz.ntmps91 rfl<|fun g1 w1 M1=>?_
 exact lc (x:=.pointer (some ⟨W,0,none⟩))<|an (dL M1 (by simp[hg]))<|lb 0<|an rfl<|cE 1 M1 rfl (fun M=>ku M h5.cons (by(try simp only[ajd,List.flatMap_cons,List.flatMap_nil,List.length_nil]);omega)) fun v2 lr2 w2 M2=>lc (x:=.pointer (some ⟨W,0,none⟩))<|an (dL M2 (by simp[hg]))<|lb 0<|an rfl<|cE 1 M2 rfl (fun M=>vK M h5.cons hl2 (by(try simp only[ajd,List.flatMap_cons,List.flatMap_nil,List.length_nil]);omega)) fun v3 kL w3 M3=>lc (x:=.pointer (some ⟨W,0,none⟩))<|an (dL M3 (by simp[hg]))<|lb 1<|an rfl<|an (fun h=>have hv:2≤v:=by { have:=of_decide_eq_true h;omega };have hif:(if 2≤v then eB x.perm else []).length=(eB x.perm).length:=(by rw[if_pos hv]);lc (x:=.pointer (some ⟨W,0,none⟩))<|an (dL M3 (by simp[hg]))<|lb 0<|an rfl<|cE 1 M3 rfl (fun M=>AO M h5.cons (by(try simp only[ajd,List.flatMap_cons,List.flatMap_nil,List.length_nil]);omega)) fun v5 Js w5 M5=>fun M=>⟨rfl,_,_,(M.only (.cons _ (.refl _)) (.refl _)).cast rfl (by unfold eTyp;rw[if_pos hv];simp[List.append_assoc])⟩) fun h=>have hv:¬ 2≤v:=(by { have:=of_decide_eq_false h;omega });fun M=>⟨rfl,_,_,(M.only (.cons _ (.refl _)) (.refl _)).cast rfl (by unfold eTyp;rw[if_neg hv];simp[List.append_assoc])⟩
theorem c94{x:jG}(hok:jG.Ok x)(M:Mm w0 w (bC W v1 lr ver::bs) (aH v1 xs::rs))(h5:jW bs rs)(hg:((gc,92,#[.pointer (some ⟨W,0,none⟩)]):Bx)∈bs)(hb:xs.length+(gU x).length+500≤aF):
 Calls Tryz.prog 94 #[.agg x.cells.toArray,.pointer (some ⟨gc,0,none⟩)] w (mJ w0.heap.size w0 bs rs W ver (xs++gU x)):=by
 have hl:(gU x).length=(eS x.name).length+((eT x.types).length):=by unfold gU;simp only[ajd]
 refine bY M [] (fn:=Tryz.f94) Tryz.func94 rfl Tryz.ntmps94 rfl<|fun g1 w1 M1=>?_
 exact lc (x:=.pointer (some ⟨W,0,none⟩))<|an (dL M1 (by simp[hg]))<|lb 0<|an rfl<|cE 1 M1 rfl (fun M=>ku M h5.cons (by(try simp only[ajd,List.flatMap_cons,List.flatMap_nil,List.length_nil]);omega)) fun v2 lr2 w2 M2=>lc (x:=.pointer (some ⟨W,0,none⟩))<|an (dL M2 (by simp[hg]))<|lb 0<|an rfl<|fun g3 w3 M3=>cE 2 M3 rfl (fun M=>ox (ss:=[x.types]) M h5.cons (by simpa using hok.types) (by simp) (by(try simp only[ajd,List.flatMap_cons,List.flatMap_nil,List.length_nil]);omega)) fun v4 Hq w4 M4=>fun M=>⟨rfl,_,_,(M.only (.cons _ (.cons _ (.refl _))) (.refl _)).cast rfl (by unfold gU;simp[List.append_assoc])⟩
theorem c97{x:eM}(hok:eM.Ok x)(M:Mm w0 w (bC W v1 lr ver::bs) (aH v1 xs::rs))(h5:jW bs rs)(hg:((gc,92,#[.pointer (some ⟨W,0,none⟩)]):Bx)∈bs)(hb:xs.length+(gQ x).length+500≤aF):
 Calls Tryz.prog 97 #[.agg x.cells.toArray,.pointer (some ⟨gc,0,none⟩)] w (mJ w0.heap.size w0 bs rs W ver (xs++gQ x)):=by
 have hl:(gQ x).length=(eS x.name).length+((eT x.types).length+((eT x.next).length)):=by unfold gQ;simp only[ajd]
 refine bY M [] (fn:=Tryz.f97) Tryz.func97 rfl Tryz.ntmps97 rfl<|fun g1 w1 M1=>?_
 exact lc (x:=.pointer (some ⟨W,0,none⟩))<|an (dL M1 (by simp[hg]))<|lb 0<|an rfl<|cE 1 M1 rfl (fun M=>ku M h5.cons (by(try simp only[ajd,List.flatMap_cons,List.flatMap_nil,List.length_nil]);omega)) fun v2 lr2 w2 M2=>lc (x:=.pointer (some ⟨W,0,none⟩))<|an (dL M2 (by simp[hg]))<|lb 0<|an rfl<|lb 0<|an rfl<|fun g3 w3 M3=>cE 2 M3 rfl (fun M=>ox (ss:=[x.types,x.next]) M h5.cons (by simpa using⟨hok.types,hok.next⟩) (by simp) (by(try simp only[ajd,List.flatMap_cons,List.flatMap_nil,List.length_nil]);omega)) fun v4 Hq w4 M4=>fun M=>⟨rfl,_,_,(M.only (.cons _ (.cons _ (.refl _))) (.refl _)).cast rfl (by unfold gQ;simp[List.append_assoc])⟩
theorem c99{x:jr}(hok:jr.Ok x)(M:Mm w0 w (bC W v1 lr ver::bs) (aH v1 xs::rs))(h5:jW bs rs)(hg:((gc,92,#[.pointer (some ⟨W,0,none⟩)]):Bx)∈bs)(hb:xs.length+(gM x).length+500≤aF):
 Calls Tryz.prog 99 #[.agg x.cells.toArray,.pointer (some ⟨gc,0,none⟩)] w (mJ w0.heap.size w0 bs rs W ver (xs++gM x)):=by
 have hl:(gM x).length=(eS x.name).length+((eT x.roles).length+((ng x.dflt).length+((oR x.rng).length))):=by unfold gM;simp only[ajd]
 refine bY M [] (fn:=Tryz.f99) Tryz.func99 rfl Tryz.ntmps99 rfl<|fun g1 w1 M1=>?_
 exact lc (x:=.pointer (some ⟨W,0,none⟩))<|an (dL M1 (by simp[hg]))<|lb 0<|an rfl<|cE 1 M1 rfl (fun M=>ku M h5.cons (by(try simp only[ajd,List.flatMap_cons,List.flatMap_nil,List.length_nil]);omega)) fun v2 lr2 w2 M2=>lc (x:=.pointer (some ⟨W,0,none⟩))<|an (dL M2 (by simp[hg]))<|lb 0<|an rfl<|fun g3 w3 M3=>cE 2 M3 rfl (fun M=>ox (ss:=[x.roles]) M h5.cons (by simpa using hok.roles) (by simp) (by(try simp only[ajd,List.flatMap_cons,List.flatMap_nil,List.length_nil]);omega)) fun v4 Hq w4 M4=>lc (x:=.pointer (some ⟨W,0,none⟩))<|an (dL M4 (by simp[hg]))<|lb 1<|an rfl<|cE 2 M4 rfl (fun M=>AL (l:=x.dflt) M h5.cons.cons hok.dflt.cats (by(try simp only[ajd,List.flatMap_cons,List.flatMap_nil,List.length_nil]);omega)) fun v5 Js w5 M5=>lc (x:=.pointer (some ⟨W,0,none⟩))<|an (dL M5 (by simp[hg]))<|lb 1<|an rfl<|cE 2 M5 rfl (fun M=>Ei (r:=x.rng) M h5.cons.cons hok.rng.low.cats hok.rng.high.cats (by(try simp only[ajd,List.flatMap_cons,List.flatMap_nil,List.length_nil]);omega)) fun v6 KF w6 M6=>fun M=>⟨rfl,_,_,(M.only (.cons _ (.cons _ (.refl _))) (.refl _)).cast rfl (by unfold gM;simp[List.append_assoc])⟩
theorem abl{x:jV}(hok:jV.Ok x)(M:Mm w0 w (bC W v1 lr ver::bs) (aH v1 xs::rs))(h5:jW bs rs)(hg:((gc,92,#[.pointer (some ⟨W,0,none⟩)]):Bx)∈bs)(hb:xs.length+(fN x).length+500≤aF):
 Calls Tryz.prog 103 #[.agg x.cells.toArray,.pointer (some ⟨gc,0,none⟩)] w (mJ w0.heap.size w0 bs rs W ver (xs++fN x)):=by
 have hl:(fN x).length=(eS x.name).length+((eB x.val).length):=by unfold fN;simp only[ajd]
 refine bY M [] (fn:=Tryz.f103) Tryz.func103 rfl Tryz.ntmps103 rfl<|fun g1 w1 M1=>?_
 exact lc (x:=.pointer (some ⟨W,0,none⟩))<|an (dL M1 (by simp[hg]))<|lb 0<|an rfl<|cE 1 M1 rfl (fun M=>ku M h5.cons (by(try simp only[ajd,List.flatMap_cons,List.flatMap_nil,List.length_nil]);omega)) fun v2 lr2 w2 M2=>lc (x:=.pointer (some ⟨W,0,none⟩))<|an (dL M2 (by simp[hg]))<|lb 0<|an rfl<|cE 1 M2 rfl (fun M=>AO M h5.cons (by(try simp only[ajd,List.flatMap_cons,List.flatMap_nil,List.length_nil]);omega)) fun v3 kL w3 M3=>fun M=>⟨rfl,_,_,(M.only (.cons _ (.refl _)) (.refl _)).cast rfl (by unfold fN;simp[List.append_assoc])⟩
theorem abk{x:dz}(hok:dz.Au x)(M:Mm w0 w (bC W v1 lr ver::bs) (aH v1 xs::rs))(h5:jW bs rs)(hg:((gc,92,#[.pointer (some ⟨W,0,none⟩)]):Bx)∈bs)(hb:xs.length+(gO x).length+500≤aF):
 Calls Tryz.prog 107 #[.agg x.cells.toArray,.pointer (some ⟨gc,0,none⟩)] w (mJ w0.heap.size w0 bs rs W ver (xs++gO x)):=by
 have hl:(gO x).length=(eN x.kind).length+((eT x.src).length+((eT x.tgt).length+((eB x.self).length+((eN x.cls).length+((eN x.perms).length+((eC x.cond).length)))))):=by unfold gO;simp only[ajd]
 refine bY M [] (fn:=Tryz.f107) Tryz.func107 rfl Tryz.ntmps107 rfl<|fun g1 w1 M1=>?_
 exact lc (x:=.pointer (some ⟨W,0,none⟩))<|an (dL M1 (by simp[hg]))<|lb 0<|an rfl<|fun g2 w2 M2=>cE 2 M2 rfl (fun M=>bn (ns:=[x.kind]) M h5.cons (by simp) (by(try simp only[ajd,List.flatMap_cons,List.flatMap_nil,List.length_nil]);omega)) fun v3 kL w3 M3=>lc (x:=.pointer (some ⟨W,0,none⟩))<|an (dL M3 (by simp[hg]))<|lb 1<|an rfl<|lb 1<|an rfl<|fun g4 w4 M4=>cE 3 M4 rfl (fun M=>ox (ss:=[x.src,x.tgt]) M h5.cons.cons (by simpa using⟨hok.src,hok.tgt⟩) (by simp) (by(try simp only[ajd,List.flatMap_cons,List.flatMap_nil,List.length_nil]);omega)) fun v5 Js w5 M5=>lc (x:=.pointer (some ⟨W,0,none⟩))<|an (dL M5 (by simp[hg]))<|lb 2<|an rfl<|cE 3 M5 rfl (fun M=>AO M h5.cons.cons.cons (by(try simp only[ajd,List.flatMap_cons,List.flatMap_nil,List.length_nil]);omega)) fun v6 KF w6 M6=>lc (x:=.pointer (some ⟨W,0,none⟩))<|an (dL M6 (by simp[hg]))<|lb 2<|an rfl<|fun g7 w7 M7=>cE 4 M7 rfl (fun M=>bn (ns:=[x.cls]) M h5.cons.cons.cons (by simp) (by(try simp only[ajd,List.flatMap_cons,List.flatMap_nil,List.length_nil]);omega)) fun v8 X6 w8 M8=>lc (x:=.pointer (some ⟨W,0,none⟩))<|an (dL M8 (by simp[hg]))<|lb 3<|an rfl<|cE 4 M8 rfl (fun M=>KX M h5.cons.cons.cons.cons hok.perms (by(try simp only[ajd,List.flatMap_cons,List.flatMap_nil,List.length_nil]);omega)) fun v9 V3 w9 M9=>lc (x:=.pointer (some ⟨W,0,none⟩))<|an (dL M9 (by simp[hg]))<|lb 3<|an rfl<|cE 4 M9 rfl (fun M=>tW M h5.cons.cons.cons.cons hok.cond (by(try simp only[ajd,List.flatMap_cons,List.flatMap_nil,List.length_nil]);omega)) fun v10 V5 pE jH=>fun M=>⟨rfl,_,_,(M.only (.cons _ (.cons _ (.cons _ (.cons _ (.refl _))))) (.refl _)).cast rfl (by unfold gO;simp[List.append_assoc])⟩
theorem abj{x:bG}(hok:bG.Ok x)(M:Mm w0 w (bC W v1 lr (v:Int)::bs) (aH v1 xs::rs))(h5:jW bs rs)(hg:((gc,92,#[.pointer (some ⟨W,0,none⟩)]):Bx)∈bs)(hb:xs.length+(gi v x).length+500≤aF):
 Calls Tryz.prog 111 #[.agg x.cells.toArray,.pointer (some ⟨gc,0,none⟩)] w (mJ w0.heap.size w0 bs rs W (v:Int) (xs++gi v x)):=by
 have hl:(gi v x).length=(eN x.kind).length+((eT x.src).length+((eT x.tgt).length+((eN x.cls).length+((if 2≤v then eS x.name else []).length+((eN x.res).length+((eC x.cond).length)))))):=by unfold gi;simp only[ajd]
 refine bY M [] (fn:=Tryz.f111) Tryz.func111 rfl Tryz.ntmps111 rfl<|fun g1 w1 M1=>?_
 exact lc (x:=.pointer (some ⟨W,0,none⟩))<|an (dL M1 (by simp[hg]))<|lb 0<|an rfl<|fun g2 w2 M2=>cE 2 M2 rfl (fun M=>bn (ns:=[x.kind]) M h5.cons (by simp) (by(try simp only[ajd,List.flatMap_cons,List.flatMap_nil,List.length_nil]);omega)) fun v3 kL w3 M3=>lc (x:=.pointer (some ⟨W,0,none⟩))<|an (dL M3 (by simp[hg]))<|lb 1<|an rfl<|lb 1<|an rfl<|fun g4 w4 M4=>cE 3 M4 rfl (fun M=>ox (ss:=[x.src,x.tgt]) M h5.cons.cons (by simpa using⟨hok.src,hok.tgt⟩) (by simp) (by(try simp only[ajd,List.flatMap_cons,List.flatMap_nil,List.length_nil]);omega)) fun v5 Js w5 M5=>lc (x:=.pointer (some ⟨W,0,none⟩))<|an (dL M5 (by simp[hg]))<|lb 2<|an rfl<|fun g6 w6 M6=>cE 4 M6 rfl (fun M=>bn (ns:=[x.cls]) M h5.cons.cons.cons (by simp) (by(try simp only[ajd,List.flatMap_cons,List.flatMap_nil,List.length_nil]);omega)) fun v7 qQ w7 M7=>lc (x:=.pointer (some ⟨W,0,none⟩))<|an (dL M7 (by simp[hg]))<|lb 4<|an rfl<|an (fun h=>have hv:2≤v:=by { have:=of_decide_eq_true h;omega };have hif:(if 2≤v then eS x.name else []).length=(eS x.name).length:=(by rw[if_pos hv]);lc (x:=.pointer (some ⟨W,0,none⟩))<|an (dL M7 (by simp[hg]))<|lb 3<|an rfl<|cE 4 M7 rfl (fun M=>ku M h5.cons.cons.cons.cons (by(try simp only[ajd,List.flatMap_cons,List.flatMap_nil,List.length_nil]);omega)) fun v9 V3 w9 M9=>lc (x:=.pointer (some ⟨W,0,none⟩))<|an (dL M9 (by simp[hg]))<|lb 3<|an rfl<|fun g10 pE jH=>cE 5 jH rfl (fun M=>bn (ns:=[x.res]) M h5.cons.cons.cons.cons (by simp) (by(try simp only[ajd,List.flatMap_cons,List.flatMap_nil,List.length_nil]);omega)) fun v11 V4 uO M11=>lc (x:=.pointer (some ⟨W,0,none⟩))<|an (dL M11 (by simp[hg]))<|lb 4<|an rfl<|cE 5 M11 rfl (fun M=>tW M h5.cons.cons.cons.cons.cons hok.cond (by(try simp only[ajd,List.flatMap_cons,List.flatMap_nil,List.length_nil]);omega)) fun v12 SJ zi q5=>fun M=>⟨rfl,_,_,(M.only (.cons _ (.cons _ (.cons _ (.cons _ (.cons _ (.refl _)))))) (.refl _)).cast rfl (by unfold gi;rw[if_pos hv];simp[List.append_assoc])⟩) fun h=>have hv:¬ 2≤v:=(by { have:=of_decide_eq_false h;omega });lc (x:=.pointer (some ⟨W,0,none⟩))<|an (dL M7 (by simp[hg]))<|lb 3<|an rfl<|fun g9 w9 M9=>cE 5 M9 rfl (fun M=>bn (ns:=[x.res]) M h5.cons.cons.cons.cons (by simp) (by(try simp only[ajd,List.flatMap_cons,List.flatMap_nil,List.length_nil]);omega)) fun v10 V5 pE jH=>lc (x:=.pointer (some ⟨W,0,none⟩))<|an (dL jH (by simp[hg]))<|lb 4<|an rfl<|cE 5 jH rfl (fun M=>tW M h5.cons.cons.cons.cons.cons hok.cond (by(try simp only[ajd,List.flatMap_cons,List.flatMap_nil,List.length_nil]);omega)) fun v11 V4 uO M11=>fun M=>⟨rfl,_,_,(M.only (.cons _ (.cons _ (.cons _ (.cons _ (.cons _ (.refl _)))))) (.refl _)).cast rfl (by unfold gi;rw[if_neg hv];simp[List.append_assoc])⟩
theorem abh{x:jD}(hok:jD.Ok x)(M:Mm w0 w (bC W v1 lr ver::bs) (aH v1 xs::rs))(h5:jW bs rs)(hg:((gc,92,#[.pointer (some ⟨W,0,none⟩)]):Bx)∈bs)(hb:xs.length+(gP x).length+500≤aF):
 Calls Tryz.prog 113 #[.agg x.cells.toArray,.pointer (some ⟨gc,0,none⟩)] w (mJ w0.heap.size w0 bs rs W ver (xs++gP x)):=by
 have hl:(gP x).length=(eT x.roles).length+((eT x.types).length+((eN x.cls).length+((eN x.res).length))):=by unfold gP;simp only[ajd]
 refine bY M [] (fn:=Tryz.f113) Tryz.func113 rfl Tryz.ntmps113 rfl<|fun g1 w1 M1=>?_
 exact lc (x:=.pointer (some ⟨W,0,none⟩))<|an (dL M1 (by simp[hg]))<|lb 0<|an rfl<|lb 0<|an rfl<|fun g2 w2 M2=>cE 2 M2 rfl (fun M=>ox (ss:=[x.roles,x.types]) M h5.cons (by simpa using⟨hok.roles,hok.types⟩) (by simp) (by(try simp only[ajd,List.flatMap_cons,List.flatMap_nil,List.length_nil]);omega)) fun v3 kL w3 M3=>lc (x:=.pointer (some ⟨W,0,none⟩))<|an (dL M3 (by simp[hg]))<|lb 1<|an rfl<|lb 1<|an rfl<|fun g4 w4 M4=>cE 3 M4 rfl (fun M=>bn (ns:=[x.cls,x.res]) M h5.cons.cons (by simp) (by(try simp only[ajd,List.flatMap_cons,List.flatMap_nil,List.length_nil]);omega)) fun v5 Js w5 M5=>fun M=>⟨rfl,_,_,(M.only (.cons _ (.cons _ (.cons _ (.refl _)))) (.refl _)).cast rfl (by unfold gP;simp[List.append_assoc])⟩
theorem abg{x:jE}(hok:jE.Ok x)(M:Mm w0 w (bC W v1 lr ver::bs) (aH v1 xs::rs))(h5:jW bs rs)(hg:((gc,92,#[.pointer (some ⟨W,0,none⟩)]):Bx)∈bs)(hb:xs.length+(fU x).length+500≤aF):
 Calls Tryz.prog 115 #[.agg x.cells.toArray,.pointer (some ⟨gc,0,none⟩)] w (mJ w0.heap.size w0 bs rs W ver (xs++fU x)):=by
 have hl:(fU x).length=(eT x.src).length+((eT x.tgt).length+((eN x.cls).length+((oR x.rng).length))):=by unfold fU;simp only[ajd]
 refine bY M [] (fn:=Tryz.f115) Tryz.func115 rfl Tryz.ntmps115 rfl<|fun g1 w1 M1=>?_
 exact lc (x:=.pointer (some ⟨W,0,none⟩))<|an (dL M1 (by simp[hg]))<|lb 0<|an rfl<|lb 0<|an rfl<|fun g2 w2 M2=>cE 2 M2 rfl (fun M=>ox (ss:=[x.src,x.tgt]) M h5.cons (by simpa using⟨hok.src,hok.tgt⟩) (by simp) (by(try simp only[ajd,List.flatMap_cons,List.flatMap_nil,List.length_nil]);omega)) fun v3 kL w3 M3=>lc (x:=.pointer (some ⟨W,0,none⟩))<|an (dL M3 (by simp[hg]))<|lb 1<|an rfl<|fun g4 w4 M4=>cE 3 M4 rfl (fun M=>bn (ns:=[x.cls]) M h5.cons.cons (by simp) (by(try simp only[ajd,List.flatMap_cons,List.flatMap_nil,List.length_nil]);omega)) fun v5 Js w5 M5=>lc (x:=.pointer (some ⟨W,0,none⟩))<|an (dL M5 (by simp[hg]))<|lb 2<|an rfl<|cE 3 M5 rfl (fun M=>Ei (r:=x.rng) M h5.cons.cons.cons hok.rng.low.cats hok.rng.high.cats (by(try simp only[ajd,List.flatMap_cons,List.flatMap_nil,List.length_nil]);omega)) fun v6 KF w6 M6=>fun M=>⟨rfl,_,_,(M.only (.cons _ (.cons _ (.cons _ (.refl _)))) (.refl _)).cast rfl (by unfold fU;simp[List.append_assoc])⟩
theorem abf{x:lF}{cs:List Value}(hx:qB w0 cs x)(hok:lF.Ok x)(M:Mm w0 w (bC W v1 lr ver::bs) (aH v1 xs::rs))(h5:jW bs rs)(hg:((gc,92,#[.pointer (some ⟨W,0,none⟩)]):Bx)∈bs)(hb:xs.length+(gS x).length+500≤aF):
 Calls Tryz.prog 117 #[.agg cs.toArray,.pointer (some ⟨gc,0,none⟩)] w (mJ w0.heap.size w0 bs rs W ver (xs++gS x)):=by
 obtain⟨es,rfl,hE⟩:=hx;have hE':=hE;obtain⟨nv,kv,rfl,vh,hkv⟩:=hE'.open;obtain⟨_,_,rfl,-⟩:=aJ.get vh;obtain⟨_,_,rfl,-,-,-⟩:=au.form hkv (by decide);have hl:(gS x).length=(eN x.cls).length+((eN x.perms).length+((eB x.val).length+((eE x.expr).length))):=by unfold gS;simp only[ajd]
 refine bY M [] (fn:=Tryz.f117) Tryz.func117 rfl Tryz.ntmps117 rfl<|fun g1 w1 M1=>?_
 exact lc (x:=.pointer (some ⟨W,0,none⟩))<|an (dL M1 (by simp[hg]))<|lb 0<|an rfl<|fun g2 w2 M2=>cE 2 M2 rfl (fun M=>bn (ns:=[x.cls]) M h5.cons (by simp) (by(try simp only[ajd,List.flatMap_cons,List.flatMap_nil,List.length_nil]);omega)) fun v3 kL w3 M3=>lc (x:=.pointer (some ⟨W,0,none⟩))<|an (dL M3 (by simp[hg]))<|lb 1<|an rfl<|cE 2 M3 rfl (fun M=>KX M h5.cons.cons hok.perms (by(try simp only[ajd,List.flatMap_cons,List.flatMap_nil,List.length_nil]);omega)) fun v4 Hq w4 M4=>lc (x:=.pointer (some ⟨W,0,none⟩))<|an (dL M4 (by simp[hg]))<|lb 1<|an rfl<|cE 2 M4 rfl (fun M=>AO M h5.cons.cons (by(try simp only[ajd,List.flatMap_cons,List.flatMap_nil,List.length_nil]);omega)) fun v5 Js w5 M5=>lc (x:=.pointer (some ⟨W,0,none⟩))<|an (dL M5 (by simp[hg]))<|lb 1<|an rfl<|cE 2 M5 rfl (fun M=>La x.expr w0 _ _ _ _ _ _ _ hE hok.expr M h5.cons.cons (by(try simp only[ajd,List.flatMap_cons,List.flatMap_nil,List.length_nil]);omega)) fun v6 KF w6 M6=>fun M=>⟨rfl,_,_,(M.only (.cons _ (.cons _ (.refl _))) (.refl _)).cast rfl (by unfold gS;simp[List.append_assoc])⟩
theorem abe{x:iY}(hok:iY.Ok x)(M:Mm w0 w (bC W v1 lr ver::bs) (aH v1 xs::rs))(h5:jW bs rs)(hg:((gc,92,#[.pointer (some ⟨W,0,none⟩)]):Bx)∈bs)(hb:xs.length+(gN x).length+500≤aF):
 Calls Tryz.prog 119 #[.agg x.cells.toArray,.pointer (some ⟨gc,0,none⟩)] w (mJ w0.heap.size w0 bs rs W ver (xs++gN x)):=by
 have hl:(gN x).length=(eS x.name).length+((qt x.ctx).length):=by unfold gN;simp only[ajd]
 refine bY M [] (fn:=Tryz.f119) Tryz.func119 rfl Tryz.ntmps119 rfl<|fun g1 w1 M1=>?_
 exact lc (x:=.pointer (some ⟨W,0,none⟩))<|an (dL M1 (by simp[hg]))<|lb 0<|an rfl<|cE 1 M1 rfl (fun M=>ku M h5.cons (by(try simp only[ajd,List.flatMap_cons,List.flatMap_nil,List.length_nil]);omega)) fun v2 lr2 w2 M2=>lc (x:=.pointer (some ⟨W,0,none⟩))<|an (dL M2 (by simp[hg]))<|lb 0<|an rfl<|cE 1 M2 rfl (fun M=>zL (c:=x.ctx) M h5.cons hok.ctx.rng.low.cats hok.ctx.rng.high.cats (by(try simp only[ajd,List.flatMap_cons,List.flatMap_nil,List.length_nil]);omega)) fun v3 kL w3 M3=>fun M=>⟨rfl,_,_,(M.only (.cons _ (.refl _)) (.refl _)).cast rfl (by unfold gN;simp[List.append_assoc])⟩
theorem abd{x:jF}(hok:jF.Ok x)(M:Mm w0 w (bC W v1 lr ver::bs) (aH v1 xs::rs))(h5:jW bs rs)(hg:((gc,92,#[.pointer (some ⟨W,0,none⟩)]):Bx)∈bs)(hb:xs.length+(fC x).length+500≤aF):
 Calls Tryz.prog 122 #[.agg x.cells.toArray,.pointer (some ⟨gc,0,none⟩)] w (mJ w0.heap.size w0 bs rs W ver (xs++fC x)):=by
 have hl:(fC x).length=(eS x.pat).length+((eN x.kind).length+((qt x.ctx).length)):=by unfold fC;simp only[ajd]
 refine bY M [] (fn:=Tryz.f122) Tryz.func122 rfl Tryz.ntmps122 rfl<|fun g1 w1 M1=>?_
 exact lc (x:=.pointer (some ⟨W,0,none⟩))<|an (dL M1 (by simp[hg]))<|lb 0<|an rfl<|cE 1 M1 rfl (fun M=>ku M h5.cons (by(try simp only[ajd,List.flatMap_cons,List.flatMap_nil,List.length_nil]);omega)) fun v2 lr2 w2 M2=>lc (x:=.pointer (some ⟨W,0,none⟩))<|an (dL M2 (by simp[hg]))<|lb 0<|an rfl<|fun g3 w3 M3=>cE 2 M3 rfl (fun M=>bn (ns:=[x.kind]) M h5.cons (by simp) (by(try simp only[ajd,List.flatMap_cons,List.flatMap_nil,List.length_nil]);omega)) fun v4 Hq w4 M4=>lc (x:=.pointer (some ⟨W,0,none⟩))<|an (dL M4 (by simp[hg]))<|lb 1<|an rfl<|cE 2 M4 rfl (fun M=>zL (c:=x.ctx) M h5.cons.cons hok.ctx.rng.low.cats hok.ctx.rng.high.cats (by(try simp only[ajd,List.flatMap_cons,List.flatMap_nil,List.length_nil]);omega)) fun v5 Js w5 M5=>fun M=>⟨rfl,_,_,(M.only (.cons _ (.cons _ (.refl _))) (.refl _)).cast rfl (by unfold fC;simp[List.append_assoc])⟩
theorem abb{x:jt}(hok:jt.Ok x)(M:Mm w0 w (bC W v1 lr ver::bs) (aH v1 xs::rs))(h5:jW bs rs)(hg:((gc,92,#[.pointer (some ⟨W,0,none⟩)]):Bx)∈bs)(hb:xs.length+(fE x).length+500≤aF):
 Calls Tryz.prog 124 #[.agg x.cells.toArray,.pointer (some ⟨gc,0,none⟩)] w (mJ w0.heap.size w0 bs rs W ver (xs++fE x)):=by
 have hl:(fE x).length=(eS x.name).length+((eN x.kind).length+((eT x.src).length+((eT x.tgt).length))):=by unfold fE;simp only[ajd]
 refine bY M [] (fn:=Tryz.f124) Tryz.func124 rfl Tryz.ntmps124 rfl<|fun g1 w1 M1=>?_
 exact lc (x:=.pointer (some ⟨W,0,none⟩))<|an (dL M1 (by simp[hg]))<|lb 0<|an rfl<|cE 1 M1 rfl (fun M=>ku M h5.cons (by(try simp only[ajd,List.flatMap_cons,List.flatMap_nil,List.length_nil]);omega)) fun v2 lr2 w2 M2=>lc (x:=.pointer (some ⟨W,0,none⟩))<|an (dL M2 (by simp[hg]))<|lb 0<|an rfl<|fun g3 w3 M3=>cE 2 M3 rfl (fun M=>bn (ns:=[x.kind]) M h5.cons (by simp) (by(try simp only[ajd,List.flatMap_cons,List.flatMap_nil,List.length_nil]);omega)) fun v4 Hq w4 M4=>lc (x:=.pointer (some ⟨W,0,none⟩))<|an (dL M4 (by simp[hg]))<|lb 1<|an rfl<|lb 1<|an rfl<|fun g5 w5 M5=>cE 3 M5 rfl (fun M=>ox (ss:=[x.src,x.tgt]) M h5.cons.cons (by simpa using⟨hok.src,hok.tgt⟩) (by simp) (by(try simp only[ajd,List.flatMap_cons,List.flatMap_nil,List.length_nil]);omega)) fun v6 KF w6 M6=>fun M=>⟨rfl,_,_,(M.only (.cons _ (.cons _ (.cons _ (.refl _)))) (.refl _)).cast rfl (by unfold fE;simp[List.append_assoc])⟩
end
section
variable {W gc:Nat} {w0 w:World} {bs:List Bx} {rs:List Rw} {v1:Value} {lr:Int} {v:Nat} {ver:Int} {xs:List Nat}
theorem l86{l:List jU}{av:Value}(hv:au 2 (qC w0) w0 av l)(hok:∀ x∈l,jU.Ok x)(M:Mm w0 w (bC W v1 lr ver::bs) (aH v1 xs::rs))(h5:jW bs rs)(hg:((gc,92,#[.pointer (some ⟨W,0,none⟩)]):Bx)∈bs)(hb:xs.length+(eL gT l).length+600≤aF):
 Calls Tryz.prog 86 #[.pointer (some ⟨W,0,none⟩),av,.func (.func 87) #[] #[.pointer (some ⟨gc,0,none⟩)]] w (mJ w0.heap.size w0 bs rs W ver (xs++eL gT l)):=by
 have hv':=hv;obtain⟨la,lk,rfl,hm1,hm2,-⟩:=au.form hv' (by decide);have hle:(eL gT l).length=(eN (l.length:Int)).length+(l.flatMap gT).length:=by unfold eL;rw[ajd]
 have hne:=aG (l.length:Int);refine bY M [] (fn:=Tryz.f86) Tryz.func86 rfl Tryz.ntmps86 rfl<|fun g1 w1 M1=>cE 1 M1 rfl (fun M=>bn (ns:=[(l.length:Int)]) M h5 (by simp) (by omega)) fun v3 kL w3 M3=>lp (ι:=Nat×Value×Int) (fun z=>[(15,.int .i64 (z.1:Int))]) (fun z=>(g1,3,#[.int .i64 (l.length:Int)])::bC W z.2.1 z.2.2 ver::bs) (fun z=>aH z.2.1 (xs++(eN (l.length:Int)++(l.take z.1).flatMap gT))::rs) (fun z _=>z.1≤l.length) (fun z=>l.length-z.1) (0,v3,kL)<|an ⟨⟨rfl,trivial⟩,fun M=>⟨M.cast rfl (by simp),aje _⟩⟩ ?_
 rintro⟨j,u,q⟩ w4 M4 hj;have hj:j≤l.length:=hj;refine an (fun h=>?_) fun h=>?_
 ·have hlt:j<l.length:=Int.ofNat_lt.1 (of_decide_eq_true h);obtain⟨y,hy⟩:∃ y,l[j]?=some y:=⟨_,ajf hlt⟩;have fB:=cS gT hy;have gY:=ajg hy;have gZ:(xs++(eN (l.length:Int)++(l.take j).flatMap gT)).length+(gT y).length+500≤aF:=by simp only[ajd];omega
  obtain⟨b,off,x,e1,hx,hc⟩:=au.elt hv (by decide) hy;have hx2:=hx;obtain⟨pv,rfl,hl2⟩:=hx2;obtain⟨pa,pc,rfl,-⟩:=aJ.get hl2;exact ia<|an ⟨e1,rfl,hlt⟩<|lc<|an (cL M4.below hc)<|ei<|an GP fun g5 w5 M5=>lb 0<|an ⟨rfl,rfl⟩ fun w6 M6=>lb 0<|an rfl<|cE 2 M6 rfl (fun M=>c87 hx (hok y gY) M h5.cons.cons (by simp[hg]) gZ) fun v7 qQ w7 M7=>an (by omega)<|bk (j+1,v7,qQ) ⟨rfl,trivial⟩ (fun M=>⟨(M.only (.cons _ (.refl _)) (.refl _)).cast rfl (by rw[List.take_add_one,hy,ajh];simp),hlt⟩) (by dsimp only;omega)
 ·have hge:j=l.length:=Nat.le_antisymm hj (Nat.le_of_not_lt fun h'=>of_decide_eq_false h (Int.ofNat_lt.2 h'));subst hge;exact fun M=>⟨rfl,u,q,(M.only (.cons _ (.refl _)) (.refl _)).cast rfl (congrArg (fun t=>aH u (xs++(eN (l.length:Int)++t.flatMap gT))::rs) aji)⟩
theorem l90{l:List gE}{av:Value}(hv:au 3 (jY w0) w0 av l)(hok:∀ x∈l,gE.Ok x)(M:Mm w0 w (bC W v1 lr (v:Int)::bs) (aH v1 xs::rs))(h5:jW bs rs)(hg:((gc,92,#[.pointer (some ⟨W,0,none⟩)]):Bx)∈bs)(hb:xs.length+(eL (eTyp v) l).length+600≤aF):
 Calls Tryz.prog 90 #[.pointer (some ⟨W,0,none⟩),av,.func (.func 91) #[] #[.pointer (some ⟨gc,0,none⟩)]] w (mJ w0.heap.size w0 bs rs W (v:Int) (xs++eL (eTyp v) l)):=by
 have hv':=hv;obtain⟨la,lk,rfl,hm1,hm2,-⟩:=au.form hv' (by decide);have hle:(eL (eTyp v) l).length=(eN (l.length:Int)).length+(l.flatMap (eTyp v)).length:=by unfold eL;rw[ajd]
 have hne:=aG (l.length:Int);refine bY M [] (fn:=Tryz.f90) Tryz.func90 rfl Tryz.ntmps90 rfl<|fun g1 w1 M1=>cE 1 M1 rfl (fun M=>bn (ns:=[(l.length:Int)]) M h5 (by simp) (by omega)) fun v3 kL w3 M3=>lp (ι:=Nat×Value×Int) (fun z=>[(15,.int .i64 (z.1:Int))]) (fun z=>(g1,3,#[.int .i64 (l.length:Int)])::bC W z.2.1 z.2.2 (v:Int)::bs) (fun z=>aH z.2.1 (xs++(eN (l.length:Int)++(l.take z.1).flatMap (eTyp v)))::rs) (fun z _=>z.1≤l.length) (fun z=>l.length-z.1) (0,v3,kL)<|an ⟨⟨rfl,trivial⟩,fun M=>⟨M.cast rfl (by simp),aje _⟩⟩ ?_
 rintro⟨j,u,q⟩ w4 M4 hj;have hj:j≤l.length:=hj;refine an (fun h=>?_) fun h=>?_
 ·have hlt:j<l.length:=Int.ofNat_lt.1 (of_decide_eq_true h);obtain⟨y,hy⟩:∃ y,l[j]?=some y:=⟨_,ajf hlt⟩;have fB:=cS (eTyp v) hy;have gY:=ajg hy;have gZ:(xs++(eN (l.length:Int)++(l.take j).flatMap (eTyp v))).length+(eTyp v y).length+500≤aF:=by simp only[ajd];omega
  obtain⟨b,off,x,e1,hx,hc⟩:=au.elt hv (by decide) hy;have hx2:=hx;obtain⟨pv,rfl,hl2⟩:=hx2;obtain⟨pa,pc,rfl,-⟩:=aJ.get hl2;exact ia<|an ⟨e1,rfl,hlt⟩<|lc<|an (cL M4.below hc)<|ei<|an OD fun g5 w5 M5=>lb 0<|an ⟨rfl,rfl⟩ fun w6 M6=>lb 0<|an rfl<|cE 2 M6 rfl (fun M=>c91 hx (hok y gY) M h5.cons.cons (by simp[hg]) gZ) fun v7 qQ w7 M7=>an (by omega)<|bk (j+1,v7,qQ) ⟨rfl,trivial⟩ (fun M=>⟨(M.only (.cons _ (.refl _)) (.refl _)).cast rfl (by rw[List.take_add_one,hy,ajh];simp),hlt⟩) (by dsimp only;omega)
 ·have hge:j=l.length:=Nat.le_antisymm hj (Nat.le_of_not_lt fun h'=>of_decide_eq_false h (Int.ofNat_lt.2 h'));subst hge;exact fun M=>⟨rfl,u,q,(M.only (.cons _ (.refl _)) (.refl _)).cast rfl (congrArg (fun t=>aH u (xs++(eN (l.length:Int)++t.flatMap (eTyp v)))::rs) aji)⟩
theorem l93{l:List jG}{av:Value}(hv:SliceAt w0 av 5 l.length (l.flatMap jG.cells))(hok:∀ x∈l,jG.Ok x)(M:Mm w0 w (bC W v1 lr ver::bs) (aH v1 xs::rs))(h5:jW bs rs)(hg:((gc,92,#[.pointer (some ⟨W,0,none⟩)]):Bx)∈bs)(hb:xs.length+(eL gU l).length+600≤aF):
 Calls Tryz.prog 93 #[.pointer (some ⟨W,0,none⟩),av,.func (.func 94) #[] #[.pointer (some ⟨gc,0,none⟩)]] w (mJ w0.heap.size w0 bs rs W ver (xs++eL gU l)):=by
 have hv':=hv;obtain⟨la,lk,rfl,hm1,hm2,-⟩:=SliceAt.form hv' (by decide);have hle:(eL gU l).length=(eN (l.length:Int)).length+(l.flatMap gU).length:=by unfold eL;rw[ajd]
 have hne:=aG (l.length:Int);refine bY M [] (fn:=Tryz.f93) Tryz.func93 rfl Tryz.ntmps93 rfl<|fun g1 w1 M1=>cE 1 M1 rfl (fun M=>bn (ns:=[(l.length:Int)]) M h5 (by simp) (by omega)) fun v3 kL w3 M3=>lp (ι:=Nat×Value×Int) (fun z=>[(15,.int .i64 (z.1:Int))]) (fun z=>(g1,3,#[.int .i64 (l.length:Int)])::bC W z.2.1 z.2.2 ver::bs) (fun z=>aH z.2.1 (xs++(eN (l.length:Int)++(l.take z.1).flatMap gU))::rs) (fun z _=>z.1≤l.length) (fun z=>l.length-z.1) (0,v3,kL)<|an ⟨⟨rfl,trivial⟩,fun M=>⟨M.cast rfl (by simp),aje _⟩⟩ ?_
 rintro⟨j,u,q⟩ w4 M4 hj;have hj:j≤l.length:=hj;refine an (fun h=>?_) fun h=>?_
 ·have hlt:j<l.length:=Int.ofNat_lt.1 (of_decide_eq_true h);obtain⟨y,hy⟩:∃ y,l[j]?=some y:=⟨_,ajf hlt⟩;have fB:=cS gU hy;have gY:=ajg hy;have gZ:(xs++(eN (l.length:Int)++(l.take j).flatMap gU)).length+(gU y).length+500≤aF:=by simp only[ajd];omega
  obtain⟨b,off,e1,hc⟩:=SliceAt.elt hv (f:=jG.cells) (fun _=>rfl) (by decide) hy hlt;exact ia<|an ⟨e1,rfl,hlt⟩<|lc (x:=y.cells)<|an (cL M4.below hc)<|ei<|an KQ fun g5 w5 M5=>lb 0<|an ⟨rfl,rfl⟩ fun w6 M6=>lb 0<|an rfl<|cE 2 M6 rfl (fun M=>c94 (hok y gY) M h5.cons.cons (by simp[hg]) gZ) fun v7 qQ w7 M7=>an (by omega)<|bk (j+1,v7,qQ) ⟨rfl,trivial⟩ (fun M=>⟨(M.only (.cons _ (.refl _)) (.refl _)).cast rfl (by rw[List.take_add_one,hy,ajh];simp),hlt⟩) (by dsimp only;omega)
 ·have hge:j=l.length:=Nat.le_antisymm hj (Nat.le_of_not_lt fun h'=>of_decide_eq_false h (Int.ofNat_lt.2 h'));subst hge;exact fun M=>⟨rfl,u,q,(M.only (.cons _ (.refl _)) (.refl _)).cast rfl (congrArg (fun t=>aH u (xs++(eN (l.length:Int)++t.flatMap gU))::rs) aji)⟩
theorem l96{l:List eM}{av:Value}(hv:SliceAt w0 av 9 l.length (l.flatMap eM.cells))(hok:∀ x∈l,eM.Ok x)(M:Mm w0 w (bC W v1 lr ver::bs) (aH v1 xs::rs))(h5:jW bs rs)(hg:((gc,92,#[.pointer (some ⟨W,0,none⟩)]):Bx)∈bs)(hb:xs.length+(eL gQ l).length+600≤aF):
 Calls Tryz.prog 96 #[.pointer (some ⟨W,0,none⟩),av,.func (.func 97) #[] #[.pointer (some ⟨gc,0,none⟩)]] w (mJ w0.heap.size w0 bs rs W ver (xs++eL gQ l)):=by
 have hv':=hv;obtain⟨la,lk,rfl,hm1,hm2,-⟩:=SliceAt.form hv' (by decide);have hle:(eL gQ l).length=(eN (l.length:Int)).length+(l.flatMap gQ).length:=by unfold eL;rw[ajd]
 have hne:=aG (l.length:Int);refine bY M [] (fn:=Tryz.f96) Tryz.func96 rfl Tryz.ntmps96 rfl<|fun g1 w1 M1=>cE 1 M1 rfl (fun M=>bn (ns:=[(l.length:Int)]) M h5 (by simp) (by omega)) fun v3 kL w3 M3=>lp (ι:=Nat×Value×Int) (fun z=>[(15,.int .i64 (z.1:Int))]) (fun z=>(g1,3,#[.int .i64 (l.length:Int)])::bC W z.2.1 z.2.2 ver::bs) (fun z=>aH z.2.1 (xs++(eN (l.length:Int)++(l.take z.1).flatMap gQ))::rs) (fun z _=>z.1≤l.length) (fun z=>l.length-z.1) (0,v3,kL)<|an ⟨⟨rfl,trivial⟩,fun M=>⟨M.cast rfl (by simp),aje _⟩⟩ ?_
 rintro⟨j,u,q⟩ w4 M4 hj;have hj:j≤l.length:=hj;refine an (fun h=>?_) fun h=>?_
 ·have hlt:j<l.length:=Int.ofNat_lt.1 (of_decide_eq_true h);obtain⟨y,hy⟩:∃ y,l[j]?=some y:=⟨_,ajf hlt⟩;have fB:=cS gQ hy;have gY:=ajg hy;have gZ:(xs++(eN (l.length:Int)++(l.take j).flatMap gQ)).length+(gQ y).length+500≤aF:=by simp only[ajd];omega
  obtain⟨b,off,e1,hc⟩:=SliceAt.elt hv (f:=eM.cells) (fun _=>rfl) (by decide) hy hlt;exact ia<|an ⟨e1,rfl,hlt⟩<|lc (x:=y.cells)<|an (cL M4.below hc)<|ei<|an GN fun g5 w5 M5=>lb 0<|an ⟨rfl,rfl⟩ fun w6 M6=>lb 0<|an rfl<|cE 2 M6 rfl (fun M=>c97 (hok y gY) M h5.cons.cons (by simp[hg]) gZ) fun v7 qQ w7 M7=>an (by omega)<|bk (j+1,v7,qQ) ⟨rfl,trivial⟩ (fun M=>⟨(M.only (.cons _ (.refl _)) (.refl _)).cast rfl (by rw[List.take_add_one,hy,ajh];simp),hlt⟩) (by dsimp only;omega)
 ·have hge:j=l.length:=Nat.le_antisymm hj (Nat.le_of_not_lt fun h'=>of_decide_eq_false h (Int.ofNat_lt.2 h'));subst hge;exact fun M=>⟨rfl,u,q,(M.only (.cons _ (.refl _)) (.refl _)).cast rfl (congrArg (fun t=>aH u (xs++(eN (l.length:Int)++t.flatMap gQ))::rs) aji)⟩
theorem l98{l:List jr}{av:Value}(hv:SliceAt w0 av 11 l.length (l.flatMap jr.cells))(hok:∀ x∈l,jr.Ok x)(M:Mm w0 w (bC W v1 lr ver::bs) (aH v1 xs::rs))(h5:jW bs rs)(hg:((gc,92,#[.pointer (some ⟨W,0,none⟩)]):Bx)∈bs)(hb:xs.length+(eL gM l).length+600≤aF):
 Calls Tryz.prog 98 #[.pointer (some ⟨W,0,none⟩),av,.func (.func 99) #[] #[.pointer (some ⟨gc,0,none⟩)]] w (mJ w0.heap.size w0 bs rs W ver (xs++eL gM l)):=by
 have hv':=hv;obtain⟨la,lk,rfl,hm1,hm2,-⟩:=SliceAt.form hv' (by decide);have hle:(eL gM l).length=(eN (l.length:Int)).length+(l.flatMap gM).length:=by unfold eL;rw[ajd]
 have hne:=aG (l.length:Int);refine bY M [] (fn:=Tryz.f98) Tryz.func98 rfl Tryz.ntmps98 rfl<|fun g1 w1 M1=>cE 1 M1 rfl (fun M=>bn (ns:=[(l.length:Int)]) M h5 (by simp) (by omega)) fun v3 kL w3 M3=>lp (ι:=Nat×Value×Int) (fun z=>[(15,.int .i64 (z.1:Int))]) (fun z=>(g1,3,#[.int .i64 (l.length:Int)])::bC W z.2.1 z.2.2 ver::bs) (fun z=>aH z.2.1 (xs++(eN (l.length:Int)++(l.take z.1).flatMap gM))::rs) (fun z _=>z.1≤l.length) (fun z=>l.length-z.1) (0,v3,kL)<|an ⟨⟨rfl,trivial⟩,fun M=>⟨M.cast rfl (by simp),aje _⟩⟩ ?_
 rintro⟨j,u,q⟩ w4 M4 hj;have hj:j≤l.length:=hj;refine an (fun h=>?_) fun h=>?_
 ·have hlt:j<l.length:=Int.ofNat_lt.1 (of_decide_eq_true h);obtain⟨y,hy⟩:∃ y,l[j]?=some y:=⟨_,ajf hlt⟩;have fB:=cS gM hy;have gY:=ajg hy;have gZ:(xs++(eN (l.length:Int)++(l.take j).flatMap gM)).length+(gM y).length+500≤aF:=by simp only[ajd];omega
  obtain⟨b,off,e1,hc⟩:=SliceAt.elt hv (f:=jr.cells) (fun _=>rfl) (by decide) hy hlt;exact ia<|an ⟨e1,rfl,hlt⟩<|lc (x:=y.cells)<|an (cL M4.below hc)<|ei<|an zF fun g5 w5 M5=>lb 0<|an ⟨rfl,rfl⟩ fun w6 M6=>lb 0<|an rfl<|cE 2 M6 rfl (fun M=>c99 (hok y gY) M h5.cons.cons (by simp[hg]) gZ) fun v7 qQ w7 M7=>an (by omega)<|bk (j+1,v7,qQ) ⟨rfl,trivial⟩ (fun M=>⟨(M.only (.cons _ (.refl _)) (.refl _)).cast rfl (by rw[List.take_add_one,hy,ajh];simp),hlt⟩) (by dsimp only;omega)
 ·have hge:j=l.length:=Nat.le_antisymm hj (Nat.le_of_not_lt fun h'=>of_decide_eq_false h (Int.ofNat_lt.2 h'));subst hge;exact fun M=>⟨rfl,u,q,(M.only (.cons _ (.refl _)) (.refl _)).cast rfl (congrArg (fun t=>aH u (xs++(eN (l.length:Int)++t.flatMap gM))::rs) aji)⟩
theorem Zh{l:List jV}{av:Value}(hv:SliceAt w0 av 2 l.length (l.flatMap jV.cells))(hok:∀ x∈l,jV.Ok x)(M:Mm w0 w (bC W v1 lr ver::bs) (aH v1 xs::rs))(h5:jW bs rs)(hg:((gc,92,#[.pointer (some ⟨W,0,none⟩)]):Bx)∈bs)(hb:xs.length+(eL fN l).length+600≤aF):
 Calls Tryz.prog 102 #[.pointer (some ⟨W,0,none⟩),av,.func (.func 103) #[] #[.pointer (some ⟨gc,0,none⟩)]] w (mJ w0.heap.size w0 bs rs W ver (xs++eL fN l)):=by
 have hv':=hv;obtain⟨la,lk,rfl,hm1,hm2,-⟩:=SliceAt.form hv' (by decide);have hle:(eL fN l).length=(eN (l.length:Int)).length+(l.flatMap fN).length:=by unfold eL;rw[ajd]
 have hne:=aG (l.length:Int);refine bY M [] (fn:=Tryz.f102) Tryz.func102 rfl Tryz.ntmps102 rfl<|fun g1 w1 M1=>cE 1 M1 rfl (fun M=>bn (ns:=[(l.length:Int)]) M h5 (by simp) (by omega)) fun v3 kL w3 M3=>lp (ι:=Nat×Value×Int) (fun z=>[(15,.int .i64 (z.1:Int))]) (fun z=>(g1,3,#[.int .i64 (l.length:Int)])::bC W z.2.1 z.2.2 ver::bs) (fun z=>aH z.2.1 (xs++(eN (l.length:Int)++(l.take z.1).flatMap fN))::rs) (fun z _=>z.1≤l.length) (fun z=>l.length-z.1) (0,v3,kL)<|an ⟨⟨rfl,trivial⟩,fun M=>⟨M.cast rfl (by simp),aje _⟩⟩ ?_
 rintro⟨j,u,q⟩ w4 M4 hj;have hj:j≤l.length:=hj;refine an (fun h=>?_) fun h=>?_
 ·have hlt:j<l.length:=Int.ofNat_lt.1 (of_decide_eq_true h);obtain⟨y,hy⟩:∃ y,l[j]?=some y:=⟨_,ajf hlt⟩;have fB:=cS fN hy;have gY:=ajg hy;have gZ:(xs++(eN (l.length:Int)++(l.take j).flatMap fN)).length+(fN y).length+500≤aF:=by simp only[ajd];omega
  obtain⟨b,off,e1,hc⟩:=SliceAt.elt hv (f:=jV.cells) (fun _=>rfl) (by decide) hy hlt;exact ia<|an ⟨e1,rfl,hlt⟩<|lc (x:=y.cells)<|an (cL M4.below hc)<|ei<|an KO fun g5 w5 M5=>lb 0<|an ⟨rfl,rfl⟩ fun w6 M6=>lb 0<|an rfl<|cE 2 M6 rfl (fun M=>abl (hok y gY) M h5.cons.cons (by simp[hg]) gZ) fun v7 qQ w7 M7=>an (by omega)<|bk (j+1,v7,qQ) ⟨rfl,trivial⟩ (fun M=>⟨(M.only (.cons _ (.refl _)) (.refl _)).cast rfl (by rw[List.take_add_one,hy,ajh];simp),hlt⟩) (by dsimp only;omega)
 ·have hge:j=l.length:=Nat.le_antisymm hj (Nat.le_of_not_lt fun h'=>of_decide_eq_false h (Int.ofNat_lt.2 h'));subst hge;exact fun M=>⟨rfl,u,q,(M.only (.cons _ (.refl _)) (.refl _)).cast rfl (congrArg (fun t=>aH u (xs++(eN (l.length:Int)++t.flatMap fN))::rs) aji)⟩
theorem Zg{l:List aI}{av:Value}(hv:au 10 (bV w0) w0 av l)(hok:∀ x∈l,aI.Ok x)(M:Mm w0 w (bC W v1 lr ver::bs) (aH v1 xs::rs))(h5:jW bs rs)(hb:xs.length+(eL eE l).length+600≤aF):
 Calls Tryz.prog 104 #[.pointer (some ⟨W,0,none⟩),av,.func (.func 105) #[.pointer (some ⟨W,0,none⟩)] #[]] w (mJ w0.heap.size w0 bs rs W ver (xs++eL eE l)):=by
 have hv':=hv;obtain⟨la,lk,rfl,hm1,hm2,-⟩:=au.form hv' (by decide);have hle:(eL eE l).length=(eN (l.length:Int)).length+(l.flatMap eE).length:=by unfold eL;rw[ajd]
 have hne:=aG (l.length:Int);refine bY M [] (fn:=Tryz.f104) Tryz.func104 rfl Tryz.ntmps104 rfl<|fun g1 w1 M1=>cE 1 M1 rfl (fun M=>bn (ns:=[(l.length:Int)]) M h5 (by simp) (by omega)) fun v3 kL w3 M3=>lp (ι:=Nat×Value×Int) (fun z=>[(15,.int .i64 (z.1:Int))]) (fun z=>(g1,3,#[.int .i64 (l.length:Int)])::bC W z.2.1 z.2.2 ver::bs) (fun z=>aH z.2.1 (xs++(eN (l.length:Int)++(l.take z.1).flatMap eE))::rs) (fun z _=>z.1≤l.length) (fun z=>l.length-z.1) (0,v3,kL)<|an ⟨⟨rfl,trivial⟩,fun M=>⟨M.cast rfl (by simp),aje _⟩⟩ ?_
 rintro⟨j,u,q⟩ w4 M4 hj;have hj:j≤l.length:=hj;refine an (fun h=>?_) fun h=>?_
 ·have hlt:j<l.length:=Int.ofNat_lt.1 (of_decide_eq_true h);obtain⟨y,hy⟩:∃ y,l[j]?=some y:=⟨_,ajf hlt⟩;have fB:=cS eE hy;have gY:=ajg hy;have gZ:(xs++(eN (l.length:Int)++(l.take j).flatMap eE)).length+(eE y).length+500≤aF:=by simp only[ajd];omega
  obtain⟨b,off,x,e1,hx,hc⟩:=au.elt hv (by decide) hy;have hx2:=hx;obtain⟨nv,kv,rfl,vh,hkv⟩:=hx2.open;obtain⟨_,_,rfl,-⟩:=aJ.get vh;obtain⟨_,_,rfl,-,-,-⟩:=au.form hkv (by decide);exact ia<|an ⟨e1,rfl,hlt⟩<|lc<|an (cL M4.below hc)<|ei<|an Aw fun g5 w5 M5=>lb 0<|an ⟨rfl,rfl⟩ fun w6 M6=>lb 0<|an rfl<|cE 2 M6 rfl (fun M=>La y w0 _ _ _ _ _ _ _ hx (hok y gY) M h5.cons.cons (Nat.le_trans (Nat.add_le_add_left (by omega) _) gZ)) fun v7 qQ w7 M7=>an (by omega)<|bk (j+1,v7,qQ) ⟨rfl,trivial⟩ (fun M=>⟨(M.only (.cons _ (.refl _)) (.refl _)).cast rfl (by rw[List.take_add_one,hy,ajh];simp),hlt⟩) (by dsimp only;omega)
 ·have hge:j=l.length:=Nat.le_antisymm hj (Nat.le_of_not_lt fun h'=>of_decide_eq_false h (Int.ofNat_lt.2 h'));subst hge;exact fun M=>⟨rfl,u,q,(M.only (.cons _ (.refl _)) (.refl _)).cast rfl (congrArg (fun t=>aH u (xs++(eN (l.length:Int)++t.flatMap eE))::rs) aji)⟩
theorem Zf{l:List dz}{av:Value}(hv:SliceAt w0 av 13 l.length (l.flatMap dz.cells))(hok:∀ x∈l,dz.Au x)(M:Mm w0 w (bC W v1 lr ver::bs) (aH v1 xs::rs))(h5:jW bs rs)(hg:((gc,92,#[.pointer (some ⟨W,0,none⟩)]):Bx)∈bs)(hb:xs.length+(eL gO l).length+600≤aF):
 Calls Tryz.prog 106 #[.pointer (some ⟨W,0,none⟩),av,.func (.func 107) #[] #[.pointer (some ⟨gc,0,none⟩)]] w (mJ w0.heap.size w0 bs rs W ver (xs++eL gO l)):=by
 have hv':=hv;obtain⟨la,lk,rfl,hm1,hm2,-⟩:=SliceAt.form hv' (by decide);have hle:(eL gO l).length=(eN (l.length:Int)).length+(l.flatMap gO).length:=by unfold eL;rw[ajd]
 have hne:=aG (l.length:Int);refine bY M [] (fn:=Tryz.f106) Tryz.func106 rfl Tryz.ntmps106 rfl<|fun g1 w1 M1=>cE 1 M1 rfl (fun M=>bn (ns:=[(l.length:Int)]) M h5 (by simp) (by omega)) fun v3 kL w3 M3=>lp (ι:=Nat×Value×Int) (fun z=>[(15,.int .i64 (z.1:Int))]) (fun z=>(g1,3,#[.int .i64 (l.length:Int)])::bC W z.2.1 z.2.2 ver::bs) (fun z=>aH z.2.1 (xs++(eN (l.length:Int)++(l.take z.1).flatMap gO))::rs) (fun z _=>z.1≤l.length) (fun z=>l.length-z.1) (0,v3,kL)<|an ⟨⟨rfl,trivial⟩,fun M=>⟨M.cast rfl (by simp),aje _⟩⟩ ?_
 rintro⟨j,u,q⟩ w4 M4 hj;have hj:j≤l.length:=hj;refine an (fun h=>?_) fun h=>?_
 ·have hlt:j<l.length:=Int.ofNat_lt.1 (of_decide_eq_true h);obtain⟨y,hy⟩:∃ y,l[j]?=some y:=⟨_,ajf hlt⟩;have fB:=cS gO hy;have gY:=ajg hy;have gZ:(xs++(eN (l.length:Int)++(l.take j).flatMap gO)).length+(gO y).length+500≤aF:=by simp only[ajd];omega
  obtain⟨b,off,e1,hc⟩:=SliceAt.elt hv (f:=dz.cells) (fun _=>rfl) (by decide) hy hlt;exact ia<|an ⟨e1,rfl,hlt⟩<|lc (x:=y.cells)<|an (cL M4.below hc)<|ei<|an Cl fun g5 w5 M5=>lb 0<|an ⟨rfl,rfl⟩ fun w6 M6=>lb 0<|an rfl<|cE 2 M6 rfl (fun M=>abk (hok y gY) M h5.cons.cons (by simp[hg]) gZ) fun v7 qQ w7 M7=>an (by omega)<|bk (j+1,v7,qQ) ⟨rfl,trivial⟩ (fun M=>⟨(M.only (.cons _ (.refl _)) (.refl _)).cast rfl (by rw[List.take_add_one,hy,ajh];simp),hlt⟩) (by dsimp only;omega)
 ·have hge:j=l.length:=Nat.le_antisymm hj (Nat.le_of_not_lt fun h'=>of_decide_eq_false h (Int.ofNat_lt.2 h'));subst hge;exact fun M=>⟨rfl,u,q,(M.only (.cons _ (.refl _)) (.refl _)).cast rfl (congrArg (fun t=>aH u (xs++(eN (l.length:Int)++t.flatMap gO))::rs) aji)⟩
theorem Ze{l:List bG}{av:Value}(hv:SliceAt w0 av 13 l.length (l.flatMap bG.cells))(hok:∀ x∈l,bG.Ok x)(M:Mm w0 w (bC W v1 lr (v:Int)::bs) (aH v1 xs::rs))(h5:jW bs rs)(hg:((gc,92,#[.pointer (some ⟨W,0,none⟩)]):Bx)∈bs)(hb:xs.length+(eL (gi v) l).length+600≤aF):
 Calls Tryz.prog 110 #[.pointer (some ⟨W,0,none⟩),av,.func (.func 111) #[] #[.pointer (some ⟨gc,0,none⟩)]] w (mJ w0.heap.size w0 bs rs W (v:Int) (xs++eL (gi v) l)):=by
 have hv':=hv;obtain⟨la,lk,rfl,hm1,hm2,-⟩:=SliceAt.form hv' (by decide);have hle:(eL (gi v) l).length=(eN (l.length:Int)).length+(l.flatMap (gi v)).length:=by unfold eL;rw[ajd]
 have hne:=aG (l.length:Int);refine bY M [] (fn:=Tryz.f110) Tryz.func110 rfl Tryz.ntmps110 rfl<|fun g1 w1 M1=>cE 1 M1 rfl (fun M=>bn (ns:=[(l.length:Int)]) M h5 (by simp) (by omega)) fun v3 kL w3 M3=>lp (ι:=Nat×Value×Int) (fun z=>[(15,.int .i64 (z.1:Int))]) (fun z=>(g1,3,#[.int .i64 (l.length:Int)])::bC W z.2.1 z.2.2 (v:Int)::bs) (fun z=>aH z.2.1 (xs++(eN (l.length:Int)++(l.take z.1).flatMap (gi v)))::rs) (fun z _=>z.1≤l.length) (fun z=>l.length-z.1) (0,v3,kL)<|an ⟨⟨rfl,trivial⟩,fun M=>⟨M.cast rfl (by simp),aje _⟩⟩ ?_
 rintro⟨j,u,q⟩ w4 M4 hj;have hj:j≤l.length:=hj;refine an (fun h=>?_) fun h=>?_
 ·have hlt:j<l.length:=Int.ofNat_lt.1 (of_decide_eq_true h);obtain⟨y,hy⟩:∃ y,l[j]?=some y:=⟨_,ajf hlt⟩;have fB:=cS (gi v) hy;have gY:=ajg hy;have gZ:(xs++(eN (l.length:Int)++(l.take j).flatMap (gi v))).length+(gi v y).length+500≤aF:=by simp only[ajd];omega
  obtain⟨b,off,e1,hc⟩:=SliceAt.elt hv (f:=bG.cells) (fun _=>rfl) (by decide) hy hlt;exact ia<|an ⟨e1,rfl,hlt⟩<|lc (x:=y.cells)<|an (cL M4.below hc)<|ei<|an Ef fun g5 w5 M5=>lb 0<|an ⟨rfl,rfl⟩ fun w6 M6=>lb 0<|an rfl<|cE 2 M6 rfl (fun M=>abj (hok y gY) M h5.cons.cons (by simp[hg]) gZ) fun v7 qQ w7 M7=>an (by omega)<|bk (j+1,v7,qQ) ⟨rfl,trivial⟩ (fun M=>⟨(M.only (.cons _ (.refl _)) (.refl _)).cast rfl (by rw[List.take_add_one,hy,ajh];simp),hlt⟩) (by dsimp only;omega)
 ·have hge:j=l.length:=Nat.le_antisymm hj (Nat.le_of_not_lt fun h'=>of_decide_eq_false h (Int.ofNat_lt.2 h'));subst hge;exact fun M=>⟨rfl,u,q,(M.only (.cons _ (.refl _)) (.refl _)).cast rfl (congrArg (fun t=>aH u (xs++(eN (l.length:Int)++t.flatMap (gi v)))::rs) aji)⟩
theorem Zd{l:List jD}{av:Value}(hv:SliceAt w0 av 10 l.length (l.flatMap jD.cells))(hok:∀ x∈l,jD.Ok x)(M:Mm w0 w (bC W v1 lr ver::bs) (aH v1 xs::rs))(h5:jW bs rs)(hg:((gc,92,#[.pointer (some ⟨W,0,none⟩)]):Bx)∈bs)(hb:xs.length+(eL gP l).length+600≤aF):
 Calls Tryz.prog 112 #[.pointer (some ⟨W,0,none⟩),av,.func (.func 113) #[] #[.pointer (some ⟨gc,0,none⟩)]] w (mJ w0.heap.size w0 bs rs W ver (xs++eL gP l)):=by
 have hv':=hv;obtain⟨la,lk,rfl,hm1,hm2,-⟩:=SliceAt.form hv' (by decide);have hle:(eL gP l).length=(eN (l.length:Int)).length+(l.flatMap gP).length:=by unfold eL;rw[ajd]
 have hne:=aG (l.length:Int);refine bY M [] (fn:=Tryz.f112) Tryz.func112 rfl Tryz.ntmps112 rfl<|fun g1 w1 M1=>cE 1 M1 rfl (fun M=>bn (ns:=[(l.length:Int)]) M h5 (by simp) (by omega)) fun v3 kL w3 M3=>lp (ι:=Nat×Value×Int) (fun z=>[(15,.int .i64 (z.1:Int))]) (fun z=>(g1,3,#[.int .i64 (l.length:Int)])::bC W z.2.1 z.2.2 ver::bs) (fun z=>aH z.2.1 (xs++(eN (l.length:Int)++(l.take z.1).flatMap gP))::rs) (fun z _=>z.1≤l.length) (fun z=>l.length-z.1) (0,v3,kL)<|an ⟨⟨rfl,trivial⟩,fun M=>⟨M.cast rfl (by simp),aje _⟩⟩ ?_
 rintro⟨j,u,q⟩ w4 M4 hj;have hj:j≤l.length:=hj;refine an (fun h=>?_) fun h=>?_
 ·have hlt:j<l.length:=Int.ofNat_lt.1 (of_decide_eq_true h);obtain⟨y,hy⟩:∃ y,l[j]?=some y:=⟨_,ajf hlt⟩;have fB:=cS gP hy;have gY:=ajg hy;have gZ:(xs++(eN (l.length:Int)++(l.take j).flatMap gP)).length+(gP y).length+500≤aF:=by simp only[ajd];omega
  obtain⟨b,off,e1,hc⟩:=SliceAt.elt hv (f:=jD.cells) (fun _=>rfl) (by decide) hy hlt;exact ia<|an ⟨e1,rfl,hlt⟩<|lc (x:=y.cells)<|an (cL M4.below hc)<|ei<|an Ck fun g5 w5 M5=>lb 0<|an ⟨rfl,rfl⟩ fun w6 M6=>lb 0<|an rfl<|cE 2 M6 rfl (fun M=>abh (hok y gY) M h5.cons.cons (by simp[hg]) gZ) fun v7 qQ w7 M7=>an (by omega)<|bk (j+1,v7,qQ) ⟨rfl,trivial⟩ (fun M=>⟨(M.only (.cons _ (.refl _)) (.refl _)).cast rfl (by rw[List.take_add_one,hy,ajh];simp),hlt⟩) (by dsimp only;omega)
 ·have hge:j=l.length:=Nat.le_antisymm hj (Nat.le_of_not_lt fun h'=>of_decide_eq_false h (Int.ofNat_lt.2 h'));subst hge;exact fun M=>⟨rfl,u,q,(M.only (.cons _ (.refl _)) (.refl _)).cast rfl (congrArg (fun t=>aH u (xs++(eN (l.length:Int)++t.flatMap gP))::rs) aji)⟩
theorem Zc{l:List jE}{av:Value}(hv:SliceAt w0 av 13 l.length (l.flatMap jE.cells))(hok:∀ x∈l,jE.Ok x)(M:Mm w0 w (bC W v1 lr ver::bs) (aH v1 xs::rs))(h5:jW bs rs)(hg:((gc,92,#[.pointer (some ⟨W,0,none⟩)]):Bx)∈bs)(hb:xs.length+(eL fU l).length+600≤aF):
 Calls Tryz.prog 114 #[.pointer (some ⟨W,0,none⟩),av,.func (.func 115) #[] #[.pointer (some ⟨gc,0,none⟩)]] w (mJ w0.heap.size w0 bs rs W ver (xs++eL fU l)):=by
 have hv':=hv;obtain⟨la,lk,rfl,hm1,hm2,-⟩:=SliceAt.form hv' (by decide);have hle:(eL fU l).length=(eN (l.length:Int)).length+(l.flatMap fU).length:=by unfold eL;rw[ajd]
 have hne:=aG (l.length:Int);refine bY M [] (fn:=Tryz.f114) Tryz.func114 rfl Tryz.ntmps114 rfl<|fun g1 w1 M1=>cE 1 M1 rfl (fun M=>bn (ns:=[(l.length:Int)]) M h5 (by simp) (by omega)) fun v3 kL w3 M3=>lp (ι:=Nat×Value×Int) (fun z=>[(15,.int .i64 (z.1:Int))]) (fun z=>(g1,3,#[.int .i64 (l.length:Int)])::bC W z.2.1 z.2.2 ver::bs) (fun z=>aH z.2.1 (xs++(eN (l.length:Int)++(l.take z.1).flatMap fU))::rs) (fun z _=>z.1≤l.length) (fun z=>l.length-z.1) (0,v3,kL)<|an ⟨⟨rfl,trivial⟩,fun M=>⟨M.cast rfl (by simp),aje _⟩⟩ ?_
 rintro⟨j,u,q⟩ w4 M4 hj;have hj:j≤l.length:=hj;refine an (fun h=>?_) fun h=>?_
 ·have hlt:j<l.length:=Int.ofNat_lt.1 (of_decide_eq_true h);obtain⟨y,hy⟩:∃ y,l[j]?=some y:=⟨_,ajf hlt⟩;have fB:=cS fU hy;have gY:=ajg hy;have gZ:(xs++(eN (l.length:Int)++(l.take j).flatMap fU)).length+(fU y).length+500≤aF:=by simp only[ajd];omega
  obtain⟨b,off,e1,hc⟩:=SliceAt.elt hv (f:=jE.cells) (fun _=>rfl) (by decide) hy hlt;exact ia<|an ⟨e1,rfl,hlt⟩<|lc (x:=y.cells)<|an (cL M4.below hc)<|ei<|an Cj fun g5 w5 M5=>lb 0<|an ⟨rfl,rfl⟩ fun w6 M6=>lb 0<|an rfl<|cE 2 M6 rfl (fun M=>abg (hok y gY) M h5.cons.cons (by simp[hg]) gZ) fun v7 qQ w7 M7=>an (by omega)<|bk (j+1,v7,qQ) ⟨rfl,trivial⟩ (fun M=>⟨(M.only (.cons _ (.refl _)) (.refl _)).cast rfl (by rw[List.take_add_one,hy,ajh];simp),hlt⟩) (by dsimp only;omega)
 ·have hge:j=l.length:=Nat.le_antisymm hj (Nat.le_of_not_lt fun h'=>of_decide_eq_false h (Int.ofNat_lt.2 h'));subst hge;exact fun M=>⟨rfl,u,q,(M.only (.cons _ (.refl _)) (.refl _)).cast rfl (congrArg (fun t=>aH u (xs++(eN (l.length:Int)++t.flatMap fU))::rs) aji)⟩
theorem Wc{l:List lF}{av:Value}(hv:au 13 (qB w0) w0 av l)(hok:∀ x∈l,lF.Ok x)(M:Mm w0 w (bC W v1 lr ver::bs) (aH v1 xs::rs))(h5:jW bs rs)(hg:((gc,92,#[.pointer (some ⟨W,0,none⟩)]):Bx)∈bs)(hb:xs.length+(eL gS l).length+600≤aF):
 Calls Tryz.prog 116 #[.pointer (some ⟨W,0,none⟩),av,.func (.func 117) #[] #[.pointer (some ⟨gc,0,none⟩)]] w (mJ w0.heap.size w0 bs rs W ver (xs++eL gS l)):=by
 have hv':=hv;obtain⟨la,lk,rfl,hm1,hm2,-⟩:=au.form hv' (by decide);have hle:(eL gS l).length=(eN (l.length:Int)).length+(l.flatMap gS).length:=by unfold eL;rw[ajd]
 have hne:=aG (l.length:Int);refine bY M [] (fn:=Tryz.f116) Tryz.func116 rfl Tryz.ntmps116 rfl<|fun g1 w1 M1=>cE 1 M1 rfl (fun M=>bn (ns:=[(l.length:Int)]) M h5 (by simp) (by omega)) fun v3 kL w3 M3=>lp (ι:=Nat×Value×Int) (fun z=>[(15,.int .i64 (z.1:Int))]) (fun z=>(g1,3,#[.int .i64 (l.length:Int)])::bC W z.2.1 z.2.2 ver::bs) (fun z=>aH z.2.1 (xs++(eN (l.length:Int)++(l.take z.1).flatMap gS))::rs) (fun z _=>z.1≤l.length) (fun z=>l.length-z.1) (0,v3,kL)<|an ⟨⟨rfl,trivial⟩,fun M=>⟨M.cast rfl (by simp),aje _⟩⟩ ?_
 rintro⟨j,u,q⟩ w4 M4 hj;have hj:j≤l.length:=hj;refine an (fun h=>?_) fun h=>?_
 ·have hlt:j<l.length:=Int.ofNat_lt.1 (of_decide_eq_true h);obtain⟨y,hy⟩:∃ y,l[j]?=some y:=⟨_,ajf hlt⟩;have fB:=cS gS hy;have gY:=ajg hy;have gZ:(xs++(eN (l.length:Int)++(l.take j).flatMap gS)).length+(gS y).length+500≤aF:=by simp only[ajd];omega
  obtain⟨b,off,x,e1,hx,hc⟩:=au.elt hv (by decide) hy;have hx2:=hx;obtain⟨es,rfl,hE⟩:=hx2;obtain⟨nv,kv,rfl,vh,hkv⟩:=hE.open;obtain⟨_,_,rfl,-⟩:=aJ.get vh;obtain⟨_,_,rfl,-,-,-⟩:=au.form hkv (by decide);exact ia<|an ⟨e1,rfl,hlt⟩<|lc<|an (cL M4.below hc)<|ei<|an KM fun g5 w5 M5=>lb 0<|an ⟨rfl,rfl⟩ fun w6 M6=>lb 0<|an rfl<|cE 2 M6 rfl (fun M=>abf hx (hok y gY) M h5.cons.cons (by simp[hg]) gZ) fun v7 qQ w7 M7=>an (by omega)<|bk (j+1,v7,qQ) ⟨rfl,trivial⟩ (fun M=>⟨(M.only (.cons _ (.refl _)) (.refl _)).cast rfl (by rw[List.take_add_one,hy,ajh];simp),hlt⟩) (by dsimp only;omega)
 ·have hge:j=l.length:=Nat.le_antisymm hj (Nat.le_of_not_lt fun h'=>of_decide_eq_false h (Int.ofNat_lt.2 h'));subst hge;exact fun M=>⟨rfl,u,q,(M.only (.cons _ (.refl _)) (.refl _)).cast rfl (congrArg (fun t=>aH u (xs++(eN (l.length:Int)++t.flatMap gS))::rs) aji)⟩
theorem Wb{l:List iY}{av:Value}(hv:SliceAt w0 av 8 l.length (l.flatMap iY.cells))(hok:∀ x∈l,iY.Ok x)(M:Mm w0 w (bC W v1 lr ver::bs) (aH v1 xs::rs))(h5:jW bs rs)(hg:((gc,92,#[.pointer (some ⟨W,0,none⟩)]):Bx)∈bs)(hb:xs.length+(eL gN l).length+600≤aF):
 Calls Tryz.prog 118 #[.pointer (some ⟨W,0,none⟩),av,.func (.func 119) #[] #[.pointer (some ⟨gc,0,none⟩)]] w (mJ w0.heap.size w0 bs rs W ver (xs++eL gN l)):=by
 have hv':=hv;obtain⟨la,lk,rfl,hm1,hm2,-⟩:=SliceAt.form hv' (by decide);have hle:(eL gN l).length=(eN (l.length:Int)).length+(l.flatMap gN).length:=by unfold eL;rw[ajd]
 have hne:=aG (l.length:Int);refine bY M [] (fn:=Tryz.f118) Tryz.func118 rfl Tryz.ntmps118 rfl<|fun g1 w1 M1=>cE 1 M1 rfl (fun M=>bn (ns:=[(l.length:Int)]) M h5 (by simp) (by omega)) fun v3 kL w3 M3=>lp (ι:=Nat×Value×Int) (fun z=>[(15,.int .i64 (z.1:Int))]) (fun z=>(g1,3,#[.int .i64 (l.length:Int)])::bC W z.2.1 z.2.2 ver::bs) (fun z=>aH z.2.1 (xs++(eN (l.length:Int)++(l.take z.1).flatMap gN))::rs) (fun z _=>z.1≤l.length) (fun z=>l.length-z.1) (0,v3,kL)<|an ⟨⟨rfl,trivial⟩,fun M=>⟨M.cast rfl (by simp),aje _⟩⟩ ?_
 rintro⟨j,u,q⟩ w4 M4 hj;have hj:j≤l.length:=hj;refine an (fun h=>?_) fun h=>?_
 ·have hlt:j<l.length:=Int.ofNat_lt.1 (of_decide_eq_true h);obtain⟨y,hy⟩:∃ y,l[j]?=some y:=⟨_,ajf hlt⟩;have fB:=cS gN hy;have gY:=ajg hy;have gZ:(xs++(eN (l.length:Int)++(l.take j).flatMap gN)).length+(gN y).length+500≤aF:=by simp only[ajd];omega
  obtain⟨b,off,e1,hc⟩:=SliceAt.elt hv (f:=iY.cells) (fun _=>rfl) (by decide) hy hlt;exact ia<|an ⟨e1,rfl,hlt⟩<|lc (x:=y.cells)<|an (cL M4.below hc)<|ei<|an KN fun g5 w5 M5=>lb 0<|an ⟨rfl,rfl⟩ fun w6 M6=>lb 0<|an rfl<|cE 2 M6 rfl (fun M=>abe (hok y gY) M h5.cons.cons (by simp[hg]) gZ) fun v7 qQ w7 M7=>an (by omega)<|bk (j+1,v7,qQ) ⟨rfl,trivial⟩ (fun M=>⟨(M.only (.cons _ (.refl _)) (.refl _)).cast rfl (by rw[List.take_add_one,hy,ajh];simp),hlt⟩) (by dsimp only;omega)
 ·have hge:j=l.length:=Nat.le_antisymm hj (Nat.le_of_not_lt fun h'=>of_decide_eq_false h (Int.ofNat_lt.2 h'));subst hge;exact fun M=>⟨rfl,u,q,(M.only (.cons _ (.refl _)) (.refl _)).cast rfl (congrArg (fun t=>aH u (xs++(eN (l.length:Int)++t.flatMap gN))::rs) aji)⟩
theorem Wa{l:List jF}{av:Value}(hv:SliceAt w0 av 9 l.length (l.flatMap jF.cells))(hok:∀ x∈l,jF.Ok x)(M:Mm w0 w (bC W v1 lr ver::bs) (aH v1 xs::rs))(h5:jW bs rs)(hg:((gc,92,#[.pointer (some ⟨W,0,none⟩)]):Bx)∈bs)(hb:xs.length+(eL fC l).length+600≤aF):
 Calls Tryz.prog 121 #[.pointer (some ⟨W,0,none⟩),av,.func (.func 122) #[] #[.pointer (some ⟨gc,0,none⟩)]] w (mJ w0.heap.size w0 bs rs W ver (xs++eL fC l)):=by
 have hv':=hv;obtain⟨la,lk,rfl,hm1,hm2,-⟩:=SliceAt.form hv' (by decide);have hle:(eL fC l).length=(eN (l.length:Int)).length+(l.flatMap fC).length:=by unfold eL;rw[ajd]
 have hne:=aG (l.length:Int);refine bY M [] (fn:=Tryz.f121) Tryz.func121 rfl Tryz.ntmps121 rfl<|fun g1 w1 M1=>cE 1 M1 rfl (fun M=>bn (ns:=[(l.length:Int)]) M h5 (by simp) (by omega)) fun v3 kL w3 M3=>lp (ι:=Nat×Value×Int) (fun z=>[(15,.int .i64 (z.1:Int))]) (fun z=>(g1,3,#[.int .i64 (l.length:Int)])::bC W z.2.1 z.2.2 ver::bs) (fun z=>aH z.2.1 (xs++(eN (l.length:Int)++(l.take z.1).flatMap fC))::rs) (fun z _=>z.1≤l.length) (fun z=>l.length-z.1) (0,v3,kL)<|an ⟨⟨rfl,trivial⟩,fun M=>⟨M.cast rfl (by simp),aje _⟩⟩ ?_
 rintro⟨j,u,q⟩ w4 M4 hj;have hj:j≤l.length:=hj;refine an (fun h=>?_) fun h=>?_
 ·have hlt:j<l.length:=Int.ofNat_lt.1 (of_decide_eq_true h);obtain⟨y,hy⟩:∃ y,l[j]?=some y:=⟨_,ajf hlt⟩;have fB:=cS fC hy;have gY:=ajg hy;have gZ:(xs++(eN (l.length:Int)++(l.take j).flatMap fC)).length+(fC y).length+500≤aF:=by simp only[ajd];omega
  obtain⟨b,off,e1,hc⟩:=SliceAt.elt hv (f:=jF.cells) (fun _=>rfl) (by decide) hy hlt;exact ia<|an ⟨e1,rfl,hlt⟩<|lc (x:=y.cells)<|an (cL M4.below hc)<|ei<|an GL fun g5 w5 M5=>lb 0<|an ⟨rfl,rfl⟩ fun w6 M6=>lb 0<|an rfl<|cE 2 M6 rfl (fun M=>abd (hok y gY) M h5.cons.cons (by simp[hg]) gZ) fun v7 qQ w7 M7=>an (by omega)<|bk (j+1,v7,qQ) ⟨rfl,trivial⟩ (fun M=>⟨(M.only (.cons _ (.refl _)) (.refl _)).cast rfl (by rw[List.take_add_one,hy,ajh];simp),hlt⟩) (by dsimp only;omega)
 ·have hge:j=l.length:=Nat.le_antisymm hj (Nat.le_of_not_lt fun h'=>of_decide_eq_false h (Int.ofNat_lt.2 h'));subst hge;exact fun M=>⟨rfl,u,q,(M.only (.cons _ (.refl _)) (.refl _)).cast rfl (congrArg (fun t=>aH u (xs++(eN (l.length:Int)++t.flatMap fC))::rs) aji)⟩
theorem V_{l:List jt}{av:Value}(hv:SliceAt w0 av 10 l.length (l.flatMap jt.cells))(hok:∀ x∈l,jt.Ok x)(M:Mm w0 w (bC W v1 lr ver::bs) (aH v1 xs::rs))(h5:jW bs rs)(hg:((gc,92,#[.pointer (some ⟨W,0,none⟩)]):Bx)∈bs)(hb:xs.length+(eL fE l).length+600≤aF):
 Calls Tryz.prog 123 #[.pointer (some ⟨W,0,none⟩),av,.func (.func 124) #[] #[.pointer (some ⟨gc,0,none⟩)]] w (mJ w0.heap.size w0 bs rs W ver (xs++eL fE l)):=by
 have hv':=hv;obtain⟨la,lk,rfl,hm1,hm2,-⟩:=SliceAt.form hv' (by decide);have hle:(eL fE l).length=(eN (l.length:Int)).length+(l.flatMap fE).length:=by unfold eL;rw[ajd]
 have hne:=aG (l.length:Int);refine bY M [] (fn:=Tryz.f123) Tryz.func123 rfl Tryz.ntmps123 rfl<|fun g1 w1 M1=>cE 1 M1 rfl (fun M=>bn (ns:=[(l.length:Int)]) M h5 (by simp) (by omega)) fun v3 kL w3 M3=>lp (ι:=Nat×Value×Int) (fun z=>[(15,.int .i64 (z.1:Int))]) (fun z=>(g1,3,#[.int .i64 (l.length:Int)])::bC W z.2.1 z.2.2 ver::bs) (fun z=>aH z.2.1 (xs++(eN (l.length:Int)++(l.take z.1).flatMap fE))::rs) (fun z _=>z.1≤l.length) (fun z=>l.length-z.1) (0,v3,kL)<|an ⟨⟨rfl,trivial⟩,fun M=>⟨M.cast rfl (by simp),aje _⟩⟩ ?_
 rintro⟨j,u,q⟩ w4 M4 hj;have hj:j≤l.length:=hj;refine an (fun h=>?_) fun h=>?_
 ·have hlt:j<l.length:=Int.ofNat_lt.1 (of_decide_eq_true h);obtain⟨y,hy⟩:∃ y,l[j]?=some y:=⟨_,ajf hlt⟩;have fB:=cS fE hy;have gY:=ajg hy;have gZ:(xs++(eN (l.length:Int)++(l.take j).flatMap fE)).length+(fE y).length+500≤aF:=by simp only[ajd];omega
  obtain⟨b,off,e1,hc⟩:=SliceAt.elt hv (f:=jt.cells) (fun _=>rfl) (by decide) hy hlt;exact ia<|an ⟨e1,rfl,hlt⟩<|lc (x:=y.cells)<|an (cL M4.below hc)<|ei<|an Ci fun g5 w5 M5=>lb 0<|an ⟨rfl,rfl⟩ fun w6 M6=>lb 0<|an rfl<|cE 2 M6 rfl (fun M=>abb (hok y gY) M h5.cons.cons (by simp[hg]) gZ) fun v7 qQ w7 M7=>an (by omega)<|bk (j+1,v7,qQ) ⟨rfl,trivial⟩ (fun M=>⟨(M.only (.cons _ (.refl _)) (.refl _)).cast rfl (by rw[List.take_add_one,hy,ajh];simp),hlt⟩) (by dsimp only;omega)
 ·have hge:j=l.length:=Nat.le_antisymm hj (Nat.le_of_not_lt fun h'=>of_decide_eq_false h (Int.ofNat_lt.2 h'));subst hge;exact fun M=>⟨rfl,u,q,(M.only (.cons _ (.refl _)) (.refl _)).cast rfl (congrArg (fun t=>aH u (xs++(eN (l.length:Int)++t.flatMap fE))::rs) aji)⟩
end
section
variable {W:Nat} {w0 w:World} {bs:List Bx} {rs:List Rw} {v1:Value} {lr:Int} {v:Nat} {xs:List Nat}
theorem bN{P:Program}{a:Act}{w:World}{o:Oper}{f:Fn}{x:Operand}{p:Value}(ho:o.op=.makeFunc f #[] #[x])(hx:a.eval x=p):(execOp a.eval o).run P w=.ok (.value (.func f #[] #[p])) w:=by
 unfold execOp;simp[ho,hx,Instr.makeFunc,Result.andThen]
theorem yG{P:Program}{a:Act}{w:World}{o:Oper}{f:Fn}{x:Operand}{p:Value}(ho:o.op=.makeFunc f #[x] #[])(hx:a.eval x=p):(execOp a.eval o).run P w=.ok (.value (.func f #[p] #[])) w:=by
 unfold execOp;simp[ho,hx,Instr.makeFunc,Result.andThen]
theorem K9{p:aA}{c0 c1 c2 c3 c4 c5 c6 c7 c8 c9 c10 c11 c12 c13 c14 c15 c16:Value}(hp:aD w0 c0 c1 c2 c3 c4 c5 c6 c7 c8 c9 c10 c11 c12 c13 c14 c15 c16 p)(hok:p.Ok)(M:Mm w0 w (bC W v1 lr (v:Int)::bs) (aH v1 xs::rs))(h5:jW bs rs)(hb:xs.length+(gD v p).length+700≤aF):
 Calls Tryz.prog 35 #[.pointer (some ⟨W,0,none⟩),.agg #[c0,c1,c2,c3,c4,c5,c6,c7,c8,c9,c10,c11,c12,c13,c14,c15,c16]] w (mJ w0.heap.size w0 bs rs W (v:Int) (xs++gD v p)):=by
 obtain⟨_,_,_,_,_,_,_,_,_,_,_,_,_,_,_,_,_,_,_,_,_,_,_,_,_,_,_,_,_,_,_,_,_,_,rfl,rfl,rfl,rfl,rfl,rfl,rfl,rfl,rfl,rfl,rfl,rfl,rfl,rfl,rfl,rfl,rfl⟩:=hp.open;have hl:(gD v p).length=(eL gT p.classes).length+((eL (eTyp v) p.types).length+((eL gU p.attrs).length+((eL gQ p.roles).length+((eL gM p.users).length+((eL fN p.bools).length+((eL eS p.ay).length+((eL eS p.cats).length+((eL eE p.conds).length+((eL gO p.rules).length+((eL (gi v) p.trans).length+((eL gP p.ak).length+((if 2≤v then eL fU p.ranges else []).length+((eL gS p.cons).length+((eL gN p.aN).length+((if 3≤v then eL fC p.files else []).length+((if 3≤v then eL fE p.asserts else []).length)))))))))))))))):=by unfold gD;simp only[ajd]
 refine bY M [] (fn:=Tryz.f35) Tryz.func35 rfl Tryz.ntmps35 rfl<|fun g1 w1 M1=>fun g2 w2 M2=>?_
 exact lb 1<|an rfl<|lb 0<|an rfl<|ei<|an (fun a w o ho hv=>bN ho (aQ hv))<|cE 2 M2 rfl (fun M=>l86 (gc:=g1) hp.classes hok.classes M h5.cons.cons (by simp) (by(try simp only[ajd]);omega)) fun v3 kL w3 M3=>lb 1<|an rfl<|lb 0<|an rfl<|ei<|an (fun a w o ho hv=>bN ho (aQ hv))<|cE 2 M3 rfl (fun M=>l90 (gc:=g1) hp.types hok.types M h5.cons.cons (by simp) (by(try simp only[ajd]);omega)) fun v4 Hq w4 M4=>lb 1<|an rfl<|lb 0<|an rfl<|ei<|an (fun a w o ho hv=>bN ho (aQ hv))<|cE 2 M4 rfl (fun M=>l93 (gc:=g1) hp.attrs hok.attrs M h5.cons.cons (by simp) (by(try simp only[ajd]);omega)) fun v5 Js w5 M5=>lb 1<|an rfl<|lb 0<|an rfl<|ei<|an (fun a w o ho hv=>bN ho (aQ hv))<|cE 2 M5 rfl (fun M=>l96 (gc:=g1) hp.roles hok.roles M h5.cons.cons (by simp) (by(try simp only[ajd]);omega)) fun v6 KF w6 M6=>lb 1<|an rfl<|lb 0<|an rfl<|ei<|an (fun a w o ho hv=>bN ho (aQ hv))<|cE 2 M6 rfl (fun M=>l98 (gc:=g1) hp.users hok.users M h5.cons.cons (by simp) (by(try simp only[ajd]);omega)) fun v7 qQ w7 M7=>lb 1<|an rfl<|lb 0<|an rfl<|ei<|an (fun a w o ho hv=>bN ho (aQ hv))<|cE 2 M7 rfl (fun M=>Zh (gc:=g1) hp.bools hok.bools M h5.cons.cons (by simp) (by(try simp only[ajd]);omega)) fun v8 X6 w8 M8=>lb 1<|an rfl<|lb 0<|an rfl<|cE 2 M8 rfl (fun M=>vK M h5.cons.cons hp.ay (by(try simp only[ajd]);omega)) fun v9 V3 w9 M9=>lb 1<|an rfl<|lb 0<|an rfl<|cE 2 M9 rfl (fun M=>vK M h5.cons.cons hp.cats (by(try simp only[ajd]);omega)) fun v10 V5 pE jH=>lb 1<|an rfl<|lb 0<|an rfl<|lb 1<|an rfl<|ei<|an (fun a w o ho hv=>yG ho (aQ hv))<|cE 2 jH rfl (fun M=>Zg hp.conds hok.conds M h5.cons.cons (by(try simp only[ajd]);omega)) fun v11 V4 uO M11=>lb 1<|an rfl<|lb 0<|an rfl<|ei<|an (fun a w o ho hv=>bN ho (aQ hv))<|cE 2 M11 rfl (fun M=>Zf (gc:=g1) hp.rules hok.rules M h5.cons.cons (by simp) (by(try simp only[ajd]);omega)) fun v12 SJ zi q5=>lb 1<|an rfl<|lb 0<|an rfl<|ei<|an (fun a w o ho hv=>bN ho (aQ hv))<|cE 2 q5 rfl (fun M=>Ze (gc:=g1) hp.trans hok.trans M h5.cons.cons (by simp) (by(try simp only[ajd]);omega)) fun UO adM KD zf=>lb 1<|an rfl<|lb 0<|an rfl<|ei<|an (fun a w o ho hv=>bN ho (aQ hv))<|cE 2 zf rfl (fun M=>Zd (gc:=g1) hp.ak hok.ak M h5.cons.cons (by simp) (by(try simp only[ajd]);omega)) fun QL adL KC Cb=>lb 1<|an rfl<|lb 2<|an rfl<|an (fun h=>have h2:2≤v:=by { have:=of_decide_eq_true h;omega };have hi2:(if 2≤v then eL fU p.ranges else []).length=(eL fU p.ranges).length:=(by rw[if_pos h2]);lb 1<|an rfl<|lb 0<|an rfl<|ei<|an (fun a w o ho hv=>bN ho (aQ hv))<|cE 2 Cb rfl (fun M=>Zc (gc:=g1) hp.ranges hok.ranges M h5.cons.cons (by simp) (by(try simp only[ajd]);omega)) fun UN adK Ec rL=>lb 1<|an rfl<|lb 0<|an rfl<|ei<|an (fun a w o ho hv=>bN ho (aQ hv))<|cE 2 rL rfl (fun M=>Wc (gc:=g1) hp.cons hok.cons M h5.cons.cons (by simp) (by(try simp only[ajd]);omega)) fun QK Y6 KA vG=>lb 1<|an rfl<|lb 0<|an rfl<|ei<|an (fun a w o ho hv=>bN ho (aQ hv))<|cE 2 vG rfl (fun M=>Wb (gc:=g1) hp.aN hok.aN M h5.cons.cons (by simp) (by(try simp only[ajd]);omega)) fun v17 Y5 OO Av=>lb 1<|an rfl<|lb 2<|an rfl<|an (fun h=>have h3:3≤v:=by { have:=of_decide_eq_true h;omega };have hi3:(if 3≤v then eL fC p.files else []).length=(eL fC p.files).length:=(by rw[if_pos h3]);have hi4:(if 3≤v then eL fE p.asserts else []).length=(eL fE p.asserts).length:=(by rw[if_pos h3]);lb 1<|an rfl<|lb 0<|an rfl<|ei<|an (fun a w o ho hv=>bN ho (aQ hv))<|cE 2 Av rfl (fun M=>Wa (gc:=g1) hp.files hok.files M h5.cons.cons (by simp) (by(try simp only[ajd]);omega)) fun YK Y4 OM Gs=>lb 1<|an rfl<|lb 0<|an rfl<|ei<|an (fun a w o ho hv=>bN ho (aQ hv))<|cE 2 Gs rfl (fun M=>V_ (gc:=g1) hp.asserts hok.asserts M h5.cons.cons (by simp) (by(try simp only[ajd]);omega)) fun Vz Y3 RJ OC=>fun M=>⟨rfl,_,_,(M.only (.cons _ (.cons _ (.refl _))) (.refl _)).cast rfl (by unfold gD;rw[if_pos h2,if_pos h3,if_pos h3];simp only[List.append_assoc,List.append_nil,List.nil_append])⟩) fun h=>have h3:¬ 3≤v:=(by { have:=of_decide_eq_false h;omega });fun M=>⟨rfl,_,_,(M.only (.cons _ (.cons _ (.refl _))) (.refl _)).cast rfl (by unfold gD;rw[if_pos h2,if_neg h3,if_neg h3];simp only[List.append_assoc,List.append_nil,List.nil_append])⟩) fun h=>have h2:¬ 2≤v:=(by { have:=of_decide_eq_false h;omega });lb 1<|an rfl<|lb 0<|an rfl<|ei<|an (fun a w o ho hv=>bN ho (aQ hv))<|cE 2 Cb rfl (fun M=>Wc (gc:=g1) hp.cons hok.cons M h5.cons.cons (by simp) (by(try simp only[ajd]);omega)) fun QK Y6 KA vG=>lb 1<|an rfl<|lb 0<|an rfl<|ei<|an (fun a w o ho hv=>bN ho (aQ hv))<|cE 2 vG rfl (fun M=>Wb (gc:=g1) hp.aN hok.aN M h5.cons.cons (by simp) (by(try simp only[ajd]);omega)) fun v17 Y5 OO Av=>lb 1<|an rfl<|lb 2<|an rfl<|an (fun h=>have h3:3≤v:=by { have:=of_decide_eq_true h;omega };have hi3:(if 3≤v then eL fC p.files else []).length=(eL fC p.files).length:=(by rw[if_pos h3]);have hi4:(if 3≤v then eL fE p.asserts else []).length=(eL fE p.asserts).length:=(by rw[if_pos h3]);lb 1<|an rfl<|lb 0<|an rfl<|ei<|an (fun a w o ho hv=>bN ho (aQ hv))<|cE 2 Av rfl (fun M=>Wa (gc:=g1) hp.files hok.files M h5.cons.cons (by simp) (by(try simp only[ajd]);omega)) fun YK Y4 OM Gs=>lb 1<|an rfl<|lb 0<|an rfl<|ei<|an (fun a w o ho hv=>bN ho (aQ hv))<|cE 2 Gs rfl (fun M=>V_ (gc:=g1) hp.asserts hok.asserts M h5.cons.cons (by simp) (by(try simp only[ajd]);omega)) fun Vz Y3 RJ OC=>fun M=>⟨rfl,_,_,(M.only (.cons _ (.cons _ (.refl _))) (.refl _)).cast rfl (by unfold gD;rw[if_neg h2,if_pos h3,if_pos h3];simp only[List.append_assoc,List.append_nil,List.nil_append])⟩) fun h=>have h3:¬ 3≤v:=(by { have:=of_decide_eq_false h;omega });fun M=>⟨rfl,_,_,(M.only (.cons _ (.cons _ (.refl _))) (.refl _)).cast rfl (by unfold gD;rw[if_neg h2,if_neg h3,if_neg h3];simp only[List.append_assoc,List.append_nil,List.nil_append])⟩
end
theorem G1{w0:World}{u:Value}{l:List Nat}(h:aj w0 u l):Calls Tryz.prog 125 #[u] w0 (fun r w'=>r=.returned (.int .u32 (k_ l))∧RowKit.Below w0.heap.size w0 w'):=by
 obtain⟨a,c,rfl,hc0,hm,ha⟩:=kr h;refine bU [] (fn:=Tryz.f125) Tryz.func125 rfl Tryz.ntmps125 rfl<|lr (ι:=Nat) (fun j=>[(3,.int .u32 (k_ (l.take j))),(8,.int .i64 (j:Int))]) (fun j _=>j≤l.length) (fun j=>l.length-j) 0<|an ⟨⟨rfl,rfl,trivial⟩,fun M=>⟨M,aje _⟩⟩ ?_;intro j w1 M1 hj;refine an (fun h'=>?_) fun h'=>?_
 ·have hlt:j<l.length:=Int.ofNat_lt.1 (of_decide_eq_true h');obtain⟨y,b,off,rfl,hy,UZ,hcell⟩:=ha j hlt;refine ia<|an ⟨rfl,rfl,hlt⟩<|lc (x:=.int .u8 (y:Int))<|an (cell_later M1.below (by simpa using hcell))<|ei (x:=.int .u32 (y:Int))<|an (fun a w o ho hv=>(dw ho (aQ hv) u5 Oo).trans (by rw[show IntKind.u32.wrap (y:Int)=y by simp[IntKind.wrap,IntKind.bits,IntKind.signed];omega]))<|ei (x:=bits .xor .u32 (k_ (l.take j)) (y:Int))<|an rfl<|ei (x:=k_ (l.take (j+1)))<|an ?_<|an (by omega)<|bk (j+1) ⟨rfl,rfl,trivial⟩ (fun M=>⟨M,hlt⟩) (show l.length-(j+1)<l.length-j by omega);rw[List.take_add_one,hy,Option.toList_some,IL];unfold oz;simp[IntKind.wrap,IntKind.bits,IntKind.signed]
 ·have hge:j=l.length:=Nat.le_antisymm hj (Nat.le_of_not_lt fun h2=>of_decide_eq_false h' (Int.ofNat_lt.2 h2));subst hge;exact fun M=>⟨congrArg (fun t=>Ending.returned (.int .u32 (k_ t))) aji,M.below⟩
theorem Lv{w0:World}{u:Value}{l:List Nat}(h:aj w0 u l)(hb:l.length+10≤aF):Calls Tryz.prog 36 #[u] w0 (fun r w'=>∃ v,r=.returned v∧(w'.ownsRow w0.heap.size 5 1 v (iD l).length (byteCells (iD l))∧RowKit.Below w0.heap.size w0 w')):=by
 obtain⟨h0,h1⟩:=Eo l;obtain⟨a,c,rfl,hc0,hm,ha⟩:=kr h;have c8:∀ n:Int,0≤n→IntKind.u8.wrap n=n%256:=fun n hn=>by simp[IntKind.wrap,IntKind.bits,IntKind.signed]
 refine bU [] (fn:=Tryz.f36) Tryz.func36 rfl Tryz.ntmps36 rfl<|cl<|an (G1 h) fun w1 M1=>fun g2 w2 M2=>ap 0 (fun M=>M.uH 1 0 (by simp[maxLen]) rfl) rfl (h.1.keep M2.below) ⟨by unfold maxLen;unfold aF at hb;omega,by unfold aF at hb;omega⟩ fun v3 w3 M3=>ei (x:=.int .u8 (k_ l%256))<|an (fun a w o ho hv=>(dw ho (aQ hv) Oo u5).trans (by rw[c8 _ h0]))<|ei (x:=.int .u32 (k_ l/256))<|an (fun a w o ho hv=>(rG ho (aQ hv) (cO hv) (by omega) (by decide)).trans (by simp))<|ei (x:=.int .u8 (k_ l/256%256))<|an (fun a w o ho hv=>(dw ho (aQ hv) Oo u5).trans (by rw[c8 _ (by omega)]))<|ei (x:=.int .u32 (k_ l/65536))<|an (fun a w o ho hv=>(rG ho (aQ hv) (cO hv) (by omega) (by decide)).trans (by simp))<|ei (x:=.int .u8 (k_ l/65536%256))<|an (fun a w o ho hv=>(dw ho (aQ hv) Oo u5).trans (by rw[c8 _ (by omega)]))<|ei (x:=.int .u32 (k_ l/16777216))<|an (fun a w o ho hv=>(rG ho (aQ hv) (cO hv) (by omega) (by decide)).trans (by simp))<|ei (x:=.int .u8 (k_ l/16777216))<|an (fun a w o ho hv=>(dw ho (aQ hv) Oo u5).trans (by rw[c8 _ (by omega),Int.emod_eq_of_lt (by omega) (by omega)]))<|fun g4 w4 M4=>?_
 have M4':aC w0.heap.size w0 w4 [(g4,5,(byteCells (dA (k_ l))).toArray)] [aH v3 l]:=by
  rw[wY h0];exact M4.cast rfl (by simp)
 exact cb (oM M4' (uG M4' (by simp[dA]) (uT h0 h1)) (by simp[dA];omega)) fun v5 w5 M5=>fun M=>⟨v5,rfl,M.r 0 rfl,M.below⟩
theorem qN{P:Program}{a:Act}{w:World}{o:Oper}{t e:TypeId}{x lo:Operand}{g off n c l k:Nat}{lk:IntKind}(ho:o.op=.slice t x (some lo) none none)(hx:a.eval x=.slice (some ⟨g,off,none⟩) n c)(hl:a.eval lo=.int lk (l:Int))(hln:l≤n)
 (hu:P.underlying t=some (.slice e)) (hs:(P.info? e).map (·.size)=some k):(execOp a.eval o).run P w=.ok (.value (.slice (if c=l then some ⟨g,off,none⟩ else some ⟨g,off+l*k,none⟩) (n-l) (c-l))) w:=by
 have hadd:(⟨g,off,none⟩:Addr).add (l*k)=⟨g,off+l*k,none⟩:=by unfold Addr.add;split<;>simp_all
 have h1:(0:Int)≤(l:Int)∧(l:Int)≤(n:Int):=by omega
 unfold execOp;simp only[ho,hx,hl,Option.map_some,Option.map_none,Instr.sliceAt,Sem.run_bind,run_underlying hu w,Result.andThen_ok,Instr.slice,Instr.sliceBounds,Instr.sliceBound,asIntOf,Sem.run_pure,h1,and_self,if_true,Int.toNat_natCast];by_cases h:c=l
 ·subst h;simp[run_sizeOf hs]
 ·simp[h,run_sizeOf hs,hadd]
theorem clo{B:Nat}{w0 w:World}{bs:List Bx}{rs:List Rw}{ty t e:TypeId}{x lo:Operand}{g off n c k:Nat}{K:Value→List Bx→List Rw→World→Prop}(M:aC B w0 w bs rs)(hc:0<c)(hu:Tryz.prog.underlying t=some (.slice e))(hs:(Tryz.prog.info? e).map (·.size)=some k)(h:K (.slice (some ⟨g,off,none⟩) n c) bs rs w):
 ∃ R:Value→World→Prop,(∀ (a:Act) (o':Oper),o'.op=.slice t x (some lo) none none→o'.type=ty→q6 a (gb (.slice t x (some lo) none none)) [.slice (some ⟨g,off,none⟩) n c,.int .i64 0]→∃ v w',(execOp a.eval o').run Tryz.prog w=.ok (.value v) w'∧R v w')∧∀ v w',R v w'→∃ bs' rs',aC B w0 w' bs' rs'∧K v bs' rs' w':=by
 refine⟨fun u w2=>u=.slice (some ⟨g,off,none⟩) n c∧w2=w,fun a o' hop _ oO=>⟨_,_,?_,rfl,rfl⟩,?_⟩
 ·have:=qN (P:=Tryz.prog) (w:=w) (l:=0) hop (aQ oO) (cO oO) (aje _) hu hs;rw[if_neg (by omega)] at this;simpa using this
 ·rintro v w2 ⟨rfl,rfl⟩;exact⟨_,_,M,h⟩
theorem Kf{B W:Nat}{w0 w:World}{bs:List Bx}{rs:List Rw}{v:Value}{lr ver:Int}{xs:List Nat}(M:aC B w0 w (bC W v lr ver::bs) (aH v xs::rs))(hne:xs≠[]):
 Calls Tryz.prog 37 #[.pointer (some ⟨W,0,none⟩)] w (fun r w'=>r=.returned v∧aC B w0 w' (bC W v lr ver::bs) (aH v xs::rs)):=by
 have hl:0<xs.length:=List.length_pos_iff.2 hne
 obtain⟨g,cap,rfl,hc⟩:∃ g cap,v=.slice (some ⟨g,0,none⟩) xs.length cap∧xs.length≤cap:=by
  obtain⟨-,h⟩:=M.r 0 rfl;rcases h with⟨-,h⟩|⟨g,cap,cur,h1,-,-,h2,-⟩
  ·exact absurd (show xs.length=0 from h) (by omega)
  ·exact⟨g,cap,h1,h2⟩
 refine bY M [] (fn:=Tryz.f37) Tryz.func37 rfl Tryz.ntmps37 rfl<|sp [0,1,2,4,5,6] (.alt (.step 3 (.step 7 (.step 8 (.step 9 .done)))) (.step 7 (.step 3 (.step 8 (.step 9 .done))))) [] (by kernel_rfl)<|fun w2 hb2 M2=>⟨?_,?_⟩
 ·exact lb 0<|an rfl<|an rfl<|lb 0<|an rfl<|an rfl<|clo (k:=1) M2 (by omega) IG (by kernel_rfl)<|an rfl<|an rfl<|fun M=>⟨rfl,M⟩
 ·exact lb 0<|an rfl<|an rfl<|lb 0<|an rfl<|an rfl<|clo (k:=1) M2 (by omega) IG (by kernel_rfl)<|an rfl<|an rfl<|fun M=>⟨rfl,M⟩
def jR(s:ByteArray):Prop:=s.size≤256
def vq{α:Type}(l:List α):Prop:=l.length<4294967296
structure rK (l:List ByteArray):Prop where
 len:vq l
 all:∀ s∈l,jR s
theorem vU{l:List ByteArray}(h:rK l):jq (cI eX) (eL eS l) l:=iI h.len fun s hs=>jK (h.all s hs)
structure XD (x:dz):Prop where
 kind:lJ x.kind
 src:x.src.Ok
 tgt:x.tgt.Ok
 cls:lJ x.cls
 perms:lJ x.perms
 cond:-2147483648≤x.cond∧x.cond<2147483648
structure Xz (x:bG):Prop where
 kind:lJ x.kind
 src:x.src.Ok
 tgt:x.tgt.Ok
 cls:lJ x.cls
 name:jR x.name
 res:lJ x.res
 cond:-2147483648≤x.cond∧x.cond<2147483648
structure pL (v:Nat) (p:aA):Prop where
 classes:vq p.classes∧∀ x∈p.classes,jR x.name∧rK x.perms
 types:vq p.types∧∀ x∈p.types,jR x.name∧rK x.jy∧(v<2→x.perm=false)
 attrs:vq p.attrs∧∀ x∈p.attrs,jR x.name∧x.types.Ok
 roles:vq p.roles∧∀ x∈p.roles,jR x.name∧x.types.Ok∧x.next.Ok
 users:vq p.users∧∀ x∈p.users,jR x.name∧x.roles.Ok∧Cc x.dflt∧zD x.rng
 bools:vq p.bools∧∀ x∈p.bools,jR x.name
 ay:rK p.ay
 cats:rK p.cats
 conds:vq p.conds∧∀ x∈p.conds,qz 12 x
 rules:vq p.rules∧∀ x∈p.rules,XD x
 trans:vq p.trans∧∀ x∈p.trans,Xz x∧(v<2→x.name=⟨#[]⟩)
 ak:vq p.ak∧∀ x∈p.ak,x.roles.Ok∧x.types.Ok∧lJ x.cls∧lJ x.res
 ranges:(vq p.ranges∧∀ x∈p.ranges,x.src.Ok∧x.tgt.Ok∧lJ x.cls∧zD x.rng)∧(v<2→p.ranges=[])
 cons:vq p.cons∧∀ x∈p.cons,lJ x.cls∧lJ x.perms∧qz 12 x.expr
 aN:vq p.aN∧∀ x∈p.aN,jR x.name∧Cg x.ctx
 files:(vq p.files∧∀ x∈p.files,jR x.pat∧lJ x.kind∧Cg x.ctx)∧(v<3→p.files=[])
 asserts:(vq p.asserts∧∀ x∈p.asserts,jR x.name∧lJ x.kind∧x.src.Ok∧x.tgt.Ok)∧(v<3→p.asserts=[])
theorem CR{α:Type}{c:Prop}[Decidable c]{p:Ps α}{x z:α}{xs:List Nat}(h:jq p xs x)(hz:¬ c→x=z):jq (if c then p else pp z) (if c then xs else []) x:=by
 by_cases hc:c
 ·rw[if_pos hc,if_pos hc];exact h
 ·rw[if_neg hc,if_neg hc,hz hc];exact jq.pure _
theorem EF{v:Nat}{p:aA}(h:pL v p):jq (zq v) (gD v p) p:=by
 obtain⟨a0,a1,a2,a3,a4,a5,a6,a7,a8,a9,nr,mH,a12,mF,mE,og,n_⟩:=p
 refine(iI h.classes.1 fun x hx=>?_).bind<|(iI h.types.1 fun x hx=>?_).bind<|(iI h.attrs.1 fun x hx=>?_).bind<|(iI h.roles.1 fun x hx=>?_).bind<|(iI h.users.1 fun x hx=>?_).bind<|(iI h.bools.1 fun x hx=>?_).bind<|(vU h.ay).bind<|(vU h.cats).bind<|(iI h.conds.1 fun x hx=>LN (h.conds.2 x hx)).bind<|(iI h.rules.1 fun x hx=>?_).bind<|(iI h.trans.1 fun x hx=>?_).bind<|(iI h.ak.1 fun x hx=>?_).bind<|
  (CR (iI h.ranges.1.1 fun x hx=>?_) fun hv=>h.ranges.2 (by omega)).bind<|(iI h.cons.1 fun x hx=>?_).bind<|(iI h.aN.1 fun x hx=>?_).bind<|
  (CR (iI h.files.1.1 fun x hx=>?_) fun hv=>h.files.2 (by omega)).bind<|(CR (iI h.asserts.1.1 fun x hx=>?_) fun hv=>h.asserts.2 (by omega)).last<|jq.pure _
 ·obtain⟨h1,h2⟩:=h.classes.2 x hx;exact(jK h1).bind ((vU h2).last (jq.pure _))
 ·obtain⟨h1,h2,h3⟩:=h.types.2 x hx;exact(jK h1).bind ((vU h2).bind ((CR (vV _) fun hv=>h3 (by omega)).last (jq.pure _)))
 ·obtain⟨h1,h2⟩:=h.attrs.2 x hx;exact(jK h1).bind ((jd h2).last (jq.pure _))
 ·obtain⟨h1,h2,h3⟩:=h.roles.2 x hx;exact(jK h1).bind ((jd h2).bind ((jd h3).last (jq.pure _)))
 ·obtain⟨h1,h2,h3,h4⟩:=h.users.2 x hx;exact(jK h1).bind ((jd h2).bind ((EG h3).bind ((ED h4).last (jq.pure _))))
 ·exact(jK (h.bools.2 x hx)).bind ((vV _).last (jq.pure _))
 ·have k:=h.rules.2 x hx;exact(cN k.kind).bind ((jd k.src).bind ((jd k.tgt).bind ((vV _).bind ((cN k.cls).bind ((cN k.perms).bind ((G9 k.cond).last (jq.pure _)))))))
 ·obtain⟨k,hn⟩:=h.trans.2 x hx;exact(cN k.kind).bind ((jd k.src).bind ((jd k.tgt).bind ((cN k.cls).bind ((CR (jK k.name) fun hv=>hn (by omega)).bind ((cN k.res).bind ((G9 k.cond).last (jq.pure _)))))))
 ·obtain⟨h1,h2,h3,h4⟩:=h.ak.2 x hx;exact(jd h1).bind ((jd h2).bind ((cN h3).bind ((cN h4).last (jq.pure _))))
 ·obtain⟨h1,h2,h3,h4⟩:=h.ranges.1.2 x hx;exact(jd h1).bind ((jd h2).bind ((cN h3).bind ((ED h4).last (jq.pure _))))
 ·obtain⟨h1,h2,h3⟩:=h.cons.2 x hx;exact(cN h1).bind ((cN h2).bind ((vV _).bind ((LN h3).last (jq.pure _))))
 ·obtain⟨h1,h2⟩:=h.aN.2 x hx;exact(jK h1).bind ((LO h2).last (jq.pure _))
 ·obtain⟨h1,h2,h3⟩:=h.files.1.2 x hx;exact(jK h1).bind ((cN h2).bind ((LO h3).last (jq.pure _)))
 ·obtain⟨h1,h2,h3,h4⟩:=h.asserts.1.2 x hx;exact(jK h1).bind ((cN h2).bind ((jd h3).bind ((jd h4).last (jq.pure _))))
def Cn{α:Type}(p:Ps α)(f:α→List Nat)(G:α→Prop):Prop:=∀ l x r,Bytes l→p l=.ok (x,r)→f x++r=l∧Bytes r∧G x
theorem bh{α β:Type}{p:Ps α}{f:α→Ps β}{l r:List Nat}{y:β}(h:pb p f l=.ok (y,r)):∃ x r1,p l=.ok (x,r1)∧f x r1=.ok (y,r):=by
 unfold pb at h;split at h
 ·exact⟨_,_,by assumption,h⟩
 ·cases h
theorem eK{α:Type}{x y:α}{l r:List Nat}(h:pp x l=.ok (y,r)):y=x∧r=l:=by
 unfold pp at h;simp at h;exact⟨h.1.symm,h.2.symm⟩
theorem Ik:Cn nG aL cW:=fun l x r hb h=>by
 unfold nG at h;split at h
 ·rename_i he;simp only[Except.ok.injEq,Prod.mk.injEq] at h;obtain⟨rfl,rfl⟩:=h;exact⟨lH hb (by rw[← he]),(jw l 0 0 hb).1,j8 l⟩
 ·cases h
theorem jP:Cn Pm aL (fun n=>n<4294967296):=fun l x r hb h=>by
 obtain⟨n,r1,h1,h2⟩:=bh h;split at h2
 ·rename_i hn;obtain⟨rfl,rfl⟩:=eK h2;obtain⟨e,hb',-⟩:=Ik l _ _ hb h1;exact⟨e,hb',hn⟩
 ·cases h2
theorem bO:Cn iw eN lJ:=fun l x r hb h=>by
 obtain⟨n,r1,h1,h2⟩:=bh h;obtain⟨rfl,rfl⟩:=eK h2;obtain⟨e,hb',hn⟩:=jP l _ _ hb h1;have hN:lJ (n:Int):=⟨by omega,by omega⟩;refine⟨?_,hb',hN⟩;rw[Ia hN];exact e
theorem tN:Cn rD eC (fun n=>-2147483648≤n∧n<2147483648):=fun l x r hb h=>by
 unfold rD at h;split at h
 ·rename_i he;split at h
  ·rename_i hr;simp only[Except.ok.injEq,Prod.mk.injEq] at h;obtain⟨rfl,rfl⟩:=h;obtain⟨e,-⟩:=zR (m:=(bZ l).1) (r:=(bZ l).2.1) hb (by rw[← he]);refine⟨e,?_,hr⟩;rw[← e] at hb;exact fun x hx=>hb x (List.mem_append.2 (.inr hx))
  ·cases h
 ·cases h
theorem oW:Cn uZ eB (fun _=>True):=fun l x r hb h=>by
 obtain⟨n,r1,h1,h2⟩:=bh h;split at h2
 ·rename_i hn;obtain⟨rfl,rfl⟩:=eK h2;obtain⟨e,hb',-⟩:=jP l _ _ hb h1;refine⟨?_,hb',trivial⟩;rw[NA];rcases(by omega:n=0∨n=1) with rfl|rfl<;>exact e
 ·cases h2
theorem b_:Cn eX eS jR:=fun l x r hb h=>by
 unfold eX at h;split at h
 ·rename_i he;simp only[Except.ok.injEq,Prod.mk.injEq] at h;obtain⟨rfl,rfl⟩:=h;obtain⟨e,hl,hs⟩:=OV (s:=(kR l 256).1) (r:=(kR l 256).2.1) hb (by rw[← he]);refine⟨?_,?_,?_⟩
  ·unfold eS;rw[w_,pS hs];exact e
  ·rw[← e] at hb;exact fun x hx=>hb x (List.mem_append.2 (.inr hx))
  ·unfold jR;rw[w_];omega
 ·cases h
theorem cA:Cn lV eT aq.Ok:=fun l x r hb h=>by
 unfold lV at h;split at h
 ·rename_i he;simp only[Except.ok.injEq,Prod.mk.injEq] at h;obtain⟨rfl,rfl⟩:=h;obtain⟨a,b,c,d,es,ha,hb0,hc,hd,e⟩:=RX (ss:=(mI l).1) (r:=(mI l).2.1) hb (by rw[← he]);rw[es];refine⟨e,?_,⟨ha,hb0,hc,hd⟩⟩;rw[← e] at hb;exact fun x hx=>hb x (List.mem_append.2 (.inr hx))
 ·cases h
section
variable {α β:Type} {p:Ps α} {f:α→List Nat} {G:α→Prop}
theorem NU(h:Cn p f G):∀ n,Cn (vC n p) (List.flatMap f) (fun l=>l.length=n∧∀ x∈l,G x)
 | 0,l,x,r,hb,hp=>by
  obtain⟨rfl,rfl⟩:=eK hp;exact⟨rfl,hb,rfl,by simp⟩
 | n+1,l,x,r,hb,hp=>by
  obtain⟨y,r1,h1,h2⟩:=bh hp;obtain⟨ys,r2,h3,h4⟩:=bh h2;obtain⟨rfl,rfl⟩:=eK h4;obtain⟨e1,b1,g1⟩:=h l _ _ hb h1;obtain⟨e2,b2,n2,g2⟩:=NU h n r1 _ _ b1 h3;refine⟨?_,b2,by simp[n2],fun x hx=>?_⟩
  ·rw[List.flatMap_cons,List.append_assoc,e2,e1]
  ·rcases List.mem_cons.1 hx with rfl|hx
   ·exact g1
   ·exact g2 x hx
theorem dV(h:Cn p f G):Cn (cI p) (eL f) (fun l=>vq l∧∀ x∈l,G x):=fun l x r hb hp=>by
 obtain⟨n,r1,h1,h2⟩:=bh hp;obtain⟨e1,b1,hn⟩:=jP l _ _ hb h1;obtain⟨e2,b2,n2,g2⟩:=NU h n r1 _ _ b1 h2;refine⟨?_,b2,by unfold vq;omega,g2⟩;unfold eL;rw[Ia ⟨by omega,by omega⟩,n2,List.append_assoc,e2];exact e1
theorem Rs{c:Prop}[Decidable c]{z:α}(h:Cn p f G)(hz:G z):Cn (if c then p else pp z) (fun x=>if c then f x else []) (fun x=>G x∧(¬ c→x=z)):=fun l x r hb hp=>by
 by_cases hc:c
 ·rw[if_pos hc] at hp;obtain⟨e,b,g⟩:=h l _ _ hb hp;refine⟨?_,b,g,fun k=>absurd hc k⟩;dsimp only;rw[if_pos hc];exact e
 ·rw[if_neg hc] at hp;obtain⟨rfl,rfl⟩:=eK hp;refine⟨?_,hb,hz,fun _=>rfl⟩;dsimp only;rw[if_neg hc];rfl
end
theorem wE:Cn (cI eX) (eL eS) rK:=fun l x r hb h=>by
 obtain⟨e,b,g⟩:=dV b_ l x r hb h;exact⟨e,b,g.1,g.2⟩
theorem BX:Cn E3 ng Cc:=fun l x r hb h=>by
 obtain⟨a,r1,h1,h⟩:=bh h;obtain⟨b,r2,h2,h⟩:=bh h;obtain⟨rfl,rfl⟩:=eK h;obtain⟨e1,b1,g1⟩:=bO l _ _ hb h1;obtain⟨e2,b2,g2⟩:=Ik r1 _ _ b1 h2;refine⟨?_,b2,g1,g2⟩;show eN a++aL b++r=l;rw[List.append_assoc,e2,e1]
theorem yM:Cn E1 oR zD:=fun l x r hb h=>by
 obtain⟨a,r1,h1,h⟩:=bh h;obtain⟨b,r2,h2,h⟩:=bh h;obtain⟨rfl,rfl⟩:=eK h;obtain⟨e1,b1,g1⟩:=BX l _ _ hb h1;obtain⟨e2,b2,g2⟩:=BX r1 _ _ b1 h2;refine⟨?_,b2,g1,g2⟩;show ng a++ng b++r=l;rw[List.append_assoc,e2,e1]
theorem BZ:Cn Jg qt Cg:=fun l x r hb h=>by
 obtain⟨a,r1,h1,h⟩:=bh h;obtain⟨b,r2,h2,h⟩:=bh h;obtain⟨c,r3,h3,h⟩:=bh h;obtain⟨d,r4,h4,h⟩:=bh h;obtain⟨rfl,rfl⟩:=eK h;obtain⟨e1,b1,g1⟩:=bO l _ _ hb h1;obtain⟨e2,b2,g2⟩:=bO r1 _ _ b1 h2;obtain⟨e3,b3,g3⟩:=bO r2 _ _ b2 h3;obtain⟨e4,b4,g4⟩:=yM r3 _ _ b3 h4;refine⟨?_,b4,g1,g2,g3,g4⟩;show eN a++(eN b++(eN c++oR d))++r=l;simp only[List.append_assoc];rw[e4,e3,e2,e1]
theorem qw:∀ k,Cn (jB k) eE (qz k)
 | 0,l,x,r,hb,h=>by
  unfold jB at h;obtain⟨op,r1,h1,h⟩:=bh h;split at h<;>cases h
 | k+1,l,x,r,hb,h=>by
  unfold jB at h;obtain⟨op,r1,h1,h⟩:=bh h;obtain⟨e1,b1,g1⟩:=bO l _ _ hb h1;split at h
  case isFalse=>cases h
  rename_i hop;split at h
  ·rename_i ho;subst ho;obtain⟨a,r2,h2,h⟩:=bh h;obtain⟨rfl,rfl⟩:=eK h;obtain⟨e2,b2,g2⟩:=bO r1 _ _ b1 h2;refine⟨?_,b2,.name g2⟩;rw[eE,tI,List.append_nil];show eN 1++eN a++r=l;rw[List.append_assoc,e2,e1]
  split at h
  ·rename_i _ ho;subst ho;obtain⟨a,r2,h2,h⟩:=bh h;obtain⟨b,r3,h3,h⟩:=bh h;obtain⟨c,r4,h4,h⟩:=bh h;obtain⟨rfl,rfl⟩:=eK h;obtain⟨e2,b2,g2⟩:=bO r1 _ _ b1 h2;obtain⟨e3,b3,g3⟩:=bO r2 _ _ b2 h3;obtain⟨e4,b4,g4⟩:=bO r3 _ _ b3 h4;refine⟨?_,b4,.cmp g2 g3 g4⟩;rw[eE,tI,List.append_nil];show eN 8++(eN a++(eN b++eN c))++r=l;simp only[List.append_assoc];rw[e4,e3,e2,e1]
  split at h
  ·rename_i _ _ ho;subst ho;obtain⟨a,r2,h2,h⟩:=bh h;obtain⟨s,r3,h3,h⟩:=bh h;obtain⟨rfl,rfl⟩:=eK h;obtain⟨e2,b2,g2⟩:=bO r1 _ _ b1 h2;obtain⟨e3,b3,g3⟩:=cA r2 _ _ b2 h3;refine⟨?_,b3,.inn g2 g3⟩;rw[eE,tI,List.append_nil];show eN 9++(eN a++eT s)++r=l;simp only[List.append_assoc];rw[e3,e2,e1]
  split at h
  ·rename_i _ _ _ ho;subst ho;obtain⟨y,r2,h2,h⟩:=bh h;obtain⟨rfl,rfl⟩:=eK h;obtain⟨e2,b2,g2⟩:=qw k r1 _ _ b1 h2;refine⟨?_,b2,.not g2⟩;rw[eE,tI,tI,List.append_nil];show eN 2++[]++eE y++r=l;rw[List.append_nil,List.append_assoc,e2,e1]
  ·rename_i n1 n8 n9 n2;obtain⟨y,r2,h2,h⟩:=bh h;obtain⟨z,r3,h3,h⟩:=bh h;obtain⟨rfl,rfl⟩:=eK h;obtain⟨e2,b2,g2⟩:=qw k r1 _ _ b1 h2;obtain⟨e3,b3,g3⟩:=qw k r2 _ _ b2 h3;refine⟨?_,b3,.two (by omega) (by omega) g2 g3⟩;rw[eE,tI,tI,tI,List.append_nil];unfold qV;rw[if_neg n1,if_neg n8,if_neg n9,List.append_nil,List.append_assoc,List.append_assoc,e3,e2,e1]
theorem NV:Cn E6 gT (fun x=>jR x.name∧rK x.perms):=fun l x r hb h=>by
 obtain⟨a,r1,h1,h⟩:=bh h;obtain⟨b,r2,h2,h⟩:=bh h;obtain⟨rfl,rfl⟩:=eK h;obtain⟨e1,b1,g1⟩:=b_ l _ _ hb h1;obtain⟨e2,b2,g2⟩:=wE r1 _ _ b1 h2;refine⟨?_,b2,g1,g2⟩;show eS a++eL eS b++r=l;rw[List.append_assoc,e2,e1]
theorem NN(v:Nat):Cn (EV v) (eTyp v) (fun x=>jR x.name∧rK x.jy∧(v<2→x.perm=false)):=fun l x r hb h=>by
 obtain⟨a,r1,h1,h⟩:=bh h;obtain⟨b,r2,h2,h⟩:=bh h;obtain⟨c,r3,h3,h⟩:=bh h;obtain⟨rfl,rfl⟩:=eK h;obtain⟨e1,b1,g1⟩:=b_ l _ _ hb h1;obtain⟨e2,b2,g2⟩:=wE r1 _ _ b1 h2;obtain⟨e3,b3,-,g3⟩:=Rs oW trivial r2 _ _ b2 h3;refine⟨?_,b3,g1,g2,fun hv=>g3 (by omega)⟩;show eS a++(eL eS b++(if 2≤v then eB c else []))++r=l;simp only[List.append_assoc];rw[e3,e2,e1]
theorem NX:Cn E8 gU (fun x=>jR x.name∧x.types.Ok):=fun l x r hb h=>by
 obtain⟨a,r1,h1,h⟩:=bh h;obtain⟨b,r2,h2,h⟩:=bh h;obtain⟨rfl,rfl⟩:=eK h;obtain⟨e1,b1,g1⟩:=b_ l _ _ hb h1;obtain⟨e2,b2,g2⟩:=cA r1 _ _ b1 h2;refine⟨?_,b2,g1,g2⟩;show eS a++eT b++r=l;rw[List.append_assoc,e2,e1]
theorem NS:Cn E0 gQ (fun x=>jR x.name∧x.types.Ok∧x.next.Ok):=fun l x r hb h=>by
 obtain⟨a,r1,h1,h⟩:=bh h;obtain⟨b,r2,h2,h⟩:=bh h;obtain⟨c,r3,h3,h⟩:=bh h;obtain⟨rfl,rfl⟩:=eK h;obtain⟨e1,b1,g1⟩:=b_ l _ _ hb h1;obtain⟨e2,b2,g2⟩:=cA r1 _ _ b1 h2;obtain⟨e3,b3,g3⟩:=cA r2 _ _ b2 h3;refine⟨?_,b3,g1,g2,g3⟩;show eS a++(eT b++eT c)++r=l;simp only[List.append_assoc];rw[e3,e2,e1]
theorem NM:Cn EU gM (fun x=>jR x.name∧x.roles.Ok∧Cc x.dflt∧zD x.rng):=fun l x r hb h=>by
 obtain⟨a,r1,h1,h⟩:=bh h;obtain⟨b,r2,h2,h⟩:=bh h;obtain⟨c,r3,h3,h⟩:=bh h;obtain⟨d,r4,h4,h⟩:=bh h;obtain⟨rfl,rfl⟩:=eK h;obtain⟨e1,b1,g1⟩:=b_ l _ _ hb h1;obtain⟨e2,b2,g2⟩:=cA r1 _ _ b1 h2;obtain⟨e3,b3,g3⟩:=BX r2 _ _ b2 h3;obtain⟨e4,b4,g4⟩:=yM r3 _ _ b3 h4;refine⟨?_,b4,g1,g2,g3,g4⟩;show eS a++(eT b++(ng c++oR d))++r=l;simp only[List.append_assoc];rw[e4,e3,e2,e1]
theorem NW:Cn E7 fN (fun x=>jR x.name):=fun l x r hb h=>by
 obtain⟨a,r1,h1,h⟩:=bh h;obtain⟨b,r2,h2,h⟩:=bh h;obtain⟨rfl,rfl⟩:=eK h;obtain⟨e1,b1,g1⟩:=b_ l _ _ hb h1;obtain⟨e2,b2,-⟩:=oW r1 _ _ b1 h2;refine⟨?_,b2,g1⟩;show eS a++eB b++r=l;rw[List.append_assoc,e2,e1]
theorem NQ:Cn EY gO XD:=fun l x r hb h=>by
 obtain⟨a,r1,h1,h⟩:=bh h;obtain⟨b,r2,h2,h⟩:=bh h;obtain⟨c,r3,h3,h⟩:=bh h;obtain⟨d,r4,h4,h⟩:=bh h;obtain⟨e,r5,h5,h⟩:=bh h;obtain⟨f,r6,h6,h⟩:=bh h;obtain⟨g,r7,h7,h⟩:=bh h;obtain⟨rfl,rfl⟩:=eK h;obtain⟨e1,b1,g1⟩:=bO l _ _ hb h1;obtain⟨e2,b2,g2⟩:=cA r1 _ _ b1 h2;obtain⟨e3,b3,g3⟩:=cA r2 _ _ b2 h3;obtain⟨e4,b4,-⟩:=oW r3 _ _ b3 h4;obtain⟨e5,b5,g5⟩:=bO r4 _ _ b4 h5;obtain⟨e6,b6,g6⟩:=bO r5 _ _ b5 h6;obtain⟨e7,b7,g7⟩:=tN r6 _ _ b6 h7;refine⟨?_,b7,g1,g2,g3,g5,g6,g7⟩;show eN a++(eT b++(eT c++(eB d++(eN e++(eN f++eC g)))))++r=l;simp only[List.append_assoc];rw[e7,e6,e5,e4,e3,e2,e1]
theorem NP(v:Nat):Cn (EW v) (gi v) (fun x=>Xz x∧(v<2→x.name=⟨#[]⟩)):=fun l x r hb h=>by
 obtain⟨a,r1,h1,h⟩:=bh h;obtain⟨b,r2,h2,h⟩:=bh h;obtain⟨c,r3,h3,h⟩:=bh h;obtain⟨d,r4,h4,h⟩:=bh h;obtain⟨e,r5,h5,h⟩:=bh h;obtain⟨f,r6,h6,h⟩:=bh h;obtain⟨g,r7,h7,h⟩:=bh h;obtain⟨rfl,rfl⟩:=eK h;obtain⟨e1,b1,g1⟩:=bO l _ _ hb h1;obtain⟨e2,b2,g2⟩:=cA r1 _ _ b1 h2;obtain⟨e3,b3,g3⟩:=cA r2 _ _ b2 h3;obtain⟨e4,b4,g4⟩:=bO r3 _ _ b3 h4;obtain⟨e5,b5,g5,k5⟩:=Rs b_ (by show(0:Nat)≤256;omega) r4 _ _ b4 h5;obtain⟨e6,b6,g6⟩:=bO r5 _ _ b5 h6;obtain⟨e7,b7,g7⟩:=tN r6 _ _ b6 h7;refine⟨?_,b7,⟨g1,g2,g3,g4,g5,g6,g7⟩,fun hv=>k5 (by omega)⟩;show eN a++(eT b++(eT c++(eN d++((if 2≤v then eS e else [])++(eN f++eC g)))))++r=l;simp only[List.append_assoc];rw[e7,e6,e5,e4,e3,e2,e1]
theorem NR:Cn EZ gP (fun x=>x.roles.Ok∧x.types.Ok∧lJ x.cls∧lJ x.res):=fun l x r hb h=>by
 obtain⟨a,r1,h1,h⟩:=bh h;obtain⟨b,r2,h2,h⟩:=bh h;obtain⟨c,r3,h3,h⟩:=bh h;obtain⟨d,r4,h4,h⟩:=bh h;obtain⟨rfl,rfl⟩:=eK h;obtain⟨e1,b1,g1⟩:=cA l _ _ hb h1;obtain⟨e2,b2,g2⟩:=cA r1 _ _ b1 h2;obtain⟨e3,b3,g3⟩:=bO r2 _ _ b2 h3;obtain⟨e4,b4,g4⟩:=bO r3 _ _ b3 h4;refine⟨?_,b4,g1,g2,g3,g4⟩;show eT a++(eT b++(eN c++eN d))++r=l;simp only[List.append_assoc];rw[e4,e3,e2,e1]
theorem NT:Cn E2 fU (fun x=>x.src.Ok∧x.tgt.Ok∧lJ x.cls∧zD x.rng):=fun l x r hb h=>by
 obtain⟨a,r1,h1,h⟩:=bh h;obtain⟨b,r2,h2,h⟩:=bh h;obtain⟨c,r3,h3,h⟩:=bh h;obtain⟨d,r4,h4,h⟩:=bh h;obtain⟨rfl,rfl⟩:=eK h;obtain⟨e1,b1,g1⟩:=cA l _ _ hb h1;obtain⟨e2,b2,g2⟩:=cA r1 _ _ b1 h2;obtain⟨e3,b3,g3⟩:=bO r2 _ _ b2 h3;obtain⟨e4,b4,g4⟩:=yM r3 _ _ b3 h4;refine⟨?_,b4,g1,g2,g3,g4⟩;show eT a++(eT b++(eN c++oR d))++r=l;simp only[List.append_assoc];rw[e4,e3,e2,e1]
theorem Gb:Cn E5 gS (fun x=>lJ x.cls∧lJ x.perms∧qz 12 x.expr):=fun l x r hb h=>by
 obtain⟨a,r1,h1,h⟩:=bh h;obtain⟨b,r2,h2,h⟩:=bh h;obtain⟨c,r3,h3,h⟩:=bh h;obtain⟨d,r4,h4,h⟩:=bh h;obtain⟨rfl,rfl⟩:=eK h;obtain⟨e1,b1,g1⟩:=bO l _ _ hb h1;obtain⟨e2,b2,g2⟩:=bO r1 _ _ b1 h2;obtain⟨e3,b3,-⟩:=oW r2 _ _ b2 h3;obtain⟨e4,b4,g4⟩:=qw 12 r3 _ _ b3 h4;refine⟨?_,b4,g1,g2,g4⟩;show eN a++(eN b++(eB c++eE d))++r=l;simp only[List.append_assoc];rw[e4,e3,e2,e1]
theorem F9:Cn EX gN (fun x=>jR x.name∧Cg x.ctx):=fun l x r hb h=>by
 obtain⟨a,r1,h1,h⟩:=bh h;obtain⟨b,r2,h2,h⟩:=bh h;obtain⟨rfl,rfl⟩:=eK h;obtain⟨e1,b1,g1⟩:=b_ l _ _ hb h1;obtain⟨e2,b2,g2⟩:=BZ r1 _ _ b1 h2;refine⟨?_,b2,g1,g2⟩;show eS a++qt b++r=l;rw[List.append_assoc,e2,e1]
theorem Ga:Cn E4 fC (fun x=>jR x.pat∧lJ x.kind∧Cg x.ctx):=fun l x r hb h=>by
 obtain⟨a,r1,h1,h⟩:=bh h;obtain⟨b,r2,h2,h⟩:=bh h;obtain⟨c,r3,h3,h⟩:=bh h;obtain⟨rfl,rfl⟩:=eK h;obtain⟨e1,b1,g1⟩:=b_ l _ _ hb h1;obtain⟨e2,b2,g2⟩:=bO r1 _ _ b1 h2;obtain⟨e3,b3,g3⟩:=BZ r2 _ _ b2 h3;refine⟨?_,b3,g1,g2,g3⟩;show eS a++(eN b++qt c)++r=l;simp only[List.append_assoc];rw[e3,e2,e1]
theorem Gc:Cn E9 fE (fun x=>jR x.name∧lJ x.kind∧x.src.Ok∧x.tgt.Ok):=fun l x r hb h=>by
 obtain⟨a,r1,h1,h⟩:=bh h;obtain⟨b,r2,h2,h⟩:=bh h;obtain⟨c,r3,h3,h⟩:=bh h;obtain⟨d,r4,h4,h⟩:=bh h;obtain⟨rfl,rfl⟩:=eK h;obtain⟨e1,b1,g1⟩:=b_ l _ _ hb h1;obtain⟨e2,b2,g2⟩:=bO r1 _ _ b1 h2;obtain⟨e3,b3,g3⟩:=cA r2 _ _ b2 h3;obtain⟨e4,b4,g4⟩:=cA r3 _ _ b3 h4;refine⟨?_,b4,g1,g2,g3,g4⟩;show eS a++(eN b++(eT c++eT d))++r=l;simp only[List.append_assoc];rw[e4,e3,e2,e1]
theorem qF(l:List Nat):(iD l).length=l.length+4:=by simp[iD,dA]
theorem Jh(l:List Nat):iQ (iD l)=(l,0):=by
 unfold iQ;rw[if_neg (by rw[qF];omega),qF,Nat.add_sub_cancel];unfold iD;rw[List.take_left,List.drop_left,if_pos rfl]
def yq:Ps Nat:=fun f=>if f.length<4 then .error 5 else if f.take 4=[65,67,80,66] then (pb nG fun n=>if 1≤n∧n≤3 then pp n else pe 8) (f.drop 4) else .error 6
def cR(l:List Nat):Except Int (Nat×List Nat):=if (iQ l).2=0 then yq (iQ l).1 else .error (iQ l).2
def wQ(l:List Nat):Except Int Nat:=match cR l with
 | .ok (n,_)=>.ok n
 | .error e=>.error e
section
variable (N9:aA→Int)
def pK(l:List Nat):Except Int (aA×Nat):=match cR l with
 | .error e=>.error e
 | .ok (n,r)=>match zq n r with
  | .error e=>.error e
  | .ok (p,r')=>if r'=[] then (if N9 p=0 then .ok (p,n) else .error (N9 p)) else .error 6
def cC(p:aA):Nat:=if 0<p.files.length∨0<p.asserts.length then 3 else if 0<p.ranges.length∨p.types.any (·.perm)=true∨p.trans.any (fun t=>decide (t.name.size≠0))=true then 2 else 1
def qU(p:aA)(v:Int):Except Int (List Nat):=if 1≤v∧v≤3 then (if N9 p=0 then (if v<cC p then .error 2 else .ok (iD (dB v.toNat p))) else .error (N9 p)) else .error 8
variable {N9}
theorem pL.at{v:Nat}{p:aA}(h:pL 3 p)(hv:cC p≤v):pL v p:=by
 have h3:v<3→p.files=[]∧p.asserts=[]:=fun KH=>by
  unfold cC at hv;split at hv
  ·omega
  ·rename_i hn;exact⟨List.eq_nil_of_length_eq_zero (by omega),List.eq_nil_of_length_eq_zero (by omega)⟩
 have h2:v<2→p.ranges=[]∧(∀ t∈p.types,t.perm=false)∧∀ t∈p.trans,t.name=⟨#[]⟩:=fun hv2=>by
  unfold cC at hv;split at hv
  ·omega
  ·split at hv
   ·omega
   ·rename_i hn;rw[not_or,not_or] at hn;refine⟨List.eq_nil_of_length_eq_zero (by omega),fun t ht=>?_,fun t ht=>?_⟩
    ·have:=hn.2.1;rw[List.any_eq_true] at this
     cases hp:t.perm with
     | false=>rfl
     | true=>exact absurd ⟨t,ht,hp⟩ this
    ·have:=hn.2.2;rw[List.any_eq_true] at this
     have hs:t.name.size=0:=by
      refine Classical.byContradiction fun hne=>this ⟨t,ht,by simpa using hne⟩
     cases hnm:t.name with
     | mk d=>
      rw[hnm] at hs;have hs:d.size=0:=hs;rw[Array.eq_empty_of_size_eq_zero hs]
 exact { h with
  types:=⟨h.types.1,fun x hx=>⟨(h.types.2 x hx).1,(h.types.2 x hx).2.1,fun hv=>(h2 hv).2.1 x hx⟩⟩
  trans:=⟨h.trans.1,fun x hx=>⟨(h.trans.2 x hx).1,fun hv=>(h2 hv).2.2 x hx⟩⟩
  ranges:=⟨h.ranges.1,fun hv=>(h2 hv).1⟩
  files:=⟨h.files.1,fun hv=>(h3 hv).1⟩
  asserts:=⟨h.asserts.1,fun hv=>(h3 hv).2⟩ }
theorem pL.least{v:Nat}{p:aA}(h:pL v p)(h1:1≤v):cC p≤v∧pL 3 p:=by
 constructor
 ·unfold cC;split
  ·rename_i hh;refine Classical.byContradiction fun hv=>?_
   rw[h.files.2 (by omega),h.asserts.2 (by omega)] at hh;simp at hh
  ·split
   ·rename_i _ hh;refine Classical.byContradiction fun hv=>?_
    rw[h.ranges.2 (by omega)] at hh;simp only[List.length_nil,Nat.lt_irrefl,false_or,List.any_eq_true] at hh;rcases hh with⟨t,ht,hp⟩|⟨t,ht,hp⟩
    ·rw[(h.types.2 t ht).2.2 (by omega)] at hp;cases hp
    ·rw[(h.trans.2 t ht).2 (by omega)] at hp;exact absurd hp (by decide)
   ·exact h1
 ·exact { h with
   types:=⟨h.types.1,fun x hx=>⟨(h.types.2 x hx).1,(h.types.2 x hx).2.1,fun hv=>by omega⟩⟩
   trans:=⟨h.trans.1,fun x hx=>⟨(h.trans.2 x hx).1,fun hv=>by omega⟩⟩
   ranges:=⟨h.ranges.1,fun hv=>by omega⟩
   files:=⟨h.files.1,fun hv=>by omega⟩
   asserts:=⟨h.asserts.1,fun hv=>by omega⟩ }
theorem uy(v:Nat)(h1:1≤v)(h3:v≤3)(p:aA):cR (iD (dB v p))=.ok (v,gD v p):=by
 unfold cR;rw[Jh,if_pos rfl];unfold yq dB;rw[if_neg (by simp),if_pos (by rfl)];show pb nG _ (aL v++gD v p)=_;unfold pb;rw[A9 (by omega:v<18446744073709551616)];show(if 1≤v∧v≤3 then pp v else pe 8) (gD v p)=_;rw[if_pos ⟨h1,h3⟩];rfl
end
end Go.Proofs.YtkkmjdceiocnbaaGreatDoor

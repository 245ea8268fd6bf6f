import Derived.Test.YtkkmjdceiocnbaaGreatDoorSXTC
open Array renaming getD_eq_getD_getElem?→akf
open Go.RowKit renaming Below→ake
open List renaming getElem?_eq_getElem→akc,mem_of_getElem?→akd,mem_append→akg,length_append→akh,mem_singleton→aki
open Nat renaming zero_le→akb
set_option maxRecDepth 100000
set_option maxHeartbeats 8000000
set_option linter.unusedSectionVars false
set_option linter.unusedSimpArgs false
set_option linter.unusedVariables false
namespace Go.Proofs.YtkkmjdceiocnbaaGreatDoor
open Go Go.RowKit
theorem Bq(w0:World)(cs:List Value)(e:aI)(he:e.Ok)(h:bV w0 cs e)(MP:aY 13 e≤12)(c0 c1 c2 c3 c4 c5 c6 c7 c8 c9 c10 c11 c12 c13 c14 c15 c16:Value)(p:aA)(hp:aD w0 c0 c1 c2 c3 c4 c5 c6 c7 c8 c9 c10 c11 c12 c13 c14 c15 c16 p)(v:Bool):Calls Tryz.prog 289 #[.agg #[c0,c1,c2,c3,c4,c5,c6,c7,c8,c9,c10,c11,c12,c13,c14,c15,c16],.agg cs.toArray,.bool v] w0 (RI w0 (eA p.users.length p.roles.length p.types.length v e)):=by
 have hE:=h;obtain⟨nv,kv,rfl,vh,hk⟩:=h.open;unfold eA;rw[if_neg (by omega)];refine bU [] (fn:=Tryz.f289) Tryz.func289 rfl Tryz.ntmps289 rfl<|fun g1 w1 M1=>fun g2 w2 M2=>lb 0<|an rfl<|cl<|an (Dk 12 e _ _ (by decide) (hE.keep M2.below) MP) fun w3 M3=>an (fun h4=>by simp at h4;omega) fun h4=>an (fun hv=>?_) fun hv=>?_
 ·exact lb 1<|an rfl<|lb 0<|an rfl<|cl<|an (Ms 15 (by decide) e he _ _ _ _ _ _ _ _ _ _ _ _ _ _ _ _ _ _ _ p (hp.keep M3.below) (hE.keep M3.below)) fun w4 M4=>fun M=>⟨ri (if_pos hv),M.below⟩
 ·exact lb 1<|an rfl<|lb 0<|an rfl<|cl<|an (Ms 10 (by decide) e he _ _ _ _ _ _ _ _ _ _ _ _ _ _ _ _ _ _ _ p (hp.keep M3.below) (hE.keep M3.below)) fun w4 M4=>fun M=>⟨ri (if_neg (by rw[hv];decide)),M.below⟩
theorem zu(w0:World)(c0 c1 c2 c3 c4 c5 c6 c7 c8 c9 c10 c11 c12 c13 c14 c15 c16:Value)(p:aA)(hp:aD w0 c0 c1 c2 c3 c4 c5 c6 c7 c8 c9 c10 c11 c12 c13 c14 c15 c16 p)(hok:p.Ok)(hd:p.Md)(hcl:∀ y∈p.classes,y.perms.length≤64):Calls Tryz.prog 189 #[.agg #[c0,c1,c2,c3,c4,c5,c6,c7,c8,c9,c10,c11,c12,c13,c14,c15,c16]] w0 (RI w0 (jO p)):=by
 have hp':=hp;obtain⟨_,_,_,_,_,_,_,_,_,_,_,_,_,_,_,_,_,_,_,_,_,_,_,_,_,_,_,_,_,_,_,_,_,_,rfl,rfl,rfl,rfl,rfl,rfl,rfl,rfl,rfl,rfl,rfl,rfl,rfl,rfl,rfl,rfl,rfl⟩:=hp.open;unfold jO;refine bU [] (fn:=Tryz.f189) Tryz.func189 rfl Tryz.ntmps189 rfl<|fun g1 w1 M1=>lb 0<|an rfl<|an (fun h M=>⟨ri (if_pos (by simp at h;omega)),M.below⟩) fun h=>?_
 have hll:p.cons.length≤64:=by simp at h;omega
 rw[if_neg (by omega)];refine lb 0<|an rfl<|lr (ι:=Nat) (fun m=>[(15,.int .i64 (m:Int))]) (fun m _=>m≤p.cons.length∧ah (qW p) p.cons.length 0=ah (qW p) (p.cons.length-m) m) (fun m=>p.cons.length-m) 0 (an ⟨⟨rfl,trivial⟩,fun M=>⟨M,akb _,by rw[Nat.sub_zero]⟩⟩ ?_);rintro m w M ⟨hm,hinv⟩;refine an (fun h2=>?_) fun h2 M=>⟨ri (by rw[hinv,show m=p.cons.length by simp at h2;omega,aT]),M.below⟩
 have hlt:m<p.cons.length:=by simp at h2;omega
 obtain⟨y,hy⟩:∃ y,p.cons[m]?=some y:=⟨_,akc hlt⟩;have MP:=hd.Y7 y (akd hy);have fq:=hok.cons y (akd hy);obtain⟨b,o,x,e1,hC,hc⟩:=au.elt hp.cons (by decide) hy;obtain⟨cs,rfl,hE⟩:=hC;have Yh:=hE;obtain⟨SA,kv',rfl,hn',hk'⟩:=hE.open;obtain⟨_,_,rfl,-⟩:=aJ.get hn';obtain⟨_,_,rfl,-⟩:=au.form hk' (by decide);have hcf:qW p m=BW p.users.length p.roles.length p.types.length p.classes y:=by unfold qW;rw[hy]
 have out:∀ v:Int,BW p.users.length p.roles.length p.types.length p.classes y=v→v≠0→ah (qW p) p.cons.length 0=v:=fun v h1 h2=>by rw[hinv,aV hlt (by rw[hcf,h1];exact h2),hcf,h1]
 unfold BW at hcf out;refine ia<|an ⟨e1,rfl,hlt⟩<|lc<|an (cL M.below hc)<|ei<|an KM fun g3 w4 M4=>lb 0<|an ⟨rfl,rfl⟩ fun w5 M5=>lb 1<|an rfl<|lb 0<|an rfl<|lb 0<|an rfl<|cl<|an (Dh _ _ _ _ _ _ _ _ _ _ _ _ _ _ _ _ _ _ p (hp'.keep M5.below) y.cls y.perms fq.perms hcl) fun w6 M6=>an (fun h4 M=>⟨ri (out 3 (if_pos (by simpa using h4)) (by decide)),M.below⟩) fun h4=>?_
 rw[if_neg (by simpa using h4)] at hcf out;refine lb 0<|an rfl<|lb 0<|an rfl<|an (fun h5 M=>⟨ri (out 2 (if_pos (by intro e;rw[e] at h5;simp at h5)) (by decide)),M.below⟩) fun h5=>?_
 rw[if_neg (by intro e;have h6:decide (y.perms=0)=y.val:=by simpa using h5
               exact e h6.symm)] at hcf out
 exact lb 1<|an rfl<|lb 0<|an rfl<|lb 0<|an rfl<|cl<|an (Bq _ _ y.expr fq.expr (Yh.keep M6.below) MP _ _ _ _ _ _ _ _ _ _ _ _ _ _ _ _ _ p (hp'.keep M6.below) y.val) fun w7 M7=>an (fun h6 M=>⟨ri (out _ rfl (by simpa using h6)),M.below⟩) fun h6=>an (by omega)<|bk (m+1) ⟨rfl,trivial⟩ (fun M=>⟨M.only (.cons _ (.refl _)) (.refl _),by omega,hinv.trans (aM hlt (by rw[hcf];simpa using h6))⟩) (by dsimp only;omega)
def dD(p:aA)(k:Nat):Int:=
 if k=0 then bF p else if k=1 then (if 256<p.types.length then 4 else ah (ju p) p.types.length 0)
 else if k=2 then (if 64<p.attrs.length then 4 else ah (jQ p) p.attrs.length 0)
 else if k=3 then dG p else if k=4 then fF p else if k=5 then (if 16<p.bools.length then 4 else aP (p.bools.map (·.name)) [])
 else if k=6 then (if 16<p.ay.length then 4 else aP p.ay []) else if k=7 then (if 64<p.cats.length then 4 else aP p.cats [])
 else (if 64<p.conds.length then 4 else ah (iV p) p.conds.length 0)
def fu(p:aA)(k:Nat):Int:=
 if k=0 then (if 4096<p.rules.length then 4 else ah (jJ p) p.rules.length 0) else if k=1 then fH p
 else if k=2 then (if 1024<p.ak.length then 4 else ah (xE p) p.ak.length 0)
 else if k=3 then (if 1024<p.ranges.length then 4 else ah (CP p) p.ranges.length 0)
 else if k=4 then jO p else if k=5 then (if 1024<p.aN.length then 4 else ah (lM p) p.aN.length 0)
 else if k=6 then (if 256<p.files.length then 4 else ah (kV p) p.files.length 0)
 else cT p
theorem Jx(w0:World)(c0 c1 c2 c3 c4 c5 c6 c7 c8 c9 c10 c11 c12 c13 c14 c15 c16:Value)(p:aA)(hp:aD w0 c0 c1 c2 c3 c4 c5 c6 c7 c8 c9 c10 c11 c12 c13 c14 c15 c16 p)(hok:p.Ok)(hd:p.Md)(k:Nat):Calls Tryz.prog 76 #[.agg #[c0,c1,c2,c3,c4,c5,c6,c7,c8,c9,c10,c11,c12,c13,c14,c15,c16],.int .i64 (k:Int)] w0 (RI w0 (dD p k)):=by
 have nk:∀ {j:Nat},decide ((k:Int)=(j:Int))=false→¬ k=j:=fun h e=>by subst e;simp at h
 have yk:∀ {j:Nat},decide ((k:Int)=(j:Int))=true→k=j:=fun h=>by simp at h;exact_mod_cast h
 unfold dD;refine bU [] (fn:=Tryz.f76) Tryz.func76 rfl Tryz.ntmps76 rfl<|fun g1 w1 M1=>an (fun h=>?_) fun h0=>an (fun h=>?_) fun h1=>an (fun h=>?_) fun h2=>an (fun h=>?_) fun h3=>an (fun h=>?_) fun h4=>an (fun h=>?_) fun h5=>an (fun h=>?_) fun h6=>an (fun h=>?_) fun h7=>?_
 ·exact lb 0<|an rfl<|cl<|an (Jz _ _ _ _ _ _ _ _ _ _ _ _ _ _ _ _ _ _ p (hp.keep M1.below) hok) fun w2 M2=>fun M=>⟨ri (if_pos (yk (j:=0) h)),M.below⟩
 ·exact lb 0<|an rfl<|cl<|an (Pz _ _ _ _ _ _ _ _ _ _ _ _ _ _ _ _ _ _ p (hp.keep M1.below) hok hd) fun w2 M2=>fun M=>⟨ri (by rw[yk (j:=1) h];rfl),M.below⟩
 ·exact lb 0<|an rfl<|cl<|an (PO _ _ _ _ _ _ _ _ _ _ _ _ _ _ _ _ _ _ p (hp.keep M1.below) hok hd) fun w2 M2=>fun M=>⟨ri (by rw[yk (j:=2) h];rfl),M.below⟩
 ·exact lb 0<|an rfl<|cl<|an (PD _ _ _ _ _ _ _ _ _ _ _ _ _ _ _ _ _ _ p (hp.keep M1.below) hok) fun w2 M2=>fun M=>⟨ri (by rw[yk (j:=3) h];rfl),M.below⟩
 ·exact lb 0<|an rfl<|cl<|an (Py _ _ _ _ _ _ _ _ _ _ _ _ _ _ _ _ _ _ p (hp.keep M1.below) hok) fun w2 M2=>fun M=>⟨ri (by rw[yk (j:=4) h];rfl),M.below⟩
 ·exact lb 0<|an rfl<|cl<|an (PN _ _ _ _ _ _ _ _ _ _ _ _ _ _ _ _ _ _ p (hp.keep M1.below) hok hd) fun w2 M2=>fun M=>⟨ri (by rw[yk (j:=5) h];rfl),M.below⟩
 ·exact lb 0<|an rfl<|cl<|an (SN _ _ _ _ _ _ _ _ _ _ _ _ _ _ _ _ _ _ p (hp.keep M1.below) hok) fun w2 M2=>fun M=>⟨ri (by rw[yk (j:=6) h];rfl),M.below⟩
 ·exact lb 0<|an rfl<|cl<|an (SS _ _ _ _ _ _ _ _ _ _ _ _ _ _ _ _ _ _ p (hp.keep M1.below) hok) fun w2 M2=>fun M=>⟨ri (by rw[yk (j:=7) h];rfl),M.below⟩
 ·exact lb 0<|an rfl<|cl<|an (PL _ _ _ _ _ _ _ _ _ _ _ _ _ _ _ _ _ _ p (hp.keep M1.below) hd) fun w2 M2=>fun M=>⟨ri (by rw[if_neg (nk (j:=0) h0),if_neg (nk (j:=1) h1),if_neg (nk (j:=2) h2),if_neg (nk (j:=3) h3),if_neg (nk (j:=4) h4),if_neg (nk (j:=5) h5),if_neg (nk (j:=6) h6),if_neg (nk (j:=7) h7)]),M.below⟩
theorem Bn(w0:World)(c0 c1 c2 c3 c4 c5 c6 c7 c8 c9 c10 c11 c12 c13 c14 c15 c16:Value)(p:aA)(hp:aD w0 c0 c1 c2 c3 c4 c5 c6 c7 c8 c9 c10 c11 c12 c13 c14 c15 c16 p)(hok:p.Ok)(hd:p.Md)(hcl:∀ y∈p.classes,y.perms.length≤64)(k:Nat):Calls Tryz.prog 77 #[.agg #[c0,c1,c2,c3,c4,c5,c6,c7,c8,c9,c10,c11,c12,c13,c14,c15,c16],.int .i64 (k:Int)] w0 (RI w0 (fu p k)):=by
 have nk:∀ {j:Nat},decide ((k:Int)=(j:Int))=false→¬ k=j:=fun h e=>by subst e;simp at h
 have yk:∀ {j:Nat},decide ((k:Int)=(j:Int))=true→k=j:=fun h=>by simp at h;exact_mod_cast h
 unfold fu;refine bU [] (fn:=Tryz.f77) Tryz.func77 rfl Tryz.ntmps77 rfl<|fun g1 w1 M1=>an (fun h=>?_) fun h0=>an (fun h=>?_) fun h1=>an (fun h=>?_) fun h2=>an (fun h=>?_) fun h3=>an (fun h=>?_) fun h4=>an (fun h=>?_) fun h5=>an (fun h=>?_) fun h6=>?_
 ·exact lb 0<|an rfl<|cl<|an (PB _ _ _ _ _ _ _ _ _ _ _ _ _ _ _ _ _ _ p (hp.keep M1.below) hok hcl) fun w2 M2=>fun M=>⟨ri (if_pos (yk (j:=0) h)),M.below⟩
 ·exact lb 0<|an rfl<|cl<|an (PA _ _ _ _ _ _ _ _ _ _ _ _ _ _ _ _ _ _ p (hp.keep M1.below) hok) fun w2 M2=>fun M=>⟨ri (by rw[yk (j:=1) h];rfl),M.below⟩
 ·exact lb 0<|an rfl<|cl<|an (Mp _ _ _ _ _ _ _ _ _ _ _ _ _ _ _ _ _ _ p (hp.keep M1.below) hok) fun w2 M2=>fun M=>⟨ri (by rw[yk (j:=2) h];rfl),M.below⟩
 ·exact lb 0<|an rfl<|cl<|an (Mq _ _ _ _ _ _ _ _ _ _ _ _ _ _ _ _ _ _ p (hp.keep M1.below) hok) fun w2 M2=>fun M=>⟨ri (by rw[yk (j:=3) h];rfl),M.below⟩
 ·exact lb 0<|an rfl<|cl<|an (zu _ _ _ _ _ _ _ _ _ _ _ _ _ _ _ _ _ _ p (hp.keep M1.below) hok hd hcl) fun w2 M2=>fun M=>⟨ri (by rw[yk (j:=4) h];rfl),M.below⟩
 ·exact lb 0<|an rfl<|cl<|an (SM _ _ _ _ _ _ _ _ _ _ _ _ _ _ _ _ _ _ p (hp.keep M1.below) hok) fun w2 M2=>fun M=>⟨ri (by rw[yk (j:=5) h];rfl),M.below⟩
 ·exact lb 0<|an rfl<|cl<|an (PJ _ _ _ _ _ _ _ _ _ _ _ _ _ _ _ _ _ _ p (hp.keep M1.below) hok) fun w2 M2=>fun M=>⟨ri (by rw[yk (j:=6) h];rfl),M.below⟩
 ·exact lb 0<|an rfl<|cl<|an (JA _ _ _ _ _ _ _ _ _ _ _ _ _ _ _ _ _ _ p (hp.keep M1.below) hok) fun w2 M2=>fun M=>⟨ri (by rw[if_neg (nk (j:=0) h0),if_neg (nk (j:=1) h1),if_neg (nk (j:=2) h2),if_neg (nk (j:=3) h3),if_neg (nk (j:=4) h4),if_neg (nk (j:=5) h5),if_neg (nk (j:=6) h6)]),M.below⟩
theorem DY(p:aA):(if ah (dD p) 9 0=0 then ah (fu p) 8 0 else ah (dD p) 9 0)=bg p:=by
 have s0:dD p 0=bF p:=rfl
 have f9:ah (dD p) 9 0=if bF p=0 then (if dD p 1=0 then (if dD p 2=0 then (if dD p 3=0 then (if dD p 4=0 then (if dD p 5=0 then (if dD p 6=0 then (if dD p 7=0 then dD p 8 else dD p 7) else dD p 6) else dD p 5) else dD p 4) else dD p 3) else dD p 2) else dD p 1) else bF p:=by
  unfold ah;unfold ah;unfold ah;unfold ah;unfold ah;unfold ah;unfold ah;unfold ah;unfold ah;unfold ah;simp only[s0];by_cases h:dD p 8=0<;>simp[h]
 have f8:ah (fu p) 8 0=if fu p 0=0 then (if fu p 1=0 then (if fu p 2=0 then (if fu p 3=0 then (if fu p 4=0 then (if fu p 5=0 then (if fu p 6=0 then fu p 7 else fu p 6) else fu p 5) else fu p 4) else fu p 3) else fu p 2) else fu p 1) else fu p 0:=by
  unfold ah;unfold ah;unfold ah;unfold ah;unfold ah;unfold ah;unfold ah;unfold ah;unfold ah;by_cases h:fu p 7=0<;>simp[h]
 have t:fG p=if dD p 1=0 then dD p 2 else dD p 1:=by
  unfold fG;show _=if (if 256<p.types.length then (4:Int) else ah (ju p) p.types.length 0)=0 then (if 64<p.attrs.length then (4:Int) else ah (jQ p) p.attrs.length 0) else (if 256<p.types.length then (4:Int) else ah (ju p) p.types.length 0)
  by_cases h:256<p.types.length
  ·rw[if_pos h,if_pos h];rfl
  ·rw[if_neg h,if_neg h]
 have o:fJ p=if dD p 5=0 then (if dD p 6=0 then dD p 7 else dD p 6) else dD p 5:=by
  unfold fJ;show _=if (if 16<p.bools.length then (4:Int) else aP (p.bools.map (·.name)) [])=0 then (if (if 16<p.ay.length then (4:Int) else aP p.ay [])=0 then (if 64<p.cats.length then (4:Int) else aP p.cats []) else (if 16<p.ay.length then (4:Int) else aP p.ay [])) else (if 16<p.bools.length then (4:Int) else aP (p.bools.map (·.name)) [])
  by_cases h1:16<p.bools.length
  ·simp[h1]
  ·by_cases h2:aP (p.bools.map (·.name)) []=0
   ·by_cases h3:16<p.ay.length
    ·simp[h1,h2,h3]
    ·by_cases h4:aP p.ay []=0<;>simp[h1,h2,h3,h4]
   ·simp[h1,h2]
 have r:eI p=if dD p 8=0 then fu p 0 else dD p 8:=by
  unfold eI;show _=if (if 64<p.conds.length then (4:Int) else ah (iV p) p.conds.length 0)=0 then (if 4096<p.rules.length then (4:Int) else ah (jJ p) p.rules.length 0) else (if 64<p.conds.length then (4:Int) else ah (iV p) p.conds.length 0)
  by_cases h:64<p.conds.length
  ·rw[if_pos h,if_pos h];rfl
  ·rw[if_neg h,if_neg h]
 have c:bP p=if fu p 2=0 then fu p 3 else fu p 2:=by
  unfold bP;show _=if (if 1024<p.ak.length then (4:Int) else ah (xE p) p.ak.length 0)=0 then (if 1024<p.ranges.length then (4:Int) else ah (CP p) p.ranges.length 0) else (if 1024<p.ak.length then (4:Int) else ah (xE p) p.ak.length 0)
  by_cases h:1024<p.ak.length
  ·rw[if_pos h,if_pos h];rfl
  ·rw[if_neg h,if_neg h]
 have l:cF p=if fu p 5=0 then fu p 6 else fu p 5:=by
  unfold cF;show _=if (if 1024<p.aN.length then (4:Int) else ah (lM p) p.aN.length 0)=0 then (if 256<p.files.length then (4:Int) else ah (kV p) p.files.length 0) else (if 1024<p.aN.length then (4:Int) else ah (lM p) p.aN.length 0)
  by_cases h:1024<p.aN.length
  ·rw[if_pos h,if_pos h];rfl
  ·rw[if_neg h,if_neg h]
 have g3:dD p 3=dG p:=rfl;have g4:dD p 4=fF p:=rfl;have h1:fu p 1=fH p:=rfl;have h4:fu p 4=jO p:=rfl;have h7:fu p 7=cT p:=rfl
 have l3:mq [bF p,fG p,dG p]=if bF p=0 then (if fG p=0 then dG p else fG p) else bF p:=by
  show ah _ 3 0=_;unfold ah;unfold ah;unfold ah;unfold ah;show(if bF p=0 then (if fG p=0 then (if dG p=0 then 0 else dG p) else fG p) else bF p)=_;by_cases h:dG p=0<;>simp[h]
 have l8:mq [fF p,fJ p,eI p,fH p,bP p,jO p,cF p,cT p]=if fF p=0 then (if fJ p=0 then (if eI p=0 then (if fH p=0 then (if bP p=0 then (if jO p=0 then (if cF p=0 then cT p else cF p) else jO p) else bP p) else fH p) else eI p) else fJ p) else fF p:=by
  show ah _ 8 0=_;unfold ah;unfold ah;unfold ah;unfold ah;unfold ah;unfold ah;unfold ah;unfold ah;unfold ah;show(if fF p=0 then (if fJ p=0 then (if eI p=0 then (if fH p=0 then (if bP p=0 then (if jO p=0 then (if cF p=0 then (if cT p=0 then 0 else cT p) else cF p) else jO p) else bP p) else fH p) else eI p) else fJ p) else fF p)=_;by_cases h:cT p=0<;>simp[h]
 unfold bg;rw[l3,l8,f9,f8,t,o,r,c,l,← g3,← g4,← h1,← h4,← h7];generalize bF p=x0;generalize dD p 1=x1;generalize dD p 2=x2;generalize dD p 3=x3;generalize dD p 4=x4;generalize dD p 5=x5;generalize dD p 6=x6;generalize dD p 7=x7;generalize dD p 8=x8;generalize fu p 0=y0;generalize fu p 1=y1;generalize fu p 2=y2;generalize fu p 3=y3;generalize fu p 4=y4;generalize fu p 5=y5;generalize fu p 6=y6;generalize fu p 7=y7;by_cases c0:x0=0
 ·by_cases c1:x1=0
  ·by_cases c2:x2=0
   ·by_cases c3:x3=0
    ·by_cases c4:x4=0
     ·by_cases c5:x5=0
      ·by_cases c6:x6=0
       ·by_cases c7:x7=0
        ·by_cases c8:x8=0
         ·by_cases d0:y0=0
          ·by_cases d2:y2=0
           ·by_cases d5:y5=0<;>simp[c0,c1,c2,c3,c4,c5,c6,c7,c8,d0,d2,d5]
           ·by_cases d5:y5=0<;>simp[c0,c1,c2,c3,c4,c5,c6,c7,c8,d0,d2,d5]
          ·simp[c0,c1,c2,c3,c4,c5,c6,c7,c8,d0]
         ·simp[c0,c1,c2,c3,c4,c5,c6,c7,c8]
        ·simp[c0,c1,c2,c3,c4,c5,c6,c7]
       ·simp[c0,c1,c2,c3,c4,c5,c6]
      ·simp[c0,c1,c2,c3,c4,c5]
     ·simp[c0,c1,c2,c3,c4]
    ·simp[c0,c1,c2,c3]
   ·simp[c0,c1,c2]
  ·simp[c0,c1]
 ·simp[c0]
theorem CW{p:aA}(h:bF p=0):∀ y∈p.classes,y.perms.length≤64:=fun y hy=>by
 obtain⟨i,hi⟩:=List.getElem?_of_mem hy;have hlt:=(List.getElem?_eq_some_iff.1 hi).1;unfold bF at h;split at h
 ·cases h
 ·have:=(jx _ _).1 h i (akb _) (by omega);unfold jm at this;rw[hi] at this;dsimp only at this;unfold ni at this;split at this
  ·split at this
   ·cases this
   ·omega
  ·contradiction
theorem wv(w0:World)(c0 c1 c2 c3 c4 c5 c6 c7 c8 c9 c10 c11 c12 c13 c14 c15 c16:Value)(p:aA)(hp:aD w0 c0 c1 c2 c3 c4 c5 c6 c7 c8 c9 c10 c11 c12 c13 c14 c15 c16 p)(hok:p.Ok)(hd:p.Md):Calls Tryz.prog 31 #[.agg #[c0,c1,c2,c3,c4,c5,c6,c7,c8,c9,c10,c11,c12,c13,c14,c15,c16]] w0 (RI w0 (bg p)):=by
 rw[← DY p];have hp':=hp;obtain⟨a0,a1,a2,a3,a4,a5,a6,a7,a8,a9,nr,mH,a12,mF,mE,og,n_,k0,k1,k2,k3,k4,k5,k6,k7,k8,k9,k10,k11,k12,k13,k14,k15,k16,rfl,rfl,rfl,rfl,rfl,rfl,rfl,rfl,rfl,rfl,rfl,rfl,rfl,rfl,rfl,rfl,rfl⟩:=hp.open;refine bU [] (fn:=Tryz.f31) Tryz.func31 rfl Tryz.ntmps31 rfl<|fun g1 w1 M1=>lb 0<|an rfl<|ei (x:=.agg #[.slice a0 p.classes.length k0,.slice a1 p.types.length k1,.slice a2 p.attrs.length k2,.slice a3 p.roles.length k3,.slice a4 p.users.length k4,.slice a5 p.bools.length k5,.slice a6 p.ay.length k6,.slice a7 p.cats.length k7,.slice a8 p.conds.length k8,.slice a9 p.rules.length k9,.slice nr p.trans.length k10,.slice mH p.ak.length k11,.slice a12 p.ranges.length k12,.slice mF p.cons.length k13,.slice mE p.aN.length k14,.slice og p.files.length k15,.slice n_ p.asserts.length k16])<|an (bd (by kernel_rfl))<|ei<|an Vi fun g2 w2 M2=>lb 0<|an ⟨rfl,rfl⟩ fun w3 M3=>lr (ι:=Nat) (fun k=>[(10,.int .i64 (k:Int))]) (fun k _=>k≤9∧ah (dD p) 9 0=ah (dD p) (9-k) k∧(1≤k→bF p=0)) (fun k=>9-k) 0 (an ⟨⟨rfl,trivial⟩,fun M=>⟨M,akb _,rfl,fun h=>absurd h (by decide)⟩⟩ ?_)
 rintro k w M ⟨hk,hinv,hc0⟩;refine an (fun h1=>?_) fun h1=>?_
 ·have hlt:k<9:=by simp at h1;omega
  refine lb 0<|an rfl<|cl<|an (Jx _ _ _ _ _ _ _ _ _ _ _ _ _ _ _ _ _ _ p (hp'.keep M.below) hok hd k) fun w4 M4=>an (fun h2 M=>⟨ri ?_,M.below⟩) fun h2=>an (by omega)<|bk (k+1) ⟨rfl,trivial⟩ (fun M=>⟨M,by omega,hinv.trans (aM hlt (by simpa using h2)),fun _=>?_⟩) (by dsimp only;omega)
  ·have h2:dD p k≠0:=by simpa using h2
   have e:ah (dD p) 9 0=dD p k:=by rw[hinv,aV hlt h2]
   rw[e,if_neg h2]
  ·by_cases e:k=0
   ·subst e;have h3:dD p 0=0:=by simpa using h2
    exact h3
   ·exact hc0 (by omega)
 have ek:k=9:=by simp at h1;omega
 subst ek;have hz:ah (dD p) 9 0=0:=by rw[hinv];rfl
 rw[if_pos hz];have hcl:=CW (hc0 (by decide));clear hinv hz hc0 h1 hk;refine lr (ι:=Nat) (fun k=>[(20,.int .i64 (k:Int))]) (fun k _=>k≤8∧ah (fu p) 8 0=ah (fu p) (8-k) k) (fun k=>8-k) 0 (an ⟨⟨rfl,trivial⟩,fun M=>⟨M,akb _,rfl⟩⟩ ?_);clear M;rintro k w M ⟨hk,hinv⟩;refine an (fun h1=>?_) fun h1 M=>⟨ri (by rw[hinv,show k=8 by simp at h1;omega];rfl),M.below⟩
 have hlt:k<8:=by simp at h1;omega
 exact lb 0<|an rfl<|cl<|an (Bn _ _ _ _ _ _ _ _ _ _ _ _ _ _ _ _ _ _ p (hp'.keep M.below) hok hd hcl k) fun w4 M4=>an (fun h2 M=>⟨ri (by rw[hinv,aV hlt (by simpa using h2)]),M.below⟩) fun h2=>an (by omega)<|bk (k+1) ⟨rfl,trivial⟩ (fun M=>⟨M,by omega,hinv.trans (aM hlt (by simpa using h2))⟩) (by dsimp only;omega)
theorem xJ[DS]{Pn:List PanicEntry→World→Prop}{B N id:Nat}{w0 w:World}{l:Slots}{ops:Array Oper}{bs:List Bx}{rs:List Rw}{Kn:Slots→List Bx→List Rw→World→Prop}{Q:Exit→Act→World→Prop}{a:Act}(F:Fs a N l)(M:aC B w0 w bs rs)(h:vc (some Pn) B w0 N l ops.toList 0 [] bs rs w Kn)
 (hP:∀ a' ch w',Fr a' N→(∀ q v,look q l=some v→ops.toList.all (fun o=>o.dst != some q)=true→At a' q v)→Pn ch w'→Q (.panic ch) a' w')
 (hQ:∀ a l' bs' rs' w',Fs a N l'→aC B w0 w' bs' rs'→Kn l' bs' rs' w'→Q .normal a w'):(Code.region id ops false).wp Tryz.prog Q a w:=by
 refine wp_region_list (GX (ops:=ops) (fun i o hi=>by simpa using hi) (Inv.start F) M h (fun Pn' WR a' ch w' ⟨m,n,I⟩ h=>?_) fun a l' bs' rs' w' F' M' hk=>hQ _ _ _ _ _ F' M' hk);obtain rfl:=Option.some.inj WR;refine hP a' ch w' I.fr (fun q v hq hd=>I.base q v (fun e he hs=>?_) hq) h;have h1:=I.dst e he
 cases ho:ops[e.j]? with
 | none=>rw[ho] at h1;cases h1
 | some o=>
  rw[ho] at h1;have h2:o.dst=some e.s:=h1;have h3:=List.all_eq_true.1 hd o (by obtain⟨hi,rfl⟩:=Array.getElem?_eq_some_iff.1 ho;simp);rw[h2,hs] at h3;simp at h3
theorem wk{P:Program}{w:World}{g:Nat}{ty:TypeId}{v:Value}{dd:TypeDesc}(hu:P.underlying ty=some dd)(hd:(match dd with|.struct _|.array _ _=>false|_=>true)=true)(hc:w.cell? ⟨g,0,none⟩=some v):(loadVar ty ⟨g,0,none⟩).run P w=.ok v w:=by
 have hagg:(isAgg ty).run P w=.ok false w:=by
  unfold isAgg;rw[Sem.run_bind,run_underlying hu w];cases dd<;>simp_all
 simp only[loadVar,hagg,Sem.run_bind,Result.andThen_ok];simp[run_load,hc]
def Ii(g:Nat):Deferred:={ target:=.fn (.func 48) #[],args:=#[.pointer (some ⟨g,0,none⟩)] }
def VeC(w0:World)(l:List Nat)(e:Ending)(w':World):Prop:=∃ v k,e=.returned (.tuple #[v,.int .i64 k])∧ake w0.heap.size w0 w'∧match wQ l with
 | .ok n=>v=.int .i64 (n:Int)∧k=0
 | .error k'=>k=k'
theorem z8{fn:Func}{tmps:Array Value}{R:Ending→World→Prop}{g:Nat}{B:Nat}{w0 w:World}{bs:List Bx}{rs:List Rw}(M:aC B w0 w bs rs)(h:∀ w',aC B w0 w' bs rs→∃ v,(results fn tmps).run Tryz.prog w'=.ok v w'∧R (.returned v) w'):Leaves Tryz.prog fn tmps R [Ii g] .returning w:=by
 refine leaves_cons (f:=48) (args:=#[.pointer (some ⟨g,0,none⟩)]) (by simp) (by simp[go_sem]) ((Gf M).mono ?_);rintro e u' w' ⟨rfl,rfl,M'⟩;simpa[Leaves,settle] using h w' M'
theorem z_{fn:Func}{tmps:Array Value}{R:Ending→World→Prop}{g:Nat}{B:Nat}{w0 w:World}{bs:List Bx}{rs:List Rw}{k x0:Int}(hB:w0.heap.size≤B)(M:aC B w0 w ((g,43,#[.int .i64 x0])::bs) rs)(h:∀ w',aC B w0 w' ((g,43,#[.int .i64 k])::bs) rs→∃ v,(results fn tmps).run Tryz.prog w'=.ok v w'∧R (.returned v) w'):Leaves Tryz.prog fn tmps R [Ii g] (.panicking (CV k)) w:=by
 refine leaves_cons (f:=48) (args:=#[.pointer (some ⟨g,0,none⟩)]) (by simp) (by simp[go_sem]) ((Gg hB M).mono ?_);rintro e u' w' ⟨rfl,rfl,M'⟩;simpa[Leaves,settle] using h w' M'
theorem enD{f:FuncId}{fn:Func}{c:Code}{N:Nat}{vs:List Value}{R:Ending→World→Prop}{w:World}(hf:Tryz.prog.funcs[f]?=some fn)(hb:fn.body=some c)(hn:fn.ntmps=N)(hN:Nat.ble vs.length N=true)(h:∀ a,Fs a N (FW 0 vs)→c.wp Tryz.prog (bodyPostD Tryz.prog fn R) a w):Calls Tryz.prog f vs.toArray w R:=by
 refine calls_of_wp_defers hf hb (h _ (Fs.args (args:=vs.toArray) ⟨rfl,?_⟩ (fun i v hv=>?_) rfl))
 ·have:=Nat.le_of_ble_eq_true hN;simp;omega
 ·have hi:i<vs.toArray.size:=(Array.getElem?_eq_some_iff.1 hv).1;show(vs.toArray++Array.replicate (fn.ntmps-vs.toArray.size) undef)[i]?=some v;rw[Array.getElem?_append_left hi];exact hv
theorem uP{w0:World}{v:Value}{l:List Nat}(h:aj w0 v l)(hL:l.length≤aF):Calls Tryz.prog 18 #[v] w0 (VeC w0 l):=by
 refine enD (vs:=[v]) Tryz.func18 rfl Tryz.ntmps18 rfl fun a F=>?_
 refine wp_seq (gF (KP:=none) (J:=[]) (K:=fun e l bs rs w1=>e=.normal∧∃ g,l=[(3,.pointer (some ⟨g,0,none⟩)),(2,.int .i64 0),(0,v)]∧bs=[(g,43,#[.int .i64 0])]∧rs=[]) ?_ F (Mm.start w0) (fun _ h=>by cases h) fun e a l1 bs rs w F M ⟨he,g,hl1,hbs,ZQ⟩=>?_)
 ·exact ei<|an Vh fun g w1 M1=>⟨rfl,g,rfl,rfl,rfl⟩
 subst he hbs ZQ hl1;refine wp_seq (Co rfl rfl rfl (F.g 3 rfl) ?_);have Q7:a.defers=[]:=F.fr.defers;have hsz:a.tmps.size=9:=F.fr.size;have hat:∀ s x,look s [(3,Value.pointer (some ⟨g,0,none⟩)),(2,.int .i64 0),(0,v)]=some x→At a s x:=F.at_;clear F
 letI D:DS:=⟨[Ii g]⟩
 have F2:@Fs D { a with defers:=Ii g::a.defers } 9 [(3,Value.pointer (some ⟨g,0,none⟩)),(2,.int .i64 0),(0,v)]:=⟨⟨by show Ii g::a.defers=[Ii g];rw[Q7],hsz⟩,hat⟩;refine wp_seq (xJ (Pn:=fun ch w=>∃ k,ch=CV k∧wQ l=.error k∧aC w0.heap.size w0 w [(g,43,#[.int .i64 0])] []) (Kn:=fun l' bs rs w=>look 3 l'=some (.pointer (some ⟨g,0,none⟩))∧(∃ n:Nat,wQ l=.ok n∧look 2 l'=some (.int .i64 (n:Int)))∧bs=[(g,43,#[.int .i64 0])]∧rs=[]) F2 M ?_ (fun a' ch w' hf hk hp=>?_) fun a l' bs rs w' F M hk=>?_)
 ·have hb:=h.keep M.below;have ho:=L0 hb hL
  cases hf:cR l with
  | error k=>
   unfold Gq at ho;rw[hf] at ho;exact Xn (ho.mono fun e w' ⟨h1,h2⟩=>⟨_,h1,k,rfl,by unfold wQ;rw[hf],M.keep h2⟩)
  | ok y=>
   obtain⟨n,r⟩:=y;unfold Gq at ho;rw[hf] at ho;refine Rp (R:=fun x w'=>∃ R wb,x=.pointer (some ⟨R,0,none⟩)∧ake w.heap.size w wb∧w.heap.size≤wb.heap.size∧RD wb w' R (n:Int) [] [] r) (ho.mono fun e w' ⟨R,wb,h1,_,h3,h4,h5⟩=>⟨_,h1,R,wb,rfl,h3,h4,h5⟩) ?_;rintro _ w2 ⟨R,wb,rfl,gZ,hle,u,hs,hbu,MR⟩;have hb2:ake w.heap.size w w2:=gZ.trans (MR.below.mono hle);have hc:w2.cell? ⟨R,1,none⟩=some (.int .i64 (n:Int)):=(MR.b 0 rfl).cell 1;exact⟨_,_,M.keep hb2,lc (x:=.int .i64 (n:Int))<|an hc<|lb 0<|an ⟨rfl,rfl⟩ fun w3 M3=>⟨rfl,⟨n,by unfold wQ;rw[hf],rfl⟩,rfl,rfl⟩⟩
 ·obtain⟨k,rfl,hv,M⟩:=hp;have h3':=hk 3 _ rfl rfl;show Leaves Tryz.prog Tryz.f18 a'.tmps (VeC w0 l) a'.defers (.panicking (CV k)) w';rw[show a'.defers=[Ii g] from hf.defers];refine z_ (Nat.le_refl _) M fun w2 M2=>⟨.tuple #[a'.tmps.getD 2 undef,.int .i64 k],?_,_,_,rfl,M2.below,by rw[hv]⟩
  have Q6:a'.tmps.getD 3 undef=.pointer (some ⟨g,0,none⟩):=h3'.ev;rw[akf] at Q6;simp[results,show Tryz.f18.results=#[.tmp 2,.cell 3 43] from rfl,Q6,asAddr,wk VB rfl ((M2.b 0 rfl).cell 0)]
 ·obtain⟨h3',⟨n,hv,h2'⟩,rfl,rfl⟩:=hk;refine wp_ret ?_;show Leaves Tryz.prog Tryz.f18 a.tmps (VeC w0 l) a.defers .returning w';rw[show a.defers=[Ii g] from F.fr.defers];refine z8 M fun w2 M2=>⟨.tuple #[.int .i64 (n:Int),.int .i64 0],?_,_,_,rfl,M2.below,by rw[hv];exact⟨rfl,rfl⟩⟩
  have Q6:a.tmps.getD 3 undef=.pointer (some ⟨g,0,none⟩):=(F.at_ 3 _ h3').ev;have hg2:a.tmps.getD 2 undef=.int .i64 (n:Int):=(F.at_ 2 _ h2').ev;rw[akf] at Q6 hg2;simp[results,show Tryz.f18.results=#[.tmp 2,.cell 3 43] from rfl,Q6,hg2,asAddr,wk VB rfl ((M2.b 0 rfl).cell 0)]
theorem aC.Qi{B:Nat}{w0 w w':World}{bs bs':List Bx}{rs rs':List Rw}(M:aC B w0 w bs rs)(N:aC w.heap.size w w' bs' rs'):aC B w0 w' (bs'++bs) (rs++rs'):=by
 have hb:=N.below;have M':=M.keep hb;have R:=M.mQ hb N.gH;refine⟨M'.below,M'.le,M'.old,fun b h=>?_,fun b h=>?_,?_,R.row,fun r hr b h=>?_,R.tZ⟩
 ·rcases akg.1 h with h|h
  ·exact N.box b h
  ·exact M'.box b h
 ·rcases akg.1 h with h|h
  ·exact Nat.le_trans M.big (N.lo b h)
  ·exact M'.lo b h
 ·rw[List.map_append];refine List.nodup_append.2 ⟨N.nd,M.nd,?_⟩;intro x hx y hy e;obtain⟨b,hb1,rfl⟩:=List.mem_map.1 hx;obtain⟨c,hc1,rfl⟩:=List.mem_map.1 hy;have h1:=N.lo b hb1;have h2:=(M.box c hc1).lt;omega
 ·rcases akg.1 h with h|h
  ·rcases akg.1 hr with hr|hr
   ·intro e;have h1:=((M.row r hr).lt _ e).2;have h2:=N.lo b h;omega
   ·exact N.far r hr b h
  ·exact R.far r hr b h
def jM:aA:=⟨[],[],[],[],[],[],[],[],[],[],[],[],[],[],[],[],[]⟩
theorem sU{α:Type}{k:Nat}{R:List Value→α→Prop}{w:World}:au k R w (.slice none 0 0) []:=⟨[],rfl,(fun _ h=>by cases h),SliceAt.nil _ _,fun i x y h=>by simp at h⟩
theorem oI(w:World):aD w (.slice none 0 0) (.slice none 0 0) (.slice none 0 0) (.slice none 0 0) (.slice none 0 0) (.slice none 0 0) (.slice none 0 0) (.slice none 0 0) (.slice none 0 0) (.slice none 0 0) (.slice none 0 0) (.slice none 0 0) (.slice none 0 0) (.slice none 0 0) (.slice none 0 0) (.slice none 0 0) (.slice none 0 0) jM:=
 ⟨sU,sU,SliceAt.nil _ _,SliceAt.nil _ _,SliceAt.nil _ _,SliceAt.nil _ _,SliceAt.nil _ _,SliceAt.nil _ _,sU,SliceAt.nil _ _,SliceAt.nil _ _,SliceAt.nil _ _,SliceAt.nil _ _,sU,SliceAt.nil _ _,SliceAt.nil _ _,SliceAt.nil _ _⟩
def Yn(w0:World)(l:List Nat)(e:Ending)(w':World):Prop:=∃ (p:aA) (c0 c1 c2 c3 c4 c5 c6 c7 c8 c9 c10 c11 c12 c13 c14 c15 c16 v:Value) (k:Int),e=.returned (.tuple #[.agg #[c0,c1,c2,c3,c4,c5,c6,c7,c8,c9,c10,c11,c12,c13,c14,c15,c16],v,.int .i64 k])∧(∃ T,RowsIn w0.heap.size w' T∧∀ B w,RowsIn B w T→aD w c0 c1 c2 c3 c4 c5 c6 c7 c8 c9 c10 c11 c12 c13 c14 c15 c16 p)∧ake w0.heap.size w0 w'∧match pK bg l with
 | .ok (q,n)=>p=q∧v=.int .i64 (n:Int)∧k=0
 | .error k'=>k=k'
def Kj(w0:World)(l:List Nat)(g2 g4:Nat)(ch:List PanicEntry)(w:World):Prop:=∃ (k:Int) (p:aA) (c0 c1 c2 c3 c4 c5 c6 c7 c8 c9 c10 c11 c12 c13 c14 c15 c16:Value) (T:List Rw),ch=CV k∧pK bg l=.error k∧(∀ B w,RowsIn B w T→aD w c0 c1 c2 c3 c4 c5 c6 c7 c8 c9 c10 c11 c12 c13 c14 c15 c16 p)∧aC w0.heap.size w0 w [(g4,43,#[.int .i64 0]),(g2,39,#[c0,c1,c2,c3,c4,c5,c6,c7,c8,c9,c10,c11,c12,c13,c14,c15,c16])] T
theorem A8[DS]{w0 w:World}{l:List Nat}{g2 g4:Nat}{a:Act}{ch:List PanicEntry}(hd:a.defers=[Ii g4])(h2:At a 2 (.pointer (some ⟨g2,0,none⟩)))(h4:At a 4 (.pointer (some ⟨g4,0,none⟩)))(h:Kj w0 l g2 g4 ch w):bodyPostD Tryz.prog Tryz.f41 (Yn w0 l) (.panic ch) a w:=by
 obtain⟨k,p,c0,c1,c2,c3,c4,c5,c6,c7,c8,c9,c10,c11,c12,c13,c14,c15,c16,T,rfl,BA,hT,M⟩:=h;show Leaves Tryz.prog Tryz.f41 a.tmps (Yn w0 l) a.defers (.panicking (CV k)) w;rw[hd];refine z_ (Nat.le_refl _) M fun w2 M2=>⟨.tuple #[.agg #[c0,c1,c2,c3,c4,c5,c6,c7,c8,c9,c10,c11,c12,c13,c14,c15,c16],a.tmps.getD 3 undef,.int .i64 k],?_,p,c0,c1,c2,c3,c4,c5,c6,c7,c8,c9,c10,c11,c12,c13,c14,c15,c16,_,k,rfl,⟨T,M2.gH,hT⟩,M2.below,by rw[BA]⟩
 have hg2:a.tmps.getD 2 undef=.pointer (some ⟨g2,0,none⟩):=h2.ev;have Wz:a.tmps.getD 4 undef=.pointer (some ⟨g4,0,none⟩):=h4.ev;rw[akf] at hg2 Wz;simp[results,show Tryz.f41.results=#[.cell 2 39,.tmp 3,.cell 4 43] from rfl,hg2,Wz,asAddr,wk VB rfl ((M2.b 0 rfl).cell 0),run_loadVar_row w2 g2 39 39 _ (0,0) _ (M2.b 1 rfl) VD rfl (by kernel_rfl)]
theorem LL{w0:World}{v:Value}{l:List Nat}(h:aj w0 v l)(hL:l.length≤aF)(hrl:∀ n r,cR l=.ok (n,r)→r.length≤aF)(hM:∀ n r p r',cR l=.ok (n,r)→zq n r=.ok (p,r')→p.Ok∧p.Md):Calls Tryz.prog 41 #[v] w0 (Yn w0 l):=by
 refine enD (vs:=[v]) Tryz.func41 rfl Tryz.ntmps41 rfl fun a F=>?_
 refine wp_seq (gF (KP:=none) (J:=[]) (K:=fun e l' bs rs w1=>e=.normal∧∃ g2 g4,l'=[(4,.pointer (some ⟨g4,0,none⟩)),(3,.int .i64 0),(2,.pointer (some ⟨g2,0,none⟩)),(0,v)]∧bs=[(g4,43,#[.int .i64 0]),(g2,39,#[.slice none 0 0,.slice none 0 0,.slice none 0 0,.slice none 0 0,.slice none 0 0,.slice none 0 0,.slice none 0 0,.slice none 0 0,.slice none 0 0,.slice none 0 0,.slice none 0 0,.slice none 0 0,.slice none 0 0,.slice none 0 0,.slice none 0 0,.slice none 0 0,.slice none 0 0])]∧rs=[]) ?_ F (Mm.start w0) (fun _ h=>by cases h) fun e a l1 bs rs w F M ⟨he,g2,g4,hl1,hbs,ZQ⟩=>?_)
 ·exact ei<|an rM fun g2 w1 M1=>ei<|an Vh fun g4 w2 M2=>⟨rfl,g2,g4,rfl,rfl,rfl⟩
 subst he hbs ZQ hl1;refine wp_seq (Co rfl rfl rfl (F.g 4 rfl) ?_);have Q7:a.defers=[]:=F.fr.defers;have hsz:a.tmps.size=25:=F.fr.size;have hat:∀ s x,look s [(4,Value.pointer (some ⟨g4,0,none⟩)),(3,.int .i64 0),(2,.pointer (some ⟨g2,0,none⟩)),(0,v)]=some x→At a s x:=F.at_;clear F
 letI D:DS:=⟨[Ii g4]⟩
 have F2:@Fs D { a with defers:=Ii g4::a.defers } 25 [(4,Value.pointer (some ⟨g4,0,none⟩)),(3,.int .i64 0),(2,.pointer (some ⟨g2,0,none⟩)),(0,v)]:=⟨⟨by show Ii g4::a.defers=[Ii g4];rw[Q7],hsz⟩,hat⟩;have hdE:∀ k,cR l=.error k→pK bg l=.error k:=fun k hk=>by unfold pK;rw[hk]
 refine wp_seq (xJ (Pn:=Kj w0 l g2 g4) (Kn:=fun l' bs rs w2=>∃ n r R,cR l=.ok (n,r)∧l'=(5,.pointer (some ⟨R,0,none⟩))::(7,.pointer (some ⟨R,0,none⟩))::(6,v)::[(4,.pointer (some ⟨g4,0,none⟩)),(3,.int .i64 0),(2,.pointer (some ⟨g2,0,none⟩)),(0,v)]∧bs=[(g4,43,#[.int .i64 0]),(g2,39,#[.slice none 0 0,.slice none 0 0,.slice none 0 0,.slice none 0 0,.slice none 0 0,.slice none 0 0,.slice none 0 0,.slice none 0 0,.slice none 0 0,.slice none 0 0,.slice none 0 0,.slice none 0 0,.slice none 0 0,.slice none 0 0,.slice none 0 0,.slice none 0 0,.slice none 0 0])]∧rs=[]∧∃ wb,ake w.heap.size w wb∧w.heap.size≤wb.heap.size∧RD wb w2 R (n:Int) [] [] r) F2 M ?_ (fun a' ch w' hf hk hp=>A8 hf.defers (hk 2 _ rfl rfl) (hk 4 _ rfl rfl) hp) fun a l' bs rs w2 F M2 hk=>?_)
 ·have hb:=h.keep M.below;have ho:=L0 hb hL
  cases hf:cR l with
  | error k=>
   unfold Gq at ho;rw[hf] at ho;exact Xn (ho.mono fun e w' ⟨h1,h2⟩=>⟨_,h1,k,jM,_,_,_,_,_,_,_,_,_,_,_,_,_,_,_,_,_,[],rfl,hdE k hf,fun _ w _=>oI w,M.keep h2⟩)
  | ok y=>
   obtain⟨n,r⟩:=y;unfold Gq at ho;rw[hf] at ho;refine Rp (R:=fun x w'=>∃ R wb,x=.pointer (some ⟨R,0,none⟩)∧ake w.heap.size w wb∧w.heap.size≤wb.heap.size∧RD wb w' R (n:Int) [] [] r) (ho.mono fun e w' ⟨R,wb,h1,_,h3,h4,h5⟩=>⟨_,h1,R,wb,rfl,h3,h4,h5⟩) ?_;rintro _ w2 ⟨R,wb,rfl,gZ,hle,hR⟩;have hb2:ake w.heap.size w w2:=by obtain⟨u,_,_,MR⟩:=hR;exact gZ.trans (MR.below.mono hle)
   exact⟨_,_,M.keep hb2,n,r,R,rfl,rfl,rfl,rfl,wb,gZ,hle,hR⟩
 obtain⟨n,r,R,hfm,rfl,rfl,rfl,wb,gZ,hle,u,hs,hbu,MR⟩:=hk;have aav:∀ {w3:World} {bs':List Bx} {rs':List Rw},aC wb.heap.size wb w3 bs' rs'→aC w0.heap.size w0 w3 (bs'++[(g4,43,#[.int .i64 0]),(g2,39,#[.slice none 0 0,.slice none 0 0,.slice none 0 0,.slice none 0 0,.slice none 0 0,.slice none 0 0,.slice none 0 0,.slice none 0 0,.slice none 0 0,.slice none 0 0,.slice none 0 0,.slice none 0 0,.slice none 0 0,.slice none 0 0,.slice none 0 0,.slice none 0 0,.slice none 0 0])]) ([]++rs'):=fun N=>M.Qi (((Mm.start w).keep gZ).Rq N)
 refine wp_seq (xJ (Pn:=Kj w0 l g2 g4) (Kn:=fun l' bs rs w3=>∃ (p:aA) (r':List Nat) (u':Value) (T:List Rw) (c0 c1 c2 c3 c4 c5 c6 c7 c8 c9 c10 c11 c12 c13 c14 c15 c16:Value),zq n r=.ok (p,r')∧fQ u' r'∧l'=(9,.agg #[c0,c1,c2,c3,c4,c5,c6,c7,c8,c9,c10,c11,c12,c13,c14,c15,c16])::(8,.pointer (some ⟨R,0,none⟩))::(5,.pointer (some ⟨R,0,none⟩))::(7,.pointer (some ⟨R,0,none⟩))::(6,v)::[(4,.pointer (some ⟨g4,0,none⟩)),(3,.int .i64 0),(2,.pointer (some ⟨g2,0,none⟩)),(0,v)]∧bs=[bI R u' (n:Int),(g4,43,#[.int .i64 0]),(g2,39,#[c0,c1,c2,c3,c4,c5,c6,c7,c8,c9,c10,c11,c12,c13,c14,c15,c16])]∧T=rs∧∀ B w,RowsIn B w T→aD w c0 c1 c2 c3 c4 c5 c6 c7 c8 c9 c10 c11 c12 c13 c14 c15 c16 p) F M2 ?_ (fun a' ch w' hf hk hp=>A8 hf.defers (hk 2 _ rfl rfl) (hk 4 _ rfl rfl) hp) fun a l' bs rs w3 F M3 hk=>?_)
 ·have ho:=LP (bs:=[]) (rs:=[]) MR hs hbu (hrl n r hfm)
  cases hp:zq n r with
  | error k=>
   unfold cr at ho;rw[hp] at ho;exact Xn (ho.mono fun e w' ⟨h1,h2⟩=>⟨_,h1,k,jM,_,_,_,_,_,_,_,_,_,_,_,_,_,_,_,_,_,[],rfl,by unfold pK;rw[hfm];simp only[hp],fun _ w _=>oI w,M.keep (gZ.trans (h2.mono hle))⟩)
  | ok y=>
   obtain⟨p,r'⟩:=y;unfold cr at ho;rw[hp] at ho;refine Rp (R:=fun x w'=>∃ T,VW T x p∧RD wb w' R (n:Int) [] ([]++T) r') (ho.mono fun e w' ⟨v,T,h1,h2,h3⟩=>⟨v,h1,T,h2,h3⟩) ?_;rintro _ w3 ⟨T,⟨c0,c1,c2,c3,c4,c5,c6,c7,c8,c9,c10,c11,c12,c13,c14,c15,c16,rfl,hT⟩,u',hs',aeK,MR'⟩;have M3:=aav MR';have lA:=hT _ _ MR'.gH;have hpc:=lA;obtain⟨_,_,_,_,_,_,_,_,_,_,_,_,_,_,_,_,_,_,_,_,_,_,_,_,_,_,_,_,_,_,_,_,_,_,rfl,rfl,rfl,rfl,rfl,rfl,rfl,rfl,rfl,rfl,rfl,rfl,rfl,rfl,rfl,rfl,rfl⟩:=hpc.open;exact⟨_,_,M3,lb 2<|an ⟨rfl,rfl⟩ fun w4 M4=>⟨p,r',u',T,_,_,_,_,_,_,_,_,_,_,_,_,_,_,_,_,_,rfl,hs',rfl,rfl,rfl,hT⟩⟩
 obtain⟨p,r',u',T,c0,c1,c2,c3,c4,c5,c6,c7,c8,c9,c10,c11,c12,c13,c14,c15,c16,hpp,⟨gu,ou,cu,rfl,Ye⟩,rfl,rfl,rfl,hT⟩:=hk;have BA:pK bg l=if r'=[] then (if bg p=0 then .ok (p,n) else .error (bg p)) else .error 6:=by unfold pK;rw[hfm];simp only[hpp]
 have pan:∀ {k:Int} {w':World} {u9:Value},pK bg l=.error k→aC w0.heap.size w0 w' [bI R u9 (n:Int),(g4,43,#[.int .i64 0]),(g2,39,#[c0,c1,c2,c3,c4,c5,c6,c7,c8,c9,c10,c11,c12,c13,c14,c15,c16])] T→Kj w0 l g2 g4 (CV k) w':=fun hk M=>⟨_,p,_,_,_,_,_,_,_,_,_,_,_,_,_,_,_,_,_,T,rfl,hk,hT,M.only (.cons _ (.refl _)) (.refl _)⟩
 refine wp_seq (xJ (Pn:=Kj w0 l g2 g4) (Kn:=fun l' bs rs w4=>r'=[]∧l'=(16,.tuple #[])::(15,.bool (decide ((r'.length:Int)=0)))::(14,.int .i64 (r'.length:Int))::(13,.slice (some ⟨gu,ou,none⟩) r'.length cu)::(12,.pointer (some ⟨R,0,none⟩))::(11,.pointer (some ⟨R,0,none⟩))::(10,.pointer (some ⟨R,0,none⟩))::(9,.agg #[c0,c1,c2,c3,c4,c5,c6,c7,c8,c9,c10,c11,c12,c13,c14,c15,c16])::(8,.pointer (some ⟨R,0,none⟩))::(5,.pointer (some ⟨R,0,none⟩))::(7,.pointer (some ⟨R,0,none⟩))::(6,v)::[(4,.pointer (some ⟨g4,0,none⟩)),(3,.int .i64 0),(2,.pointer (some ⟨g2,0,none⟩)),(0,v)]∧bs=[bI R (.slice (some ⟨gu,ou,none⟩) r'.length cu) (n:Int),(g4,43,#[.int .i64 0]),(g2,39,#[c0,c1,c2,c3,c4,c5,c6,c7,c8,c9,c10,c11,c12,c13,c14,c15,c16])]∧T=rs) F M3 ?_ (fun a' ch w' hf hk hp=>A8 hf.defers (hk 2 _ rfl rfl) (hk 4 _ rfl rfl) hp) fun a l' bs rs w4 F M4 hk=>?_)
 ·refine lb 0<|an rfl ?_;by_cases hr0:r'=[]
  ·exact Um (decide_eq_true (by rw[hr0];rfl)) M3 fun w4 M4=>⟨hr0,rfl,rfl,rfl⟩
  ·exact Oz (decide_eq_false (by have:=List.length_pos_iff.2 hr0;omega)) fun w' hb=>pan (by rw[BA,if_neg hr0]) (M3.keep hb)
 obtain⟨hr0,rfl,rfl,rfl⟩:=hk;refine wp_seq (xJ (Pn:=Kj w0 l g2 g4) (Kn:=fun l' bs rs w5=>bg p=0∧l'=(19,.tuple #[])::(18,.int .i64 0)::(17,.agg #[c0,c1,c2,c3,c4,c5,c6,c7,c8,c9,c10,c11,c12,c13,c14,c15,c16])::(16,.tuple #[])::(15,.bool (decide ((r'.length:Int)=0)))::(14,.int .i64 (r'.length:Int))::(13,.slice (some ⟨gu,ou,none⟩) r'.length cu)::(12,.pointer (some ⟨R,0,none⟩))::(11,.pointer (some ⟨R,0,none⟩))::(10,.pointer (some ⟨R,0,none⟩))::(9,.agg #[c0,c1,c2,c3,c4,c5,c6,c7,c8,c9,c10,c11,c12,c13,c14,c15,c16])::(8,.pointer (some ⟨R,0,none⟩))::(5,.pointer (some ⟨R,0,none⟩))::(7,.pointer (some ⟨R,0,none⟩))::(6,v)::[(4,.pointer (some ⟨g4,0,none⟩)),(3,.int .i64 0),(2,.pointer (some ⟨g2,0,none⟩)),(0,v)]∧bs=[bI R (.slice (some ⟨gu,ou,none⟩) r'.length cu) (n:Int),(g4,43,#[.int .i64 0]),(g2,39,#[c0,c1,c2,c3,c4,c5,c6,c7,c8,c9,c10,c11,c12,c13,c14,c15,c16])]∧T=rs) F M4 ?_ (fun a' ch w' hf hk hp=>A8 hf.defers (hk 2 _ rfl rfl) (hk 4 _ rfl rfl) hp) fun a l' bs rs w5 F M5 hk=>?_)
 ·have hl:=wv w4 _ _ _ _ _ _ _ _ _ _ _ _ _ _ _ _ _ p (hT _ _ M4.gH) (hM n r p r' hfm hpp).1 (hM n r p r' hfm hpp).2;generalize Ad:bg p=k at hl;refine lb 2<|an rfl<|cl<|an hl fun w5 M5=>?_
  by_cases hk0:k=0
  ·subst hk0;exact Xp M5 fun w6 M6=>⟨by first|exact Ad|rfl,rfl,rfl,rfl⟩
  ·exact Vb hk0 fun w' hb=>pan (by rw[BA,if_pos hr0,if_neg (by rw[Ad];exact hk0),Ad]) (M5.keep hb)
 obtain⟨Ad,rfl,rfl,rfl⟩:=hk;have hpc:=hT _ _ M5.gH;obtain⟨a0,a1,a2,a3,a4,a5,a6,a7,a8,a9,nr,mH,a12,mF,mE,og,n_,k0,k1,k2,k3,k4,k5,k6,k7,k8,k9,k10,k11,k12,k13,k14,k15,k16,rfl,rfl,rfl,rfl,rfl,rfl,rfl,rfl,rfl,rfl,rfl,rfl,rfl,rfl,rfl,rfl,rfl⟩:=hpc.open;refine wp_seq (gF (KP:=none) (J:=[]) (K:=fun e l' bs rs w6=>e=.normal∧look 2 l'=some (.pointer (some ⟨g2,0,none⟩))∧look 3 l'=some (.int .i64 (n:Int))∧look 4 l'=some (.pointer (some ⟨g4,0,none⟩))∧aC w0.heap.size w0 w6 [(g4,43,#[.int .i64 0]),(g2,39,#[.slice a0 p.classes.length k0,.slice a1 p.types.length k1,.slice a2 p.attrs.length k2,.slice a3 p.roles.length k3,.slice a4 p.users.length k4,.slice a5 p.bools.length k5,.slice a6 p.ay.length k6,.slice a7 p.cats.length k7,.slice a8 p.conds.length k8,.slice a9 p.rules.length k9,.slice nr p.trans.length k10,.slice mH p.ak.length k11,.slice a12 p.ranges.length k12,.slice mF p.cons.length k13,.slice mE p.aN.length k14,.slice og p.files.length k15,.slice n_ p.asserts.length k16])] T) ?_ F M5 (fun _ h=>by cases h) fun e a l' bs rs w6 F M6 ⟨he,h2,h3,h4,M7⟩=>?_)
 ·exact zQ [0,1,2,3,4] (.step 5 (.step 6 (.step 7 .done))) [bI R (.slice (some ⟨gu,ou,none⟩) r'.length cu) (n:Int),(g2,39,#[.slice a0 p.classes.length k0,.slice a1 p.types.length k1,.slice a2 p.attrs.length k2,.slice a3 p.roles.length k3,.slice a4 p.users.length k4,.slice a5 p.bools.length k5,.slice a6 p.ay.length k6,.slice a7 p.cats.length k7,.slice a8 p.conds.length k8,.slice a9 p.rules.length k9,.slice nr p.trans.length k10,.slice mH p.ak.length k11,.slice a12 p.ranges.length k12,.slice mF p.cons.length k13,.slice mE p.aN.length k14,.slice og p.files.length k15,.slice n_ p.asserts.length k16])] (by kernel_rfl) (by simp)<|lb 1<|an rfl<|lb 0<|an rfl<|fun w6 HK M6=>lb 2<|an ⟨rfl,rfl⟩ fun w7 M7=>an (by simp)<|an (by simp)<|lb 1<|an ⟨rfl,rfl⟩ fun w8 M8=>an (by simp)<|⟨rfl,rfl,rfl,rfl,M8.only (.cons _ (.refl _)) (.refl _)⟩
 subst he;refine wp_ret ?_;show Leaves Tryz.prog Tryz.f41 a.tmps (Yn w0 l) a.defers .returning w6;rw[show a.defers=[Ii g4] from F.fr.defers];refine z8 M7 fun w8 M8=>⟨.tuple #[.agg #[.slice a0 p.classes.length k0,.slice a1 p.types.length k1,.slice a2 p.attrs.length k2,.slice a3 p.roles.length k3,.slice a4 p.users.length k4,.slice a5 p.bools.length k5,.slice a6 p.ay.length k6,.slice a7 p.cats.length k7,.slice a8 p.conds.length k8,.slice a9 p.rules.length k9,.slice nr p.trans.length k10,.slice mH p.ak.length k11,.slice a12 p.ranges.length k12,.slice mF p.cons.length k13,.slice mE p.aN.length k14,.slice og p.files.length k15,.slice n_ p.asserts.length k16],.int .i64 (n:Int),.int .i64 0],?_,p,_,_,_,_,_,_,_,_,_,_,_,_,_,_,_,_,_,_,0,rfl,⟨T,M8.gH,hT⟩,M8.below,by rw[BA,if_pos hr0,if_pos Ad];exact⟨rfl,rfl,rfl⟩⟩
 have hg2:a.tmps.getD 2 undef=.pointer (some ⟨g2,0,none⟩):=(F.at_ 2 _ h2).ev;have Q6:a.tmps.getD 3 undef=.int .i64 (n:Int):=(F.at_ 3 _ h3).ev;have Wz:a.tmps.getD 4 undef=.pointer (some ⟨g4,0,none⟩):=(F.at_ 4 _ h4).ev;rw[akf] at hg2 Q6 Wz;simp[results,show Tryz.f41.results=#[.cell 2 39,.tmp 3,.cell 4 43] from rfl,hg2,Q6,Wz,asAddr,wk VB rfl ((M8.b 0 rfl).cell 0),run_loadVar_row w8 g2 39 39 _ (0,0) _ (M8.b 1 rfl) VD rfl (by kernel_rfl)]
def NZ{α:Type}(p:Ps α):Prop:=∀ l k,p l=.error k→k≠0
theorem aR{α β:Type}{p:Ps α}{f:α→Ps β}(hp:NZ p)(hf:∀ x,NZ (f x)):NZ (pb p f):=fun l k h=>by
 unfold pb at h;split at h
 ·exact hf _ _ _ h
 ·rename_i e he;injection h with h;subst h;exact hp _ _ he
theorem cZ{α:Type}(x:α):NZ (pp x):=fun l k h=>by cases h
theorem zZ{α:Type}{e:Int}(he:e≠0):NZ (pe e:Ps α):=fun l k h=>by injection h with h;subst h;exact he
theorem mO{α:Type}{c:Prop}[Decidable c]{p q:Ps α}(hp:NZ p)(hq:NZ q):NZ (if c then p else q):=by split<;>assumption
theorem Bk:NZ nG:=fun l k h=>by
 unfold nG at h;split at h
 ·cases h
 ·injection h with h;subst h;assumption
theorem L8:NZ Pm:=aR Bk fun _=>mO (cZ _) (zZ (by decide))
theorem dH:NZ iw:=aR L8 fun _=>cZ _
theorem Hh:NZ rD:=fun l k h=>by
 unfold rD at h;split at h
 ·split at h
  ·cases h
  ·injection h with h;subst h;decide
 ·injection h with h;subst h;assumption
theorem wj:NZ uZ:=aR L8 fun _=>mO (cZ _) (zZ (by decide))
theorem gB:NZ eX:=fun l k h=>by
 unfold eX at h;split at h
 ·cases h
 ·injection h with h;subst h;assumption
theorem jg:NZ lV:=fun l k h=>by
 unfold lV at h;split at h
 ·cases h
 ·injection h with h;subst h;assumption
theorem Fg:NZ E3:=aR dH fun _=>aR Bk fun _=>cZ _
theorem Fe:NZ E1:=aR Fg fun _=>aR Fg fun _=>cZ _
theorem L7:NZ Jg:=aR dH fun _=>aR dH fun _=>aR dH fun _=>aR Fe fun _=>cZ _
theorem L6{α:Type}{p:Ps α}(hp:NZ p):∀ n,NZ (vC n p)
 | 0=>cZ _
 | n+1=>aR hp fun _=>aR (L6 hp n) fun _=>cZ _
theorem fK{α:Type}{p:Ps α}(hp:NZ p):NZ (cI p):=aR L8 fun n=>L6 hp n
theorem xP:∀ k,NZ (jB k)
 | 0=>aR dH fun _=>mO (zZ (by decide)) (zZ (by decide))
 | k+1=>by
  unfold jB;refine aR dH fun _=>mO (mO (aR dH fun _=>cZ _) (mO (aR dH fun _=>aR dH fun _=>aR dH fun _=>cZ _) (mO (aR dH fun _=>aR jg fun _=>cZ _) (mO (aR (xP k) fun _=>cZ _) (aR (xP k) fun _=>aR (xP k) fun _=>cZ _))))) (zZ (by decide))
theorem Sw:NZ E6:=aR gB fun _=>aR (fK gB) fun _=>cZ _
theorem Sj(v:Nat):NZ (EV v):=aR gB fun _=>aR (fK gB) fun _=>aR (mO wj (cZ _)) fun _=>cZ _
theorem Sy:NZ E8:=aR gB fun _=>aR jg fun _=>cZ _
theorem Sp:NZ E0:=aR gB fun _=>aR jg fun _=>aR jg fun _=>cZ _
theorem Si:NZ EU:=aR gB fun _=>aR jg fun _=>aR Fg fun _=>aR Fe fun _=>cZ _
theorem Sx:NZ E7:=aR gB fun _=>aR wj fun _=>cZ _
theorem Sm:NZ EY:=aR dH fun _=>aR jg fun _=>aR jg fun _=>aR wj fun _=>aR dH fun _=>aR dH fun _=>aR Hh fun _=>cZ _
theorem Sk(v:Nat):NZ (EW v):=aR dH fun _=>aR jg fun _=>aR jg fun _=>aR dH fun _=>aR (mO gB (cZ _)) fun _=>aR dH fun _=>aR Hh fun _=>cZ _
theorem Sn:NZ EZ:=aR jg fun _=>aR jg fun _=>aR dH fun _=>aR dH fun _=>cZ _
theorem Sq:NZ E2:=aR jg fun _=>aR jg fun _=>aR dH fun _=>aR Fe fun _=>cZ _
theorem Sv:NZ E5:=aR dH fun _=>aR dH fun _=>aR wj fun _=>aR (xP 12) fun _=>cZ _
theorem Sl:NZ EX:=aR gB fun _=>aR L7 fun _=>cZ _
theorem Ss:NZ E4:=aR gB fun _=>aR dH fun _=>aR L7 fun _=>cZ _
theorem Sz:NZ E9:=aR gB fun _=>aR dH fun _=>aR jg fun _=>aR jg fun _=>cZ _
theorem Sr(v:Nat):NZ (zq v):=
 aR (fK Sw) fun _=>aR (fK (Sj v)) fun _=>aR (fK Sy) fun _=>aR (fK Sp) fun _=>aR (fK Si) fun _=>aR (fK Sx) fun _=>
 aR (fK gB) fun _=>aR (fK gB) fun _=>aR (fK (xP 12)) fun _=>aR (fK Sm) fun _=>aR (fK (Sk v)) fun _=>aR (fK Sn) fun _=>
 aR (mO (fK Sq) (cZ _)) fun _=>aR (fK Sv) fun _=>aR (fK Sl) fun _=>
 aR (mO (fK Ss) (cZ _)) fun _=>aR (mO (fK Sz) (cZ _)) fun _=>cZ _
theorem Nd{l:List Nat}{k:Int}(h:cR l=.error k):k≠0:=by
 unfold cR at h;split at h
 ·unfold yq at h;split at h
  ·injection h with h;subst h;decide
  ·split at h
   ·exact(aR Bk fun _=>mO (cZ _) (zZ (by decide))) _ _ h
   ·injection h with h;subst h;decide
 ·injection h with h;subst h;assumption
theorem Uj{l:List Nat}{k:Int}(h:pK bg l=.error k):k≠0:=by
 unfold pK at h;split at h
 ·rename_i e he;injection h with h;subst h;exact Nd he
 ·split at h
  ·rename_i e he;injection h with h;subst h;exact Sr _ _ _ he
  ·split at h
   ·split at h
    ·cases h
    ·injection h with h;subst h;assumption
   ·injection h with h;subst h;decide
def DeC(w0:World)(l:List Nat)(e:Ending)(w':World):Prop:=∃ (p:aA) (c0 c1 c2 c3 c4 c5 c6 c7 c8 c9 c10 c11 c12 c13 c14 c15 c16:Value) (n k:Int),e=.returned (.tuple #[.agg #[c0,c1,c2,c3,c4,c5,c6,c7,c8,c9,c10,c11,c12,c13,c14,c15,c16],.int .i64 n,.int .i64 k])∧(∃ T,RowsIn w0.heap.size w' T∧∀ B w,RowsIn B w T→aD w c0 c1 c2 c3 c4 c5 c6 c7 c8 c9 c10 c11 c12 c13 c14 c15 c16 p)∧ake w0.heap.size w0 w'∧match pK bg l with
 | .ok (q,m)=>p=q∧n=(m:Int)∧k=0
 | .error k'=>p=jM∧n=0∧k=k'
theorem F6{w0:World}{v:Value}{l:List Nat}(h:aj w0 v l)(hL:l.length≤aF)(hrl:∀ n r,cR l=.ok (n,r)→r.length≤aF)(hM:∀ n r p r',cR l=.ok (n,r)→zq n r=.ok (p,r')→p.Ok∧p.Md):Calls Tryz.prog 16 #[v] w0 (DeC w0 l):=by
 refine Vw [] (fn:=Tryz.f16) Tryz.func16 rfl Tryz.ntmps16 rfl<|ei<|an rM fun g1 w1 M1=>cg (R:=fun x w'=>∃ (p:aA) (c0 c1 c2 c3 c4 c5 c6 c7 c8 c9 c10 c11 c12 c13 c14 c15 c16 v:Value) (k:Int),x=.tuple #[.agg #[c0,c1,c2,c3,c4,c5,c6,c7,c8,c9,c10,c11,c12,c13,c14,c15,c16],v,.int .i64 k]∧(∃ T,RowsIn w1.heap.size w' T∧∀ B w,RowsIn B w T→aD w c0 c1 c2 c3 c4 c5 c6 c7 c8 c9 c10 c11 c12 c13 c14 c15 c16 p)∧ake w1.heap.size w1 w'∧match pK bg l with
  | .ok (q,n)=>p=q∧v=.int .i64 (n:Int)∧k=0
  | .error k'=>k=k')<|an ((LL (h.keep M1.below) hL hrl hM).mono fun e w' ⟨p,c0,c1,c2,c3,c4,c5,c6,c7,c8,c9,c10,c11,c12,c13,c14,c15,c16,v,k,h1,h2⟩=>⟨_,h1,p,_,_,_,_,_,_,_,_,_,_,_,_,_,_,_,_,_,v,k,rfl,h2⟩) ?_
 rintro _ w2 ⟨p,c0,c1,c2,c3,c4,c5,c6,c7,c8,c9,c10,c11,c12,c13,c14,c15,c16,u,k,rfl,⟨T,hT,lA⟩,hb,hd⟩;have M2:=M1.mQ hb hT;refine⟨_,_,M2,?_⟩;have hpc:=lA _ _ hT;obtain⟨_,_,_,_,_,_,_,_,_,_,_,_,_,_,_,_,_,_,_,_,_,_,_,_,_,_,_,_,_,_,_,_,_,_,rfl,rfl,rfl,rfl,rfl,rfl,rfl,rfl,rfl,rfl,rfl,rfl,rfl,rfl,rfl,rfl,rfl⟩:=hpc.open;refine ei<|an rM fun g2 w3 M3=>lb 0<|an ⟨rfl,rfl⟩ fun w4 M4=>?_
 cases WD:pK bg l with
 | error k'=>
  rw[WD] at hd;have hd:k=k':=hd;subst hd;have hk:=Uj WD;refine an (fun h1=>?_) fun h1=>absurd h1 (by simpa using hk)
  exact ei (x:=.agg #[.slice none 0 0,.slice none 0 0,.slice none 0 0,.slice none 0 0,.slice none 0 0,.slice none 0 0,.slice none 0 0,.slice none 0 0,.slice none 0 0,.slice none 0 0,.slice none 0 0,.slice none 0 0,.slice none 0 0,.slice none 0 0,.slice none 0 0,.slice none 0 0,.slice none 0 0])<|an (bd (by kernel_rfl))<|lb 1<|an ⟨rfl,rfl⟩ fun w5 M5=>ei (x:=1)<|an rfl fun M=>⟨jM,_,_,_,_,_,_,_,_,_,_,_,_,_,_,_,_,_,0,k,rfl,⟨[],RowsIn.nil _ _,fun _ w _=>oI w⟩,M.below,by rw[WD];exact⟨rfl,rfl,rfl⟩⟩
 | ok y=>
  obtain⟨q,n⟩:=y;rw[WD] at hd;obtain⟨rfl,rfl,rfl⟩:=hd;refine an (fun h1=>absurd h1 (by decide)) fun h1=>?_
  exact lb 0<|an rfl<|lb 1<|an ⟨rfl,rfl⟩ fun w5 M5=>ei (x:=1)<|an rfl fun M=>⟨p,_,_,_,_,_,_,_,_,_,_,_,_,_,_,_,_,_,n,0,rfl,⟨[]++T,M.gH,lA⟩,M.below,by rw[WD];exact⟨rfl,rfl,rfl⟩⟩
theorem um(w0:World)(c0 c1 c2 c3 c4 c5 c6 c7 c8 c9 c10 c11 c12 c13 c14 c15 c16:Value)(p:aA)(hp:aD w0 c0 c1 c2 c3 c4 c5 c6 c7 c8 c9 c10 c11 c12 c13 c14 c15 c16 p)(hok:p.Ok)(hd:p.Md):Calls Tryz.prog 21 #[.agg #[c0,c1,c2,c3,c4,c5,c6,c7,c8,c9,c10,c11,c12,c13,c14,c15,c16]] w0 (fun r w'=>r=.returned (.tuple #[.int .i64 (if bg p=0 then (cC p:Int) else 0),.int .i64 (bg p)])∧ake w0.heap.size w0 w'):=by
 obtain⟨_,_,_,_,_,_,_,_,_,_,_,_,_,_,_,_,_,_,_,_,_,_,_,_,_,_,_,_,_,_,_,_,_,_,rfl,rfl,rfl,rfl,rfl,rfl,rfl,rfl,rfl,rfl,rfl,rfl,rfl,rfl,rfl,rfl,rfl⟩:=hp.open;refine bU [] (fn:=Tryz.f21) Tryz.func21 rfl Tryz.ntmps21 rfl<|fun g1 w1 M1=>lb 0<|an rfl<|cl<|an (wv w1 _ _ _ _ _ _ _ _ _ _ _ _ _ _ _ _ _ p (hp.keep M1.below) hok hd) fun w2 M2=>an (fun h=>?_) fun h=>?_
 ·have h0:bg p≠0:=by simpa using h
  exact fun M=>⟨by rw[if_neg h0];rfl,M.below⟩
 ·have h0:bg p=0:=by simpa using h
  exact lb 0<|an rfl<|cl<|an (Iq (hp.keep M2.below)) fun w3 M3=>fun M=>⟨by rw[if_pos h0,h0];rfl,M.below⟩
structure aA.Lim (p:aA):Prop where
 classes:p.classes.length≤10000
 perms:∀ x∈p.classes,x.perms.length≤1000
 types:p.types.length≤10000
 jy:∀ x∈p.types,x.jy.length≤1000
 attrs:p.attrs.length≤10000
 roles:p.roles.length≤10000
 users:p.users.length≤10000
 bools:p.bools.length≤10000
 ay:p.ay.length≤10000
 cats:p.cats.length≤10000
 conds:p.conds.length≤10000
 rules:p.rules.length≤10000
 trans:p.trans.length≤10000
 ak:p.ak.length≤10000
 ranges:p.ranges.length≤10000
 cons:p.cons.length≤10000
 aN:p.aN.length≤10000
 files:p.files.length≤10000
 asserts:p.asserts.length≤10000
theorem H6{α:Type}{f:α→List Nat}{b:Nat}:∀ {l:List α},(∀ x∈l,(f x).length≤b)→(l.flatMap f).length≤l.length*b
 | [],_=>by simp
 | x::l,h=>by
  have h1:=H6 (l:=l) fun y hy=>h y (by simp[hy])
  have h2:=h x (by simp);rw[List.flatMap_cons,akh,List.length_cons,Nat.add_mul];omega
theorem kX{α:Type}{f:α→List Nat}{b n:Nat}{l:List α}(hl:l.length≤n)(h:∀ x∈l,(f x).length≤b):(eL f l).length≤10+n*b:=by
 have h1:=H6 h;have h2:=aG (l.length:Int);have h3:=Nat.mul_le_mul_right b hl;unfold eL;rw[akh];omega
theorem qq{s:ByteArray}(h:jR s):(eS s).length≤266:=by
 have h1:s.size≤256:=h;have:=aZ (n:=s.size) (by omega);rw[F4];omega
theorem Ih(b:Bool):(eB b).length≤1:=by cases b<;>simp[eB]
theorem BO{x:jX}(h:Cc x):(ng x).length≤20:=by
 have h1:=aG x.ay;have h2:=aZ (n:=x.cats) h.cats;unfold ng;rw[akh];omega
theorem BM{x:kQ}(h:zD x):(oR x).length≤40:=by
 have h1:=BO h.low;have h2:=BO h.high;unfold oR;rw[akh];omega
theorem Ie{x:mG}(h:Cg x):(qt x).length≤70:=by
 have h1:=aG x.user;have h2:=aG x.role;have h3:=aG x.typ;have h4:=BM h.rng;unfold qt;simp only[akh];omega
theorem Rn{n:Int}(h:-2147483648≤n∧n<2147483648):(eC n).length≤10:=aZ (wI ⟨by omega,by omega⟩)
theorem Rl{k:Nat}{e:aI}(h:qz k e):(eE e).length+10≤80*2^k:=by
 induction h with
 | @name k a ha=>
  have h1:=aG 1;have h2:=aG a;have h3:1≤2^(k+1):=Nat.one_le_two_pow;rw[eE,tI,List.append_nil];unfold qV;rw[if_pos rfl,akh];omega
 | @cmp k a r b ha hr hb=>
  have h1:=aG 8;have h2:=aG a;have h4:=aG r;have h5:=aG b;have h3:1≤2^(k+1):=Nat.one_le_two_pow;rw[eE,tI,List.append_nil];unfold qV;rw[if_neg (by decide),if_pos rfl];simp only[akh];omega
 | @inn k a s ha hs=>
  have h1:=aG 9;have h2:=aG a;have h4:=fM hs;have h3:1≤2^(k+1):=Nat.one_le_two_pow;rw[eE,tI,List.append_nil];unfold qV;rw[if_neg (by decide),if_neg (by decide),if_pos rfl];simp only[akh];omega
 | @not k x _ ih=>
  have h1:=aG 2;rw[eE,tI,tI,List.append_nil];unfold qV;rw[if_neg (by decide),if_neg (by decide),if_neg (by decide),List.append_nil,akh,Nat.pow_succ];have h3:1≤2^k:=Nat.one_le_two_pow;omega
 | @two k op x y h3 h7 _ _ Dt ihy=>
  have h1:=aG op;rw[eE,tI,tI,tI,List.append_nil];unfold qV;rw[if_neg (by omega),if_neg (by omega),if_neg (by omega),List.append_nil];simp only[akh,Nat.pow_succ];omega
theorem Dv{c:Prop}[Decidable c]{l:List Nat}:(if c then l else []).length≤l.length:=by split<;>simp
theorem Qt{p:aA}(hR:pL 3 p)(hl:p.Lim)(v:Nat):(gD v p).length+2000≤aF:=by
 have s4 {l:List ByteArray} (h:rK l) {n:Nat} (hn:l.length≤n):(eL eS l).length≤10+n*266:=kX hn fun s hs=>qq (h.all s hs)
 have h0:(eL gT p.classes).length≤10+10000*266300:=kX hl.classes fun x hx=>by
  have h1:=qq (hR.classes.2 x hx).1;have h2:=s4 (hR.classes.2 x hx).2 (hl.perms x hx);unfold gT;rw[akh];omega
 have h1:(eL (eTyp v) p.types).length≤10+10000*266300:=kX hl.types fun x hx=>by
  have h1:=qq (hR.types.2 x hx).1;have h2:=s4 (hR.types.2 x hx).2.1 (hl.jy x hx);have h3:=Ih x.perm;have h4:=Dv (c:=2≤v) (l:=eB x.perm);unfold eTyp;simp only[akh];omega
 have h2:(eL gU p.attrs).length≤10+10000*1000:=kX hl.attrs fun x hx=>by
  have h1:=qq (hR.attrs.2 x hx).1;have h2:=fM (hR.attrs.2 x hx).2;unfold gU;simp only[akh];omega
 have h3:(eL gQ p.roles).length≤10+10000*1000:=kX hl.roles fun x hx=>by
  have h1:=qq (hR.roles.2 x hx).1;have h2:=fM (hR.roles.2 x hx).2.1;have h3:=fM (hR.roles.2 x hx).2.2;unfold gQ;simp only[akh];omega
 have h4:(eL gM p.users).length≤10+10000*1000:=kX hl.users fun x hx=>by
  have h1:=qq (hR.users.2 x hx).1;have h2:=fM (hR.users.2 x hx).2.1;have h3:=BO (hR.users.2 x hx).2.2.1;have h4:=BM (hR.users.2 x hx).2.2.2;unfold gM;simp only[akh];omega
 have h5:(eL fN p.bools).length≤10+10000*1000:=kX hl.bools fun x hx=>by
  have h1:=qq (hR.bools.2 x hx);have h2:=Ih x.val;unfold fN;simp only[akh];omega
 have h6:=s4 hR.ay hl.ay;have h7:=s4 hR.cats hl.cats
 have h8:(eL eE p.conds).length≤10+10000*400000:=kX hl.conds fun x hx=>by
  have h1:=Rl (hR.conds.2 x hx);omega
 have h9:(eL gO p.rules).length≤10+10000*1000:=kX hl.rules fun x hx=>by
  have hr:=hR.rules.2 x hx;have h1:=aG x.kind;have h2:=fM hr.src;have h3:=fM hr.tgt;have h4:=Ih x.self;have h5:=aG x.cls;have h6:=aG x.perms;have h7:=Rn hr.cond;unfold gO;simp only[akh];omega
 have h10:(eL (gi v) p.trans).length≤10+10000*1000:=kX hl.trans fun x hx=>by
  have hr:=(hR.trans.2 x hx).1;have h1:=aG x.kind;have h2:=fM hr.src;have h3:=fM hr.tgt;have h5:=aG x.cls;have h4:=qq hr.name;have h6:=aG x.res;have h7:=Rn hr.cond;have h8:=Dv (c:=2≤v) (l:=eS x.name);unfold gi;simp only[akh];omega
 have h11:(eL gP p.ak).length≤10+10000*1000:=kX hl.ak fun x hx=>by
  have hr:=hR.ak.2 x hx;have h2:=fM hr.1;have h3:=fM hr.2.1;have h5:=aG x.cls;have h6:=aG x.res;unfold gP;simp only[akh];omega
 have h12:(eL fU p.ranges).length≤10+10000*1000:=kX hl.ranges fun x hx=>by
  have hr:=hR.ranges.1.2 x hx;have h2:=fM hr.1;have h3:=fM hr.2.1;have h5:=aG x.cls;have h6:=BM hr.2.2.2;unfold fU;simp only[akh];omega
 have h13:(eL gS p.cons).length≤10+10000*400000:=kX hl.cons fun x hx=>by
  have hr:=hR.cons.2 x hx;have h1:=Rl hr.2.2;have h2:=aG x.cls;have h3:=aG x.perms;have h4:=Ih x.val;unfold gS;simp only[akh];omega
 have h14:(eL gN p.aN).length≤10+10000*1000:=kX hl.aN fun x hx=>by
  have hr:=hR.aN.2 x hx;have h1:=qq hr.1;have h2:=Ie hr.2;unfold gN;simp only[akh];omega
 have h15:(eL fC p.files).length≤10+10000*1000:=kX hl.files fun x hx=>by
  have hr:=hR.files.1.2 x hx;have h1:=qq hr.1;have h3:=aG x.kind;have h2:=Ie hr.2.2;unfold fC;simp only[akh];omega
 have h16:(eL fE p.asserts).length≤10+10000*1000:=kX hl.asserts fun x hx=>by
  have hr:=hR.asserts.1.2 x hx;have h1:=qq hr.1;have h3:=aG x.kind;have h2:=fM hr.2.2.1;have h4:=fM hr.2.2.2;unfold fE;simp only[akh];omega
 have i12:=Dv (c:=2≤v) (l:=eL fU p.ranges);have i15:=Dv (c:=3≤v) (l:=eL fC p.files);have i16:=Dv (c:=3≤v) (l:=eL fE p.asserts);unfold gD;simp only[akh];unfold aF;omega
theorem dg{n:Int}(h:lJ n):eF n:=by unfold eF;have:=h.1;have:=h.2;omega
theorem Hp{n:Int}(h:lJ n):Ed n:=by have:=h.1;have:=h.2;exact⟨by omega,by omega⟩
theorem iq{s:ByteArray}(h:jR s):cB s:=by unfold cB;unfold jR at h;omega
theorem dR{α:Type}{l:List α}(h:vq l):kO l.length:=by unfold kO;unfold vq at h;omega
theorem CA{l:List ByteArray}(h:rK l):yV l:=⟨dR h.len,fun s hs=>iq (h.all s hs)⟩
theorem Bm{x:jX}(h:Cc x):x.Ok:=⟨dg h.ay,h.cats⟩
theorem A0{x:kQ}(h:zD x):x.Ok:=⟨Bm h.low,Bm h.high⟩
theorem Ij{x:mG}(h:Cg x):x.Ok:=⟨dg h.user,dg h.role,dg h.typ,A0 h.rng⟩
theorem rF:eF 0:=by unfold eF;omega
theorem vH:pO.Ok:=⟨by unfold cW;decide,by unfold cW;decide,by unfold cW;decide,by unfold cW;decide⟩
theorem xR:yV []:=⟨by unfold kO;decide,fun _ h=>by cases h⟩
theorem H8{k:Nat}{e:aI}(h:qz k e):aI.Ok e:=by
 induction h with
 | name ha=>exact .node (by unfold eF;omega) (dg ha) rF rF xR vH (by unfold kO;decide) fun _ h=>by cases h
 | cmp ha hr hb=>exact .node (by unfold eF;omega) (dg ha) (dg hr) (dg hb) xR vH (by unfold kO;decide) fun _ h=>by cases h
 | inn ha hs=>exact .node (by unfold eF;omega) (dg ha) rF rF xR hs (by unfold kO;decide) fun _ h=>by cases h
 | not _ ih=>exact .node (by unfold eF;omega) rF rF rF xR vH (by unfold kO;simp) fun k hk=>by rw[aki.1 hk];exact ih
 | two h3 h7 _ _ Dt ihy=>
  exact .node (by unfold eF;omega) rF rF rF xR vH (by unfold kO;simp) fun k hk=>by
   rcases List.mem_cons.1 hk with rfl|hk
   ·exact Dt
   ·rw[aki.1 hk];exact ihy
theorem Ak{n:Int}(h:-2147483648≤n∧n<2147483648):eF n:=by unfold eF;omega
theorem pL.ok{v:Nat}{p:aA}(h:pL v p):p.Ok where
 classes:=fun x hx=>⟨iq (h.classes.2 x hx).1,CA (h.classes.2 x hx).2⟩
 NY:=dR h.classes.1
 types:=fun x hx=>⟨iq (h.types.2 x hx).1,CA (h.types.2 x hx).2.1⟩
 oy:=dR h.types.1
 attrs:=fun x hx=>⟨iq (h.attrs.2 x hx).1,(h.attrs.2 x hx).2⟩
 Ur:=dR h.attrs.1
 roles:=fun x hx=>⟨iq (h.roles.2 x hx).1,(h.roles.2 x hx).2.1,(h.roles.2 x hx).2.2⟩
 Ew:=dR h.roles.1
 users:=fun x hx=>⟨iq (h.users.2 x hx).1,(h.users.2 x hx).2.1,Bm (h.users.2 x hx).2.2.1,A0 (h.users.2 x hx).2.2.2⟩
 Le:=dR h.users.1
 bools:=fun x hx=>⟨iq (h.bools.2 x hx)⟩
 Uo:=dR h.bools.1
 ay:=fun s hs=>iq (h.ay.all s hs)
 VP:=dR h.ay.len
 cats:=fun s hs=>iq (h.cats.all s hs)
 Xq:=dR h.cats.len
 conds:=fun x hx=>H8 (h.conds.2 x hx)
 Ul:=dR h.conds.1
 rules:=fun x hx=>have r:=h.rules.2 x hx;⟨dg r.kind,r.src,r.tgt,dg r.cls,Hp r.perms,Ak r.cond⟩
 R4:=dR h.rules.1
 trans:=fun x hx=>have r:=(h.trans.2 x hx).1;⟨dg r.kind,r.src,r.tgt,dg r.cls,iq r.name,dg r.res,Ak r.cond⟩
 Ek:=dR h.trans.1
 ak:=fun x hx=>have r:=h.ak.2 x hx;⟨r.1,r.2.1,dg r.2.2.1,dg r.2.2.2⟩
 O8:=dR h.ak.1
 ranges:=fun x hx=>have r:=h.ranges.1.2 x hx;⟨r.1,r.2.1,dg r.2.2.1,A0 r.2.2.2⟩
 He:=dR h.ranges.1.1
 cons:=fun x hx=>have r:=h.cons.2 x hx;⟨dg r.1,Hp r.2.1,H8 r.2.2⟩
 Xo:=dR h.cons.1
 aN:=fun x hx=>have r:=h.aN.2 x hx;⟨iq r.1,Ij r.2⟩
 VL:=dR h.aN.1
 files:=fun x hx=>have r:=h.files.1.2 x hx;⟨iq r.1,dg r.2.1,Ij r.2.2⟩
 FU:=dR h.files.1.1
 asserts:=fun x hx=>have r:=h.asserts.1.2 x hx;⟨iq r.1,dg r.2.1,r.2.2.1,r.2.2.2⟩
 yR:=dR h.asserts.1.1
theorem Mg{k:Nat}{e:aI}(h:qz k e):∀ m,aY m e≤k:=by
 have step:∀ {k:Nat} {e:aI},(∀ y∈e.kids,∀ m,aY m y≤k)→∀ m,aY m e≤(k+1:Nat):=fun {k e} hk m=>by
  cases m with
  | zero=>unfold aY;omega
  | succ m=>
   unfold aY;refine Int.le_trans (Int.add_le_add_right (nH (b:=(k:Int)) (by omega) e.kids.length fun i _=>?_) 1) (by omega);split
   ·rename_i y hy;exact hk y (akd hy) m
   ·omega
 induction h with
 | name _=>exact step fun y hy=>by cases hy
 | cmp _ _ _=>exact step fun y hy=>by cases hy
 | inn _ _=>exact step fun y hy=>by cases hy
 | not _ ih=>exact step fun y hy=>by rw[aki.1 hy];exact ih
 | two _ _ _ _ Dt ihy=>
  exact step fun y hy=>by
   rcases List.mem_cons.1 hy with rfl|hy
   ·exact Dt
   ·rw[aki.1 hy];exact ihy
theorem BG{α:Type}{f:α→List Nat}(hf:∀ x,f x≠[]):∀ l:List α,l.length≤(l.flatMap f).length
 | []=>by simp
 | x::l=>by
  have h1:=BG hf l;have h2:=List.length_pos_iff.2 (hf x);rw[List.flatMap_cons,akh,List.length_cons];omega
theorem Lh(v:Nat):∀ l:List gE,(bf l).length≤(l.flatMap (eTyp v)).length
 | []=>by simp[bf]
 | t::l=>by
  have h1:=Lh v l;have h2:=List.length_pos_iff.2 (Nw t.name);have h3:=BG Nw t.jy;have h4:(eTyp v t).length=(eS t.name).length+((eL eS t.jy).length+(if 2≤v then eB t.perm else []).length):=by unfold eTyp;simp only[akh]
  have h5:(eL eS t.jy).length=(eN (t.jy.length:Int)).length+(t.jy.flatMap eS).length:=by unfold eL;rw[akh]
  have h6:(bf (t::l)).length=1+t.jy.length+(bf l).length:=by unfold bf;rw[List.flatMap_cons,akh,List.length_cons];omega
  rw[List.flatMap_cons,akh];omega
theorem pL.md{v:Nat}{p:aA}(h:pL v p)(hl:(gD v p).length≤100000):p.Md:=by
 have e:(gD v p).length=(eL gT p.classes).length+((eL (eTyp v) p.types).length+((eL gU p.attrs).length+((eL gQ p.roles).length+((eL gM p.users).length+((eL fN p.bools).length+((eL eS p.ay).length+((eL eS p.cats).length+((eL eE p.conds).length+((eL gO p.rules).length+((eL (gi v) p.trans).length+((eL gP p.ak).length+((if 2≤v then eL fU p.ranges else []).length+((eL gS p.cons).length+((eL gN p.aN).length+((if 3≤v then eL fC p.files else []).length+((if 3≤v then eL fE p.asserts else []).length)))))))))))))))):=by unfold gD;simp only[akh]
 have h1:(eL (eTyp v) p.types).length=(eN (p.types.length:Int)).length+(p.types.flatMap (eTyp v)).length:=by unfold eL;rw[akh]
 have h2:(eL fN p.bools).length=(eN (p.bools.length:Int)).length+(p.bools.flatMap fN).length:=by unfold eL;rw[akh]
 have h3:=Lh v p.types;have h4:=BG (f:=fN) (fun x=>by unfold fN;simp[Nw]) p.bools;exact⟨by omega,by omega,fun e he=>Mg (h.conds.2 e he) 13,fun y hy=>Mg (h.cons.2 y hy).2.2 13⟩
theorem DL{p:aA}{v:Nat}(h1:1≤v)(h3:v≤3)(hR:pL v p)(hok:p.Ok)(hmd:p.Md)(hl:(gD v p).length≤aF):(∀ n r,cR (iD (dB v p))=.ok (n,r)→r.length≤aF)∧∀ n r q r',cR (iD (dB v p))=.ok (n,r)→zq n r=.ok (q,r')→q.Ok∧q.Md:=by
 have hf:=uy v h1 h3 p;have hp:=EF hR [];rw[List.append_nil] at hp;refine⟨fun n r h=>?_,fun n r q r' h hq=>?_⟩
 ·rw[hf] at h;injection h with h;injection h with _ h;subst h;exact hl
 ·rw[hf] at h;injection h with h;injection h with ha hb;subst ha hb;rw[hp] at hq;injection hq with hq;injection hq with hq _;subst hq;exact⟨hok,hmd⟩
structure aA.Uy (p:aA):Prop where
 types:p.types.length≤12
 attrs:p.attrs.length≤6
 classes:p.classes.length≤6
 rules:p.rules.length≤40
 conds:p.conds.length≤6
 bools:p.bools.length≤6
 cons:p.cons.length≤12
 users:p.users.length≤8
 roles:p.roles.length≤8
 trans:p.trans.length≤36
 ak:p.ak.length≤12
 ranges:p.ranges.length≤12
 ay:p.ay.length≤6
 cats:p.cats.length≤10
 aN:p.aN.length≤8
 files:p.files.length≤12
 asserts:p.asserts.length≤8
structure aA.dW (p:aA):Prop where
 sizes:p.Uy
 jy:∀ x∈p.types,x.jy.length≤4
 conds:∀ x∈p.conds,aY 13 x≤6
 cons:∀ x∈p.cons,aY 13 x.expr≤6
theorem aA.dW.few{p:aA}(h:p.dW):p.XR:=⟨h.sizes.types,h.jy⟩
theorem IY(w0:World)(c0 c1 c2 c3 c4 c5 c6 c7 c8 c9 c10 c11 c12 c13 c14 c15 c16:Value)(p:aA)(hp:aD w0 c0 c1 c2 c3 c4 c5 c6 c7 c8 c9 c10 c11 c12 c13 c14 c15 c16 p)(hok:p.Ok):Calls Tryz.prog 11 #[.agg #[c0,c1,c2,c3,c4,c5,c6,c7,c8,c9,c10,c11,c12,c13,c14,c15,c16]] w0 (fun(e:Ending) (w':World)=>∃ v,e=.returned v∧∃ b:Bool,v=.bool b∧(b=true→p.dW)∧ake w0.heap.size w0 w'):=by
 obtain⟨_,_,_,_,_,_,_,_,_,_,_,_,_,_,_,_,_,_,_,_,_,_,_,_,_,_,_,_,_,_,_,_,_,_,rfl,rfl,rfl,rfl,rfl,rfl,rfl,rfl,rfl,rfl,rfl,rfl,rfl,rfl,rfl,rfl,rfl⟩:=hp.open;have tr:=fun m h=>SliceAt.elt (i:=m) hp.trans (fun _=>rfl) (by decide) (akc h) h
 obtain⟨_,_,e1,-,-,ty⟩:=au.form hp.types (by decide);obtain⟨_,_,e8,-,-,cd⟩:=au.form hp.conds (by decide);obtain⟨_,_,e13,-,-,cn⟩:=au.form hp.cons (by decide);injection e1 with e1;injection e8 with e8;injection e13 with e13;subst e1 e8 e13;have no:∀ w,ake w0.heap.size w0 w→∃ v,Ending.returned (AX [Value.bool false])=.returned v∧∃ b:Bool,v=.bool b∧(b=true→p.dW)∧ake w0.heap.size w0 w:=fun w h=>⟨_,rfl,false,rfl,(fun e=>by cases e),h⟩
 refine bU [] (fn:=Tryz.f11) Tryz.func11 rfl Tryz.ntmps11 rfl fun g1 w1 M1=>lb 0<|an rfl<|lb 0<|an (fun _=>rfl)<|lb 0<|an (fun _=>rfl)<|lb 0<|an (fun _=>rfl)<|lb 0<|an (fun _=>rfl)<|lb 0<|an (fun _=>rfl)<|lb 0<|an (fun _=>rfl)<|lb 0<|an (fun _=>rfl)<|lb 0<|an (fun _=>rfl)<|an (fun h M=>no _ M.below) fun h=>?_
 simp only[Bool.or_eq_false_iff,decide_eq_false_iff_not] at h;refine lb 0<|an rfl<|lb 0<|an (fun _=>rfl)<|lb 0<|an (fun _=>rfl)<|lb 0<|an (fun _=>rfl)<|lb 0<|an (fun _=>rfl)<|lb 0<|an (fun _=>rfl)<|lb 0<|an (fun _=>rfl)<|lb 0<|an (fun _=>rfl)<|an (fun h M=>no _ M.below) fun h'=>?_
 simp only[Bool.or_eq_false_iff,decide_eq_false_iff_not] at h';refine ei<|an Vf fun g2 w2 M2=>lp (ι:=Nat×Int×Int×Int×Int) (fun(m,_)=>[(4,.int .i64 (m:Int))]) (fun(m,n0,n1,n2,n3)=>(g2,75,#[.int .i64 n0,.int .i64 n1,.int .i64 n2,.int .i64 n3])::_) (fun _=>[]) (fun(m,n0,n1,n2,n3) _=>m≤p.trans.length∧0≤n1∧n1≤m∧0≤n2∧n2≤m∧0≤n3∧n3≤m) (fun(m,_)=>p.trans.length-m) (0,0,0,0,0) (an ⟨⟨rfl,trivial⟩,fun M=>⟨M,by omega⟩⟩ ?_)
 rintro⟨m,n0,n1,n2,n3⟩ w M hm;refine lb 1<|an rfl<|an (fun h2=>?_) fun h2=>?_
 ·simp only[decide_eq_true_eq] at h2;have hlt:m<p.trans.length:=by omega
  obtain⟨b,o,e,hc⟩:=tr m hlt;refine lb 1<|an rfl<|ia<|an ⟨e,rfl,hlt⟩<|lc<|an (cell_later M.below (hc 0 _ rfl))<|an (fun h3=>?_) fun h3=>an (by omega)<|bk (m+1,n0,n1,n2,n3) ⟨rfl,trivial⟩ (fun M=>⟨M,by omega⟩) (by dsimp only;omega)
  simp only[Bool.and_eq_true,decide_eq_true_eq] at h3;have hk:p.trans[m].kind=1∨p.trans[m].kind=2∨p.trans[m].kind=3:=by omega
  rcases hk with hk|hk|hk
  ·exact ei (x:=1)<|an ⟨hk,by decide⟩<|lb 0<|an rfl<|an (by omega)<|ei (x:=1)<|an ⟨hk,by decide⟩<|lb 0<|an ⟨rfl,rfl⟩ fun w M=>an (by omega)<|bk (m+1,n0,n1+1,n2,n3) ⟨rfl,trivial⟩ (fun M=>⟨M,by omega⟩) (by dsimp only;omega)
  ·exact ei (x:=2)<|an ⟨hk,by decide⟩<|lb 0<|an rfl<|an (by omega)<|ei (x:=2)<|an ⟨hk,by decide⟩<|lb 0<|an ⟨rfl,rfl⟩ fun w M=>an (by omega)<|bk (m+1,n0,n1,n2+1,n3) ⟨rfl,trivial⟩ (fun M=>⟨M,by omega⟩) (by dsimp only;omega)
  ·exact ei (x:=3)<|an ⟨hk,by decide⟩<|lb 0<|an rfl<|an (by omega)<|ei (x:=3)<|an ⟨hk,by decide⟩<|lb 0<|an ⟨rfl,rfl⟩ fun w M=>an (by omega)<|bk (m+1,n0,n1,n2,n3+1) ⟨rfl,trivial⟩ (fun M=>⟨M,by omega⟩) (by dsimp only;omega)
 refine lr (ι:=Nat) (fun m=>[(6,.int .i64 (m:Int))]) (fun m _=>m≤p.types.length∧∀ x∈p.types.take m,x.jy.length≤4) (fun m=>p.types.length-m) 0 (an ⟨⟨rfl,trivial⟩,fun M=>⟨M,akb _,by simp⟩⟩ ?_);rintro i1 w M ⟨hi1,ha⟩;refine lb 1<|an rfl<|an (fun h2=>?_) fun h2=>?_
 ·simp only[decide_eq_true_eq] at h2;obtain⟨x,hx⟩:∃ x,p.types[i1]?=some x:=⟨_,akc (by omega)⟩;obtain⟨b,o,z,rfl,⟨u,rfl,hu⟩,-,hc⟩:=ty i1 x hx;obtain⟨_,_,rfl,-⟩:=hu.get;refine lb 1<|an rfl<|ia<|an ⟨rfl,rfl,by omega⟩<|lc<|an (cell_later M.below (hc 1 _ rfl))<|an (fun h3 M=>no _ M.below) fun h3=>an (by omega)<|bk (i1+1) ⟨rfl,trivial⟩ (fun M=>⟨M,by omega,fun y hy=>?_⟩) (by dsimp only;omega)
  rw[List.take_add_one,hx] at hy;rcases akg.1 hy with hy|hy
  ·exact ha y hy
  ·obtain rfl:y=x:=by simpa using hy
   simp only[decide_eq_false_iff_not] at h3;omega
 simp only[decide_eq_false_iff_not] at h2;obtain rfl:i1=p.types.length:=by omega
 refine lr (ι:=Nat) (fun m=>[(7,.int .i64 (m:Int))]) (fun m _=>m≤p.conds.length∧∀ x∈p.conds.take m,aY 13 x≤6) (fun m=>p.conds.length-m) 0 (an ⟨⟨rfl,trivial⟩,fun M=>⟨M,akb _,by simp⟩⟩ ?_);rintro i2 w M ⟨hi2,hb⟩;refine lb 1<|an rfl<|an (fun h2=>?_) fun h2=>?_
 ·simp only[decide_eq_true_eq] at h2;obtain⟨x,hx⟩:∃ x,p.conds[i2]?=some x:=⟨_,akc (by omega)⟩;obtain⟨b,o,z,rfl,hz,-,hc⟩:=cd i2 x hx;obtain⟨nv,kv,rfl,-⟩:=hz.open;refine lb 1<|an rfl<|ia<|an ⟨rfl,rfl,by omega⟩<|lc<|an (cL M.below hc)<|cl<|an (pq _ _ x (bV.keep M.below hz)) fun w3 M3=>an (fun h3 M=>no _ M.below) fun h3=>an (by omega)<|bk (i2+1) ⟨rfl,trivial⟩ (fun M=>⟨M,by omega,fun y hy=>?_⟩) (by dsimp only;omega)
  rw[List.take_add_one,hx] at hy;rcases akg.1 hy with hy|hy
  ·exact hb y hy
  ·obtain rfl:y=x:=by simpa using hy
   simp only[decide_eq_false_iff_not] at h3;omega
 simp only[decide_eq_false_iff_not] at h2;obtain rfl:i2=p.conds.length:=by omega
 refine lr (ι:=Nat) (fun m=>[(8,.int .i64 (m:Int))]) (fun m _=>m≤p.cons.length∧∀ x∈p.cons.take m,aY 13 x.expr≤6) (fun m=>p.cons.length-m) 0 (an ⟨⟨rfl,trivial⟩,fun M=>⟨M,akb _,by simp⟩⟩ ?_);rintro i3 w M ⟨hi3,hcn⟩;refine lb 1<|an rfl<|an (fun h2=>?_) fun h2=>?_
 ·simp only[decide_eq_true_eq] at h2;obtain⟨x,hx⟩:∃ x,p.cons[i3]?=some x:=⟨_,akc (by omega)⟩;obtain⟨b,o,z,rfl,⟨es,rfl,hz⟩,-,hc⟩:=cn i3 x hx
  have hc3:∀ j u,es[j]?=some u→w0.cell? ⟨b,o+i3*13+3+j,none⟩=some u:=fun j u hj=>by
   have h4:=hc (j+3) u (by simpa using hj)
   rwa [show o+i3*13+(j+3)=o+i3*13+3+j by omega] at h4
  obtain⟨nv,kv,rfl,-⟩:=hz.open;refine lb 1<|an rfl<|ia<|an ⟨rfl,rfl,by omega⟩<|lc<|an (cL M.below hc3)<|cl<|an (pq _ _ x.expr (bV.keep M.below hz)) fun w3 M3=>an (fun h3 M=>no _ M.below) fun h3=>an (by omega)<|bk (i3+1) ⟨rfl,trivial⟩ (fun M=>⟨M,by omega,fun y hy=>?_⟩) (by dsimp only;omega)
  rw[List.take_add_one,hx] at hy;rcases akg.1 hy with hy|hy
  ·exact hcn y hy
  ·obtain rfl:y=x:=by simpa using hy
   simp only[decide_eq_false_iff_not] at h3;omega
 simp only[decide_eq_false_iff_not] at h2;obtain rfl:i3=p.cons.length:=by omega
 rw[List.take_length] at ha hb hcn;exact ei (x:=1)<|an ⟨rfl,by decide⟩<|lb 0<|an rfl<|ei (x:=2)<|an (fun _=>⟨rfl,by decide⟩)<|lb 0<|an (fun _=>rfl)<|ei (x:=3)<|an (fun _=>⟨rfl,by decide⟩)<|lb 0<|an (fun _=>rfl) fun M=>⟨_,rfl,_,rfl,fun _=>⟨by constructor<;>omega,ha,hb,hcn⟩,M.below⟩
theorem J_{p:aA}(h:bg p=0):bF p=0:=by
 unfold bg at h;split at h
 case isFalse hne=>exact absurd h hne
 rename_i h0;rw[kI] at h0;exact h0 (bF p) (by simp)
theorem aA.dW.md{p:aA}(h:p.dW):p.Md:=by
 have h1:=zM h.jy;have h2:=h.sizes.types;have h3:=h.sizes.bools;exact⟨by omega,by omega,fun e he=>by have:=h.conds e he;omega,fun y hy=>by have:=h.cons y hy;omega⟩
theorem aA.dW.lim{p:aA}(h:p.dW)(hp:∀ x∈p.classes,x.perms.length≤64):p.Lim:=by
 obtain⟨h1,h2,h3,h4,h5,h6,h7,h8,h9,h10,h11,h12,h13,h14,h15,h16,h17⟩:=h.sizes;exact⟨by omega,fun x hx=>by have:=hp x hx;omega,by omega,fun x hx=>by have:=h.jy x hx;omega,by omega,by omega,by omega,by omega,by omega,by omega,by omega,by omega,by omega,by omega,by omega,by omega,by omega,by omega,by omega⟩
theorem sA{p:aA}(hs:p.dW)(hok:p.Ok)(h:bg p=0):pL 3 p∧∀ v,(gD v p).length+2000≤aF:=by
 have hR:=Qz h hok (fun t ht=>by have:=hs.jy t ht;unfold vq;omega) (by have:=hs.sizes.trans;unfold vq;omega);exact⟨hR,Qt hR (hs.lim (CW (J_ h)))⟩
theorem tD(w0:World)(c0 c1 c2 c3 c4 c5 c6 c7 c8 c9 c10 c11 c12 c13 c14 c15 c16:Value)(p:aA)(hp:aD w0 c0 c1 c2 c3 c4 c5 c6 c7 c8 c9 c10 c11 c12 c13 c14 c15 c16 p)(hok:p.Ok)(hs:p.dW)(ver:Int)(hv:eF ver):Calls Tryz.prog 13 #[.agg #[c0,c1,c2,c3,c4,c5,c6,c7,c8,c9,c10,c11,c12,c13,c14,c15,c16],.int .i64 ver] w0 (XS w0 (qU bg p ver)):=
 FX hp hok hv (fun w hw=>wv w c0 c1 c2 c3 c4 c5 c6 c7 c8 c9 c10 c11 c12 c13 c14 c15 c16 p hw hok hs.md) fun h v _=>(sA hs hok h).2 v
theorem FE(w0:World):Calls Tryz.prog 74 #[] w0 (fun(r:Ending) (w':World)=>r=.returned (.agg #[.int .i64 0,.int .i64 1,.int .i64 0,.int .i64 0,.int .u64 0,.int .i64 0,.int .u64 0])∧ake w0.heap.size w0 w'):=by
 have uM:=hrC Tryz.prog Tryz.f74 (fun(r:Ending) (w':World)=>r=.returned (.agg #[.int .i64 0,.int .i64 1,.int .i64 0,.int .i64 0,.int .u64 0,.int .i64 0,.int .u64 0])∧ake w0.heap.size w0 w') 2 0 65 rfl u65 rfl OW;refine en Tryz.func74 rfl Tryz.ntmps74 rfl (vs:=[]) rfl fun _ F=>?_
 have M:=Mm.start w0;refine wp_seq_k fun K1 Qh=>bS<|kaA (on rfl) rfl RH rfl F rfl M fun g1 _ _ F M=>wpList_nil<|Qh _ _ ?_
 refine wp_seq_k fun K2 Qg=>bS<|
  kz F rf (BK rfl (pv:=#[(1,.int .i64 1),(2,.int .i64 0)]) (by simp[BigFrame.eval_const]) (cells:=#[.int .i64 0,.int .i64 1,.int .i64 0,.int .i64 0,.int .u64 0,.int .i64 0,.int .u64 0]) (by kernel_rfl)) fun _ F=>
  ksA (on rfl) rfl (F.u rf) (F.u rf) F M 0 rfl OW rfl rfl rfl fun _ M=>
  wpList_nil<|
  Qg _ _ ?_
 refine wp_ret<|uM _ _ _ _ _ _ F rfl (M.b 0 rfl) rfl ?_;exact⟨rfl,M.below⟩
theorem yB(w0:World):Calls Tryz.prog 75 #[] w0 (fun(r:Ending) (w':World)=>r=.returned (.agg #[.int .i64 0,.int .i64 0,.int .i64 2,.int .i64 0,.int .u64 0,.int .i64 0,.int .u64 0])∧ake w0.heap.size w0 w'):=by
 have uM:=hrC Tryz.prog Tryz.f75 (fun(r:Ending) (w':World)=>r=.returned (.agg #[.int .i64 0,.int .i64 0,.int .i64 2,.int .i64 0,.int .u64 0,.int .i64 0,.int .u64 0])∧ake w0.heap.size w0 w') 2 0 65 rfl u65 rfl OW;refine en Tryz.func75 rfl Tryz.ntmps75 rfl (vs:=[]) rfl fun _ F=>?_
 have M:=Mm.start w0;refine wp_seq_k fun K1 Qh=>bS<|kaA (on rfl) rfl RH rfl F rfl M fun g1 _ _ F M=>wpList_nil<|Qh _ _ ?_
 refine wp_seq_k fun K2 Qg=>bS<|
  kz F rf (BK rfl (pv:=#[(2,.int .i64 2)]) (by simp[BigFrame.eval_const]) (cells:=#[.int .i64 0,.int .i64 0,.int .i64 2,.int .i64 0,.int .u64 0,.int .i64 0,.int .u64 0]) (by kernel_rfl)) fun _ F=>
  ksA (on rfl) rfl (F.u rf) (F.u rf) F M 0 rfl OW rfl rfl rfl fun _ M=>
  wpList_nil<|
  Qg _ _ ?_
 refine wp_ret<|uM _ _ _ _ _ _ F rfl (M.b 0 rfl) rfl ?_;exact⟨rfl,M.below⟩
theorem sC{w0 w:World}{B:Nat}{bs:List Bx}{rs:List Rw}(M:aC B w0 w bs rs)(i:Nat){l:List Int}{x:Int}{g:Nat}{t:TypeId}(hb:bs[i]?=some (g,t,(l.flatMap anyI).toArray))(hx:CJ l=x)(hl:∀ y∈l,0≤y∧y<64:=by simp)(hn:l.length≤100:=by decide)(ht:Nat.blt t 9000=true:=by rfl):
 Calls Tryz.prog 73 #[.slice (some ⟨g,0,none⟩) l.length l.length] w fun r w'=>r=.returned (.agg #[.int .u64 x,.int .u64 0,.int .u64 0,.int .u64 0])∧ake w.heap.size w w':=by
 subst hx
 have hlen:(l.flatMap anyI).length=l.length*1:=by
  clear hb hl hn
  induction l with
  | nil=>rfl
  | cons x r ih=>rw[List.flatMap_cons,akh,ih,List.length_cons];simp[anyI];omega
 refine O3 w _ l (M.slice i hb (by simpa using hlen) ?_ (by unfold maxLen;omega) ht) hl;rw[List.all_eq_true];intro u hu;obtain⟨y,-,hy⟩:=List.mem_flatMap.1 (by simpa using hu);simp only[anyI,aki] at hy;rw[hy];rfl
def Both{α:Type}(R:List Value→α→Prop):List (List Value)→List α→Prop
 | [],[]=>True
 | x::r,y::s=>R x y∧Both R r s
 | _,_=>False
theorem xG{α:Type}{R:List Value→α→Prop}:∀ {es:List (List Value)} {l:List α},Both R es l→∀ (i:Nat) x y,es[i]?=some x→l[i]?=some y→R x y
 | [],_,_,i,x,y,h,_=>by simp at h
 | x::r,[],h,_,_,_,_,_=>h.elim
 | x::r,y::s,h,0,_,_,h1,h2=>by simp at h1 h2;rw[← h1,← h2];exact h.1
 | x::r,y::s,h,i+1,_,_,h1,h2=>xG h.2 i _ _ (by simpa using h1) (by simpa using h2)
theorem Hl{α:Type}{k:Nat}{R:List Value→α→Prop}{w:World}:au k R w (.slice none 0 0) []:=⟨[],rfl,by simp,SliceAt.nil _ k,by simp⟩
def dZ:aA:={
 classes:=[⟨⟨#[112,114,111,99,101,115,115]⟩,[⟨#[102,111,114,107]⟩,⟨#[116,114,97,110,115,105,116,105,111,110]⟩,⟨#[100,121,110,116,114,97,110,115,105,116,105,111,110]⟩,⟨#[115,101,110,100]⟩]⟩,⟨⟨#[102,105,108,101]⟩,[⟨#[114,101,97,100]⟩,⟨#[119,114,105,116,101]⟩,⟨#[99,114,101,97,116,101]⟩,⟨#[117,110,108,105,110,107]⟩,⟨#[101,120,101,99,117,116,101]⟩,⟨#[101,110,116,114,121,112,111,105,110,116]⟩,⟨#[114,101,108,97,98,101,108,102,114,111,109]⟩,⟨#[114,101,108,97,98,101,108,116,111]⟩]⟩,⟨⟨#[100,105,114]⟩,[⟨#[114,101,97,100]⟩,⟨#[119,114,105,116,101]⟩,⟨#[99,114,101,97,116,101]⟩,⟨#[117,110,108,105,110,107]⟩,⟨#[97,100,100]⟩,⟨#[114,101,109,111,118,101]⟩,⟨#[114,101,108,97,98,101,108,102,114,111,109]⟩,⟨#[114,101,108,97,98,101,108,116,111]⟩]⟩],
 types:=[⟨⟨#[105,110,105,116,95,116]⟩,[],false⟩,⟨⟨#[117,115,101,114,95,116]⟩,[],false⟩,⟨⟨#[102,105,108,101,95,116]⟩,[],false⟩,⟨⟨#[115,104,101,108,108,95,116]⟩,[],false⟩],
 attrs:=[⟨⟨#[100,111,109,97,105,110]⟩,⟨3,0,0,0⟩⟩],
 roles:=[⟨⟨#[111,98,106,101,99,116,95,114]⟩,⟨0,0,0,0⟩,⟨0,0,0,0⟩⟩,⟨⟨#[115,121,115,116,101,109]⟩,⟨3,0,0,0⟩,⟨0,0,0,0⟩⟩],
 users:=[⟨⟨#[114,111,111,116]⟩,⟨2,0,0,0⟩,⟨0,0⟩,⟨⟨0,0⟩,⟨0,0⟩⟩⟩],
 bools:=[⟨⟨#[115,104,97,114,101]⟩,false⟩],
 ay:=[⟨#[115,48]⟩],
 cats:=[],
 conds:=[.node 1 0 0 0 [] ⟨0,0,0,0⟩ []],
 rules:=[⟨1,⟨3,0,0,0⟩,⟨0,0,0,0⟩,true,0,9,0⟩,⟨1,⟨1,0,0,0⟩,⟨12,0,0,0⟩,false,1,17,0⟩,⟨1,⟨1,0,0,0⟩,⟨2,0,0,0⟩,false,0,2,0⟩,⟨1,⟨2,0,0,0⟩,⟨8,0,0,0⟩,false,1,32,0⟩,⟨1,⟨2,0,0,0⟩,⟨4,0,0,0⟩,false,1,1,1⟩],
 trans:=[⟨1,⟨1,0,0,0⟩,⟨8,0,0,0⟩,0,ByteArray.empty,1,0⟩],
 ak:=[],
 ranges:=[],
 cons:=[],
 aN:=[⟨⟨#[107,101,114,110,101,108]⟩,⟨0,1,0,⟨⟨0,0⟩,⟨0,0⟩⟩⟩⟩,⟨⟨#[114,111,111,116]⟩,⟨0,0,2,⟨⟨0,0⟩,⟨0,0⟩⟩⟩⟩,⟨⟨#[117,110,108,97,98,101,108,101,100]⟩,⟨0,0,2,⟨⟨0,0⟩,⟨0,0⟩⟩⟩⟩],
 files:=[],
 asserts:=[] }
def SB(g2 g3 g4 g5 g6 g9 g12 g15 g16 g17 g18 FP FN FM:Nat):List Bx:=[(FM,145,#[.string (⟨#[107,101,114,110,101,108]⟩),.int .i64 0,.int .i64 1,.int .i64 0,.int .i64 0,.int .u64 0,.int .i64 0,.int .u64 0,.string (⟨#[114,111,111,116]⟩),.int .i64 0,.int .i64 0,.int .i64 2,.int .i64 0,.int .u64 0,.int .i64 0,.int .u64 0,.string (⟨#[117,110,108,97,98,101,108,101,100]⟩),.int .i64 0,.int .i64 0,.int .i64 2,.int .i64 0,.int .u64 0,.int .i64 0,.int .u64 0]),
 (FN,79,#[.int .i64 1,.int .u64 1,.int .u64 0,.int .u64 0,.int .u64 0,.int .u64 8,.int .u64 0,.int .u64 0,.int .u64 0,.int .i64 0,.string ByteArray.empty,.int .i64 1,.int .i64 0]),
 (FP,142,#[.int .i64 1,.int .u64 3,.int .u64 0,.int .u64 0,.int .u64 0,.int .u64 0,.int .u64 0,.int .u64 0,.int .u64 0,.bool true,.int .i64 0,.int .u32 9,.int .i64 0,.int .i64 1,.int .u64 1,.int .u64 0,.int .u64 0,.int .u64 0,.int .u64 12,.int .u64 0,.int .u64 0,.int .u64 0,.bool false,.int .i64 1,.int .u32 17,.int .i64 0,.int .i64 1,.int .u64 1,.int .u64 0,.int .u64 0,.int .u64 0,.int .u64 2,.int .u64 0,.int .u64 0,.int .u64 0,.bool false,.int .i64 0,.int .u32 2,.int .i64 0,.int .i64 1,.int .u64 2,.int .u64 0,.int .u64 0,.int .u64 0,.int .u64 8,.int .u64 0,.int .u64 0,.int .u64 0,.bool false,.int .i64 1,.int .u32 32,.int .i64 0,.int .i64 1,.int .u64 2,.int .u64 0,.int .u64 0,.int .u64 0,.int .u64 4,.int .u64 0,.int .u64 0,.int .u64 0,.bool false,.int .i64 1,.int .u32 1,.int .i64 1]),
 (g18,84,#[.int .i64 1,.int .i64 0,.int .i64 0,.int .i64 0,.slice none 0 0,.int .u64 0,.int .u64 0,.int .u64 0,.int .u64 0,.slice none 0 0]),
 (g17,9,#[.string (⟨#[115,48]⟩)]),
 (g16,140,#[.string (⟨#[115,104,97,114,101]⟩),.bool false]),
 (g15,138,#[.string (⟨#[114,111,111,116]⟩),.int .u64 2,.int .u64 0,.int .u64 0,.int .u64 0,.int .i64 0,.int .u64 0,.int .i64 0,.int .u64 0,.int .i64 0,.int .u64 0]),
 (g12,136,#[.string (⟨#[111,98,106,101,99,116,95,114]⟩),.int .u64 0,.int .u64 0,.int .u64 0,.int .u64 0,.int .u64 0,.int .u64 0,.int .u64 0,.int .u64 0,.string (⟨#[115,121,115,116,101,109]⟩),.int .u64 3,.int .u64 0,.int .u64 0,.int .u64 0,.int .u64 0,.int .u64 0,.int .u64 0,.int .u64 0]),
 (g9,134,#[.string (⟨#[100,111,109,97,105,110]⟩),.int .u64 3,.int .u64 0,.int .u64 0,.int .u64 0]),
 (g6,81,#[.string (⟨#[105,110,105,116,95,116]⟩),.slice none 0 0,.bool false,.string (⟨#[117,115,101,114,95,116]⟩),.slice none 0 0,.bool false,.string (⟨#[102,105,108,101,95,116]⟩),.slice none 0 0,.bool false,.string (⟨#[115,104,101,108,108,95,116]⟩),.slice none 0 0,.bool false]),
 (g5,131,#[.string (⟨#[112,114,111,99,101,115,115]⟩),.slice (some ⟨g4,0,none⟩) 4 4,.string (⟨#[102,105,108,101]⟩),.slice (some ⟨g2,0,none⟩) 8 8,.string (⟨#[100,105,114]⟩),.slice (some ⟨g3,0,none⟩) 8 8]),
 (g4,9,#[.string (⟨#[102,111,114,107]⟩),.string (⟨#[116,114,97,110,115,105,116,105,111,110]⟩),.string (⟨#[100,121,110,116,114,97,110,115,105,116,105,111,110]⟩),.string (⟨#[115,101,110,100]⟩)]),
 (g3,9,#[.string (⟨#[114,101,97,100]⟩),.string (⟨#[119,114,105,116,101]⟩),.string (⟨#[99,114,101,97,116,101]⟩),.string (⟨#[117,110,108,105,110,107]⟩),.string (⟨#[97,100,100]⟩),.string (⟨#[114,101,109,111,118,101]⟩),.string (⟨#[114,101,108,97,98,101,108,102,114,111,109]⟩),.string (⟨#[114,101,108,97,98,101,108,116,111]⟩)]),
 (g2,9,#[.string (⟨#[114,101,97,100]⟩),.string (⟨#[119,114,105,116,101]⟩),.string (⟨#[99,114,101,97,116,101]⟩),.string (⟨#[117,110,108,105,110,107]⟩),.string (⟨#[101,120,101,99,117,116,101]⟩),.string (⟨#[101,110,116,114,121,112,111,105,110,116]⟩),.string (⟨#[114,101,108,97,98,101,108,102,114,111,109]⟩),.string (⟨#[114,101,108,97,98,101,108,116,111]⟩)])]
theorem oA{B:Nat}{w0 w:World}{rs:List Rw}{g2 g3 g4 g5 g6 g9 g12 g15 g16 g17 g18 FP FN FM:Nat}(M:aC B w0 w (SB g2 g3 g4 g5 g6 g9 g12 g15 g16 g17 g18 FP FN FM) rs):aD w (.slice (some ⟨g5,0,none⟩) 3 3) (.slice (some ⟨g6,0,none⟩) 4 4) (.slice (some ⟨g9,0,none⟩) 1 1) (.slice (some ⟨g12,0,none⟩) 2 2) (.slice (some ⟨g15,0,none⟩) 1 1) (.slice (some ⟨g16,0,none⟩) 1 1) (.slice (some ⟨g17,0,none⟩) 1 1) (.slice none 0 0) (.slice (some ⟨g18,0,none⟩) 1 1) (.slice (some ⟨FP,0,none⟩) 5 5) (.slice (some ⟨FN,0,none⟩) 1 1) (.slice none 0 0) (.slice none 0 0) (.slice none 0 0) (.slice (some ⟨FM,0,none⟩) 3 3) (.slice none 0 0) (.slice none 0 0) dZ:=
 ⟨⟨[[.string (⟨#[112,114,111,99,101,115,115]⟩),.slice (some ⟨g4,0,none⟩) 4 4],[.string (⟨#[102,105,108,101]⟩),.slice (some ⟨g2,0,none⟩) 8 8],[.string (⟨#[100,105,114]⟩),.slice (some ⟨g3,0,none⟩) 8 8]],rfl,by simp,(M.slice 10 rfl rfl rfl (by simp[maxLen])),xG ⟨⟨_,rfl,(M.slice 11 rfl rfl rfl (by simp[maxLen]))⟩,⟨_,rfl,(M.slice 13 rfl rfl rfl (by simp[maxLen]))⟩,⟨_,rfl,(M.slice 12 rfl rfl rfl (by simp[maxLen]))⟩,trivial⟩⟩,
  ⟨[[.string (⟨#[105,110,105,116,95,116]⟩),.slice none 0 0,.bool false],[.string (⟨#[117,115,101,114,95,116]⟩),.slice none 0 0,.bool false],[.string (⟨#[102,105,108,101,95,116]⟩),.slice none 0 0,.bool false],[.string (⟨#[115,104,101,108,108,95,116]⟩),.slice none 0 0,.bool false]],rfl,by simp,(M.slice 9 rfl rfl rfl (by simp[maxLen])),xG ⟨⟨_,rfl,(SliceAt.nil _ 1)⟩,⟨_,rfl,(SliceAt.nil _ 1)⟩,⟨_,rfl,(SliceAt.nil _ 1)⟩,⟨_,rfl,(SliceAt.nil _ 1)⟩,trivial⟩⟩,
  (M.slice 8 rfl rfl rfl (by simp[maxLen])),
  (M.slice 7 rfl rfl rfl (by simp[maxLen])),
  (M.slice 6 rfl rfl rfl (by simp[maxLen])),
  (M.slice 5 rfl rfl rfl (by simp[maxLen])),
  (M.slice 4 rfl rfl rfl (by simp[maxLen])),
  (SliceAt.nil _ 1),
  ⟨[[.int .i64 1,.int .i64 0,.int .i64 0,.int .i64 0,.slice none 0 0,.int .u64 0,.int .u64 0,.int .u64 0,.int .u64 0,.slice none 0 0]],rfl,by simp,(M.slice 3 rfl rfl rfl (by simp[maxLen])),xG ⟨bV.node (names:=[]) (kids:=[]) (set:=⟨0,0,0,0⟩) (SliceAt.nil _ 1) (es:=[]) rfl (by simp) (SliceAt.nil _ 10) (by simp),trivial⟩⟩,
  (M.slice 2 rfl rfl rfl (by simp[maxLen])),
  (M.slice 1 rfl rfl rfl (by simp[maxLen])),
  (SliceAt.nil _ 10),
  (SliceAt.nil _ 13),
  Hl,
  (M.slice 0 rfl rfl rfl (by simp[maxLen])),
  (SliceAt.nil _ 9),
  (SliceAt.nil _ 10)⟩
theorem rN(w0:World):Calls Tryz.prog 28 #[] w0 fun r w'=>∃ v,r=.returned v∧∃ g2 g3 g4 g5 g6 g9 g12 g15 g16 g17 g18 FP FN FM:Nat,v=.agg #[.slice (some ⟨g5,0,none⟩) 3 3,.slice (some ⟨g6,0,none⟩) 4 4,.slice (some ⟨g9,0,none⟩) 1 1,.slice (some ⟨g12,0,none⟩) 2 2,.slice (some ⟨g15,0,none⟩) 1 1,.slice (some ⟨g16,0,none⟩) 1 1,.slice (some ⟨g17,0,none⟩) 1 1,.slice none 0 0,.slice (some ⟨g18,0,none⟩) 1 1,.slice (some ⟨FP,0,none⟩) 5 5,.slice (some ⟨FN,0,none⟩) 1 1,.slice none 0 0,.slice none 0 0,.slice none 0 0,.slice (some ⟨FM,0,none⟩) 3 3,.slice none 0 0,.slice none 0 0]∧aC w0.heap.size w0 w' (SB g2 g3 g4 g5 g6 g9 g12 g15 g16 g17 g18 FP FN FM) []:=by
 refine bU [] (fn:=Tryz.f28) Tryz.func28 rfl Tryz.ntmps28 rfl<|ei<|an rM fun g1 w1 M1=>fun g2 w2 M2=>fun g3 w3 M3=>fun g4 w4 M4=>
  ei (x:=.agg #[.string (⟨#[112,114,111,99,101,115,115]⟩),.slice (some ⟨g4,0,none⟩) 4 4])<|an (bd (by kernel_rfl))<|
  ei (x:=.agg #[.string (⟨#[102,105,108,101]⟩),.slice (some ⟨g2,0,none⟩) 8 8])<|an (bd (by kernel_rfl))<|
  ei (x:=.agg #[.string (⟨#[100,105,114]⟩),.slice (some ⟨g3,0,none⟩) 8 8])<|an (bd (by kernel_rfl))<|
  fun g5 w5 M5=>
  ei (x:=.agg #[.string (⟨#[105,110,105,116,95,116]⟩),.slice none 0 0,.bool false])<|an (bd (by kernel_rfl))<|
  ei (x:=.agg #[.string (⟨#[117,115,101,114,95,116]⟩),.slice none 0 0,.bool false])<|an (bd (by kernel_rfl))<|
  ei (x:=.agg #[.string (⟨#[102,105,108,101,95,116]⟩),.slice none 0 0,.bool false])<|an (bd (by kernel_rfl))<|
  ei (x:=.agg #[.string (⟨#[115,104,101,108,108,95,116]⟩),.slice none 0 0,.bool false])<|an (bd (by kernel_rfl))<|
  fun g6 w6 M6=>
  fun g7 w7 M7=>
  cl<|an (sC M7 0 (l:=[0,1]) (x:=3) rfl rfl) fun w8 M8=>
  ei (x:=.agg #[.string (⟨#[100,111,109,97,105,110]⟩),.int .u64 3,.int .u64 0,.int .u64 0,.int .u64 0])<|an (bd (by kernel_rfl))<|
  fun g9 w9 M9=>
  ei (x:=.agg #[.string (⟨#[111,98,106,101,99,116,95,114]⟩),.int .u64 0,.int .u64 0,.int .u64 0,.int .u64 0,.int .u64 0,.int .u64 0,.int .u64 0,.int .u64 0])<|an (bd (by kernel_rfl))<|
  fun g10 pE jH=>
  cl<|an (sC jH 0 (l:=[0,1]) (x:=3) rfl rfl) fun uO M11=>
  ei (x:=.agg #[.string (⟨#[115,121,115,116,101,109]⟩),.int .u64 3,.int .u64 0,.int .u64 0,.int .u64 0,.int .u64 0,.int .u64 0,.int .u64 0,.int .u64 0])<|an (bd (by kernel_rfl))<|
  fun g12 zi q5=>
  fun g13 KD zf=>
  cl<|an (sC zf 0 (l:=[1]) (x:=2) rfl rfl) fun KC Cb=>
  ei (x:=.agg #[.string (⟨#[114,111,111,116]⟩),.int .u64 2,.int .u64 0,.int .u64 0,.int .u64 0,.int .i64 0,.int .u64 0,.int .i64 0,.int .u64 0,.int .i64 0,.int .u64 0])<|an (bd (by kernel_rfl))<|
  fun g15 Ec rL=>
  ei (x:=.agg #[.string (⟨#[115,104,97,114,101]⟩),.bool false])<|an (bd (by kernel_rfl))<|
  fun g16 KA vG=>
  fun g17 OO Av=>
  ei (x:=.agg #[.int .i64 1,.int .i64 0,.int .i64 0,.int .i64 0,.slice none 0 0,.int .u64 0,.int .u64 0,.int .u64 0,.int .u64 0,.slice none 0 0])<|an (bd (by kernel_rfl))<|
  fun g18 OM Gs=>
  fun g19 RJ OC=>
  cl<|an (sC OC 0 (l:=[0,1]) (x:=3) rfl rfl) fun Vp Og=>
  ei (x:=.agg #[.int .i64 1,.int .u64 3,.int .u64 0,.int .u64 0,.int .u64 0,.int .u64 0,.int .u64 0,.int .u64 0,.int .u64 0,.bool true,.int .i64 0,.int .u32 9,.int .i64 0])<|an (bd (by kernel_rfl))<|
  fun g21 Vo OB=>
  cl<|an (sC OB 0 (l:=[0]) (x:=1) rfl rfl) fun Vn UG=>
  fun g23 Vm OA=>
  cl<|an (sC OA 0 (l:=[2,3]) (x:=12) rfl rfl) fun Yx XP=>
  ei (x:=.agg #[.int .i64 1,.int .u64 1,.int .u64 0,.int .u64 0,.int .u64 0,.int .u64 12,.int .u64 0,.int .u64 0,.int .u64 0,.bool false,.int .i64 1,.int .u32 17,.int .i64 0])<|an (bd (by kernel_rfl))<|
  fun g25 Yw Ve=>
  cl<|an (sC Ve 0 (l:=[0]) (x:=1) rfl rfl) fun Yv UF=>
  fun g27 Yu QH=>
  cl<|an (sC QH 0 (l:=[1]) (x:=2) rfl rfl) fun XZ Yp=>
  ei (x:=.agg #[.int .i64 1,.int .u64 1,.int .u64 0,.int .u64 0,.int .u64 0,.int .u64 2,.int .u64 0,.int .u64 0,.int .u64 0,.bool false,.int .i64 0,.int .u32 2,.int .i64 0])<|an (bd (by kernel_rfl))<|
  fun g29 XY RG=>
  cl<|an (sC RG 0 (l:=[1]) (x:=2) rfl rfl) fun XW XO=>
  fun g31 XV RF=>
  cl<|an (sC RF 0 (l:=[3]) (x:=8) rfl rfl) fun XU UE=>
  ei (x:=.agg #[.int .i64 1,.int .u64 2,.int .u64 0,.int .u64 0,.int .u64 0,.int .u64 8,.int .u64 0,.int .u64 0,.int .u64 0,.bool false,.int .i64 1,.int .u32 32,.int .i64 0])<|an (bd (by kernel_rfl))<|
  fun g33 XT RE=>
  cl<|an (sC RE 0 (l:=[1]) (x:=2) rfl rfl) fun Yt Yo=>
  fun g35 Ys XM=>
  cl<|an (sC XM 0 (l:=[2]) (x:=4) rfl rfl) fun w36 M36=>
  ei (x:=.agg #[.int .i64 1,.int .u64 2,.int .u64 0,.int .u64 0,.int .u64 0,.int .u64 4,.int .u64 0,.int .u64 0,.int .u64 0,.bool false,.int .i64 1,.int .u32 1,.int .i64 1])<|an (bd (by kernel_rfl))<|
  fun FP w37 M37=>
  fun g38 w38 M38=>
  cl<|an (sC M38 0 (l:=[0]) (x:=1) rfl rfl) fun w39 M39=>
  fun g40 w40 M40=>
  cl<|an (sC M40 0 (l:=[3]) (x:=8) rfl rfl) fun w41 M41=>
  ei (x:=.agg #[.int .i64 1,.int .u64 1,.int .u64 0,.int .u64 0,.int .u64 0,.int .u64 8,.int .u64 0,.int .u64 0,.int .u64 0,.int .i64 0,.string ByteArray.empty,.int .i64 1,.int .i64 0])<|an (bd (by kernel_rfl))<|
  fun FN w42 M42=>
  cl<|an (FE w42) fun w43 M43=>
  ei (x:=.agg #[.string (⟨#[107,101,114,110,101,108]⟩),.int .i64 0,.int .i64 1,.int .i64 0,.int .i64 0,.int .u64 0,.int .i64 0,.int .u64 0])<|an (bd (by kernel_rfl))<|
  cl<|an (yB w43) fun w44 M44=>
  ei (x:=.agg #[.string (⟨#[114,111,111,116]⟩),.int .i64 0,.int .i64 0,.int .i64 2,.int .i64 0,.int .u64 0,.int .i64 0,.int .u64 0])<|an (bd (by kernel_rfl))<|
  cl<|an (yB w44) fun w45 M45=>
  ei (x:=.agg #[.string (⟨#[117,110,108,97,98,101,108,101,100]⟩),.int .i64 0,.int .i64 0,.int .i64 2,.int .i64 0,.int .u64 0,.int .i64 0,.int .u64 0])<|an (bd (by kernel_rfl))<|
  fun FM w46 M46=>
  ei (x:=.agg #[.slice (some ⟨g5,0,none⟩) 3 3,.slice (some ⟨g6,0,none⟩) 4 4,.slice (some ⟨g9,0,none⟩) 1 1,.slice (some ⟨g12,0,none⟩) 2 2,.slice (some ⟨g15,0,none⟩) 1 1,.slice (some ⟨g16,0,none⟩) 1 1,.slice (some ⟨g17,0,none⟩) 1 1,.slice none 0 0,.slice (some ⟨g18,0,none⟩) 1 1,.slice (some ⟨FP,0,none⟩) 5 5,.slice (some ⟨FN,0,none⟩) 1 1,.slice none 0 0,.slice none 0 0,.slice none 0 0,.slice (some ⟨FM,0,none⟩) 3 3,.slice none 0 0,.slice none 0 0])<|an (bd (by kernel_rfl))<|
  lb 28<|an ⟨rfl,rfl⟩ fun w M=>?_
 exact ei (x:=28)<|an rfl fun M=>⟨_,rfl,g2,g3,g4,g5,g6,g9,g12,g15,g16,g17,g18,FP,FN,FM,rfl,M.only (.cons_cons _<|(.cons_cons _<|(.cons _<|(.cons _<|(.cons_cons _<|(.cons _<|(.cons _<|(.cons _<|(.cons _<|(.cons _<|(.cons _<|(.cons _<|(.cons _<|(.cons _<|(.cons_cons _<|(.cons_cons _<|(.cons_cons _<|(.cons_cons _<|(.cons _<|(.cons_cons _<|(.cons _<|(.cons_cons _<|(.cons _<|(.cons_cons _<|(.cons_cons _<|(.cons_cons _<|(.cons_cons _<|(.cons_cons _<|(.cons _<|.refl []))))))))))))))))))))))))))))) (.refl _)⟩
instance (n:Nat):Decidable (kO n):=inferInstanceAs (Decidable (_≤_))
instance (s:ByteArray):Decidable (cB s):=inferInstanceAs (Decidable (_≤_))
instance (n:Int):Decidable (eF n):=inferInstanceAs (Decidable (_∧_))
instance (n:Int):Decidable (Ed n):=inferInstanceAs (Decidable (_∧_))
instance (n:Nat):Decidable (cW n):=inferInstanceAs (Decidable (_<_))
def oB:aA:={ dZ with types:=[⟨⟨#[105,110,105,116,95,116]⟩,[],true⟩,⟨⟨#[117,115,101,114,95,116]⟩,[],false⟩,⟨⟨#[102,105,108,101,95,116]⟩,[],false⟩,⟨⟨#[115,104,101,108,108,95,116]⟩,[],false⟩] }
theorem oC:dZ.Ok:=by
 repeat' (first|decide|refine List.forall_mem_cons.2 ⟨?_,?_⟩|exact List.forall_mem_nil _|constructor)
theorem G5:oB.Ok:=by
 repeat' (first|decide|refine List.forall_mem_cons.2 ⟨?_,?_⟩|exact List.forall_mem_nil _|constructor)
theorem sE:dZ.dW:=by
 repeat' (first|decide|refine List.forall_mem_cons.2 ⟨?_,?_⟩|exact List.forall_mem_nil _|constructor)
theorem G4:oB.dW:=by
 repeat' (first|decide|refine List.forall_mem_cons.2 ⟨?_,?_⟩|exact List.forall_mem_nil _|constructor)
theorem j4:bg dZ=0:=by kernel_rfl
theorem rQ:bg oB=0:=by kernel_rfl
theorem oD:cC dZ=1:=by kernel_rfl
theorem rP:cC oB=2:=by kernel_rfl
def fI:List Nat:=iD (dB 1 dZ)
theorem Lz:qU bg dZ 1=.ok fI:=by
 unfold qU;rw[if_pos (by decide),if_pos j4,oD];rfl
theorem Lx:qU bg oB 1=.error 2:=by
 unfold qU;rw[if_pos (by decide),if_pos rQ,rP];rfl
theorem R2:pL 3 dZ:=(sA sE oC j4).1
theorem G6:pL 1 dZ:=R2.at (by rw[oD];exact Nat.le_refl _)
theorem sF(v:Nat):(gD v dZ).length+2000≤aF:=(sA sE oC j4).2 v
theorem xD:cR (iD (dB 1 dZ))=.ok (1,gD 1 dZ):=uy 1 (by decide) (by decide) dZ
theorem Ly:wQ fI=.ok 1:=by
 unfold wQ fI;rw[xD]
theorem LA:pK bg fI=.ok (dZ,1):=by
 have h:=EF G6 [];rw[List.append_nil] at h;unfold pK fI;rw[xD];simp only[h,j4];rfl
theorem I7:fI.take 6=[65,67,80,66,1,3]:=by kernel_rfl
theorem I6:7≤fI.length:=by
 unfold fI;rw[qF];unfold dB;simp
def SBQ(g2 g3 g4 g5 g6 g9 g12 g15 g16 g17 g18 FP FN FM:Nat):List Bx:=[(FM,145,#[.string (⟨#[107,101,114,110,101,108]⟩),.int .i64 0,.int .i64 1,.int .i64 0,.int .i64 0,.int .u64 0,.int .i64 0,.int .u64 0,.string (⟨#[114,111,111,116]⟩),.int .i64 0,.int .i64 0,.int .i64 2,.int .i64 0,.int .u64 0,.int .i64 0,.int .u64 0,.string (⟨#[117,110,108,97,98,101,108,101,100]⟩),.int .i64 0,.int .i64 0,.int .i64 2,.int .i64 0,.int .u64 0,.int .i64 0,.int .u64 0]),
 (FN,79,#[.int .i64 1,.int .u64 1,.int .u64 0,.int .u64 0,.int .u64 0,.int .u64 8,.int .u64 0,.int .u64 0,.int .u64 0,.int .i64 0,.string ByteArray.empty,.int .i64 1,.int .i64 0]),
 (FP,142,#[.int .i64 1,.int .u64 3,.int .u64 0,.int .u64 0,.int .u64 0,.int .u64 0,.int .u64 0,.int .u64 0,.int .u64 0,.bool true,.int .i64 0,.int .u32 9,.int .i64 0,.int .i64 1,.int .u64 1,.int .u64 0,.int .u64 0,.int .u64 0,.int .u64 12,.int .u64 0,.int .u64 0,.int .u64 0,.bool false,.int .i64 1,.int .u32 17,.int .i64 0,.int .i64 1,.int .u64 1,.int .u64 0,.int .u64 0,.int .u64 0,.int .u64 2,.int .u64 0,.int .u64 0,.int .u64 0,.bool false,.int .i64 0,.int .u32 2,.int .i64 0,.int .i64 1,.int .u64 2,.int .u64 0,.int .u64 0,.int .u64 0,.int .u64 8,.int .u64 0,.int .u64 0,.int .u64 0,.bool false,.int .i64 1,.int .u32 32,.int .i64 0,.int .i64 1,.int .u64 2,.int .u64 0,.int .u64 0,.int .u64 0,.int .u64 4,.int .u64 0,.int .u64 0,.int .u64 0,.bool false,.int .i64 1,.int .u32 1,.int .i64 1]),
 (g18,84,#[.int .i64 1,.int .i64 0,.int .i64 0,.int .i64 0,.slice none 0 0,.int .u64 0,.int .u64 0,.int .u64 0,.int .u64 0,.slice none 0 0]),
 (g17,9,#[.string (⟨#[115,48]⟩)]),
 (g16,140,#[.string (⟨#[115,104,97,114,101]⟩),.bool false]),
 (g15,138,#[.string (⟨#[114,111,111,116]⟩),.int .u64 2,.int .u64 0,.int .u64 0,.int .u64 0,.int .i64 0,.int .u64 0,.int .i64 0,.int .u64 0,.int .i64 0,.int .u64 0]),
 (g12,136,#[.string (⟨#[111,98,106,101,99,116,95,114]⟩),.int .u64 0,.int .u64 0,.int .u64 0,.int .u64 0,.int .u64 0,.int .u64 0,.int .u64 0,.int .u64 0,.string (⟨#[115,121,115,116,101,109]⟩),.int .u64 3,.int .u64 0,.int .u64 0,.int .u64 0,.int .u64 0,.int .u64 0,.int .u64 0,.int .u64 0]),
 (g9,134,#[.string (⟨#[100,111,109,97,105,110]⟩),.int .u64 3,.int .u64 0,.int .u64 0,.int .u64 0]),
 (g6,81,#[.string (⟨#[105,110,105,116,95,116]⟩),.slice none 0 0,.bool true,.string (⟨#[117,115,101,114,95,116]⟩),.slice none 0 0,.bool false,.string (⟨#[102,105,108,101,95,116]⟩),.slice none 0 0,.bool false,.string (⟨#[115,104,101,108,108,95,116]⟩),.slice none 0 0,.bool false]),
 (g5,131,#[.string (⟨#[112,114,111,99,101,115,115]⟩),.slice (some ⟨g4,0,none⟩) 4 4,.string (⟨#[102,105,108,101]⟩),.slice (some ⟨g2,0,none⟩) 8 8,.string (⟨#[100,105,114]⟩),.slice (some ⟨g3,0,none⟩) 8 8]),
 (g4,9,#[.string (⟨#[102,111,114,107]⟩),.string (⟨#[116,114,97,110,115,105,116,105,111,110]⟩),.string (⟨#[100,121,110,116,114,97,110,115,105,116,105,111,110]⟩),.string (⟨#[115,101,110,100]⟩)]),
 (g3,9,#[.string (⟨#[114,101,97,100]⟩),.string (⟨#[119,114,105,116,101]⟩),.string (⟨#[99,114,101,97,116,101]⟩),.string (⟨#[117,110,108,105,110,107]⟩),.string (⟨#[97,100,100]⟩),.string (⟨#[114,101,109,111,118,101]⟩),.string (⟨#[114,101,108,97,98,101,108,102,114,111,109]⟩),.string (⟨#[114,101,108,97,98,101,108,116,111]⟩)]),
 (g2,9,#[.string (⟨#[114,101,97,100]⟩),.string (⟨#[119,114,105,116,101]⟩),.string (⟨#[99,114,101,97,116,101]⟩),.string (⟨#[117,110,108,105,110,107]⟩),.string (⟨#[101,120,101,99,117,116,101]⟩),.string (⟨#[101,110,116,114,121,112,111,105,110,116]⟩),.string (⟨#[114,101,108,97,98,101,108,102,114,111,109]⟩),.string (⟨#[114,101,108,97,98,101,108,116,111]⟩)])]
theorem uW{B:Nat}{w0 w:World}{rs:List Rw}{g2 g3 g4 g5 g6 g9 g12 g15 g16 g17 g18 FP FN FM:Nat}(M:aC B w0 w (SBQ g2 g3 g4 g5 g6 g9 g12 g15 g16 g17 g18 FP FN FM) rs):aD w (.slice (some ⟨g5,0,none⟩) 3 3) (.slice (some ⟨g6,0,none⟩) 4 4) (.slice (some ⟨g9,0,none⟩) 1 1) (.slice (some ⟨g12,0,none⟩) 2 2) (.slice (some ⟨g15,0,none⟩) 1 1) (.slice (some ⟨g16,0,none⟩) 1 1) (.slice (some ⟨g17,0,none⟩) 1 1) (.slice none 0 0) (.slice (some ⟨g18,0,none⟩) 1 1) (.slice (some ⟨FP,0,none⟩) 5 5) (.slice (some ⟨FN,0,none⟩) 1 1) (.slice none 0 0) (.slice none 0 0) (.slice none 0 0) (.slice (some ⟨FM,0,none⟩) 3 3) (.slice none 0 0) (.slice none 0 0) oB:=
 ⟨⟨[[.string (⟨#[112,114,111,99,101,115,115]⟩),.slice (some ⟨g4,0,none⟩) 4 4],[.string (⟨#[102,105,108,101]⟩),.slice (some ⟨g2,0,none⟩) 8 8],[.string (⟨#[100,105,114]⟩),.slice (some ⟨g3,0,none⟩) 8 8]],rfl,by simp,(M.slice 10 rfl rfl rfl (by simp[maxLen])),xG ⟨⟨_,rfl,(M.slice 11 rfl rfl rfl (by simp[maxLen]))⟩,⟨_,rfl,(M.slice 13 rfl rfl rfl (by simp[maxLen]))⟩,⟨_,rfl,(M.slice 12 rfl rfl rfl (by simp[maxLen]))⟩,trivial⟩⟩,
  ⟨[[.string (⟨#[105,110,105,116,95,116]⟩),.slice none 0 0,.bool true],[.string (⟨#[117,115,101,114,95,116]⟩),.slice none 0 0,.bool false],[.string (⟨#[102,105,108,101,95,116]⟩),.slice none 0 0,.bool false],[.string (⟨#[115,104,101,108,108,95,116]⟩),.slice none 0 0,.bool false]],rfl,by simp,(M.slice 9 rfl rfl rfl (by simp[maxLen])),xG ⟨⟨_,rfl,(SliceAt.nil _ 1)⟩,⟨_,rfl,(SliceAt.nil _ 1)⟩,⟨_,rfl,(SliceAt.nil _ 1)⟩,⟨_,rfl,(SliceAt.nil _ 1)⟩,trivial⟩⟩,
  (M.slice 8 rfl rfl rfl (by simp[maxLen])),
  (M.slice 7 rfl rfl rfl (by simp[maxLen])),
  (M.slice 6 rfl rfl rfl (by simp[maxLen])),
  (M.slice 5 rfl rfl rfl (by simp[maxLen])),
  (M.slice 4 rfl rfl rfl (by simp[maxLen])),
  (SliceAt.nil _ 1),
  ⟨[[.int .i64 1,.int .i64 0,.int .i64 0,.int .i64 0,.slice none 0 0,.int .u64 0,.int .u64 0,.int .u64 0,.int .u64 0,.slice none 0 0]],rfl,by simp,(M.slice 3 rfl rfl rfl (by simp[maxLen])),xG ⟨bV.node (names:=[]) (kids:=[]) (set:=⟨0,0,0,0⟩) (SliceAt.nil _ 1) (es:=[]) rfl (by simp) (SliceAt.nil _ 10) (by simp),trivial⟩⟩,
  (M.slice 2 rfl rfl rfl (by simp[maxLen])),
  (M.slice 1 rfl rfl rfl (by simp[maxLen])),
  (SliceAt.nil _ 10),
  (SliceAt.nil _ 13),
  Hl,
  (M.slice 0 rfl rfl rfl (by simp[maxLen])),
  (SliceAt.nil _ 9),
  (SliceAt.nil _ 10)⟩
theorem CK{l:List Nat}(h:Bytes l):Bytes (iD l):=by
 obtain⟨h0,h1⟩:=Eo l;exact h.append (uT h0 h1)
theorem rO:Bytes fI:=CK (qx 1 dZ)
theorem Kg{v:Nat}{p:aA}(hv:v≤3):(dB v p).length≤(gD v p).length+14:=by
 have:=aZ (n:=v) (by omega);unfold dB;simp only[akh,List.length_cons,List.length_nil];omega
theorem xB{v:Nat}{p:aA}(hv:v≤3)(h:(gD v p).length+2000≤aF):(iD (dB v p)).length≤aF:=by
 have:=Kg (p:=p) hv;rw[qF];omega
theorem uX:fI.length≤aF:=xB (by decide) (sF 1)
theorem yF{w0:World}{c0 c1 c2 c3 c4 c5 c6 c7 c8 c9 c10 c11 c12 c13 c14 c15 c16:Value}{p:aA}{ver:Int}{l:List Nat}(hp:aD w0 c0 c1 c2 c3 c4 c5 c6 c7 c8 c9 c10 c11 c12 c13 c14 c15 c16 p)(hok:p.Ok)(hs:p.dW)(hv:eF ver)(he:qU bg p ver=.ok l):Calls Tryz.prog 13 #[.agg #[c0,c1,c2,c3,c4,c5,c6,c7,c8,c9,c10,c11,c12,c13,c14,c15,c16],.int .i64 ver] w0 (fun r w'=>∃ v,r=.returned v∧((∃ a c,v=.tuple #[.slice a l.length c,.int .i64 0]∧w'.ownsRow w0.heap.size 5 1 (.slice a l.length c) l.length (byteCells l))∧ake w0.heap.size w0 w')):=by
 refine(tD w0 _ _ _ _ _ _ _ _ _ _ _ _ _ _ _ _ _ p hp hok hs ver hv).mono fun r w' ⟨v,e,h1,h2,h3⟩=>?_
 rw[he] at h2;obtain⟨rfl,ho⟩:=h2;obtain⟨a,c,rfl,-,-⟩:=p7 ho;exact⟨_,h1,⟨a,c,rfl,ho⟩,h3⟩
theorem TV{w0:World}{c0 c1 c2 c3 c4 c5 c6 c7 c8 c9 c10 c11 c12 c13 c14 c15 c16:Value}{p:aA}{ver k:Int}(hp:aD w0 c0 c1 c2 c3 c4 c5 c6 c7 c8 c9 c10 c11 c12 c13 c14 c15 c16 p)(hok:p.Ok)(hs:p.dW)(hv:eF ver)(he:qU bg p ver=.error k):Calls Tryz.prog 13 #[.agg #[c0,c1,c2,c3,c4,c5,c6,c7,c8,c9,c10,c11,c12,c13,c14,c15,c16],.int .i64 ver] w0 (fun r w'=>r=.returned (.tuple #[.slice none 0 0,.int .i64 k])∧ake w0.heap.size w0 w'):=by
 refine(tD w0 _ _ _ _ _ _ _ _ _ _ _ _ _ _ _ _ _ p hp hok hs ver hv).mono fun r w' ⟨v,e,h1,h2,h3⟩=>?_
 rw[he] at h2;obtain⟨rfl,rfl⟩:=h2;exact⟨h1,h3⟩
theorem BU{w0:World}{v:Value}{l:List Nat}{p:aA}{m:Nat}(h:aj w0 v l)(hL:l.length≤aF)(hpre:(∀ n r,cR l=.ok (n,r)→r.length≤aF)∧∀ n r p r',cR l=.ok (n,r)→zq n r=.ok (p,r')→p.Ok∧p.Md)(hd:pK bg l=.ok (p,m)):Calls Tryz.prog 16 #[v] w0 (fun r w'=>∃ u,r=.returned u∧((∃ (c0 c1 c2 c3 c4 c5 c6 c7 c8 c9 c10 c11 c12 c13 c14 c15 c16:Value) (T:List Rw),u=.tuple #[.agg #[c0,c1,c2,c3,c4,c5,c6,c7,c8,c9,c10,c11,c12,c13,c14,c15,c16],.int .i64 (m:Int),.int .i64 0]∧RowsIn w0.heap.size w' T∧∀ B w,RowsIn B w T→aD w c0 c1 c2 c3 c4 c5 c6 c7 c8 c9 c10 c11 c12 c13 c14 c15 c16 p)∧ake w0.heap.size w0 w')):=by
 refine(F6 h hL hpre.1 hpre.2).mono fun r w' ⟨q,c0,c1,c2,c3,c4,c5,c6,c7,c8,c9,c10,c11,c12,c13,c14,c15,c16,n,k,h1,⟨T,hT,lA⟩,h2,h3⟩=>?_
 rw[hd] at h3;obtain⟨rfl,rfl,rfl⟩:=h3;exact⟨_,h1,⟨_,_,_,_,_,_,_,_,_,_,_,_,_,_,_,_,_,T,rfl,hT,lA⟩,h2⟩
theorem RL{w0:World}{v:Value}{l:List Nat}{m:Nat}(h:aj w0 v l)(hL:l.length≤aF)(hd:wQ l=.ok m):Calls Tryz.prog 18 #[v] w0 (fun r w'=>r=.returned (.tuple #[.int .i64 (m:Int),.int .i64 0])∧ake w0.heap.size w0 w'):=by
 refine(uP h hL).mono fun r w' ⟨v,k,h1,h2,h3⟩=>?_
 rw[hd] at h3;obtain⟨rfl,rfl⟩:=h3;exact⟨h1,h2⟩
theorem RM{w0:World}{v:Value}{l:List Nat}{k:Int}(h:aj w0 v l)(hL:l.length≤aF)(hd:wQ l=.error k):Calls Tryz.prog 18 #[v] w0 (fun r w'=>∃ u,r=.returned u∧((∃ x,u=.tuple #[x,.int .i64 k])∧ake w0.heap.size w0 w')):=by
 refine(uP h hL).mono fun r w' ⟨v,k,h1,h2,h3⟩=>?_
 rw[hd] at h3;obtain rfl:=h3;exact⟨_,h1,⟨_,rfl⟩,h2⟩
theorem Lc(w0:World):Calls Tryz.prog 29 #[] w0 (fun r w'=>∃ u,r=.returned u∧∃ g,u=.slice (some ⟨g,0,none⟩) 3 3∧Mm w0 w' [(g,3,#[.int .i64 1,.int .i64 2,.int .i64 3])] []):=by
 refine bU [] (vs:=[]) (fn:=Tryz.f29) Tryz.func29 rfl Tryz.ntmps29 rfl<|fun g1 w1 M1=>fun M=>⟨_,rfl,g1,rfl,M⟩
theorem qG{w0:World}{p:aA}{c0 c1 c2 c3 c4 c5 c6 c7 c8 c9 c10 c11 c12 c13 c14 c15 c16:Value}{d0 d1 d2 d3 d4 d5 d6 d7 d8 d9 Va U_ U9 U8 U7 U6 U5:Value}(hp:aD w0 c0 c1 c2 c3 c4 c5 c6 c7 c8 c9 c10 c11 c12 c13 c14 c15 c16 p)(hq:aD w0 d0 d1 d2 d3 d4 d5 d6 d7 d8 d9 Va U_ U9 U8 U7 U6 U5 p)(hok:p.Ok)(hb:(gD 3 p).length+2000≤aF):
 Calls Tryz.prog 20 #[.agg #[c0,c1,c2,c3,c4,c5,c6,c7,c8,c9,c10,c11,c12,c13,c14,c15,c16],.agg #[d0,d1,d2,d3,d4,d5,d6,d7,d8,d9,Va,U_,U9,U8,U7,U6,U5]] w0 (fun r w'=>r=.returned (.bool true)∧ake w0.heap.size w0 w'):=
 (Lw hp hok hq hok hb hb).mono fun r w' ⟨h1,h2⟩=>⟨by rw[h1,decide_eq_true rfl],h2⟩
end Go.Proofs.YtkkmjdceiocnbaaGreatDoor

import Derived.Test.YtkkmjdceiocnbaaGreatDoorSTA
open Array renaming getD_eq_getD_getElem?→ald
open Go.RowKit renaming Below→alc
open List renaming mem_of_getElem?→ala,all_eq_true→alb,mem_append→ale,length_append→alf,mem_singleton→alg
set_option maxRecDepth 100000
set_option maxHeartbeats 8000000
set_option linter.unusedSectionVars false
set_option linter.unusedSimpArgs false
set_option linter.unusedVariables false
namespace Go.Proofs.YtkkmjdceiocnbaaGreatDoor
open Go Go.RowKit
theorem EI(w0:World)(cs:List Value)(e:aS)(he:e.Ok)(h:bq w0 cs e)(uo:aL 13 e≤12)(c0 c1 c2 c3 c4 c5 c6 c7 c8 c9 c10 c11 c12 c13 c14 c15 c16:Value)(p:aD)(hp:aA w0 c0 c1 c2 c3 c4 c5 c6 c7 c8 c9 c10 c11 c12 c13 c14 c15 c16 p)(v:Bool):Calls Tryz.prog 289 #[.agg #[c0,c1,c2,c3,c4,c5,c6,c7,c8,c9,c10,c11,c12,c13,c14,c15,c16],.agg cs.toArray,.bool v] w0 (RI w0 (cq p.users.length p.roles.length p.types.length v e)):=by
 have hE:=h;obtain⟨nv,kv,rfl,uH,hk⟩:=h.open;unfold cq;rw[if_neg (by omega)];refine bM [] (fn:=Tryz.f289) Tryz.func289 rfl Tryz.ntmps289 rfl<|fun g1 w1 M1=>fun g2 w2 M2=>lb 0<|an rfl<|cl<|an (GJ 12 e _ _ (by decide) (hE.keep M2.below) uo) fun w3 M3=>an (fun h4=>by simp at h4;omega) fun h4=>an (fun hv=>?_) fun hv=>?_
 ·exact lb 1<|an rfl<|lb 0<|an rfl<|cl<|an (Qb 15 (by decide) e he _ _ _ _ _ _ _ _ _ _ _ _ _ _ _ _ _ _ _ p (hp.keep M3.below) (hE.keep M3.below)) fun w4 M4=>fun M=>⟨ri (if_pos hv),M.below⟩
 ·exact lb 1<|an rfl<|lb 0<|an rfl<|cl<|an (Qb 10 (by decide) e he _ _ _ _ _ _ _ _ _ _ _ _ _ _ _ _ _ _ _ p (hp.keep M3.below) (hE.keep M3.below)) fun w4 M4=>fun M=>⟨ri (if_neg (by rw[hv];decide)),M.below⟩
theorem CX(w0:World)(c0 c1 c2 c3 c4 c5 c6 c7 c8 c9 c10 c11 c12 c13 c14 c15 c16:Value)(p:aD)(hp:aA w0 c0 c1 c2 c3 c4 c5 c6 c7 c8 c9 c10 c11 c12 c13 c14 c15 c16 p)(hok:p.Ok)(hd:p.Md)(hcl:∀ y∈p.classes,y.perms.length≤64):Calls Tryz.prog 189 #[.agg #[c0,c1,c2,c3,c4,c5,c6,c7,c8,c9,c10,c11,c12,c13,c14,c15,c16]] w0 (RI w0 (gP p)):=by
 have hp':=hp;obtain⟨_,_,_,_,_,_,_,_,_,_,_,_,_,_,_,_,_,_,_,_,_,_,_,_,_,_,_,_,_,_,_,_,_,_,rfl,rfl,rfl,rfl,rfl,rfl,rfl,rfl,rfl,rfl,rfl,rfl,rfl,rfl,rfl,rfl,rfl⟩:=hp.open;unfold gP;refine bM [] (fn:=Tryz.f189) Tryz.func189 rfl Tryz.ntmps189 rfl<|fun g1 w1 M1=>lb 0<|an rfl<|an (fun h M=>⟨ri (if_pos (by simp at h;omega)),M.below⟩) fun h=>?_
 have hll:p.cons.length≤64:=by simp at h;omega
 rw[if_neg (by omega)];refine lb 0<|an rfl<|lr (ι:=Nat) (fun m=>[(15,.int .i64 (m:Int))]) (fun m _=>m≤p.cons.length∧ah (pI p) p.cons.length 0=ah (pI p) (p.cons.length-m) m) (fun m=>p.cons.length-m) 0 (an ⟨⟨rfl,trivial⟩,fun M=>⟨M,Nat.zero_le _,by rw[Nat.sub_zero]⟩⟩ ?_);rintro m w M ⟨hm,hinv⟩;refine an (fun h2=>?_) fun h2 M=>⟨ri (by rw[hinv,show m=p.cons.length by simp at h2;omega,aM]),M.below⟩
 have hlt:m<p.cons.length:=by simp at h2;omega
 obtain⟨y,hy⟩:∃ y,p.cons[m]?=some y:=⟨_,List.getElem?_eq_getElem hlt⟩;have uo:=hd.abG y (ala hy);have dD:=hok.cons y (ala hy);obtain⟨b,o,x,e1,hC,hc⟩:=aj.elt hp.cons (by decide) hy;obtain⟨cs,rfl,hE⟩:=hC;have Ur:=hE;obtain⟨PB,kv',rfl,hn',hk'⟩:=hE.open;obtain⟨_,_,rfl,-⟩:=aN.get hn';obtain⟨_,_,rfl,-⟩:=aj.form hk' (by decide);have hcf:pI p m=vG p.users.length p.roles.length p.types.length p.classes y:=by unfold pI;rw[hy]
 have out:∀ v:Int,vG p.users.length p.roles.length p.types.length p.classes y=v→v≠0→ah (pI p) p.cons.length 0=v:=fun v h1 h2=>by rw[hinv,aP hlt (by rw[hcf,h1];exact h2),hcf,h1]
 unfold vG at hcf out;refine ia<|an ⟨e1,rfl,hlt⟩<|lc<|an (bZ M.below hc)<|ei<|an FE fun g3 w4 M4=>lb 0<|an ⟨rfl,rfl⟩ fun w5 M5=>lb 1<|an rfl<|lb 0<|an rfl<|lb 0<|an rfl<|cl<|an (GF _ _ _ _ _ _ _ _ _ _ _ _ _ _ _ _ _ _ p (hp'.keep M5.below) y.cls y.perms dD.perms hcl) fun w6 M6=>an (fun h4 M=>⟨ri (out 3 (if_pos (by simpa using h4)) (by decide)),M.below⟩) fun h4=>?_
 rw[if_neg (by simpa using h4)] at hcf out;refine lb 0<|an rfl<|lb 0<|an rfl<|an (fun h5 M=>⟨ri (out 2 (if_pos (by intro e;rw[e] at h5;simp at h5)) (by decide)),M.below⟩) fun h5=>?_
 rw[if_neg (by intro e;have h6:decide (y.perms=0)=y.val:=by simpa using h5
               exact e h6.symm)] at hcf out
 exact lb 1<|an rfl<|lb 0<|an rfl<|lb 0<|an rfl<|cl<|an (EI _ _ y.expr dD.expr (Ur.keep M6.below) uo _ _ _ _ _ _ _ _ _ _ _ _ _ _ _ _ _ p (hp'.keep M6.below) y.val) fun w7 M7=>an (fun h6 M=>⟨ri (out _ rfl (by simpa using h6)),M.below⟩) fun h6=>an (by omega)<|bk (m+1) ⟨rfl,trivial⟩ (fun M=>⟨M.only (.cons _ (.refl _)) (.refl _),by omega,hinv.trans (aG hlt (by rw[hcf];simpa using h6))⟩) (by dsimp only;omega)
def gC(p:aD)(k:Nat):Int:=
 if k=0 then bV p else if k=1 then (if 256<p.types.length then 4 else ah (iz p) p.types.length 0)
 else if k=2 then (if 64<p.attrs.length then 4 else ah (iJ p) p.attrs.length 0)
 else if k=3 then dO p else if k=4 then fK p else if k=5 then (if 16<p.bools.length then 4 else aU (p.bools.map (·.name)) [])
 else if k=6 then (if 16<p.ak.length then 4 else aU p.ak []) else if k=7 then (if 64<p.cats.length then 4 else aU p.cats [])
 else (if 64<p.conds.length then 4 else ah (eu p) p.conds.length 0)
def iX(p:aD)(k:Nat):Int:=
 if k=0 then (if 4096<p.rules.length then 4 else ah (iB p) p.rules.length 0) else if k=1 then h_ p
 else if k=2 then (if 1024<p.ay.length then 4 else ah (wm p) p.ay.length 0)
 else if k=3 then (if 1024<p.ranges.length then 4 else ah (wW p) p.ranges.length 0)
 else if k=4 then gP p else if k=5 then (if 1024<p.bg.length then 4 else ah (ng p) p.bg.length 0)
 else if k=6 then (if 256<p.files.length then 4 else ah (iI p) p.files.length 0)
 else dG p
theorem MQ(w0:World)(c0 c1 c2 c3 c4 c5 c6 c7 c8 c9 c10 c11 c12 c13 c14 c15 c16:Value)(p:aD)(hp:aA w0 c0 c1 c2 c3 c4 c5 c6 c7 c8 c9 c10 c11 c12 c13 c14 c15 c16 p)(hok:p.Ok)(hd:p.Md)(k:Nat):Calls Tryz.prog 76 #[.agg #[c0,c1,c2,c3,c4,c5,c6,c7,c8,c9,c10,c11,c12,c13,c14,c15,c16],.int .i64 (k:Int)] w0 (RI w0 (gC p k)):=by
 have nk:∀ {j:Nat},decide ((k:Int)=(j:Int))=false→¬ k=j:=fun h e=>by subst e;simp at h
 have yk:∀ {j:Nat},decide ((k:Int)=(j:Int))=true→k=j:=fun h=>by simp at h;exact_mod_cast h
 unfold gC;refine bM [] (fn:=Tryz.f76) Tryz.func76 rfl Tryz.ntmps76 rfl<|fun g1 w1 M1=>an (fun h=>?_) fun h0=>an (fun h=>?_) fun h1=>an (fun h=>?_) fun h2=>an (fun h=>?_) fun h3=>an (fun h=>?_) fun h4=>an (fun h=>?_) fun h5=>an (fun h=>?_) fun h6=>an (fun h=>?_) fun h7=>?_
 ·exact lb 0<|an rfl<|cl<|an (MU _ _ _ _ _ _ _ _ _ _ _ _ _ _ _ _ _ _ p (hp.keep M1.below) hok) fun w2 M2=>fun M=>⟨ri (if_pos (yk (j:=0) h)),M.below⟩
 ·exact lb 0<|an rfl<|cl<|an (SM _ _ _ _ _ _ _ _ _ _ _ _ _ _ _ _ _ _ p (hp.keep M1.below) hok hd) fun w2 M2=>fun M=>⟨ri (by rw[yk (j:=1) h];rfl),M.below⟩
 ·exact lb 0<|an rfl<|cl<|an (S0 _ _ _ _ _ _ _ _ _ _ _ _ _ _ _ _ _ _ p (hp.keep M1.below) hok hd) fun w2 M2=>fun M=>⟨ri (by rw[yk (j:=2) h];rfl),M.below⟩
 ·exact lb 0<|an rfl<|cl<|an (SR _ _ _ _ _ _ _ _ _ _ _ _ _ _ _ _ _ _ p (hp.keep M1.below) hok) fun w2 M2=>fun M=>⟨ri (by rw[yk (j:=3) h];rfl),M.below⟩
 ·exact lb 0<|an rfl<|cl<|an (SL _ _ _ _ _ _ _ _ _ _ _ _ _ _ _ _ _ _ p (hp.keep M1.below) hok) fun w2 M2=>fun M=>⟨ri (by rw[yk (j:=4) h];rfl),M.below⟩
 ·exact lb 0<|an rfl<|cl<|an (SZ _ _ _ _ _ _ _ _ _ _ _ _ _ _ _ _ _ _ p (hp.keep M1.below) hok hd) fun w2 M2=>fun M=>⟨ri (by rw[yk (j:=5) h];rfl),M.below⟩
 ·exact lb 0<|an rfl<|cl<|an (VI _ _ _ _ _ _ _ _ _ _ _ _ _ _ _ _ _ _ p (hp.keep M1.below) hok) fun w2 M2=>fun M=>⟨ri (by rw[yk (j:=6) h];rfl),M.below⟩
 ·exact lb 0<|an rfl<|cl<|an (VL _ _ _ _ _ _ _ _ _ _ _ _ _ _ _ _ _ _ p (hp.keep M1.below) hok) fun w2 M2=>fun M=>⟨ri (by rw[yk (j:=7) h];rfl),M.below⟩
 ·exact lb 0<|an rfl<|cl<|an (SY _ _ _ _ _ _ _ _ _ _ _ _ _ _ _ _ _ _ p (hp.keep M1.below) hd) fun w2 M2=>fun M=>⟨ri (by rw[if_neg (nk (j:=0) h0),if_neg (nk (j:=1) h1),if_neg (nk (j:=2) h2),if_neg (nk (j:=3) h3),if_neg (nk (j:=4) h4),if_neg (nk (j:=5) h5),if_neg (nk (j:=6) h6),if_neg (nk (j:=7) h7)]),M.below⟩
theorem EF(w0:World)(c0 c1 c2 c3 c4 c5 c6 c7 c8 c9 c10 c11 c12 c13 c14 c15 c16:Value)(p:aD)(hp:aA w0 c0 c1 c2 c3 c4 c5 c6 c7 c8 c9 c10 c11 c12 c13 c14 c15 c16 p)(hok:p.Ok)(hd:p.Md)(hcl:∀ y∈p.classes,y.perms.length≤64)(k:Nat):Calls Tryz.prog 77 #[.agg #[c0,c1,c2,c3,c4,c5,c6,c7,c8,c9,c10,c11,c12,c13,c14,c15,c16],.int .i64 (k:Int)] w0 (RI w0 (iX p k)):=by
 have nk:∀ {j:Nat},decide ((k:Int)=(j:Int))=false→¬ k=j:=fun h e=>by subst e;simp at h
 have yk:∀ {j:Nat},decide ((k:Int)=(j:Int))=true→k=j:=fun h=>by simp at h;exact_mod_cast h
 unfold iX;refine bM [] (fn:=Tryz.f77) Tryz.func77 rfl Tryz.ntmps77 rfl<|fun g1 w1 M1=>an (fun h=>?_) fun h0=>an (fun h=>?_) fun h1=>an (fun h=>?_) fun h2=>an (fun h=>?_) fun h3=>an (fun h=>?_) fun h4=>an (fun h=>?_) fun h5=>an (fun h=>?_) fun h6=>?_
 ·exact lb 0<|an rfl<|cl<|an (SQ _ _ _ _ _ _ _ _ _ _ _ _ _ _ _ _ _ _ p (hp.keep M1.below) hok hcl) fun w2 M2=>fun M=>⟨ri (if_pos (yk (j:=0) h)),M.below⟩
 ·exact lb 0<|an rfl<|cl<|an (SN _ _ _ _ _ _ _ _ _ _ _ _ _ _ _ _ _ _ p (hp.keep M1.below) hok) fun w2 M2=>fun M=>⟨ri (by rw[yk (j:=1) h];rfl),M.below⟩
 ·exact lb 0<|an rfl<|cl<|an (PZ _ _ _ _ _ _ _ _ _ _ _ _ _ _ _ _ _ _ p (hp.keep M1.below) hok) fun w2 M2=>fun M=>⟨ri (by rw[yk (j:=2) h];rfl),M.below⟩
 ·exact lb 0<|an rfl<|cl<|an (P_ _ _ _ _ _ _ _ _ _ _ _ _ _ _ _ _ _ _ p (hp.keep M1.below) hok) fun w2 M2=>fun M=>⟨ri (by rw[yk (j:=3) h];rfl),M.below⟩
 ·exact lb 0<|an rfl<|cl<|an (CX _ _ _ _ _ _ _ _ _ _ _ _ _ _ _ _ _ _ p (hp.keep M1.below) hok hd hcl) fun w2 M2=>fun M=>⟨ri (by rw[yk (j:=4) h];rfl),M.below⟩
 ·exact lb 0<|an rfl<|cl<|an (VH _ _ _ _ _ _ _ _ _ _ _ _ _ _ _ _ _ _ p (hp.keep M1.below) hok) fun w2 M2=>fun M=>⟨ri (by rw[yk (j:=5) h];rfl),M.below⟩
 ·exact lb 0<|an rfl<|cl<|an (SX _ _ _ _ _ _ _ _ _ _ _ _ _ _ _ _ _ _ p (hp.keep M1.below) hok) fun w2 M2=>fun M=>⟨ri (by rw[yk (j:=6) h];rfl),M.below⟩
 ·exact lb 0<|an rfl<|cl<|an (MV _ _ _ _ _ _ _ _ _ _ _ _ _ _ _ _ _ _ p (hp.keep M1.below) hok) fun w2 M2=>fun M=>⟨ri (by rw[if_neg (nk (j:=0) h0),if_neg (nk (j:=1) h1),if_neg (nk (j:=2) h2),if_neg (nk (j:=3) h3),if_neg (nk (j:=4) h4),if_neg (nk (j:=5) h5),if_neg (nk (j:=6) h6)]),M.below⟩
theorem Hq(p:aD):(if ah (gC p) 9 0=0 then ah (iX p) 8 0 else ah (gC p) 9 0)=aZ p:=by
 have s0:gC p 0=bV p:=rfl
 have f9:ah (gC p) 9 0=if bV p=0 then (if gC p 1=0 then (if gC p 2=0 then (if gC p 3=0 then (if gC p 4=0 then (if gC p 5=0 then (if gC p 6=0 then (if gC p 7=0 then gC p 8 else gC p 7) else gC p 6) else gC p 5) else gC p 4) else gC p 3) else gC p 2) else gC p 1) else bV p:=by
  unfold ah;unfold ah;unfold ah;unfold ah;unfold ah;unfold ah;unfold ah;unfold ah;unfold ah;unfold ah;simp only[s0];by_cases h:gC p 8=0<;>simp[h]
 have f8:ah (iX p) 8 0=if iX p 0=0 then (if iX p 1=0 then (if iX p 2=0 then (if iX p 3=0 then (if iX p 4=0 then (if iX p 5=0 then (if iX p 6=0 then iX p 7 else iX p 6) else iX p 5) else iX p 4) else iX p 3) else iX p 2) else iX p 1) else iX p 0:=by
  unfold ah;unfold ah;unfold ah;unfold ah;unfold ah;unfold ah;unfold ah;unfold ah;unfold ah;by_cases h:iX p 7=0<;>simp[h]
 have t:eO p=if gC p 1=0 then gC p 2 else gC p 1:=by
  unfold eO;show _=if (if 256<p.types.length then (4:Int) else ah (iz p) p.types.length 0)=0 then (if 64<p.attrs.length then (4:Int) else ah (iJ p) p.attrs.length 0) else (if 256<p.types.length then (4:Int) else ah (iz p) p.types.length 0)
  by_cases h:256<p.types.length
  ·rw[if_pos h,if_pos h];rfl
  ·rw[if_neg h,if_neg h]
 have o:fO p=if gC p 5=0 then (if gC p 6=0 then gC p 7 else gC p 6) else gC p 5:=by
  unfold fO;show _=if (if 16<p.bools.length then (4:Int) else aU (p.bools.map (·.name)) [])=0 then (if (if 16<p.ak.length then (4:Int) else aU p.ak [])=0 then (if 64<p.cats.length then (4:Int) else aU p.cats []) else (if 16<p.ak.length then (4:Int) else aU p.ak [])) else (if 16<p.bools.length then (4:Int) else aU (p.bools.map (·.name)) [])
  by_cases h1:16<p.bools.length
  ·simp[h1]
  ·by_cases h2:aU (p.bools.map (·.name)) []=0
   ·by_cases h3:16<p.ak.length
    ·simp[h1,h2,h3]
    ·by_cases h4:aU p.ak []=0<;>simp[h1,h2,h3,h4]
   ·simp[h1,h2]
 have r:cP p=if gC p 8=0 then iX p 0 else gC p 8:=by
  unfold cP;show _=if (if 64<p.conds.length then (4:Int) else ah (eu p) p.conds.length 0)=0 then (if 4096<p.rules.length then (4:Int) else ah (iB p) p.rules.length 0) else (if 64<p.conds.length then (4:Int) else ah (eu p) p.conds.length 0)
  by_cases h:64<p.conds.length
  ·rw[if_pos h,if_pos h];rfl
  ·rw[if_neg h,if_neg h]
 have c:bB p=if iX p 2=0 then iX p 3 else iX p 2:=by
  unfold bB;show _=if (if 1024<p.ay.length then (4:Int) else ah (wm p) p.ay.length 0)=0 then (if 1024<p.ranges.length then (4:Int) else ah (wW p) p.ranges.length 0) else (if 1024<p.ay.length then (4:Int) else ah (wm p) p.ay.length 0)
  by_cases h:1024<p.ay.length
  ·rw[if_pos h,if_pos h];rfl
  ·rw[if_neg h,if_neg h]
 have l:b_ p=if iX p 5=0 then iX p 6 else iX p 5:=by
  unfold b_;show _=if (if 1024<p.bg.length then (4:Int) else ah (ng p) p.bg.length 0)=0 then (if 256<p.files.length then (4:Int) else ah (iI p) p.files.length 0) else (if 1024<p.bg.length then (4:Int) else ah (ng p) p.bg.length 0)
  by_cases h:1024<p.bg.length
  ·rw[if_pos h,if_pos h];rfl
  ·rw[if_neg h,if_neg h]
 have g3:gC p 3=dO p:=rfl;have g4:gC p 4=fK p:=rfl;have h1:iX p 1=h_ p:=rfl;have h4:iX p 4=gP p:=rfl;have h7:iX p 7=dG p:=rfl
 have l3:jv [bV p,eO p,dO p]=if bV p=0 then (if eO p=0 then dO p else eO p) else bV p:=by
  show ah _ 3 0=_;unfold ah;unfold ah;unfold ah;unfold ah;show(if bV p=0 then (if eO p=0 then (if dO p=0 then 0 else dO p) else eO p) else bV p)=_;by_cases h:dO p=0<;>simp[h]
 have l8:jv [fK p,fO p,cP p,h_ p,bB p,gP p,b_ p,dG p]=if fK p=0 then (if fO p=0 then (if cP p=0 then (if h_ p=0 then (if bB p=0 then (if gP p=0 then (if b_ p=0 then dG p else b_ p) else gP p) else bB p) else h_ p) else cP p) else fO p) else fK p:=by
  show ah _ 8 0=_;unfold ah;unfold ah;unfold ah;unfold ah;unfold ah;unfold ah;unfold ah;unfold ah;unfold ah;show(if fK p=0 then (if fO p=0 then (if cP p=0 then (if h_ p=0 then (if bB p=0 then (if gP p=0 then (if b_ p=0 then (if dG p=0 then 0 else dG p) else b_ p) else gP p) else bB p) else h_ p) else cP p) else fO p) else fK p)=_;by_cases h:dG p=0<;>simp[h]
 unfold aZ;rw[l3,l8,f9,f8,t,o,r,c,l,← g3,← g4,← h1,← h4,← h7];generalize bV p=x0;generalize gC p 1=x1;generalize gC p 2=x2;generalize gC p 3=x3;generalize gC p 4=x4;generalize gC p 5=x5;generalize gC p 6=x6;generalize gC p 7=x7;generalize gC p 8=x8;generalize iX p 0=y0;generalize iX p 1=y1;generalize iX p 2=y2;generalize iX p 3=y3;generalize iX p 4=y4;generalize iX p 5=y5;generalize iX p 6=y6;generalize iX p 7=y7;by_cases c0:x0=0
 ·by_cases c1:x1=0
  ·by_cases c2:x2=0
   ·by_cases c3:x3=0
    ·by_cases c4:x4=0
     ·by_cases c5:x5=0
      ·by_cases c6:x6=0
       ·by_cases c7:x7=0
        ·by_cases c8:x8=0
         ·by_cases d0:y0=0
          ·by_cases d2:y2=0
           ·by_cases d5:y5=0<;>simp[c0,c1,c2,c3,c4,c5,c6,c7,c8,d0,d2,d5]
           ·by_cases d5:y5=0<;>simp[c0,c1,c2,c3,c4,c5,c6,c7,c8,d0,d2,d5]
          ·simp[c0,c1,c2,c3,c4,c5,c6,c7,c8,d0]
         ·simp[c0,c1,c2,c3,c4,c5,c6,c7,c8]
        ·simp[c0,c1,c2,c3,c4,c5,c6,c7]
       ·simp[c0,c1,c2,c3,c4,c5,c6]
      ·simp[c0,c1,c2,c3,c4,c5]
     ·simp[c0,c1,c2,c3,c4]
    ·simp[c0,c1,c2,c3]
   ·simp[c0,c1,c2]
  ·simp[c0,c1]
 ·simp[c0]
theorem Gi{p:aD}(h:bV p=0):∀ y∈p.classes,y.perms.length≤64:=fun y hy=>by
 obtain⟨i,hi⟩:=List.getElem?_of_mem hy;have hlt:=(List.getElem?_eq_some_iff.1 hi).1;unfold bV at h;split at h
 ·cases h
 ·have:=(mW _ _).1 h i (Nat.zero_le _) (by omega);unfold fT at this;rw[hi] at this;dsimp only at this;unfold mz at this;split at this
  ·split at this
   ·cases this
   ·omega
  ·contradiction
theorem AR(w0:World)(c0 c1 c2 c3 c4 c5 c6 c7 c8 c9 c10 c11 c12 c13 c14 c15 c16:Value)(p:aD)(hp:aA w0 c0 c1 c2 c3 c4 c5 c6 c7 c8 c9 c10 c11 c12 c13 c14 c15 c16 p)(hok:p.Ok)(hd:p.Md):Calls Tryz.prog 31 #[.agg #[c0,c1,c2,c3,c4,c5,c6,c7,c8,c9,c10,c11,c12,c13,c14,c15,c16]] w0 (RI w0 (aZ p)):=by
 rw[← Hq p];have hp':=hp;obtain⟨a0,a1,a2,a3,a4,a5,a6,a7,a8,a9,rF,rE,a12,rD,rC,rB,rA,k0,k1,k2,k3,k4,k5,k6,k7,k8,k9,k10,k11,k12,k13,k14,k15,k16,rfl,rfl,rfl,rfl,rfl,rfl,rfl,rfl,rfl,rfl,rfl,rfl,rfl,rfl,rfl,rfl,rfl⟩:=hp.open;refine bM [] (fn:=Tryz.f31) Tryz.func31 rfl Tryz.ntmps31 rfl<|fun g1 w1 M1=>lb 0<|an rfl<|ei (x:=.agg #[.slice a0 p.classes.length k0,.slice a1 p.types.length k1,.slice a2 p.attrs.length k2,.slice a3 p.roles.length k3,.slice a4 p.users.length k4,.slice a5 p.bools.length k5,.slice a6 p.ak.length k6,.slice a7 p.cats.length k7,.slice a8 p.conds.length k8,.slice a9 p.rules.length k9,.slice rF p.trans.length k10,.slice rE p.ay.length k11,.slice a12 p.ranges.length k12,.slice rD p.cons.length k13,.slice rC p.bg.length k14,.slice rB p.files.length k15,.slice rA p.asserts.length k16])<|an (bd (by kernel_rfl))<|ei<|an XM fun g2 w2 M2=>lb 0<|an ⟨rfl,rfl⟩ fun w3 M3=>lr (ι:=Nat) (fun k=>[(10,.int .i64 (k:Int))]) (fun k _=>k≤9∧ah (gC p) 9 0=ah (gC p) (9-k) k∧(1≤k→bV p=0)) (fun k=>9-k) 0 (an ⟨⟨rfl,trivial⟩,fun M=>⟨M,Nat.zero_le _,rfl,fun h=>absurd h (by decide)⟩⟩ ?_)
 rintro k w M ⟨hk,hinv,hc0⟩;refine an (fun h1=>?_) fun h1=>?_
 ·have hlt:k<9:=by simp at h1;omega
  refine lb 0<|an rfl<|cl<|an (MQ _ _ _ _ _ _ _ _ _ _ _ _ _ _ _ _ _ _ p (hp'.keep M.below) hok hd k) fun w4 M4=>an (fun h2 M=>⟨ri ?_,M.below⟩) fun h2=>an (by omega)<|bk (k+1) ⟨rfl,trivial⟩ (fun M=>⟨M,by omega,hinv.trans (aG hlt (by simpa using h2)),fun _=>?_⟩) (by dsimp only;omega)
  ·have h2:gC p k≠0:=by simpa using h2
   have e:ah (gC p) 9 0=gC p k:=by rw[hinv,aP hlt h2]
   rw[e,if_neg h2]
  ·by_cases e:k=0
   ·subst e;have h3:gC p 0=0:=by simpa using h2
    exact h3
   ·exact hc0 (by omega)
 have ek:k=9:=by simp at h1;omega
 subst ek;have hz:ah (gC p) 9 0=0:=by rw[hinv];rfl
 rw[if_pos hz];have hcl:=Gi (hc0 (by decide));clear hinv hz hc0 h1 hk;refine lr (ι:=Nat) (fun k=>[(20,.int .i64 (k:Int))]) (fun k _=>k≤8∧ah (iX p) 8 0=ah (iX p) (8-k) k) (fun k=>8-k) 0 (an ⟨⟨rfl,trivial⟩,fun M=>⟨M,Nat.zero_le _,rfl⟩⟩ ?_);clear M;rintro k w M ⟨hk,hinv⟩;refine an (fun h1=>?_) fun h1 M=>⟨ri (by rw[hinv,show k=8 by simp at h1;omega];rfl),M.below⟩
 have hlt:k<8:=by simp at h1;omega
 exact lb 0<|an rfl<|cl<|an (EF _ _ _ _ _ _ _ _ _ _ _ _ _ _ _ _ _ _ p (hp'.keep M.below) hok hd hcl k) fun w4 M4=>an (fun h2 M=>⟨ri (by rw[hinv,aP hlt (by simpa using h2)]),M.below⟩) fun h2=>an (by omega)<|bk (k+1) ⟨rfl,trivial⟩ (fun M=>⟨M,by omega,hinv.trans (aG hlt (by simpa using h2))⟩) (by dsimp only;omega)
theorem BI[DS]{Pn:List PanicEntry→World→Prop}{B N id:Nat}{w0 w:World}{l:Slots}{ops:Array Oper}{bs:List Bx}{rs:List Rw}{Kn:Slots→List Bx→List Rw→World→Prop}{Q:Exit→Act→World→Prop}{a:Act}(F:Fs a N l)(M:aQ B w0 w bs rs)(h:vc (some Pn) B w0 N l ops.toList 0 [] bs rs w Kn)
 (hP:∀ a' ch w',Fr a' N→(∀ q v,look q l=some v→ops.toList.all (fun o=>o.dst != some q)=true→At a' q v)→Pn ch w'→Q (.panic ch) a' w')
 (hQ:∀ a l' bs' rs' w',Fs a N l'→aQ B w0 w' bs' rs'→Kn l' bs' rs' w'→Q .normal a w'):(Code.region id ops false).wp Tryz.prog Q a w:=by
 refine wp_region_list (KD (ops:=ops) (fun i o hi=>by simpa using hi) (Inv.start F) M h (fun Pn' Zd a' ch w' ⟨m,n,I⟩ h=>?_) fun a l' bs' rs' w' F' M' hk=>hQ _ _ _ _ _ F' M' hk);obtain rfl:=Option.some.inj Zd;refine hP a' ch w' I.fr (fun q v hq hd=>I.base q v (fun e he hs=>?_) hq) h;have h1:=I.dst e he
 cases ho:ops[e.j]? with
 | none=>rw[ho] at h1;cases h1
 | some o=>
  rw[ho] at h1;have h2:o.dst=some e.s:=h1;have h3:=alb.1 hd o (by obtain⟨hi,rfl⟩:=Array.getElem?_eq_some_iff.1 ho;simp);rw[h2,hs] at h3;simp at h3
theorem AO{P:Program}{w:World}{g:Nat}{ty:TypeId}{v:Value}{dd:TypeDesc}(hu:P.underlying ty=some dd)(hd:(match dd with|.struct _|.array _ _=>false|_=>true)=true)(hc:w.cell? ⟨g,0,none⟩=some v):(loadVar ty ⟨g,0,none⟩).run P w=.ok v w:=by
 have hagg:(isAgg ty).run P w=.ok false w:=by
  unfold isAgg;rw[Sem.run_bind,run_underlying hu w];cases dd<;>simp_all
 simp only[loadVar,hagg,Sem.run_bind,Result.andThen_ok];simp[run_load,hc]
def LR(g:Nat):Deferred:={ target:=.fn (.func 48) #[],args:=#[.pointer (some ⟨g,0,none⟩)] }
def VeC(w0:World)(l:List Nat)(e:Ending)(w':World):Prop:=∃ v k,e=.returned (.tuple #[v,.int .i64 k])∧alc w0.heap.size w0 w'∧match wN l with
 | .ok n=>v=.int .i64 (n:Int)∧k=0
 | .error k'=>k=k'
theorem Dz{fn:Func}{tmps:Array Value}{R:Ending→World→Prop}{g:Nat}{B:Nat}{w0 w:World}{bs:List Bx}{rs:List Rw}(M:aQ B w0 w bs rs)(h:∀ w',aQ B w0 w' bs rs→∃ v,(results fn tmps).run Tryz.prog w'=.ok v w'∧R (.returned v) w'):Leaves Tryz.prog fn tmps R [LR g] .returning w:=by
 refine leaves_cons (f:=48) (args:=#[.pointer (some ⟨g,0,none⟩)]) (by simp) (by simp[go_sem]) ((Kf M).mono ?_);rintro e u' w' ⟨rfl,rfl,M'⟩;simpa[Leaves,settle] using h w' M'
theorem DA{fn:Func}{tmps:Array Value}{R:Ending→World→Prop}{g:Nat}{B:Nat}{w0 w:World}{bs:List Bx}{rs:List Rw}{k x0:Int}(hB:w0.heap.size≤B)(M:aQ B w0 w ((g,43,#[.int .i64 x0])::bs) rs)(h:∀ w',aQ B w0 w' ((g,43,#[.int .i64 k])::bs) rs→∃ v,(results fn tmps).run Tryz.prog w'=.ok v w'∧R (.returned v) w'):Leaves Tryz.prog fn tmps R [LR g] (.panicking (Gh k)) w:=by
 refine leaves_cons (f:=48) (args:=#[.pointer (some ⟨g,0,none⟩)]) (by simp) (by simp[go_sem]) ((Kg hB M).mono ?_);rintro e u' w' ⟨rfl,rfl,M'⟩;simpa[Leaves,settle] using h w' M'
theorem enD{f:FuncId}{fn:Func}{c:Code}{N:Nat}{vs:List Value}{R:Ending→World→Prop}{w:World}(hf:Tryz.prog.funcs[f]?=some fn)(hb:fn.body=some c)(hn:fn.ntmps=N)(hN:Nat.ble vs.length N=true)(h:∀ a,Fs a N (HZ 0 vs)→c.wp Tryz.prog (bodyPostD Tryz.prog fn R) a w):Calls Tryz.prog f vs.toArray w R:=by
 refine calls_of_wp_defers hf hb (h _ (Fs.args (args:=vs.toArray) ⟨rfl,?_⟩ (fun i v hv=>?_) rfl))
 ·have:=Nat.le_of_ble_eq_true hN;simp;omega
 ·have hi:i<vs.toArray.size:=(Array.getElem?_eq_some_iff.1 hv).1;show(vs.toArray++Array.replicate (fn.ntmps-vs.toArray.size) undef)[i]?=some v;rw[Array.getElem?_append_left hi];exact hv
theorem zJ{w0:World}{v:Value}{l:List Nat}(h:aq w0 v l)(hL:l.length≤aT):Calls Tryz.prog 18 #[v] w0 (VeC w0 l):=by
 refine enD (vs:=[v]) Tryz.func18 rfl Tryz.ntmps18 rfl fun a F=>?_
 refine wp_seq (jl (KP:=none) (J:=[]) (K:=fun e l bs rs w1=>e=.normal∧∃ g,l=[(3,.pointer (some ⟨g,0,none⟩)),(2,.int .i64 0),(0,v)]∧bs=[(g,43,#[.int .i64 0])]∧rs=[]) ?_ F (Mm.start w0) (fun _ h=>by cases h) fun e a l1 bs rs w F M ⟨he,g,hl1,hbs,Uj⟩=>?_)
 ·exact ei<|an XK fun g w1 M1=>⟨rfl,g,rfl,rfl,rfl⟩
 subst he hbs Uj hl1;refine wp_seq (FI rfl rfl rfl (F.g 3 rfl) ?_);have RD:a.defers=[]:=F.fr.defers;have hsz:a.tmps.size=9:=F.fr.size;have hat:∀ s x,look s [(3,Value.pointer (some ⟨g,0,none⟩)),(2,.int .i64 0),(0,v)]=some x→At a s x:=F.at_;clear F
 letI D:DS:=⟨[LR g]⟩
 have F2:@Fs D { a with defers:=LR g::a.defers } 9 [(3,Value.pointer (some ⟨g,0,none⟩)),(2,.int .i64 0),(0,v)]:=⟨⟨by show LR g::a.defers=[LR g];rw[RD],hsz⟩,hat⟩;refine wp_seq (BI (Pn:=fun ch w=>∃ k,ch=Gh k∧wN l=.error k∧aQ w0.heap.size w0 w [(g,43,#[.int .i64 0])] []) (Kn:=fun l' bs rs w=>look 3 l'=some (.pointer (some ⟨g,0,none⟩))∧(∃ n:Nat,wN l=.ok n∧look 2 l'=some (.int .i64 (n:Int)))∧bs=[(g,43,#[.int .i64 0])]∧rs=[]) F2 M ?_ (fun a' ch w' hf hk hp=>?_) fun a l' bs rs w' F M hk=>?_)
 ·have hb:=h.keep M.below;have ho:=Pv hb hL
  cases hf:cS l with
  | error k=>
   unfold Kt at ho;rw[hf] at ho;exact ZO (ho.mono fun e w' ⟨h1,h2⟩=>⟨_,h1,k,rfl,by unfold wN;rw[hf],M.keep h2⟩)
  | ok y=>
   obtain⟨n,r⟩:=y;unfold Kt at ho;rw[hf] at ho;refine Uy (R:=fun x w'=>∃ R wb,x=.pointer (some ⟨R,0,none⟩)∧alc w.heap.size w wb∧w.heap.size≤wb.heap.size∧UG wb w' R (n:Int) [] [] r) (ho.mono fun e w' ⟨R,wb,h1,_,h3,h4,h5⟩=>⟨_,h1,R,wb,rfl,h3,h4,h5⟩) ?_;rintro _ w2 ⟨R,wb,rfl,kX,hle,u,hs,hbu,MR⟩;have hb2:alc w.heap.size w w2:=kX.trans (MR.below.mono hle);have hc:w2.cell? ⟨R,1,none⟩=some (.int .i64 (n:Int)):=(MR.b 0 rfl).cell 1;exact⟨_,_,M.keep hb2,lc (x:=.int .i64 (n:Int))<|an hc<|lb 0<|an ⟨rfl,rfl⟩ fun w3 M3=>⟨rfl,⟨n,by unfold wN;rw[hf],rfl⟩,rfl,rfl⟩⟩
 ·obtain⟨k,rfl,hv,M⟩:=hp;have h3':=hk 3 _ rfl rfl;show Leaves Tryz.prog Tryz.f18 a'.tmps (VeC w0 l) a'.defers (.panicking (Gh k)) w';rw[show a'.defers=[LR g] from hf.defers];refine DA (Nat.le_refl _) M fun w2 M2=>⟨.tuple #[a'.tmps.getD 2 undef,.int .i64 k],?_,_,_,rfl,M2.below,by rw[hv]⟩
  have Ul:a'.tmps.getD 3 undef=.pointer (some ⟨g,0,none⟩):=h3'.ev;rw[ald] at Ul;simp[results,show Tryz.f18.results=#[.tmp 2,.cell 3 43] from rfl,Ul,asAddr,AO X2 rfl ((M2.b 0 rfl).cell 0)]
 ·obtain⟨h3',⟨n,hv,h2'⟩,rfl,rfl⟩:=hk;refine wp_ret ?_;show Leaves Tryz.prog Tryz.f18 a.tmps (VeC w0 l) a.defers .returning w';rw[show a.defers=[LR g] from F.fr.defers];refine Dz M fun w2 M2=>⟨.tuple #[.int .i64 (n:Int),.int .i64 0],?_,_,_,rfl,M2.below,by rw[hv];exact⟨rfl,rfl⟩⟩
  have Ul:a.tmps.getD 3 undef=.pointer (some ⟨g,0,none⟩):=(F.at_ 3 _ h3').ev;have hg2:a.tmps.getD 2 undef=.int .i64 (n:Int):=(F.at_ 2 _ h2').ev;rw[ald] at Ul hg2;simp[results,show Tryz.f18.results=#[.tmp 2,.cell 3 43] from rfl,Ul,hg2,asAddr,AO X2 rfl ((M2.b 0 rfl).cell 0)]
theorem aQ.Tc{B:Nat}{w0 w w':World}{bs bs':List Bx}{rs rs':List Rw}(M:aQ B w0 w bs rs)(N:aQ w.heap.size w w' bs' rs'):aQ B w0 w' (bs'++bs) (rs++rs'):=by
 have hb:=N.below;have M':=M.keep hb;have R:=M.vV hb N.pU;refine⟨M'.below,M'.le,M'.old,fun b h=>?_,fun b h=>?_,?_,R.row,fun r hr b h=>?_,R.yZ⟩
 ·rcases ale.1 h with h|h
  ·exact N.box b h
  ·exact M'.box b h
 ·rcases ale.1 h with h|h
  ·exact Nat.le_trans M.big (N.lo b h)
  ·exact M'.lo b h
 ·rw[List.map_append];refine List.nodup_append.2 ⟨N.nd,M.nd,?_⟩;intro x hx y hy e;obtain⟨b,hb1,rfl⟩:=List.mem_map.1 hx;obtain⟨c,hc1,rfl⟩:=List.mem_map.1 hy;have h1:=N.lo b hb1;have h2:=(M.box c hc1).lt;omega
 ·rcases ale.1 h with h|h
  ·rcases ale.1 hr with hr|hr
   ·intro e;have h1:=((M.row r hr).lt _ e).2;have h2:=N.lo b h;omega
   ·exact N.far r hr b h
  ·exact R.far r hr b h
def q7:aD:=⟨[],[],[],[],[],[],[],[],[],[],[],[],[],[],[],[],[]⟩
theorem yj{α:Type}{k:Nat}{R:List Value→α→Prop}{w:World}:aj k R w (.slice none 0 0) []:=⟨[],rfl,(fun _ h=>by cases h),SliceAt.nil _ _,fun i x y h=>by simp at h⟩
theorem Ev(w:World):aA w (.slice none 0 0) (.slice none 0 0) (.slice none 0 0) (.slice none 0 0) (.slice none 0 0) (.slice none 0 0) (.slice none 0 0) (.slice none 0 0) (.slice none 0 0) (.slice none 0 0) (.slice none 0 0) (.slice none 0 0) (.slice none 0 0) (.slice none 0 0) (.slice none 0 0) (.slice none 0 0) (.slice none 0 0) q7:=
 ⟨yj,yj,SliceAt.nil _ _,SliceAt.nil _ _,SliceAt.nil _ _,SliceAt.nil _ _,SliceAt.nil _ _,SliceAt.nil _ _,yj,SliceAt.nil _ _,SliceAt.nil _ _,SliceAt.nil _ _,SliceAt.nil _ _,yj,SliceAt.nil _ _,SliceAt.nil _ _,SliceAt.nil _ _⟩
def ReC(w0:World)(l:List Nat)(e:Ending)(w':World):Prop:=∃ (p:aD) (c0 c1 c2 c3 c4 c5 c6 c7 c8 c9 c10 c11 c12 c13 c14 c15 c16 v:Value) (k:Int),e=.returned (.tuple #[.agg #[c0,c1,c2,c3,c4,c5,c6,c7,c8,c9,c10,c11,c12,c13,c14,c15,c16],v,.int .i64 k])∧(∃ T,RowsIn w0.heap.size w' T∧∀ B w,RowsIn B w T→aA w c0 c1 c2 c3 c4 c5 c6 c7 c8 c9 c10 c11 c12 c13 c14 c15 c16 p)∧alc w0.heap.size w0 w'∧match nW aZ l with
 | .ok (q,n)=>p=q∧v=.int .i64 (n:Int)∧k=0
 | .error k'=>k=k'
def NS(w0:World)(l:List Nat)(g2 g4:Nat)(ch:List PanicEntry)(w:World):Prop:=∃ (k:Int) (p:aD) (c0 c1 c2 c3 c4 c5 c6 c7 c8 c9 c10 c11 c12 c13 c14 c15 c16:Value) (T:List Rw),ch=Gh k∧nW aZ l=.error k∧(∀ B w,RowsIn B w T→aA w c0 c1 c2 c3 c4 c5 c6 c7 c8 c9 c10 c11 c12 c13 c14 c15 c16 p)∧aQ w0.heap.size w0 w [(g4,43,#[.int .i64 0]),(g2,39,#[c0,c1,c2,c3,c4,c5,c6,c7,c8,c9,c10,c11,c12,c13,c14,c15,c16])] T
theorem El[DS]{w0 w:World}{l:List Nat}{g2 g4:Nat}{a:Act}{ch:List PanicEntry}(hd:a.defers=[LR g4])(h2:At a 2 (.pointer (some ⟨g2,0,none⟩)))(h4:At a 4 (.pointer (some ⟨g4,0,none⟩)))(h:NS w0 l g2 g4 ch w):bodyPostD Tryz.prog Tryz.f41 (ReC w0 l) (.panic ch) a w:=by
 obtain⟨k,p,c0,c1,c2,c3,c4,c5,c6,c7,c8,c9,c10,c11,c12,c13,c14,c15,c16,T,rfl,EU,hT,M⟩:=h;show Leaves Tryz.prog Tryz.f41 a.tmps (ReC w0 l) a.defers (.panicking (Gh k)) w;rw[hd];refine DA (Nat.le_refl _) M fun w2 M2=>⟨.tuple #[.agg #[c0,c1,c2,c3,c4,c5,c6,c7,c8,c9,c10,c11,c12,c13,c14,c15,c16],a.tmps.getD 3 undef,.int .i64 k],?_,p,c0,c1,c2,c3,c4,c5,c6,c7,c8,c9,c10,c11,c12,c13,c14,c15,c16,_,k,rfl,⟨T,M2.pU,hT⟩,M2.below,by rw[EU]⟩
 have hg2:a.tmps.getD 2 undef=.pointer (some ⟨g2,0,none⟩):=h2.ev;have Y0:a.tmps.getD 4 undef=.pointer (some ⟨g4,0,none⟩):=h4.ev;rw[ald] at hg2 Y0;simp[results,show Tryz.f41.results=#[.cell 2 39,.tmp 3,.cell 4 43] from rfl,hg2,Y0,asAddr,AO X2 rfl ((M2.b 0 rfl).cell 0),run_loadVar_row w2 g2 39 39 _ (0,0) _ (M2.b 1 rfl) OC rfl (by kernel_rfl)]
theorem O3{w0:World}{v:Value}{l:List Nat}(h:aq w0 v l)(hL:l.length≤aT)(hrl:∀ n r,cS l=.ok (n,r)→r.length≤aT)(hM:∀ n r p r',cS l=.ok (n,r)→wY n r=.ok (p,r')→p.Ok∧p.Md):Calls Tryz.prog 41 #[v] w0 (ReC w0 l):=by
 refine enD (vs:=[v]) Tryz.func41 rfl Tryz.ntmps41 rfl fun a F=>?_
 refine wp_seq (jl (KP:=none) (J:=[]) (K:=fun e l' bs rs w1=>e=.normal∧∃ g2 g4,l'=[(4,.pointer (some ⟨g4,0,none⟩)),(3,.int .i64 0),(2,.pointer (some ⟨g2,0,none⟩)),(0,v)]∧bs=[(g4,43,#[.int .i64 0]),(g2,39,#[.slice none 0 0,.slice none 0 0,.slice none 0 0,.slice none 0 0,.slice none 0 0,.slice none 0 0,.slice none 0 0,.slice none 0 0,.slice none 0 0,.slice none 0 0,.slice none 0 0,.slice none 0 0,.slice none 0 0,.slice none 0 0,.slice none 0 0,.slice none 0 0,.slice none 0 0])]∧rs=[]) ?_ F (Mm.start w0) (fun _ h=>by cases h) fun e a l1 bs rs w F M ⟨he,g2,g4,hl1,hbs,Uj⟩=>?_)
 ·exact ei<|an Ac fun g2 w1 M1=>ei<|an XK fun g4 w2 M2=>⟨rfl,g2,g4,rfl,rfl,rfl⟩
 subst he hbs Uj hl1;refine wp_seq (FI rfl rfl rfl (F.g 4 rfl) ?_);have RD:a.defers=[]:=F.fr.defers;have hsz:a.tmps.size=25:=F.fr.size;have hat:∀ s x,look s [(4,Value.pointer (some ⟨g4,0,none⟩)),(3,.int .i64 0),(2,.pointer (some ⟨g2,0,none⟩)),(0,v)]=some x→At a s x:=F.at_;clear F
 letI D:DS:=⟨[LR g4]⟩
 have F2:@Fs D { a with defers:=LR g4::a.defers } 25 [(4,Value.pointer (some ⟨g4,0,none⟩)),(3,.int .i64 0),(2,.pointer (some ⟨g2,0,none⟩)),(0,v)]:=⟨⟨by show LR g4::a.defers=[LR g4];rw[RD],hsz⟩,hat⟩;have hdE:∀ k,cS l=.error k→nW aZ l=.error k:=fun k hk=>by unfold nW;rw[hk]
 refine wp_seq (BI (Pn:=NS w0 l g2 g4) (Kn:=fun l' bs rs w2=>∃ n r R,cS l=.ok (n,r)∧l'=(5,.pointer (some ⟨R,0,none⟩))::(7,.pointer (some ⟨R,0,none⟩))::(6,v)::[(4,.pointer (some ⟨g4,0,none⟩)),(3,.int .i64 0),(2,.pointer (some ⟨g2,0,none⟩)),(0,v)]∧bs=[(g4,43,#[.int .i64 0]),(g2,39,#[.slice none 0 0,.slice none 0 0,.slice none 0 0,.slice none 0 0,.slice none 0 0,.slice none 0 0,.slice none 0 0,.slice none 0 0,.slice none 0 0,.slice none 0 0,.slice none 0 0,.slice none 0 0,.slice none 0 0,.slice none 0 0,.slice none 0 0,.slice none 0 0,.slice none 0 0])]∧rs=[]∧∃ wb,alc w.heap.size w wb∧w.heap.size≤wb.heap.size∧UG wb w2 R (n:Int) [] [] r) F2 M ?_ (fun a' ch w' hf hk hp=>El hf.defers (hk 2 _ rfl rfl) (hk 4 _ rfl rfl) hp) fun a l' bs rs w2 F M2 hk=>?_)
 ·have hb:=h.keep M.below;have ho:=Pv hb hL
  cases hf:cS l with
  | error k=>
   unfold Kt at ho;rw[hf] at ho;exact ZO (ho.mono fun e w' ⟨h1,h2⟩=>⟨_,h1,k,q7,_,_,_,_,_,_,_,_,_,_,_,_,_,_,_,_,_,[],rfl,hdE k hf,fun _ w _=>Ev w,M.keep h2⟩)
  | ok y=>
   obtain⟨n,r⟩:=y;unfold Kt at ho;rw[hf] at ho;refine Uy (R:=fun x w'=>∃ R wb,x=.pointer (some ⟨R,0,none⟩)∧alc w.heap.size w wb∧w.heap.size≤wb.heap.size∧UG wb w' R (n:Int) [] [] r) (ho.mono fun e w' ⟨R,wb,h1,_,h3,h4,h5⟩=>⟨_,h1,R,wb,rfl,h3,h4,h5⟩) ?_;rintro _ w2 ⟨R,wb,rfl,kX,hle,hR⟩;have hb2:alc w.heap.size w w2:=by obtain⟨u,_,_,MR⟩:=hR;exact kX.trans (MR.below.mono hle)
   exact⟨_,_,M.keep hb2,n,r,R,rfl,rfl,rfl,rfl,wb,kX,hle,hR⟩
 obtain⟨n,r,R,hfm,rfl,rfl,rfl,wb,kX,hle,u,hs,hbu,MR⟩:=hk;have acS:∀ {w3:World} {bs':List Bx} {rs':List Rw},aQ wb.heap.size wb w3 bs' rs'→aQ w0.heap.size w0 w3 (bs'++[(g4,43,#[.int .i64 0]),(g2,39,#[.slice none 0 0,.slice none 0 0,.slice none 0 0,.slice none 0 0,.slice none 0 0,.slice none 0 0,.slice none 0 0,.slice none 0 0,.slice none 0 0,.slice none 0 0,.slice none 0 0,.slice none 0 0,.slice none 0 0,.slice none 0 0,.slice none 0 0,.slice none 0 0,.slice none 0 0])]) ([]++rs'):=fun N=>M.Tc (((Mm.start w).keep kX).Ri N)
 refine wp_seq (BI (Pn:=NS w0 l g2 g4) (Kn:=fun l' bs rs w3=>∃ (p:aD) (r':List Nat) (u':Value) (T:List Rw) (c0 c1 c2 c3 c4 c5 c6 c7 c8 c9 c10 c11 c12 c13 c14 c15 c16:Value),wY n r=.ok (p,r')∧jP u' r'∧l'=(9,.agg #[c0,c1,c2,c3,c4,c5,c6,c7,c8,c9,c10,c11,c12,c13,c14,c15,c16])::(8,.pointer (some ⟨R,0,none⟩))::(5,.pointer (some ⟨R,0,none⟩))::(7,.pointer (some ⟨R,0,none⟩))::(6,v)::[(4,.pointer (some ⟨g4,0,none⟩)),(3,.int .i64 0),(2,.pointer (some ⟨g2,0,none⟩)),(0,v)]∧bs=[cQ R u' (n:Int),(g4,43,#[.int .i64 0]),(g2,39,#[c0,c1,c2,c3,c4,c5,c6,c7,c8,c9,c10,c11,c12,c13,c14,c15,c16])]∧T=rs∧∀ B w,RowsIn B w T→aA w c0 c1 c2 c3 c4 c5 c6 c7 c8 c9 c10 c11 c12 c13 c14 c15 c16 p) F M2 ?_ (fun a' ch w' hf hk hp=>El hf.defers (hk 2 _ rfl rfl) (hk 4 _ rfl rfl) hp) fun a l' bs rs w3 F M3 hk=>?_)
 ·have ho:=O7 (bs:=[]) (rs:=[]) MR hs hbu (hrl n r hfm)
  cases hp:wY n r with
  | error k=>
   unfold eJ at ho;rw[hp] at ho;exact ZO (ho.mono fun e w' ⟨h1,h2⟩=>⟨_,h1,k,q7,_,_,_,_,_,_,_,_,_,_,_,_,_,_,_,_,_,[],rfl,by unfold nW;rw[hfm];simp only[hp],fun _ w _=>Ev w,M.keep (kX.trans (h2.mono hle))⟩)
  | ok y=>
   obtain⟨p,r'⟩:=y;unfold eJ at ho;rw[hp] at ho;refine Uy (R:=fun x w'=>∃ T,Yd T x p∧UG wb w' R (n:Int) [] ([]++T) r') (ho.mono fun e w' ⟨v,T,h1,h2,h3⟩=>⟨v,h1,T,h2,h3⟩) ?_;rintro _ w3 ⟨T,⟨c0,c1,c2,c3,c4,c5,c6,c7,c8,c9,c10,c11,c12,c13,c14,c15,c16,rfl,hT⟩,u',hs',agv,MR'⟩;have M3:=acS MR';have oF:=hT _ _ MR'.pU;have hpc:=oF;obtain⟨_,_,_,_,_,_,_,_,_,_,_,_,_,_,_,_,_,_,_,_,_,_,_,_,_,_,_,_,_,_,_,_,_,_,rfl,rfl,rfl,rfl,rfl,rfl,rfl,rfl,rfl,rfl,rfl,rfl,rfl,rfl,rfl,rfl,rfl⟩:=hpc.open;exact⟨_,_,M3,lb 2<|an ⟨rfl,rfl⟩ fun w4 M4=>⟨p,r',u',T,_,_,_,_,_,_,_,_,_,_,_,_,_,_,_,_,_,rfl,hs',rfl,rfl,rfl,hT⟩⟩
 obtain⟨p,r',u',T,c0,c1,c2,c3,c4,c5,c6,c7,c8,c9,c10,c11,c12,c13,c14,c15,c16,hpp,⟨gu,ou,cu,rfl,Um⟩,rfl,rfl,rfl,hT⟩:=hk;have EU:nW aZ l=if r'=[] then (if aZ p=0 then .ok (p,n) else .error (aZ p)) else .error 6:=by unfold nW;rw[hfm];simp only[hpp]
 have pan:∀ {k:Int} {w':World} {u9:Value},nW aZ l=.error k→aQ w0.heap.size w0 w' [cQ R u9 (n:Int),(g4,43,#[.int .i64 0]),(g2,39,#[c0,c1,c2,c3,c4,c5,c6,c7,c8,c9,c10,c11,c12,c13,c14,c15,c16])] T→NS w0 l g2 g4 (Gh k) w':=fun hk M=>⟨_,p,_,_,_,_,_,_,_,_,_,_,_,_,_,_,_,_,_,T,rfl,hk,hT,M.only (.cons _ (.refl _)) (.refl _)⟩
 refine wp_seq (BI (Pn:=NS w0 l g2 g4) (Kn:=fun l' bs rs w4=>r'=[]∧l'=(16,.tuple #[])::(15,.bool (decide ((r'.length:Int)=0)))::(14,.int .i64 (r'.length:Int))::(13,.slice (some ⟨gu,ou,none⟩) r'.length cu)::(12,.pointer (some ⟨R,0,none⟩))::(11,.pointer (some ⟨R,0,none⟩))::(10,.pointer (some ⟨R,0,none⟩))::(9,.agg #[c0,c1,c2,c3,c4,c5,c6,c7,c8,c9,c10,c11,c12,c13,c14,c15,c16])::(8,.pointer (some ⟨R,0,none⟩))::(5,.pointer (some ⟨R,0,none⟩))::(7,.pointer (some ⟨R,0,none⟩))::(6,v)::[(4,.pointer (some ⟨g4,0,none⟩)),(3,.int .i64 0),(2,.pointer (some ⟨g2,0,none⟩)),(0,v)]∧bs=[cQ R (.slice (some ⟨gu,ou,none⟩) r'.length cu) (n:Int),(g4,43,#[.int .i64 0]),(g2,39,#[c0,c1,c2,c3,c4,c5,c6,c7,c8,c9,c10,c11,c12,c13,c14,c15,c16])]∧T=rs) F M3 ?_ (fun a' ch w' hf hk hp=>El hf.defers (hk 2 _ rfl rfl) (hk 4 _ rfl rfl) hp) fun a l' bs rs w4 F M4 hk=>?_)
 ·refine lb 0<|an rfl ?_;by_cases hr0:r'=[]
  ·exact WW (decide_eq_true (by rw[hr0];rfl)) M3 fun w4 M4=>⟨hr0,rfl,rfl,rfl⟩
  ·exact RJ (decide_eq_false (by have:=List.length_pos_iff.2 hr0;omega)) fun w' hb=>pan (by rw[EU,if_neg hr0]) (M3.keep hb)
 obtain⟨hr0,rfl,rfl,rfl⟩:=hk;refine wp_seq (BI (Pn:=NS w0 l g2 g4) (Kn:=fun l' bs rs w5=>aZ p=0∧l'=(19,.tuple #[])::(18,.int .i64 0)::(17,.agg #[c0,c1,c2,c3,c4,c5,c6,c7,c8,c9,c10,c11,c12,c13,c14,c15,c16])::(16,.tuple #[])::(15,.bool (decide ((r'.length:Int)=0)))::(14,.int .i64 (r'.length:Int))::(13,.slice (some ⟨gu,ou,none⟩) r'.length cu)::(12,.pointer (some ⟨R,0,none⟩))::(11,.pointer (some ⟨R,0,none⟩))::(10,.pointer (some ⟨R,0,none⟩))::(9,.agg #[c0,c1,c2,c3,c4,c5,c6,c7,c8,c9,c10,c11,c12,c13,c14,c15,c16])::(8,.pointer (some ⟨R,0,none⟩))::(5,.pointer (some ⟨R,0,none⟩))::(7,.pointer (some ⟨R,0,none⟩))::(6,v)::[(4,.pointer (some ⟨g4,0,none⟩)),(3,.int .i64 0),(2,.pointer (some ⟨g2,0,none⟩)),(0,v)]∧bs=[cQ R (.slice (some ⟨gu,ou,none⟩) r'.length cu) (n:Int),(g4,43,#[.int .i64 0]),(g2,39,#[c0,c1,c2,c3,c4,c5,c6,c7,c8,c9,c10,c11,c12,c13,c14,c15,c16])]∧T=rs) F M4 ?_ (fun a' ch w' hf hk hp=>El hf.defers (hk 2 _ rfl rfl) (hk 4 _ rfl rfl) hp) fun a l' bs rs w5 F M5 hk=>?_)
 ·have hl:=AR w4 _ _ _ _ _ _ _ _ _ _ _ _ _ _ _ _ _ p (hT _ _ M4.pU) (hM n r p r' hfm hpp).1 (hM n r p r' hfm hpp).2;generalize yE:aZ p=k at hl;refine lb 2<|an rfl<|cl<|an hl fun w5 M5=>?_
  by_cases hk0:k=0
  ·subst hk0;exact ZQ M5 fun w6 M6=>⟨by first|exact yE|rfl,rfl,rfl,rfl⟩
  ·exact XE hk0 fun w' hb=>pan (by rw[EU,if_pos hr0,if_neg (by rw[yE];exact hk0),yE]) (M5.keep hb)
 obtain⟨yE,rfl,rfl,rfl⟩:=hk;have hpc:=hT _ _ M5.pU;obtain⟨a0,a1,a2,a3,a4,a5,a6,a7,a8,a9,rF,rE,a12,rD,rC,rB,rA,k0,k1,k2,k3,k4,k5,k6,k7,k8,k9,k10,k11,k12,k13,k14,k15,k16,rfl,rfl,rfl,rfl,rfl,rfl,rfl,rfl,rfl,rfl,rfl,rfl,rfl,rfl,rfl,rfl,rfl⟩:=hpc.open;refine wp_seq (jl (KP:=none) (J:=[]) (K:=fun e l' bs rs w6=>e=.normal∧look 2 l'=some (.pointer (some ⟨g2,0,none⟩))∧look 3 l'=some (.int .i64 (n:Int))∧look 4 l'=some (.pointer (some ⟨g4,0,none⟩))∧aQ w0.heap.size w0 w6 [(g4,43,#[.int .i64 0]),(g2,39,#[.slice a0 p.classes.length k0,.slice a1 p.types.length k1,.slice a2 p.attrs.length k2,.slice a3 p.roles.length k3,.slice a4 p.users.length k4,.slice a5 p.bools.length k5,.slice a6 p.ak.length k6,.slice a7 p.cats.length k7,.slice a8 p.conds.length k8,.slice a9 p.rules.length k9,.slice rF p.trans.length k10,.slice rE p.ay.length k11,.slice a12 p.ranges.length k12,.slice rD p.cons.length k13,.slice rC p.bg.length k14,.slice rB p.files.length k15,.slice rA p.asserts.length k16])] T) ?_ F M5 (fun _ h=>by cases h) fun e a l' bs rs w6 F M6 ⟨he,h2,h3,h4,M7⟩=>?_)
 ·exact Dl [0,1,2,3,4] (.step 5 (.step 6 (.step 7 .done))) [cQ R (.slice (some ⟨gu,ou,none⟩) r'.length cu) (n:Int),(g2,39,#[.slice a0 p.classes.length k0,.slice a1 p.types.length k1,.slice a2 p.attrs.length k2,.slice a3 p.roles.length k3,.slice a4 p.users.length k4,.slice a5 p.bools.length k5,.slice a6 p.ak.length k6,.slice a7 p.cats.length k7,.slice a8 p.conds.length k8,.slice a9 p.rules.length k9,.slice rF p.trans.length k10,.slice rE p.ay.length k11,.slice a12 p.ranges.length k12,.slice rD p.cons.length k13,.slice rC p.bg.length k14,.slice rB p.files.length k15,.slice rA p.asserts.length k16])] (by kernel_rfl) (by simp)<|lb 1<|an rfl<|lb 0<|an rfl<|fun w6 zx M6=>lb 2<|an ⟨rfl,rfl⟩ fun w7 M7=>an (by simp)<|an (by simp)<|lb 1<|an ⟨rfl,rfl⟩ fun w8 M8=>an (by simp)<|⟨rfl,rfl,rfl,rfl,M8.only (.cons _ (.refl _)) (.refl _)⟩
 subst he;refine wp_ret ?_;show Leaves Tryz.prog Tryz.f41 a.tmps (ReC w0 l) a.defers .returning w6;rw[show a.defers=[LR g4] from F.fr.defers];refine Dz M7 fun w8 M8=>⟨.tuple #[.agg #[.slice a0 p.classes.length k0,.slice a1 p.types.length k1,.slice a2 p.attrs.length k2,.slice a3 p.roles.length k3,.slice a4 p.users.length k4,.slice a5 p.bools.length k5,.slice a6 p.ak.length k6,.slice a7 p.cats.length k7,.slice a8 p.conds.length k8,.slice a9 p.rules.length k9,.slice rF p.trans.length k10,.slice rE p.ay.length k11,.slice a12 p.ranges.length k12,.slice rD p.cons.length k13,.slice rC p.bg.length k14,.slice rB p.files.length k15,.slice rA p.asserts.length k16],.int .i64 (n:Int),.int .i64 0],?_,p,_,_,_,_,_,_,_,_,_,_,_,_,_,_,_,_,_,_,0,rfl,⟨T,M8.pU,hT⟩,M8.below,by rw[EU,if_pos hr0,if_pos yE];exact⟨rfl,rfl,rfl⟩⟩
 have hg2:a.tmps.getD 2 undef=.pointer (some ⟨g2,0,none⟩):=(F.at_ 2 _ h2).ev;have Ul:a.tmps.getD 3 undef=.int .i64 (n:Int):=(F.at_ 3 _ h3).ev;have Y0:a.tmps.getD 4 undef=.pointer (some ⟨g4,0,none⟩):=(F.at_ 4 _ h4).ev;rw[ald] at hg2 Ul Y0;simp[results,show Tryz.f41.results=#[.cell 2 39,.tmp 3,.cell 4 43] from rfl,hg2,Ul,Y0,asAddr,AO X2 rfl ((M8.b 0 rfl).cell 0),run_loadVar_row w8 g2 39 39 _ (0,0) _ (M8.b 1 rfl) OC rfl (by kernel_rfl)]
def NZ{α:Type}(p:Ps α):Prop:=∀ l k,p l=.error k→k≠0
theorem bw{α β:Type}{p:Ps α}{f:α→Ps β}(hp:NZ p)(hf:∀ x,NZ (f x)):NZ (pb p f):=fun l k h=>by
 unfold pb at h;split at h
 ·exact hf _ _ _ h
 ·rename_i e he;injection h with h;subst h;exact hp _ _ he
theorem gj{α:Type}(x:α):NZ (pp x):=fun l k h=>by cases h
theorem Dv{α:Type}{e:Int}(he:e≠0):NZ (pe e:Ps α):=fun l k h=>by injection h with h;subst h;exact he
theorem rN{α:Type}{c:Prop}[Decidable c]{p q:Ps α}(hp:NZ p)(hq:NZ q):NZ (if c then p else q):=by split<;>assumption
theorem EA:NZ sL:=fun l k h=>by
 unfold sL at h;split at h
 ·cases h
 ·injection h with h;subst h;assumption
theorem PA:NZ Ss:=bw EA fun _=>rN (gj _) (Dv (by decide))
theorem gF:NZ lg:=bw PA fun _=>gj _
theorem Lb:NZ wF:=fun l k h=>by
 unfold wF at h;split at h
 ·split at h
  ·cases h
  ·injection h with h;subst h;decide
 ·injection h with h;subst h;assumption
theorem AL:NZ zU:=bw PA fun _=>rN (gj _) (Dv (by decide))
theorem j5:NZ iV:=fun l k h=>by
 unfold iV at h;split at h
 ·cases h
 ·injection h with h;subst h;assumption
theorem mM:NZ qN:=fun l k h=>by
 unfold qN at h;split at h
 ·cases h
 ·injection h with h;subst h;assumption
theorem Jj:NZ Ja:=bw gF fun _=>bw EA fun _=>gj _
theorem Ji:NZ I9:=bw Jj fun _=>bw Jj fun _=>gj _
theorem Pz:NZ MA:=bw gF fun _=>bw gF fun _=>bw gF fun _=>bw Ji fun _=>gj _
theorem Py{α:Type}{p:Ps α}(hp:NZ p):∀ n,NZ (Af n p)
 | 0=>gj _
 | n+1=>bw hp fun _=>bw (Py hp n) fun _=>gj _
theorem jr{α:Type}{p:Ps α}(hp:NZ p):NZ (fR p):=bw PA fun n=>Py hp n
theorem BL:∀ k,NZ (ni k)
 | 0=>bw gF fun _=>rN (Dv (by decide)) (Dv (by decide))
 | k+1=>by
  unfold ni;refine bw gF fun _=>rN (rN (bw gF fun _=>gj _) (rN (bw gF fun _=>bw gF fun _=>bw gF fun _=>gj _) (rN (bw gF fun _=>bw mM fun _=>gj _) (rN (bw (BL k) fun _=>gj _) (bw (BL k) fun _=>bw (BL k) fun _=>gj _))))) (Dv (by decide))
theorem Vs:NZ Jd:=bw j5 fun _=>bw (jr j5) fun _=>gj _
theorem Vi(v:Nat):NZ (IY v):=bw j5 fun _=>bw (jr j5) fun _=>bw (rN AL (gj _)) fun _=>gj _
theorem Vu:NZ Jf:=bw j5 fun _=>bw mM fun _=>gj _
theorem Vn:NZ I8:=bw j5 fun _=>bw mM fun _=>bw mM fun _=>gj _
theorem Vh:NZ IX:=bw j5 fun _=>bw mM fun _=>bw Jj fun _=>bw Ji fun _=>gj _
theorem Vt:NZ Je:=bw j5 fun _=>bw AL fun _=>gj _
theorem Vl:NZ I6:=bw gF fun _=>bw mM fun _=>bw mM fun _=>bw AL fun _=>bw gF fun _=>bw gF fun _=>bw Lb fun _=>gj _
theorem Vj(v:Nat):NZ (IZ v):=bw gF fun _=>bw mM fun _=>bw mM fun _=>bw gF fun _=>bw (rN j5 (gj _)) fun _=>bw gF fun _=>bw Lb fun _=>gj _
theorem Vm:NZ I7:=bw mM fun _=>bw mM fun _=>bw gF fun _=>bw gF fun _=>gj _
theorem Vo:NZ I_:=bw mM fun _=>bw mM fun _=>bw gF fun _=>bw Ji fun _=>gj _
theorem Vr:NZ Jc:=bw gF fun _=>bw gF fun _=>bw AL fun _=>bw (BL 12) fun _=>gj _
theorem Vk:NZ I5:=bw j5 fun _=>bw Pz fun _=>gj _
theorem Vq:NZ Jb:=bw j5 fun _=>bw gF fun _=>bw Pz fun _=>gj _
theorem Vv:NZ Jg:=bw j5 fun _=>bw gF fun _=>bw mM fun _=>bw mM fun _=>gj _
theorem Vp(v:Nat):NZ (wY v):=
 bw (jr Vs) fun _=>bw (jr (Vi v)) fun _=>bw (jr Vu) fun _=>bw (jr Vn) fun _=>bw (jr Vh) fun _=>bw (jr Vt) fun _=>
 bw (jr j5) fun _=>bw (jr j5) fun _=>bw (jr (BL 12)) fun _=>bw (jr Vl) fun _=>bw (jr (Vj v)) fun _=>bw (jr Vm) fun _=>
 bw (rN (jr Vo) (gj _)) fun _=>bw (jr Vr) fun _=>bw (jr Vk) fun _=>
 bw (rN (jr Vq) (gj _)) fun _=>bw (rN (jr Vv) (gj _)) fun _=>gj _
theorem QM{l:List Nat}{k:Int}(h:cS l=.error k):k≠0:=by
 unfold cS at h;split at h
 ·unfold zW at h;split at h
  ·injection h with h;subst h;decide
  ·split at h
   ·exact(bw EA fun _=>rN (gj _) (Dv (by decide))) _ _ h
   ·injection h with h;subst h;decide
 ·injection h with h;subst h;assumption
theorem Rh{l:List Nat}{k:Int}(h:nW aZ l=.error k):k≠0:=by
 unfold nW at h;split at h
 ·rename_i e he;injection h with h;subst h;exact QM he
 ·split at h
  ·rename_i e he;injection h with h;subst h;exact Vp _ _ _ he
  ·split at h
   ·split at h
    ·cases h
    ·injection h with h;subst h;assumption
   ·injection h with h;subst h;decide
def DeC(w0:World)(l:List Nat)(e:Ending)(w':World):Prop:=∃ (p:aD) (c0 c1 c2 c3 c4 c5 c6 c7 c8 c9 c10 c11 c12 c13 c14 c15 c16:Value) (n k:Int),e=.returned (.tuple #[.agg #[c0,c1,c2,c3,c4,c5,c6,c7,c8,c9,c10,c11,c12,c13,c14,c15,c16],.int .i64 n,.int .i64 k])∧(∃ T,RowsIn w0.heap.size w' T∧∀ B w,RowsIn B w T→aA w c0 c1 c2 c3 c4 c5 c6 c7 c8 c9 c10 c11 c12 c13 c14 c15 c16 p)∧alc w0.heap.size w0 w'∧match nW aZ l with
 | .ok (q,m)=>p=q∧n=(m:Int)∧k=0
 | .error k'=>p=q7∧n=0∧k=k'
theorem xB{w0:World}{v:Value}{l:List Nat}(h:aq w0 v l)(hL:l.length≤aT)(hrl:∀ n r,cS l=.ok (n,r)→r.length≤aT)(hM:∀ n r p r',cS l=.ok (n,r)→wY n r=.ok (p,r')→p.Ok∧p.Md):Calls Tryz.prog 16 #[v] w0 (DeC w0 l):=by
 refine XY [] (fn:=Tryz.f16) Tryz.func16 rfl Tryz.ntmps16 rfl<|ei<|an Ac fun g1 w1 M1=>cg (R:=fun x w'=>∃ (p:aD) (c0 c1 c2 c3 c4 c5 c6 c7 c8 c9 c10 c11 c12 c13 c14 c15 c16 v:Value) (k:Int),x=.tuple #[.agg #[c0,c1,c2,c3,c4,c5,c6,c7,c8,c9,c10,c11,c12,c13,c14,c15,c16],v,.int .i64 k]∧(∃ T,RowsIn w1.heap.size w' T∧∀ B w,RowsIn B w T→aA w c0 c1 c2 c3 c4 c5 c6 c7 c8 c9 c10 c11 c12 c13 c14 c15 c16 p)∧alc w1.heap.size w1 w'∧match nW aZ l with
  | .ok (q,n)=>p=q∧v=.int .i64 (n:Int)∧k=0
  | .error k'=>k=k')<|an ((O3 (h.keep M1.below) hL hrl hM).mono fun e w' ⟨p,c0,c1,c2,c3,c4,c5,c6,c7,c8,c9,c10,c11,c12,c13,c14,c15,c16,v,k,h1,h2⟩=>⟨_,h1,p,_,_,_,_,_,_,_,_,_,_,_,_,_,_,_,_,_,v,k,rfl,h2⟩) ?_
 rintro _ w2 ⟨p,c0,c1,c2,c3,c4,c5,c6,c7,c8,c9,c10,c11,c12,c13,c14,c15,c16,u,k,rfl,⟨T,hT,oF⟩,hb,hd⟩;have M2:=M1.vV hb hT;refine⟨_,_,M2,?_⟩;have hpc:=oF _ _ hT;obtain⟨_,_,_,_,_,_,_,_,_,_,_,_,_,_,_,_,_,_,_,_,_,_,_,_,_,_,_,_,_,_,_,_,_,_,rfl,rfl,rfl,rfl,rfl,rfl,rfl,rfl,rfl,rfl,rfl,rfl,rfl,rfl,rfl,rfl,rfl⟩:=hpc.open;refine ei<|an Ac fun g2 w3 M3=>lb 0<|an ⟨rfl,rfl⟩ fun w4 M4=>?_
 cases Wo:nW aZ l with
 | error k'=>
  rw[Wo] at hd;have hd:k=k':=hd;subst hd;have hk:=Rh Wo;refine an (fun h1=>?_) fun h1=>absurd h1 (by simpa using hk)
  exact ei (x:=.agg #[.slice none 0 0,.slice none 0 0,.slice none 0 0,.slice none 0 0,.slice none 0 0,.slice none 0 0,.slice none 0 0,.slice none 0 0,.slice none 0 0,.slice none 0 0,.slice none 0 0,.slice none 0 0,.slice none 0 0,.slice none 0 0,.slice none 0 0,.slice none 0 0,.slice none 0 0])<|an (bd (by kernel_rfl))<|lb 1<|an ⟨rfl,rfl⟩ fun w5 M5=>ei (x:=1)<|an rfl fun M=>⟨q7,_,_,_,_,_,_,_,_,_,_,_,_,_,_,_,_,_,0,k,rfl,⟨[],RowsIn.nil _ _,fun _ w _=>Ev w⟩,M.below,by rw[Wo];exact⟨rfl,rfl,rfl⟩⟩
 | ok y=>
  obtain⟨q,n⟩:=y;rw[Wo] at hd;obtain⟨rfl,rfl,rfl⟩:=hd;refine an (fun h1=>absurd h1 (by decide)) fun h1=>?_
  exact lb 0<|an rfl<|lb 1<|an ⟨rfl,rfl⟩ fun w5 M5=>ei (x:=1)<|an rfl fun M=>⟨p,_,_,_,_,_,_,_,_,_,_,_,_,_,_,_,_,_,n,0,rfl,⟨[]++T,M.pU,oF⟩,M.below,by rw[Wo];exact⟨rfl,rfl,rfl⟩⟩
theorem vS(w0:World)(c0 c1 c2 c3 c4 c5 c6 c7 c8 c9 c10 c11 c12 c13 c14 c15 c16:Value)(p:aD)(hp:aA w0 c0 c1 c2 c3 c4 c5 c6 c7 c8 c9 c10 c11 c12 c13 c14 c15 c16 p)(hok:p.Ok)(hd:p.Md):Calls Tryz.prog 21 #[.agg #[c0,c1,c2,c3,c4,c5,c6,c7,c8,c9,c10,c11,c12,c13,c14,c15,c16]] w0 (fun r w'=>r=.returned (.tuple #[.int .i64 (if aZ p=0 then (cr p:Int) else 0),.int .i64 (aZ p)])∧alc w0.heap.size w0 w'):=by
 obtain⟨_,_,_,_,_,_,_,_,_,_,_,_,_,_,_,_,_,_,_,_,_,_,_,_,_,_,_,_,_,_,_,_,_,_,rfl,rfl,rfl,rfl,rfl,rfl,rfl,rfl,rfl,rfl,rfl,rfl,rfl,rfl,rfl,rfl,rfl⟩:=hp.open;refine bM [] (fn:=Tryz.f21) Tryz.func21 rfl Tryz.ntmps21 rfl<|fun g1 w1 M1=>lb 0<|an rfl<|cl<|an (AR w1 _ _ _ _ _ _ _ _ _ _ _ _ _ _ _ _ _ p (hp.keep M1.below) hok hd) fun w2 M2=>an (fun h=>?_) fun h=>?_
 ·have h0:aZ p≠0:=by simpa using h
  exact fun M=>⟨by rw[if_neg h0];rfl,M.below⟩
 ·have h0:aZ p=0:=by simpa using h
  exact lb 0<|an rfl<|cl<|an (Fk (hp.keep M2.below)) fun w3 M3=>fun M=>⟨by rw[if_pos h0,h0];rfl,M.below⟩
structure aD.Lim (p:aD):Prop where
 classes:p.classes.length≤10000
 perms:∀ x∈p.classes,x.perms.length≤1000
 types:p.types.length≤10000
 jg:∀ x∈p.types,x.jg.length≤1000
 attrs:p.attrs.length≤10000
 roles:p.roles.length≤10000
 users:p.users.length≤10000
 bools:p.bools.length≤10000
 ak:p.ak.length≤10000
 cats:p.cats.length≤10000
 conds:p.conds.length≤10000
 rules:p.rules.length≤10000
 trans:p.trans.length≤10000
 ay:p.ay.length≤10000
 ranges:p.ranges.length≤10000
 cons:p.cons.length≤10000
 bg:p.bg.length≤10000
 files:p.files.length≤10000
 asserts:p.asserts.length≤10000
theorem Ly{α:Type}{f:α→List Nat}{b:Nat}:∀ {l:List α},(∀ x∈l,(f x).length≤b)→(l.flatMap f).length≤l.length*b
 | [],_=>by simp
 | x::l,h=>by
  have h1:=Ly (l:=l) fun y hy=>h y (by simp[hy])
  have h2:=h x (by simp);rw[List.flatMap_cons,alf,List.length_cons,Nat.add_mul];omega
theorem qd{α:Type}{f:α→List Nat}{b n:Nat}{l:List α}(hl:l.length≤n)(h:∀ x∈l,(f x).length≤b):(eL f l).length≤10+n*b:=by
 have h1:=Ly h;have h2:=aV (l.length:Int);have h3:=Nat.mul_le_mul_right b hl;unfold eL;rw[alf];omega
theorem vC{s:ByteArray}(h:om s):(eS s).length≤266:=by
 have h1:s.size≤256:=h;have:=bG (n:=s.size) (by omega);rw[JW];omega
theorem LO(b:Bool):(eB b).length≤1:=by cases b<;>simp[eB]
theorem E3{x:iL}(h:Fu x):(sq x).length≤20:=by
 have h1:=aV x.ak;have h2:=bG (n:=x.cats) h.cats;unfold sq;rw[alf];omega
theorem E1{x:mS}(h:C6 x):(uy x).length≤40:=by
 have h1:=E3 h.low;have h2:=E3 h.high;unfold uy;rw[alf];omega
theorem LM{x:eG}(h:Fx x):(vD x).length≤70:=by
 have h1:=aV x.user;have h2:=aV x.role;have h3:=aV x.typ;have h4:=E1 h.rng;unfold vD;simp only[alf];omega
theorem Ux{n:Int}(h:-2147483648≤n∧n<2147483648):(eC n).length≤10:=bG (Bf ⟨by omega,by omega⟩)
theorem Uv{k:Nat}{e:aS}(h:vJ k e):(eE e).length+10≤80*2^k:=by
 induction h with
 | @name k a ha=>
  have h1:=aV 1;have h2:=aV a;have h3:1≤2^(k+1):=Nat.one_le_two_pow;rw[eE,yM,List.append_nil];unfold wA;rw[if_pos rfl,alf];omega
 | @cmp k a r b ha hr hb=>
  have h1:=aV 8;have h2:=aV a;have h4:=aV r;have h5:=aV b;have h3:1≤2^(k+1):=Nat.one_le_two_pow;rw[eE,yM,List.append_nil];unfold wA;rw[if_neg (by decide),if_pos rfl];simp only[alf];omega
 | @inn k a s ha hs=>
  have h1:=aV 9;have h2:=aV a;have h4:=jw hs;have h3:1≤2^(k+1):=Nat.one_le_two_pow;rw[eE,yM,List.append_nil];unfold wA;rw[if_neg (by decide),if_neg (by decide),if_pos rfl];simp only[alf];omega
 | @not k x _ ih=>
  have h1:=aV 2;rw[eE,yM,yM,List.append_nil];unfold wA;rw[if_neg (by decide),if_neg (by decide),if_neg (by decide),List.append_nil,alf,Nat.pow_succ];have h3:1≤2^k:=Nat.one_le_two_pow;omega
 | @two k op x y h3 h7 _ _ EO ihy=>
  have h1:=aV op;rw[eE,yM,yM,yM,List.append_nil];unfold wA;rw[if_neg (by omega),if_neg (by omega),if_neg (by omega),List.append_nil];simp only[alf,Nat.pow_succ];omega
theorem GU{c:Prop}[Decidable c]{l:List Nat}:(if c then l else []).length≤l.length:=by split<;>simp
theorem Ts{p:aD}(hR:sw 3 p)(hl:p.Lim)(v:Nat):(i_ v p).length+2000≤aT:=by
 have s4 {l:List ByteArray} (h:wL l) {n:Nat} (hn:l.length≤n):(eL eS l).length≤10+n*266:=qd hn fun s hs=>vC (h.all s hs)
 have h0:(eL kL p.classes).length≤10+10000*266300:=qd hl.classes fun x hx=>by
  have h1:=vC (hR.classes.2 x hx).1;have h2:=s4 (hR.classes.2 x hx).2 (hl.perms x hx);unfold kL;rw[alf];omega
 have h1:(eL (eTyp v) p.types).length≤10+10000*266300:=qd hl.types fun x hx=>by
  have h1:=vC (hR.types.2 x hx).1;have h2:=s4 (hR.types.2 x hx).2.1 (hl.jg x hx);have h3:=LO x.perm;have h4:=GU (c:=2≤v) (l:=eB x.perm);unfold eTyp;simp only[alf];omega
 have h2:(eL kM p.attrs).length≤10+10000*1000:=qd hl.attrs fun x hx=>by
  have h1:=vC (hR.attrs.2 x hx).1;have h2:=jw (hR.attrs.2 x hx).2;unfold kM;simp only[alf];omega
 have h3:(eL kJ p.roles).length≤10+10000*1000:=qd hl.roles fun x hx=>by
  have h1:=vC (hR.roles.2 x hx).1;have h2:=jw (hR.roles.2 x hx).2.1;have h3:=jw (hR.roles.2 x hx).2.2;unfold kJ;simp only[alf];omega
 have h4:(eL kF p.users).length≤10+10000*1000:=qd hl.users fun x hx=>by
  have h1:=vC (hR.users.2 x hx).1;have h2:=jw (hR.users.2 x hx).2.1;have h3:=E3 (hR.users.2 x hx).2.2.1;have h4:=E1 (hR.users.2 x hx).2.2.2;unfold kF;simp only[alf];omega
 have h5:(eL jx p.bools).length≤10+10000*1000:=qd hl.bools fun x hx=>by
  have h1:=vC (hR.bools.2 x hx);have h2:=LO x.val;unfold jx;simp only[alf];omega
 have h6:=s4 hR.ak hl.ak;have h7:=s4 hR.cats hl.cats
 have h8:(eL eE p.conds).length≤10+10000*400000:=qd hl.conds fun x hx=>by
  have h1:=Uv (hR.conds.2 x hx);omega
 have h9:(eL kH p.rules).length≤10+10000*1000:=qd hl.rules fun x hx=>by
  have hr:=hR.rules.2 x hx;have h1:=aV x.kind;have h2:=jw hr.src;have h3:=jw hr.tgt;have h4:=LO x.self;have h5:=aV x.cls;have h6:=aV x.perms;have h7:=Ux hr.cond;unfold kH;simp only[alf];omega
 have h10:(eL (jX v) p.trans).length≤10+10000*1000:=qd hl.trans fun x hx=>by
  have hr:=(hR.trans.2 x hx).1;have h1:=aV x.kind;have h2:=jw hr.src;have h3:=jw hr.tgt;have h5:=aV x.cls;have h4:=vC hr.name;have h6:=aV x.res;have h7:=Ux hr.cond;have h8:=GU (c:=2≤v) (l:=eS x.name);unfold jX;simp only[alf];omega
 have h11:(eL kI p.ay).length≤10+10000*1000:=qd hl.ay fun x hx=>by
  have hr:=hR.ay.2 x hx;have h2:=jw hr.1;have h3:=jw hr.2.1;have h5:=aV x.cls;have h6:=aV x.res;unfold kI;simp only[alf];omega
 have h12:(eL jR p.ranges).length≤10+10000*1000:=qd hl.ranges fun x hx=>by
  have hr:=hR.ranges.1.2 x hx;have h2:=jw hr.1;have h3:=jw hr.2.1;have h5:=aV x.cls;have h6:=E1 hr.2.2.2;unfold jR;simp only[alf];omega
 have h13:(eL kK p.cons).length≤10+10000*400000:=qd hl.cons fun x hx=>by
  have hr:=hR.cons.2 x hx;have h1:=Uv hr.2.2;have h2:=aV x.cls;have h3:=aV x.perms;have h4:=LO x.val;unfold kK;simp only[alf];omega
 have h14:(eL kG p.bg).length≤10+10000*1000:=qd hl.bg fun x hx=>by
  have hr:=hR.bg.2 x hx;have h1:=vC hr.1;have h2:=LM hr.2;unfold kG;simp only[alf];omega
 have h15:(eL jc p.files).length≤10+10000*1000:=qd hl.files fun x hx=>by
  have hr:=hR.files.1.2 x hx;have h1:=vC hr.1;have h3:=aV x.kind;have h2:=LM hr.2.2;unfold jc;simp only[alf];omega
 have h16:(eL jd p.asserts).length≤10+10000*1000:=qd hl.asserts fun x hx=>by
  have hr:=hR.asserts.1.2 x hx;have h1:=vC hr.1;have h3:=aV x.kind;have h2:=jw hr.2.2.1;have h4:=jw hr.2.2.2;unfold jd;simp only[alf];omega
 have i12:=GU (c:=2≤v) (l:=eL jR p.ranges);have i15:=GU (c:=3≤v) (l:=eL jc p.files);have i16:=GU (c:=3≤v) (l:=eL jd p.asserts);unfold i_;simp only[alf];unfold aT;omega
theorem gq{n:Int}(h:qz n):gA n:=by unfold gA;have:=h.1;have:=h.2;omega
theorem Lg{n:Int}(h:qz n):z_ n:=by have:=h.1;have:=h.2;exact⟨by omega,by omega⟩
theorem kY{s:ByteArray}(h:om s):bW s:=by unfold bW;unfold om at h;omega
theorem gV{α:Type}{l:List α}(h:yV l):fU l.length:=by unfold fU;unfold yV at h;omega
theorem FV{l:List ByteArray}(h:wL l):CJ l:=⟨gV h.len,fun s hs=>kY (h.all s hs)⟩
theorem ED{x:iL}(h:Fu x):x.Ok:=⟨gq h.ak,h.cats⟩
theorem Ej{x:mS}(h:C6 x):x.Ok:=⟨ED h.low,ED h.high⟩
theorem LS{x:eG}(h:Fx x):x.Ok:=⟨gq h.user,gq h.role,gq h.typ,Ej h.rng⟩
theorem wH:gA 0:=by unfold gA;omega
theorem Ai:uM.Ok:=⟨by unfold fA;decide,by unfold fA;decide,by unfold fA;decide,by unfold fA;decide⟩
theorem BN:CJ []:=⟨by unfold fU;decide,fun _ h=>by cases h⟩
theorem LA{k:Nat}{e:aS}(h:vJ k e):aS.Ok e:=by
 induction h with
 | name ha=>exact .node (by unfold gA;omega) (gq ha) wH wH BN Ai (by unfold fU;decide) fun _ h=>by cases h
 | cmp ha hr hb=>exact .node (by unfold gA;omega) (gq ha) (gq hr) (gq hb) BN Ai (by unfold fU;decide) fun _ h=>by cases h
 | inn ha hs=>exact .node (by unfold gA;omega) (gq ha) wH wH BN hs (by unfold fU;decide) fun _ h=>by cases h
 | not _ ih=>exact .node (by unfold gA;omega) wH wH wH BN Ai (by unfold fU;simp) fun k hk=>by rw[alg.1 hk];exact ih
 | two h3 h7 _ _ EO ihy=>
  exact .node (by unfold gA;omega) wH wH wH BN Ai (by unfold fU;simp) fun k hk=>by
   rcases List.mem_cons.1 hk with rfl|hk
   ·exact EO
   ·rw[alg.1 hk];exact ihy
theorem DN{n:Int}(h:-2147483648≤n∧n<2147483648):gA n:=by unfold gA;omega
theorem sw.ok{v:Nat}{p:aD}(h:sw v p):p.Ok where
 classes:=fun x hx=>⟨kY (h.classes.2 x hx).1,FV (h.classes.2 x hx).2⟩
 Rm:=gV h.classes.1
 types:=fun x hx=>⟨kY (h.types.2 x hx).1,FV (h.types.2 x hx).2.1⟩
 jm:=gV h.types.1
 attrs:=fun x hx=>⟨kY (h.attrs.2 x hx).1,(h.attrs.2 x hx).2⟩
 W2:=gV h.attrs.1
 roles:=fun x hx=>⟨kY (h.roles.2 x hx).1,(h.roles.2 x hx).2.1,(h.roles.2 x hx).2.2⟩
 wU:=gV h.roles.1
 users:=fun x hx=>⟨kY (h.users.2 x hx).1,(h.users.2 x hx).2.1,ED (h.users.2 x hx).2.2.1,Ej (h.users.2 x hx).2.2.2⟩
 Eb:=gV h.users.1
 bools:=fun x hx=>⟨kY (h.bools.2 x hx)⟩
 WY:=gV h.bools.1
 ak:=fun s hs=>kY (h.ak.all s hs)
 Ya:=gV h.ak.len
 cats:=fun s hs=>kY (h.cats.all s hs)
 ZS:=gV h.cats.len
 conds:=fun x hx=>LA (h.conds.2 x hx)
 WV:=gV h.conds.1
 rules:=fun x hx=>have r:=h.rules.2 x hx;⟨gq r.kind,r.src,r.tgt,gq r.cls,Lg r.perms,DN r.cond⟩
 U_:=gV h.rules.1
 trans:=fun x hx=>have r:=(h.trans.2 x hx).1;⟨gq r.kind,r.src,r.tgt,gq r.cls,kY r.name,gq r.res,DN r.cond⟩
 UW:=gV h.trans.1
 ay:=fun x hx=>have r:=h.ay.2 x hx;⟨r.1,r.2.1,gq r.2.2.1,gq r.2.2.2⟩
 Sg:=gV h.ay.1
 ranges:=fun x hx=>have r:=h.ranges.1.2 x hx;⟨r.1,r.2.1,gq r.2.2.1,Ej r.2.2.2⟩
 Sn:=gV h.ranges.1.1
 cons:=fun x hx=>have r:=h.cons.2 x hx;⟨gq r.1,Lg r.2.1,LA r.2.2⟩
 ZP:=gV h.cons.1
 bg:=fun x hx=>have r:=h.bg.2 x hx;⟨kY r.1,LS r.2⟩
 X9:=gV h.bg.1
 files:=fun x hx=>have r:=h.files.1.2 x hx;⟨kY r.1,gq r.2.1,LS r.2.2⟩
 WB:=gV h.files.1.1
 asserts:=fun x hx=>have r:=h.asserts.1.2 x hx;⟨kY r.1,gq r.2.1,r.2.2.1,r.2.2.2⟩
 Rs:=gV h.asserts.1.1
theorem PO{k:Nat}{e:aS}(h:vJ k e):∀ m,aL m e≤k:=by
 have step:∀ {k:Nat} {e:aS},(∀ y∈e.kids,∀ m,aL m y≤k)→∀ m,aL m e≤(k+1:Nat):=fun {k e} hk m=>by
  cases m with
  | zero=>unfold aL;omega
  | succ m=>
   unfold aL;refine Int.le_trans (Int.add_le_add_right (lA (b:=(k:Int)) (by omega) e.kids.length fun i _=>?_) 1) (by omega);split
   ·rename_i y hy;exact hk y (ala hy) m
   ·omega
 induction h with
 | name _=>exact step fun y hy=>by cases hy
 | cmp _ _ _=>exact step fun y hy=>by cases hy
 | inn _ _=>exact step fun y hy=>by cases hy
 | not _ ih=>exact step fun y hy=>by rw[alg.1 hy];exact ih
 | two _ _ _ _ EO ihy=>
  exact step fun y hy=>by
   rcases List.mem_cons.1 hy with rfl|hy
   ·exact EO
   ·rw[alg.1 hy];exact ihy
theorem EW{α:Type}{f:α→List Nat}(hf:∀ x,f x≠[]):∀ l:List α,l.length≤(l.flatMap f).length
 | []=>by simp
 | x::l=>by
  have h1:=EW hf l;have h2:=List.length_pos_iff.2 (hf x);rw[List.flatMap_cons,alf,List.length_cons];omega
theorem OG(v:Nat):∀ l:List gh,(bh l).length≤(l.flatMap (eTyp v)).length
 | []=>by simp[bh]
 | t::l=>by
  have h1:=OG v l;have h2:=List.length_pos_iff.2 (Q_ t.name);have h3:=EW Q_ t.jg;have h4:(eTyp v t).length=(eS t.name).length+((eL eS t.jg).length+(if 2≤v then eB t.perm else []).length):=by unfold eTyp;simp only[alf]
  have h5:(eL eS t.jg).length=(eN (t.jg.length:Int)).length+(t.jg.flatMap eS).length:=by unfold eL;rw[alf]
  have h6:(bh (t::l)).length=1+t.jg.length+(bh l).length:=by unfold bh;rw[List.flatMap_cons,alf,List.length_cons];omega
  rw[List.flatMap_cons,alf];omega
theorem sw.md{v:Nat}{p:aD}(h:sw v p)(hl:(i_ v p).length≤100000):p.Md:=by
 have e:(i_ v p).length=(eL kL p.classes).length+((eL (eTyp v) p.types).length+((eL kM p.attrs).length+((eL kJ p.roles).length+((eL kF p.users).length+((eL jx p.bools).length+((eL eS p.ak).length+((eL eS p.cats).length+((eL eE p.conds).length+((eL kH p.rules).length+((eL (jX v) p.trans).length+((eL kI p.ay).length+((if 2≤v then eL jR p.ranges else []).length+((eL kK p.cons).length+((eL kG p.bg).length+((if 3≤v then eL jc p.files else []).length+((if 3≤v then eL jd p.asserts else []).length)))))))))))))))):=by unfold i_;simp only[alf]
 have h1:(eL (eTyp v) p.types).length=(eN (p.types.length:Int)).length+(p.types.flatMap (eTyp v)).length:=by unfold eL;rw[alf]
 have h2:(eL jx p.bools).length=(eN (p.bools.length:Int)).length+(p.bools.flatMap jx).length:=by unfold eL;rw[alf]
 have h3:=OG v p.types;have h4:=EW (f:=jx) (fun x=>by unfold jx;simp[Q_]) p.bools;exact⟨by omega,by omega,fun e he=>PO (h.conds.2 e he) 13,fun y hy=>PO (h.cons.2 y hy).2.2 13⟩
theorem Cy{p:aD}{v:Nat}(h1:1≤v)(h3:v≤3)(hR:sw v p)(hok:p.Ok)(YM:p.Md)(hl:(i_ v p).length≤aT):(∀ n r,cS (eP (dM v p))=.ok (n,r)→r.length≤aT)∧∀ n r q r',cS (eP (dM v p))=.ok (n,r)→wY n r=.ok (q,r')→q.Ok∧q.Md:=by
 have hf:=vW v h1 h3 p;have hp:=Em hR [];rw[List.append_nil] at hp;refine⟨fun n r h=>?_,fun n r q r' h hq=>?_⟩
 ·rw[hf] at h;injection h with h;injection h with _ h;subst h;exact hl
 ·rw[hf] at h;injection h with h;injection h with ha hb;subst ha hb;rw[hp] at hq;injection hq with hq;injection hq with hq _;subst hq;exact⟨hok,YM⟩
structure aD.W8 (p:aD):Prop where
 types:p.types.length≤12
 attrs:p.attrs.length≤6
 classes:p.classes.length≤6
 rules:p.rules.length≤40
 conds:p.conds.length≤6
 bools:p.bools.length≤6
 cons:p.cons.length≤12
 users:p.users.length≤8
 roles:p.roles.length≤8
 trans:p.trans.length≤36
 ay:p.ay.length≤12
 ranges:p.ranges.length≤12
 ak:p.ak.length≤6
 cats:p.cats.length≤10
 bg:p.bg.length≤8
 files:p.files.length≤12
 asserts:p.asserts.length≤8
structure aD.fM (p:aD):Prop where
 sizes:p.W8
 jg:∀ x∈p.types,x.jg.length≤4
 conds:∀ x∈p.conds,aL 13 x≤6
 cons:∀ x∈p.cons,aL 13 x.expr≤6
theorem NI{p:aD}(h:aZ p=0):bV p=0:=by
 unfold aZ at h;split at h
 case isFalse hne=>exact absurd h hne
 rename_i h0;rw[rT] at h0;exact h0 (bV p) (by simp)
theorem aD.fM.md{p:aD}(h:p.fM):p.Md:=by
 have h1:=vN h.jg;have h2:=h.sizes.types;have h3:=h.sizes.bools;exact⟨by omega,by omega,fun e he=>by have:=h.conds e he;omega,fun y hy=>by have:=h.cons y hy;omega⟩
theorem aD.fM.lim{p:aD}(h:p.fM)(hp:∀ x∈p.classes,x.perms.length≤64):p.Lim:=by
 obtain⟨h1,h2,h3,h4,h5,h6,h7,h8,h9,h10,h11,h12,h13,h14,h15,h16,h17⟩:=h.sizes;exact⟨by omega,fun x hx=>by have:=hp x hx;omega,by omega,fun x hx=>by have:=h.jg x hx;omega,by omega,by omega,by omega,by omega,by omega,by omega,by omega,by omega,by omega,by omega,by omega,by omega,by omega,by omega,by omega⟩
theorem tP{p:aD}(hs:p.fM)(hok:p.Ok)(h:aZ p=0):sw 3 p∧∀ v,(i_ v p).length+2000≤aT:=by
 have hR:=TB h hok (fun t ht=>by have:=hs.jg t ht;unfold yV;omega) (by have:=hs.sizes.trans;unfold yV;omega);exact⟨hR,Ts hR (hs.lim (Gi (NI h)))⟩
theorem yH(w0:World)(c0 c1 c2 c3 c4 c5 c6 c7 c8 c9 c10 c11 c12 c13 c14 c15 c16:Value)(p:aD)(hp:aA w0 c0 c1 c2 c3 c4 c5 c6 c7 c8 c9 c10 c11 c12 c13 c14 c15 c16 p)(hok:p.Ok)(hs:p.fM)(ver:Int)(hv:gA ver):Calls Tryz.prog 13 #[.agg #[c0,c1,c2,c3,c4,c5,c6,c7,c8,c9,c10,c11,c12,c13,c14,c15,c16],.int .i64 ver] w0 (NU w0 (gb aZ p ver)):=
 JQ hp hok hv (fun w hw=>AR w c0 c1 c2 c3 c4 c5 c6 c7 c8 c9 c10 c11 c12 c13 c14 c15 c16 p hw hok hs.md) fun h v _=>(tP hs hok h).2 v
theorem JA(w0:World):Calls Tryz.prog 74 #[] w0 (fun(r:Ending) (w':World)=>r=.returned (.agg #[.int .i64 0,.int .i64 1,.int .i64 0,.int .i64 0,.int .u64 0,.int .i64 0,.int .u64 0])∧alc w0.heap.size w0 w'):=by
 have oJ:=hrC Tryz.prog Tryz.f74 (fun(r:Ending) (w':World)=>r=.returned (.agg #[.int .i64 0,.int .i64 1,.int .i64 0,.int .i64 0,.int .u64 0,.int .i64 0,.int .u64 0])∧alc w0.heap.size w0 w') 2 0 65 rfl u65 rfl R3;refine en Tryz.func74 rfl Tryz.ntmps74 rfl (vs:=[]) rfl fun _ F=>?_
 have M:=Mm.start w0;refine wp_seq_k fun K1 G5=>bC<|kaA (on rfl) rfl wM rfl F rfl M fun g1 _ _ F M=>wpList_nil<|G5 _ _ ?_
 refine wp_seq_k fun K2 G4=>bC<|
  kz F rf (EZ rfl (pv:=#[(1,.int .i64 1),(2,.int .i64 0)]) (by simp[BigFrame.eval_const]) (cells:=#[.int .i64 0,.int .i64 1,.int .i64 0,.int .i64 0,.int .u64 0,.int .i64 0,.int .u64 0]) (by kernel_rfl)) fun _ F=>
  ksA (on rfl) rfl (F.u rf) (F.u rf) F M 0 rfl R3 rfl rfl rfl fun _ M=>
  wpList_nil<|
  G4 _ _ ?_
 refine wp_ret<|oJ _ _ _ _ _ _ F rfl (M.b 0 rfl) rfl ?_;exact⟨rfl,M.below⟩
theorem Co(w0:World):Calls Tryz.prog 75 #[] w0 (fun(r:Ending) (w':World)=>r=.returned (.agg #[.int .i64 0,.int .i64 0,.int .i64 2,.int .i64 0,.int .u64 0,.int .i64 0,.int .u64 0])∧alc w0.heap.size w0 w'):=by
 have oJ:=hrC Tryz.prog Tryz.f75 (fun(r:Ending) (w':World)=>r=.returned (.agg #[.int .i64 0,.int .i64 0,.int .i64 2,.int .i64 0,.int .u64 0,.int .i64 0,.int .u64 0])∧alc w0.heap.size w0 w') 2 0 65 rfl u65 rfl R3;refine en Tryz.func75 rfl Tryz.ntmps75 rfl (vs:=[]) rfl fun _ F=>?_
 have M:=Mm.start w0;refine wp_seq_k fun K1 G5=>bC<|kaA (on rfl) rfl wM rfl F rfl M fun g1 _ _ F M=>wpList_nil<|G5 _ _ ?_
 refine wp_seq_k fun K2 G4=>bC<|
  kz F rf (EZ rfl (pv:=#[(2,.int .i64 2)]) (by simp[BigFrame.eval_const]) (cells:=#[.int .i64 0,.int .i64 0,.int .i64 2,.int .i64 0,.int .u64 0,.int .i64 0,.int .u64 0]) (by kernel_rfl)) fun _ F=>
  ksA (on rfl) rfl (F.u rf) (F.u rf) F M 0 rfl R3 rfl rfl rfl fun _ M=>
  wpList_nil<|
  G4 _ _ ?_
 refine wp_ret<|oJ _ _ _ _ _ _ F rfl (M.b 0 rfl) rfl ?_;exact⟨rfl,M.below⟩
theorem xR{w0 w:World}{B:Nat}{bs:List Bx}{rs:List Rw}(M:aQ B w0 w bs rs)(i:Nat){l:List Int}{x:Int}{g:Nat}{t:TypeId}(hb:bs[i]?=some (g,t,(l.flatMap anyI).toArray))(hx:F7 l=x)(hl:∀ y∈l,0≤y∧y<64:=by simp)(hn:l.length≤100:=by decide)(ht:Nat.blt t 9000=true:=by rfl):
 Calls Tryz.prog 73 #[.slice (some ⟨g,0,none⟩) l.length l.length] w fun r w'=>r=.returned (.agg #[.int .u64 x,.int .u64 0,.int .u64 0,.int .u64 0])∧alc w.heap.size w w':=by
 subst hx
 have hlen:(l.flatMap anyI).length=l.length*1:=by
  clear hb hl hn
  induction l with
  | nil=>rfl
  | cons x r ih=>rw[List.flatMap_cons,alf,ih,List.length_cons];simp[anyI];omega
 refine R_ w _ l (M.slice i hb (by simpa using hlen) ?_ (by unfold maxLen;omega) ht) hl;rw[alb];intro u hu;obtain⟨y,-,hy⟩:=List.mem_flatMap.1 (by simpa using hu);simp only[anyI,alg] at hy;rw[hy];rfl
def Both{α:Type}(R:List Value→α→Prop):List (List Value)→List α→Prop
 | [],[]=>True
 | x::r,y::s=>R x y∧Both R r s
 | _,_=>False
theorem BG{α:Type}{R:List Value→α→Prop}:∀ {es:List (List Value)} {l:List α},Both R es l→∀ (i:Nat) x y,es[i]?=some x→l[i]?=some y→R x y
 | [],_,_,i,x,y,h,_=>by simp at h
 | x::r,[],h,_,_,_,_,_=>h.elim
 | x::r,y::s,h,0,_,_,h1,h2=>by simp at h1 h2;rw[← h1,← h2];exact h.1
 | x::r,y::s,h,i+1,_,_,h1,h2=>BG h.2 i _ _ (by simpa using h1) (by simpa using h2)
theorem Ld{α:Type}{k:Nat}{R:List Value→α→Prop}{w:World}:aj k R w (.slice none 0 0) []:=⟨[],rfl,by simp,SliceAt.nil _ k,by simp⟩
def iA:aD:={
 classes:=[⟨⟨#[112,114,111,99,101,115,115]⟩,[⟨#[102,111,114,107]⟩,⟨#[116,114,97,110,115,105,116,105,111,110]⟩,⟨#[100,121,110,116,114,97,110,115,105,116,105,111,110]⟩,⟨#[115,101,110,100]⟩]⟩,⟨⟨#[102,105,108,101]⟩,[⟨#[114,101,97,100]⟩,⟨#[119,114,105,116,101]⟩,⟨#[99,114,101,97,116,101]⟩,⟨#[117,110,108,105,110,107]⟩,⟨#[101,120,101,99,117,116,101]⟩,⟨#[101,110,116,114,121,112,111,105,110,116]⟩,⟨#[114,101,108,97,98,101,108,102,114,111,109]⟩,⟨#[114,101,108,97,98,101,108,116,111]⟩]⟩,⟨⟨#[100,105,114]⟩,[⟨#[114,101,97,100]⟩,⟨#[119,114,105,116,101]⟩,⟨#[99,114,101,97,116,101]⟩,⟨#[117,110,108,105,110,107]⟩,⟨#[97,100,100]⟩,⟨#[114,101,109,111,118,101]⟩,⟨#[114,101,108,97,98,101,108,102,114,111,109]⟩,⟨#[114,101,108,97,98,101,108,116,111]⟩]⟩],
 types:=[⟨⟨#[105,110,105,116,95,116]⟩,[],false⟩,⟨⟨#[117,115,101,114,95,116]⟩,[],false⟩,⟨⟨#[102,105,108,101,95,116]⟩,[],false⟩,⟨⟨#[115,104,101,108,108,95,116]⟩,[],false⟩],
 attrs:=[⟨⟨#[100,111,109,97,105,110]⟩,⟨3,0,0,0⟩⟩],
 roles:=[⟨⟨#[111,98,106,101,99,116,95,114]⟩,⟨0,0,0,0⟩,⟨0,0,0,0⟩⟩,⟨⟨#[115,121,115,116,101,109]⟩,⟨3,0,0,0⟩,⟨0,0,0,0⟩⟩],
 users:=[⟨⟨#[114,111,111,116]⟩,⟨2,0,0,0⟩,⟨0,0⟩,⟨⟨0,0⟩,⟨0,0⟩⟩⟩],
 bools:=[⟨⟨#[115,104,97,114,101]⟩,false⟩],
 ak:=[⟨#[115,48]⟩],
 cats:=[],
 conds:=[.node 1 0 0 0 [] ⟨0,0,0,0⟩ []],
 rules:=[⟨1,⟨3,0,0,0⟩,⟨0,0,0,0⟩,true,0,9,0⟩,⟨1,⟨1,0,0,0⟩,⟨12,0,0,0⟩,false,1,17,0⟩,⟨1,⟨1,0,0,0⟩,⟨2,0,0,0⟩,false,0,2,0⟩,⟨1,⟨2,0,0,0⟩,⟨8,0,0,0⟩,false,1,32,0⟩,⟨1,⟨2,0,0,0⟩,⟨4,0,0,0⟩,false,1,1,1⟩],
 trans:=[⟨1,⟨1,0,0,0⟩,⟨8,0,0,0⟩,0,ByteArray.empty,1,0⟩],
 ay:=[],
 ranges:=[],
 cons:=[],
 bg:=[⟨⟨#[107,101,114,110,101,108]⟩,⟨0,1,0,⟨⟨0,0⟩,⟨0,0⟩⟩⟩⟩,⟨⟨#[114,111,111,116]⟩,⟨0,0,2,⟨⟨0,0⟩,⟨0,0⟩⟩⟩⟩,⟨⟨#[117,110,108,97,98,101,108,101,100]⟩,⟨0,0,2,⟨⟨0,0⟩,⟨0,0⟩⟩⟩⟩],
 files:=[],
 asserts:=[] }
def SB(g2 g3 g4 g5 g6 g9 g12 g15 g16 g17 g18 JJ JI JH:Nat):List Bx:=[(JH,145,#[.string (⟨#[107,101,114,110,101,108]⟩),.int .i64 0,.int .i64 1,.int .i64 0,.int .i64 0,.int .u64 0,.int .i64 0,.int .u64 0,.string (⟨#[114,111,111,116]⟩),.int .i64 0,.int .i64 0,.int .i64 2,.int .i64 0,.int .u64 0,.int .i64 0,.int .u64 0,.string (⟨#[117,110,108,97,98,101,108,101,100]⟩),.int .i64 0,.int .i64 0,.int .i64 2,.int .i64 0,.int .u64 0,.int .i64 0,.int .u64 0]),
 (JI,79,#[.int .i64 1,.int .u64 1,.int .u64 0,.int .u64 0,.int .u64 0,.int .u64 8,.int .u64 0,.int .u64 0,.int .u64 0,.int .i64 0,.string ByteArray.empty,.int .i64 1,.int .i64 0]),
 (JJ,142,#[.int .i64 1,.int .u64 3,.int .u64 0,.int .u64 0,.int .u64 0,.int .u64 0,.int .u64 0,.int .u64 0,.int .u64 0,.bool true,.int .i64 0,.int .u32 9,.int .i64 0,.int .i64 1,.int .u64 1,.int .u64 0,.int .u64 0,.int .u64 0,.int .u64 12,.int .u64 0,.int .u64 0,.int .u64 0,.bool false,.int .i64 1,.int .u32 17,.int .i64 0,.int .i64 1,.int .u64 1,.int .u64 0,.int .u64 0,.int .u64 0,.int .u64 2,.int .u64 0,.int .u64 0,.int .u64 0,.bool false,.int .i64 0,.int .u32 2,.int .i64 0,.int .i64 1,.int .u64 2,.int .u64 0,.int .u64 0,.int .u64 0,.int .u64 8,.int .u64 0,.int .u64 0,.int .u64 0,.bool false,.int .i64 1,.int .u32 32,.int .i64 0,.int .i64 1,.int .u64 2,.int .u64 0,.int .u64 0,.int .u64 0,.int .u64 4,.int .u64 0,.int .u64 0,.int .u64 0,.bool false,.int .i64 1,.int .u32 1,.int .i64 1]),
 (g18,84,#[.int .i64 1,.int .i64 0,.int .i64 0,.int .i64 0,.slice none 0 0,.int .u64 0,.int .u64 0,.int .u64 0,.int .u64 0,.slice none 0 0]),
 (g17,9,#[.string (⟨#[115,48]⟩)]),
 (g16,140,#[.string (⟨#[115,104,97,114,101]⟩),.bool false]),
 (g15,138,#[.string (⟨#[114,111,111,116]⟩),.int .u64 2,.int .u64 0,.int .u64 0,.int .u64 0,.int .i64 0,.int .u64 0,.int .i64 0,.int .u64 0,.int .i64 0,.int .u64 0]),
 (g12,136,#[.string (⟨#[111,98,106,101,99,116,95,114]⟩),.int .u64 0,.int .u64 0,.int .u64 0,.int .u64 0,.int .u64 0,.int .u64 0,.int .u64 0,.int .u64 0,.string (⟨#[115,121,115,116,101,109]⟩),.int .u64 3,.int .u64 0,.int .u64 0,.int .u64 0,.int .u64 0,.int .u64 0,.int .u64 0,.int .u64 0]),
 (g9,134,#[.string (⟨#[100,111,109,97,105,110]⟩),.int .u64 3,.int .u64 0,.int .u64 0,.int .u64 0]),
 (g6,81,#[.string (⟨#[105,110,105,116,95,116]⟩),.slice none 0 0,.bool false,.string (⟨#[117,115,101,114,95,116]⟩),.slice none 0 0,.bool false,.string (⟨#[102,105,108,101,95,116]⟩),.slice none 0 0,.bool false,.string (⟨#[115,104,101,108,108,95,116]⟩),.slice none 0 0,.bool false]),
 (g5,131,#[.string (⟨#[112,114,111,99,101,115,115]⟩),.slice (some ⟨g4,0,none⟩) 4 4,.string (⟨#[102,105,108,101]⟩),.slice (some ⟨g2,0,none⟩) 8 8,.string (⟨#[100,105,114]⟩),.slice (some ⟨g3,0,none⟩) 8 8]),
 (g4,9,#[.string (⟨#[102,111,114,107]⟩),.string (⟨#[116,114,97,110,115,105,116,105,111,110]⟩),.string (⟨#[100,121,110,116,114,97,110,115,105,116,105,111,110]⟩),.string (⟨#[115,101,110,100]⟩)]),
 (g3,9,#[.string (⟨#[114,101,97,100]⟩),.string (⟨#[119,114,105,116,101]⟩),.string (⟨#[99,114,101,97,116,101]⟩),.string (⟨#[117,110,108,105,110,107]⟩),.string (⟨#[97,100,100]⟩),.string (⟨#[114,101,109,111,118,101]⟩),.string (⟨#[114,101,108,97,98,101,108,102,114,111,109]⟩),.string (⟨#[114,101,108,97,98,101,108,116,111]⟩)]),
 (g2,9,#[.string (⟨#[114,101,97,100]⟩),.string (⟨#[119,114,105,116,101]⟩),.string (⟨#[99,114,101,97,116,101]⟩),.string (⟨#[117,110,108,105,110,107]⟩),.string (⟨#[101,120,101,99,117,116,101]⟩),.string (⟨#[101,110,116,114,121,112,111,105,110,116]⟩),.string (⟨#[114,101,108,97,98,101,108,102,114,111,109]⟩),.string (⟨#[114,101,108,97,98,101,108,116,111]⟩)])]
theorem tS{B:Nat}{w0 w:World}{rs:List Rw}{g2 g3 g4 g5 g6 g9 g12 g15 g16 g17 g18 JJ JI JH:Nat}(M:aQ B w0 w (SB g2 g3 g4 g5 g6 g9 g12 g15 g16 g17 g18 JJ JI JH) rs):aA w (.slice (some ⟨g5,0,none⟩) 3 3) (.slice (some ⟨g6,0,none⟩) 4 4) (.slice (some ⟨g9,0,none⟩) 1 1) (.slice (some ⟨g12,0,none⟩) 2 2) (.slice (some ⟨g15,0,none⟩) 1 1) (.slice (some ⟨g16,0,none⟩) 1 1) (.slice (some ⟨g17,0,none⟩) 1 1) (.slice none 0 0) (.slice (some ⟨g18,0,none⟩) 1 1) (.slice (some ⟨JJ,0,none⟩) 5 5) (.slice (some ⟨JI,0,none⟩) 1 1) (.slice none 0 0) (.slice none 0 0) (.slice none 0 0) (.slice (some ⟨JH,0,none⟩) 3 3) (.slice none 0 0) (.slice none 0 0) iA:=
 ⟨⟨[[.string (⟨#[112,114,111,99,101,115,115]⟩),.slice (some ⟨g4,0,none⟩) 4 4],[.string (⟨#[102,105,108,101]⟩),.slice (some ⟨g2,0,none⟩) 8 8],[.string (⟨#[100,105,114]⟩),.slice (some ⟨g3,0,none⟩) 8 8]],rfl,by simp,(M.slice 10 rfl rfl rfl (by simp[maxLen])),BG ⟨⟨_,rfl,(M.slice 11 rfl rfl rfl (by simp[maxLen]))⟩,⟨_,rfl,(M.slice 13 rfl rfl rfl (by simp[maxLen]))⟩,⟨_,rfl,(M.slice 12 rfl rfl rfl (by simp[maxLen]))⟩,trivial⟩⟩,
  ⟨[[.string (⟨#[105,110,105,116,95,116]⟩),.slice none 0 0,.bool false],[.string (⟨#[117,115,101,114,95,116]⟩),.slice none 0 0,.bool false],[.string (⟨#[102,105,108,101,95,116]⟩),.slice none 0 0,.bool false],[.string (⟨#[115,104,101,108,108,95,116]⟩),.slice none 0 0,.bool false]],rfl,by simp,(M.slice 9 rfl rfl rfl (by simp[maxLen])),BG ⟨⟨_,rfl,(SliceAt.nil _ 1)⟩,⟨_,rfl,(SliceAt.nil _ 1)⟩,⟨_,rfl,(SliceAt.nil _ 1)⟩,⟨_,rfl,(SliceAt.nil _ 1)⟩,trivial⟩⟩,
  (M.slice 8 rfl rfl rfl (by simp[maxLen])),
  (M.slice 7 rfl rfl rfl (by simp[maxLen])),
  (M.slice 6 rfl rfl rfl (by simp[maxLen])),
  (M.slice 5 rfl rfl rfl (by simp[maxLen])),
  (M.slice 4 rfl rfl rfl (by simp[maxLen])),
  (SliceAt.nil _ 1),
  ⟨[[.int .i64 1,.int .i64 0,.int .i64 0,.int .i64 0,.slice none 0 0,.int .u64 0,.int .u64 0,.int .u64 0,.int .u64 0,.slice none 0 0]],rfl,by simp,(M.slice 3 rfl rfl rfl (by simp[maxLen])),BG ⟨bq.node (names:=[]) (kids:=[]) (set:=⟨0,0,0,0⟩) (SliceAt.nil _ 1) (es:=[]) rfl (by simp) (SliceAt.nil _ 10) (by simp),trivial⟩⟩,
  (M.slice 2 rfl rfl rfl (by simp[maxLen])),
  (M.slice 1 rfl rfl rfl (by simp[maxLen])),
  (SliceAt.nil _ 10),
  (SliceAt.nil _ 13),
  Ld,
  (M.slice 0 rfl rfl rfl (by simp[maxLen])),
  (SliceAt.nil _ 9),
  (SliceAt.nil _ 10)⟩
theorem wQ(w0:World):Calls Tryz.prog 28 #[] w0 fun r w'=>∃ v,r=.returned v∧∃ g2 g3 g4 g5 g6 g9 g12 g15 g16 g17 g18 JJ JI JH:Nat,v=.agg #[.slice (some ⟨g5,0,none⟩) 3 3,.slice (some ⟨g6,0,none⟩) 4 4,.slice (some ⟨g9,0,none⟩) 1 1,.slice (some ⟨g12,0,none⟩) 2 2,.slice (some ⟨g15,0,none⟩) 1 1,.slice (some ⟨g16,0,none⟩) 1 1,.slice (some ⟨g17,0,none⟩) 1 1,.slice none 0 0,.slice (some ⟨g18,0,none⟩) 1 1,.slice (some ⟨JJ,0,none⟩) 5 5,.slice (some ⟨JI,0,none⟩) 1 1,.slice none 0 0,.slice none 0 0,.slice none 0 0,.slice (some ⟨JH,0,none⟩) 3 3,.slice none 0 0,.slice none 0 0]∧aQ w0.heap.size w0 w' (SB g2 g3 g4 g5 g6 g9 g12 g15 g16 g17 g18 JJ JI JH) []:=by
 refine bM [] (fn:=Tryz.f28) Tryz.func28 rfl Tryz.ntmps28 rfl<|ei<|an Ac fun g1 w1 M1=>fun g2 w2 M2=>fun g3 w3 M3=>fun g4 w4 M4=>
  ei (x:=.agg #[.string (⟨#[112,114,111,99,101,115,115]⟩),.slice (some ⟨g4,0,none⟩) 4 4])<|an (bd (by kernel_rfl))<|
  ei (x:=.agg #[.string (⟨#[102,105,108,101]⟩),.slice (some ⟨g2,0,none⟩) 8 8])<|an (bd (by kernel_rfl))<|
  ei (x:=.agg #[.string (⟨#[100,105,114]⟩),.slice (some ⟨g3,0,none⟩) 8 8])<|an (bd (by kernel_rfl))<|
  fun g5 w5 M5=>
  ei (x:=.agg #[.string (⟨#[105,110,105,116,95,116]⟩),.slice none 0 0,.bool false])<|an (bd (by kernel_rfl))<|
  ei (x:=.agg #[.string (⟨#[117,115,101,114,95,116]⟩),.slice none 0 0,.bool false])<|an (bd (by kernel_rfl))<|
  ei (x:=.agg #[.string (⟨#[102,105,108,101,95,116]⟩),.slice none 0 0,.bool false])<|an (bd (by kernel_rfl))<|
  ei (x:=.agg #[.string (⟨#[115,104,101,108,108,95,116]⟩),.slice none 0 0,.bool false])<|an (bd (by kernel_rfl))<|
  fun g6 w6 M6=>
  fun g7 w7 M7=>
  cl<|an (xR M7 0 (l:=[0,1]) (x:=3) rfl rfl) fun w8 M8=>
  ei (x:=.agg #[.string (⟨#[100,111,109,97,105,110]⟩),.int .u64 3,.int .u64 0,.int .u64 0,.int .u64 0])<|an (bd (by kernel_rfl))<|
  fun g9 w9 M9=>
  ei (x:=.agg #[.string (⟨#[111,98,106,101,99,116,95,114]⟩),.int .u64 0,.int .u64 0,.int .u64 0,.int .u64 0,.int .u64 0,.int .u64 0,.int .u64 0,.int .u64 0])<|an (bd (by kernel_rfl))<|
  fun g10 pT j3=>
  cl<|an (xR j3 0 (l:=[0,1]) (x:=3) rfl rfl) fun yY M11=>
  ei (x:=.agg #[.string (⟨#[115,121,115,116,101,109]⟩),.int .u64 3,.int .u64 0,.int .u64 0,.int .u64 0,.int .u64 0,.int .u64 0,.int .u64 0,.int .u64 0])<|an (bd (by kernel_rfl))<|
  fun g12 Dh y9=>
  fun g13 RW FD=>
  cl<|an (xR FD 0 (l:=[1]) (x:=2) rfl rfl) fun RV H7=>
  ei (x:=.agg #[.string (⟨#[114,111,111,116]⟩),.int .u64 2,.int .u64 0,.int .u64 0,.int .u64 0,.int .i64 0,.int .u64 0,.int .i64 0,.int .u64 0,.int .i64 0,.int .u64 0])<|an (bd (by kernel_rfl))<|
  fun g15 RU CQ=>
  ei (x:=.agg #[.string (⟨#[115,104,97,114,101]⟩),.bool false])<|an (bd (by kernel_rfl))<|
  fun g16 Rx CK=>
  fun g17 TV Ft=>
  ei (x:=.agg #[.int .i64 1,.int .i64 0,.int .i64 0,.int .i64 0,.slice none 0 0,.int .u64 0,.int .u64 0,.int .u64 0,.int .u64 0,.slice none 0 0])<|an (bd (by kernel_rfl))<|
  fun g18 TU Ob=>
  fun g19 Xg TR=>
  cl<|an (xR TR 0 (l:=[0,1]) (x:=3) rfl rfl) fun w20 TQ=>
  ei (x:=.agg #[.int .i64 1,.int .u64 3,.int .u64 0,.int .u64 0,.int .u64 0,.int .u64 0,.int .u64 0,.int .u64 0,.int .u64 0,.bool true,.int .i64 0,.int .u32 9,.int .i64 0])<|an (bd (by kernel_rfl))<|
  fun g21 w21 TP=>
  cl<|an (xR TP 0 (l:=[0]) (x:=1) rfl rfl) fun w22 XI=>
  fun g23 w23 UM=>
  cl<|an (xR UM 0 (l:=[2,3]) (x:=12) rfl rfl) fun w24 M24=>
  ei (x:=.agg #[.int .i64 1,.int .u64 1,.int .u64 0,.int .u64 0,.int .u64 0,.int .u64 12,.int .u64 0,.int .u64 0,.int .u64 0,.bool false,.int .i64 1,.int .u32 17,.int .i64 0])<|an (bd (by kernel_rfl))<|
  fun g25 w25 XH=>
  cl<|an (xR XH 0 (l:=[0]) (x:=1) rfl rfl) fun w26 Xd=>
  fun g27 w27 TN=>
  cl<|an (xR TN 0 (l:=[1]) (x:=2) rfl rfl) fun w28 M28=>
  ei (x:=.agg #[.int .i64 1,.int .u64 1,.int .u64 0,.int .u64 0,.int .u64 0,.int .u64 2,.int .u64 0,.int .u64 0,.int .u64 0,.bool false,.int .i64 0,.int .u32 2,.int .i64 0])<|an (bd (by kernel_rfl))<|
  fun g29 w29 UL=>
  cl<|an (xR UL 0 (l:=[1]) (x:=2) rfl rfl) fun w30 M30=>
  fun g31 w31 UK=>
  cl<|an (xR UK 0 (l:=[3]) (x:=8) rfl rfl) fun w32 Xc=>
  ei (x:=.agg #[.int .i64 1,.int .u64 2,.int .u64 0,.int .u64 0,.int .u64 0,.int .u64 8,.int .u64 0,.int .u64 0,.int .u64 0,.bool false,.int .i64 1,.int .u32 32,.int .i64 0])<|an (bd (by kernel_rfl))<|
  fun g33 w33 UJ=>
  cl<|an (xR UJ 0 (l:=[1]) (x:=2) rfl rfl) fun w34 M34=>
  fun g35 w35 M35=>
  cl<|an (xR M35 0 (l:=[2]) (x:=4) rfl rfl) fun w36 M36=>
  ei (x:=.agg #[.int .i64 1,.int .u64 2,.int .u64 0,.int .u64 0,.int .u64 0,.int .u64 4,.int .u64 0,.int .u64 0,.int .u64 0,.bool false,.int .i64 1,.int .u32 1,.int .i64 1])<|an (bd (by kernel_rfl))<|
  fun JJ w37 M37=>
  fun g38 w38 M38=>
  cl<|an (xR M38 0 (l:=[0]) (x:=1) rfl rfl) fun w39 M39=>
  fun g40 w40 M40=>
  cl<|an (xR M40 0 (l:=[3]) (x:=8) rfl rfl) fun w41 M41=>
  ei (x:=.agg #[.int .i64 1,.int .u64 1,.int .u64 0,.int .u64 0,.int .u64 0,.int .u64 8,.int .u64 0,.int .u64 0,.int .u64 0,.int .i64 0,.string ByteArray.empty,.int .i64 1,.int .i64 0])<|an (bd (by kernel_rfl))<|
  fun JI w42 M42=>
  cl<|an (JA w42) fun w43 M43=>
  ei (x:=.agg #[.string (⟨#[107,101,114,110,101,108]⟩),.int .i64 0,.int .i64 1,.int .i64 0,.int .i64 0,.int .u64 0,.int .i64 0,.int .u64 0])<|an (bd (by kernel_rfl))<|
  cl<|an (Co w43) fun w44 M44=>
  ei (x:=.agg #[.string (⟨#[114,111,111,116]⟩),.int .i64 0,.int .i64 0,.int .i64 2,.int .i64 0,.int .u64 0,.int .i64 0,.int .u64 0])<|an (bd (by kernel_rfl))<|
  cl<|an (Co w44) fun w45 M45=>
  ei (x:=.agg #[.string (⟨#[117,110,108,97,98,101,108,101,100]⟩),.int .i64 0,.int .i64 0,.int .i64 2,.int .i64 0,.int .u64 0,.int .i64 0,.int .u64 0])<|an (bd (by kernel_rfl))<|
  fun JH w46 M46=>
  ei (x:=.agg #[.slice (some ⟨g5,0,none⟩) 3 3,.slice (some ⟨g6,0,none⟩) 4 4,.slice (some ⟨g9,0,none⟩) 1 1,.slice (some ⟨g12,0,none⟩) 2 2,.slice (some ⟨g15,0,none⟩) 1 1,.slice (some ⟨g16,0,none⟩) 1 1,.slice (some ⟨g17,0,none⟩) 1 1,.slice none 0 0,.slice (some ⟨g18,0,none⟩) 1 1,.slice (some ⟨JJ,0,none⟩) 5 5,.slice (some ⟨JI,0,none⟩) 1 1,.slice none 0 0,.slice none 0 0,.slice none 0 0,.slice (some ⟨JH,0,none⟩) 3 3,.slice none 0 0,.slice none 0 0])<|an (bd (by kernel_rfl))<|
  lb 28<|an ⟨rfl,rfl⟩ fun w M=>?_
 exact ei (x:=28)<|an rfl fun M=>⟨_,rfl,g2,g3,g4,g5,g6,g9,g12,g15,g16,g17,g18,JJ,JI,JH,rfl,M.only (.cons_cons _<|(.cons_cons _<|(.cons _<|(.cons _<|(.cons_cons _<|(.cons _<|(.cons _<|(.cons _<|(.cons _<|(.cons _<|(.cons _<|(.cons _<|(.cons _<|(.cons _<|(.cons_cons _<|(.cons_cons _<|(.cons_cons _<|(.cons_cons _<|(.cons _<|(.cons_cons _<|(.cons _<|(.cons_cons _<|(.cons _<|(.cons_cons _<|(.cons_cons _<|(.cons_cons _<|(.cons_cons _<|(.cons_cons _<|(.cons _<|.refl []))))))))))))))))))))))))))))) (.refl _)⟩
instance (n:Nat):Decidable (fU n):=inferInstanceAs (Decidable (_≤_))
instance (s:ByteArray):Decidable (bW s):=inferInstanceAs (Decidable (_≤_))
instance (n:Int):Decidable (gA n):=inferInstanceAs (Decidable (_∧_))
instance (n:Int):Decidable (z_ n):=inferInstanceAs (Decidable (_∧_))
instance (n:Nat):Decidable (fA n):=inferInstanceAs (Decidable (_<_))
def tT:aD:={ iA with types:=[⟨⟨#[105,110,105,116,95,116]⟩,[],true⟩,⟨⟨#[117,115,101,114,95,116]⟩,[],false⟩,⟨⟨#[102,105,108,101,95,116]⟩,[],false⟩,⟨⟨#[115,104,101,108,108,95,116]⟩,[],false⟩] }
theorem tU:iA.Ok:=by
 repeat' (first|decide|refine List.forall_mem_cons.2 ⟨?_,?_⟩|exact List.forall_mem_nil _|constructor)
theorem KQ:tT.Ok:=by
 repeat' (first|decide|refine List.forall_mem_cons.2 ⟨?_,?_⟩|exact List.forall_mem_nil _|constructor)
theorem xS:iA.fM:=by
 repeat' (first|decide|refine List.forall_mem_cons.2 ⟨?_,?_⟩|exact List.forall_mem_nil _|constructor)
theorem KO:tT.fM:=by
 repeat' (first|decide|refine List.forall_mem_cons.2 ⟨?_,?_⟩|exact List.forall_mem_nil _|constructor)
theorem oA:aZ iA=0:=by kernel_rfl
theorem wT:aZ tT=0:=by kernel_rfl
theorem tV:cr iA=1:=by kernel_rfl
theorem wS:cr tT=2:=by kernel_rfl
def jq:List Nat:=eP (dM 1 iA)
theorem OV:gb aZ iA 1=.ok jq:=by
 unfold gb;rw[if_pos (by decide),if_pos oA,tV];rfl
theorem OT:gb aZ tT 1=.error 2:=by
 unfold gb;rw[if_pos (by decide),if_pos wT,wS];rfl
theorem U9:sw 3 iA:=(tP xS tU oA).1
theorem KR:sw 1 iA:=U9.at (by rw[tV];exact Nat.le_refl _)
theorem xT(v:Nat):(i_ v iA).length+2000≤aT:=(tP xS tU oA).2 v
theorem BD:cS (eP (dM 1 iA))=.ok (1,i_ 1 iA):=vW 1 (by decide) (by decide) iA
theorem OU:wN jq=.ok 1:=by
 unfold wN jq;rw[BD]
theorem OW:nW aZ jq=.ok (iA,1):=by
 have h:=Em KR [];rw[List.append_nil] at h;unfold nW jq;rw[BD];simp only[h,oA];rfl
theorem Mp:jq.take 6=[65,67,80,66,1,3]:=by kernel_rfl
theorem Mn:7≤jq.length:=by
 unfold jq;rw[mT];unfold dM;simp
def SBQ(g2 g3 g4 g5 g6 g9 g12 g15 g16 g17 g18 JJ JI JH:Nat):List Bx:=[(JH,145,#[.string (⟨#[107,101,114,110,101,108]⟩),.int .i64 0,.int .i64 1,.int .i64 0,.int .i64 0,.int .u64 0,.int .i64 0,.int .u64 0,.string (⟨#[114,111,111,116]⟩),.int .i64 0,.int .i64 0,.int .i64 2,.int .i64 0,.int .u64 0,.int .i64 0,.int .u64 0,.string (⟨#[117,110,108,97,98,101,108,101,100]⟩),.int .i64 0,.int .i64 0,.int .i64 2,.int .i64 0,.int .u64 0,.int .i64 0,.int .u64 0]),
 (JI,79,#[.int .i64 1,.int .u64 1,.int .u64 0,.int .u64 0,.int .u64 0,.int .u64 8,.int .u64 0,.int .u64 0,.int .u64 0,.int .i64 0,.string ByteArray.empty,.int .i64 1,.int .i64 0]),
 (JJ,142,#[.int .i64 1,.int .u64 3,.int .u64 0,.int .u64 0,.int .u64 0,.int .u64 0,.int .u64 0,.int .u64 0,.int .u64 0,.bool true,.int .i64 0,.int .u32 9,.int .i64 0,.int .i64 1,.int .u64 1,.int .u64 0,.int .u64 0,.int .u64 0,.int .u64 12,.int .u64 0,.int .u64 0,.int .u64 0,.bool false,.int .i64 1,.int .u32 17,.int .i64 0,.int .i64 1,.int .u64 1,.int .u64 0,.int .u64 0,.int .u64 0,.int .u64 2,.int .u64 0,.int .u64 0,.int .u64 0,.bool false,.int .i64 0,.int .u32 2,.int .i64 0,.int .i64 1,.int .u64 2,.int .u64 0,.int .u64 0,.int .u64 0,.int .u64 8,.int .u64 0,.int .u64 0,.int .u64 0,.bool false,.int .i64 1,.int .u32 32,.int .i64 0,.int .i64 1,.int .u64 2,.int .u64 0,.int .u64 0,.int .u64 0,.int .u64 4,.int .u64 0,.int .u64 0,.int .u64 0,.bool false,.int .i64 1,.int .u32 1,.int .i64 1]),
 (g18,84,#[.int .i64 1,.int .i64 0,.int .i64 0,.int .i64 0,.slice none 0 0,.int .u64 0,.int .u64 0,.int .u64 0,.int .u64 0,.slice none 0 0]),
 (g17,9,#[.string (⟨#[115,48]⟩)]),
 (g16,140,#[.string (⟨#[115,104,97,114,101]⟩),.bool false]),
 (g15,138,#[.string (⟨#[114,111,111,116]⟩),.int .u64 2,.int .u64 0,.int .u64 0,.int .u64 0,.int .i64 0,.int .u64 0,.int .i64 0,.int .u64 0,.int .i64 0,.int .u64 0]),
 (g12,136,#[.string (⟨#[111,98,106,101,99,116,95,114]⟩),.int .u64 0,.int .u64 0,.int .u64 0,.int .u64 0,.int .u64 0,.int .u64 0,.int .u64 0,.int .u64 0,.string (⟨#[115,121,115,116,101,109]⟩),.int .u64 3,.int .u64 0,.int .u64 0,.int .u64 0,.int .u64 0,.int .u64 0,.int .u64 0,.int .u64 0]),
 (g9,134,#[.string (⟨#[100,111,109,97,105,110]⟩),.int .u64 3,.int .u64 0,.int .u64 0,.int .u64 0]),
 (g6,81,#[.string (⟨#[105,110,105,116,95,116]⟩),.slice none 0 0,.bool true,.string (⟨#[117,115,101,114,95,116]⟩),.slice none 0 0,.bool false,.string (⟨#[102,105,108,101,95,116]⟩),.slice none 0 0,.bool false,.string (⟨#[115,104,101,108,108,95,116]⟩),.slice none 0 0,.bool false]),
 (g5,131,#[.string (⟨#[112,114,111,99,101,115,115]⟩),.slice (some ⟨g4,0,none⟩) 4 4,.string (⟨#[102,105,108,101]⟩),.slice (some ⟨g2,0,none⟩) 8 8,.string (⟨#[100,105,114]⟩),.slice (some ⟨g3,0,none⟩) 8 8]),
 (g4,9,#[.string (⟨#[102,111,114,107]⟩),.string (⟨#[116,114,97,110,115,105,116,105,111,110]⟩),.string (⟨#[100,121,110,116,114,97,110,115,105,116,105,111,110]⟩),.string (⟨#[115,101,110,100]⟩)]),
 (g3,9,#[.string (⟨#[114,101,97,100]⟩),.string (⟨#[119,114,105,116,101]⟩),.string (⟨#[99,114,101,97,116,101]⟩),.string (⟨#[117,110,108,105,110,107]⟩),.string (⟨#[97,100,100]⟩),.string (⟨#[114,101,109,111,118,101]⟩),.string (⟨#[114,101,108,97,98,101,108,102,114,111,109]⟩),.string (⟨#[114,101,108,97,98,101,108,116,111]⟩)]),
 (g2,9,#[.string (⟨#[114,101,97,100]⟩),.string (⟨#[119,114,105,116,101]⟩),.string (⟨#[99,114,101,97,116,101]⟩),.string (⟨#[117,110,108,105,110,107]⟩),.string (⟨#[101,120,101,99,117,116,101]⟩),.string (⟨#[101,110,116,114,121,112,111,105,110,116]⟩),.string (⟨#[114,101,108,97,98,101,108,102,114,111,109]⟩),.string (⟨#[114,101,108,97,98,101,108,116,111]⟩)])]
theorem zP{B:Nat}{w0 w:World}{rs:List Rw}{g2 g3 g4 g5 g6 g9 g12 g15 g16 g17 g18 JJ JI JH:Nat}(M:aQ B w0 w (SBQ g2 g3 g4 g5 g6 g9 g12 g15 g16 g17 g18 JJ JI JH) rs):aA w (.slice (some ⟨g5,0,none⟩) 3 3) (.slice (some ⟨g6,0,none⟩) 4 4) (.slice (some ⟨g9,0,none⟩) 1 1) (.slice (some ⟨g12,0,none⟩) 2 2) (.slice (some ⟨g15,0,none⟩) 1 1) (.slice (some ⟨g16,0,none⟩) 1 1) (.slice (some ⟨g17,0,none⟩) 1 1) (.slice none 0 0) (.slice (some ⟨g18,0,none⟩) 1 1) (.slice (some ⟨JJ,0,none⟩) 5 5) (.slice (some ⟨JI,0,none⟩) 1 1) (.slice none 0 0) (.slice none 0 0) (.slice none 0 0) (.slice (some ⟨JH,0,none⟩) 3 3) (.slice none 0 0) (.slice none 0 0) tT:=
 ⟨⟨[[.string (⟨#[112,114,111,99,101,115,115]⟩),.slice (some ⟨g4,0,none⟩) 4 4],[.string (⟨#[102,105,108,101]⟩),.slice (some ⟨g2,0,none⟩) 8 8],[.string (⟨#[100,105,114]⟩),.slice (some ⟨g3,0,none⟩) 8 8]],rfl,by simp,(M.slice 10 rfl rfl rfl (by simp[maxLen])),BG ⟨⟨_,rfl,(M.slice 11 rfl rfl rfl (by simp[maxLen]))⟩,⟨_,rfl,(M.slice 13 rfl rfl rfl (by simp[maxLen]))⟩,⟨_,rfl,(M.slice 12 rfl rfl rfl (by simp[maxLen]))⟩,trivial⟩⟩,
  ⟨[[.string (⟨#[105,110,105,116,95,116]⟩),.slice none 0 0,.bool true],[.string (⟨#[117,115,101,114,95,116]⟩),.slice none 0 0,.bool false],[.string (⟨#[102,105,108,101,95,116]⟩),.slice none 0 0,.bool false],[.string (⟨#[115,104,101,108,108,95,116]⟩),.slice none 0 0,.bool false]],rfl,by simp,(M.slice 9 rfl rfl rfl (by simp[maxLen])),BG ⟨⟨_,rfl,(SliceAt.nil _ 1)⟩,⟨_,rfl,(SliceAt.nil _ 1)⟩,⟨_,rfl,(SliceAt.nil _ 1)⟩,⟨_,rfl,(SliceAt.nil _ 1)⟩,trivial⟩⟩,
  (M.slice 8 rfl rfl rfl (by simp[maxLen])),
  (M.slice 7 rfl rfl rfl (by simp[maxLen])),
  (M.slice 6 rfl rfl rfl (by simp[maxLen])),
  (M.slice 5 rfl rfl rfl (by simp[maxLen])),
  (M.slice 4 rfl rfl rfl (by simp[maxLen])),
  (SliceAt.nil _ 1),
  ⟨[[.int .i64 1,.int .i64 0,.int .i64 0,.int .i64 0,.slice none 0 0,.int .u64 0,.int .u64 0,.int .u64 0,.int .u64 0,.slice none 0 0]],rfl,by simp,(M.slice 3 rfl rfl rfl (by simp[maxLen])),BG ⟨bq.node (names:=[]) (kids:=[]) (set:=⟨0,0,0,0⟩) (SliceAt.nil _ 1) (es:=[]) rfl (by simp) (SliceAt.nil _ 10) (by simp),trivial⟩⟩,
  (M.slice 2 rfl rfl rfl (by simp[maxLen])),
  (M.slice 1 rfl rfl rfl (by simp[maxLen])),
  (SliceAt.nil _ 10),
  (SliceAt.nil _ 13),
  Ld,
  (M.slice 0 rfl rfl rfl (by simp[maxLen])),
  (SliceAt.nil _ 9),
  (SliceAt.nil _ 10)⟩
theorem uZ{l:List Nat}(h:Bytes l):Bytes (eP l):=by
 obtain⟨h0,h1⟩:=zf l;exact h.append (uS h0 h1)
theorem wR:Bytes jq:=uZ (kR 1 iA)
theorem DT{v:Nat}{p:aD}(hv:v≤3):(dM v p).length≤(i_ v p).length+14:=by
 have:=bG (n:=v) (by omega);unfold dM;simp only[alf,List.length_cons,List.length_nil];omega
theorem tR{v:Nat}{p:aD}(hv:v≤3)(h:(i_ v p).length+2000≤aT):(eP (dM v p)).length≤aT:=by
 have:=DT (p:=p) hv;rw[mT];omega
theorem zQ:jq.length≤aT:=tR (by decide) (xT 1)
theorem zB{w0:World}{c0 c1 c2 c3 c4 c5 c6 c7 c8 c9 c10 c11 c12 c13 c14 c15 c16:Value}{p:aD}{ver:Int}{l:List Nat}(hp:aA w0 c0 c1 c2 c3 c4 c5 c6 c7 c8 c9 c10 c11 c12 c13 c14 c15 c16 p)(hok:p.Ok)(hs:p.fM)(hv:gA ver)(he:gb aZ p ver=.ok l):Calls Tryz.prog 13 #[.agg #[c0,c1,c2,c3,c4,c5,c6,c7,c8,c9,c10,c11,c12,c13,c14,c15,c16],.int .i64 ver] w0 (fun r w'=>∃ v,r=.returned v∧((∃ a c,v=.tuple #[.slice a l.length c,.int .i64 0]∧w'.ownsRow w0.heap.size 5 1 (.slice a l.length c) l.length (byteCells l))∧alc w0.heap.size w0 w')):=by
 refine(yH w0 _ _ _ _ _ _ _ _ _ _ _ _ _ _ _ _ _ p hp hok hs ver hv).mono fun r w' ⟨v,e,h1,h2,h3⟩=>?_
 rw[he] at h2;obtain⟨rfl,ho⟩:=h2;obtain⟨a,c,rfl,-,-⟩:=sM ho;exact⟨_,h1,⟨a,c,rfl,ho⟩,h3⟩
theorem Cr{w0:World}{c0 c1 c2 c3 c4 c5 c6 c7 c8 c9 c10 c11 c12 c13 c14 c15 c16:Value}{p:aD}{ver k:Int}(hp:aA w0 c0 c1 c2 c3 c4 c5 c6 c7 c8 c9 c10 c11 c12 c13 c14 c15 c16 p)(hok:p.Ok)(hs:p.fM)(hv:gA ver)(he:gb aZ p ver=.error k):Calls Tryz.prog 13 #[.agg #[c0,c1,c2,c3,c4,c5,c6,c7,c8,c9,c10,c11,c12,c13,c14,c15,c16],.int .i64 ver] w0 (fun r w'=>r=.returned (.tuple #[.slice none 0 0,.int .i64 k])∧alc w0.heap.size w0 w'):=by
 refine(yH w0 _ _ _ _ _ _ _ _ _ _ _ _ _ _ _ _ _ p hp hok hs ver hv).mono fun r w' ⟨v,e,h1,h2,h3⟩=>?_
 rw[he] at h2;obtain⟨rfl,rfl⟩:=h2;exact⟨h1,h3⟩
theorem E8{w0:World}{v:Value}{l:List Nat}{p:aD}{m:Nat}(h:aq w0 v l)(hL:l.length≤aT)(hpre:(∀ n r,cS l=.ok (n,r)→r.length≤aT)∧∀ n r p r',cS l=.ok (n,r)→wY n r=.ok (p,r')→p.Ok∧p.Md)(hd:nW aZ l=.ok (p,m)):Calls Tryz.prog 16 #[v] w0 (fun r w'=>∃ u,r=.returned u∧((∃ (c0 c1 c2 c3 c4 c5 c6 c7 c8 c9 c10 c11 c12 c13 c14 c15 c16:Value) (T:List Rw),u=.tuple #[.agg #[c0,c1,c2,c3,c4,c5,c6,c7,c8,c9,c10,c11,c12,c13,c14,c15,c16],.int .i64 (m:Int),.int .i64 0]∧RowsIn w0.heap.size w' T∧∀ B w,RowsIn B w T→aA w c0 c1 c2 c3 c4 c5 c6 c7 c8 c9 c10 c11 c12 c13 c14 c15 c16 p)∧alc w0.heap.size w0 w')):=by
 refine(xB h hL hpre.1 hpre.2).mono fun r w' ⟨q,c0,c1,c2,c3,c4,c5,c6,c7,c8,c9,c10,c11,c12,c13,c14,c15,c16,n,k,h1,⟨T,hT,oF⟩,h2,h3⟩=>?_
 rw[hd] at h3;obtain⟨rfl,rfl,rfl⟩:=h3;exact⟨_,h1,⟨_,_,_,_,_,_,_,_,_,_,_,_,_,_,_,_,_,T,rfl,hT,oF⟩,h2⟩
theorem Oy{w0:World}{v:Value}{l:List Nat}{m:Nat}(h:aq w0 v l)(hL:l.length≤aT)(hd:wN l=.ok m):Calls Tryz.prog 18 #[v] w0 (fun r w'=>r=.returned (.tuple #[.int .i64 (m:Int),.int .i64 0])∧alc w0.heap.size w0 w'):=by
 refine(zJ h hL).mono fun r w' ⟨v,k,h1,h2,h3⟩=>?_
 rw[hd] at h3;obtain⟨rfl,rfl⟩:=h3;exact⟨h1,h2⟩
theorem Oz{w0:World}{v:Value}{l:List Nat}{k:Int}(h:aq w0 v l)(hL:l.length≤aT)(hd:wN l=.error k):Calls Tryz.prog 18 #[v] w0 (fun r w'=>∃ u,r=.returned u∧((∃ x,u=.tuple #[x,.int .i64 k])∧alc w0.heap.size w0 w')):=by
 refine(zJ h hL).mono fun r w' ⟨v,k,h1,h2,h3⟩=>?_
 rw[hd] at h3;obtain rfl:=h3;exact⟨_,h1,⟨_,rfl⟩,h2⟩
theorem Ox(w0:World):Calls Tryz.prog 29 #[] w0 (fun r w'=>∃ u,r=.returned u∧∃ g,u=.slice (some ⟨g,0,none⟩) 3 3∧Mm w0 w' [(g,3,#[.int .i64 1,.int .i64 2,.int .i64 3])] []):=by
 refine bM [] (vs:=[]) (fn:=Tryz.f29) Tryz.func29 rfl Tryz.ntmps29 rfl<|fun g1 w1 M1=>fun M=>⟨_,rfl,g1,rfl,M⟩
theorem zi{w0:World}{p:aD}{c0 c1 c2 c3 c4 c5 c6 c7 c8 c9 c10 c11 c12 c13 c14 c15 c16:Value}{d0 d1 d2 d3 d4 d5 d6 d7 d8 d9 ZN ZM ZL ZK ZJ ZI ZH:Value}(hp:aA w0 c0 c1 c2 c3 c4 c5 c6 c7 c8 c9 c10 c11 c12 c13 c14 c15 c16 p)(hq:aA w0 d0 d1 d2 d3 d4 d5 d6 d7 d8 d9 ZN ZM ZL ZK ZJ ZI ZH p)(hok:p.Ok)(hb:(i_ 3 p).length+2000≤aT):
 Calls Tryz.prog 20 #[.agg #[c0,c1,c2,c3,c4,c5,c6,c7,c8,c9,c10,c11,c12,c13,c14,c15,c16],.agg #[d0,d1,d2,d3,d4,d5,d6,d7,d8,d9,ZN,ZM,ZL,ZK,ZJ,ZI,ZH]] w0 (fun r w'=>r=.returned (.bool true)∧alc w0.heap.size w0 w'):=
 (OQ hp hok hq hok hb hb).mono fun r w' ⟨h1,h2⟩=>⟨by rw[h1,decide_eq_true rfl],h2⟩
theorem L0{P:Program}{ops ops':Array Oper}{Q:Exit→Act→World→Prop}{S:Act→World→Prop}{o:Oper}{a:Act}{w:World}(hg:Region.wanted o (yielded ops a.tmps)=Region.wanted o (yielded ops' a.tmps))(hS:∀ a w,S a w→a.defers=[])(h0:a.defers=[])
 (h:wpList P ops' (fun e a w=>e=.normal∧S a w) [o] a w) (next:∀ a1 w1,S a1 w1→(∃ v,a1=a.put o.dst v)→Q .normal a1 w1):wpList P ops Q [o] a w:=by
 have hno:¬ LetsOut (fun e a w=>e=Exit.normal∧S a w):=fun⟨_,_,h,_⟩=>by cases h
 unfold wpList at h ⊢;rw[hg];split at h
 case isFalse hw=>
  rw[if_neg hw];exact next _ _ h.2 ⟨_,rfl⟩
 case isTrue hw=>
  rw[if_pos hw];rcases h with h|⟨_,h⟩
  case inr=>exact absurd h hno
  refine .inl ?_;unfold Oper.wp at h ⊢;generalize (execOp a.eval o).run P w=r at h ⊢
  match r,h with
  | .ok (.value v) w',h=>exact next _ _ h.2 ⟨_,rfl⟩
  | .ok .skip w',h=>exact next _ _ h.2 ⟨_,rfl⟩
  | .ok (.defer d) w',h=>exact absurd ((hS _ _ h.2).trans h0.symm) (by cases o.dst<;>simp[Act.put])
  | .ok (.enter f args) w',h=>
   refine Calls.mono h fun e w'' h=>?_
   match e,h with
   | .returned v,h=>exact next _ _ h.2 ⟨_,rfl⟩
   | .panicked c,h=>cases h.1
   | .outgrown,h=>exact absurd h hno
  | .ok (.row row args) w',h=>exact Rows.mono h fun v w'' h=>next _ _ h.2 ⟨_,rfl⟩
  | .halt (.panic v) w',h=>cases h.1
def gOk(L P:List Oper)(o:Oper):Bool:=match o.guard with
 | none=>true
 | some (j,_)=>((L[j]?).bind (·.dst)) == ((P[j]?).bind (·.dst))
def wZ(o:Oper):Oper:={ o with guard:=none }
theorem XP{P:Program}{ops ops':Array Oper}{Q:Exit→Act→World→Prop}{o:Oper}{a:Act}{w:World}(hw:Region.wanted o (yielded ops a.tmps)=true)(h:wpList P ops' Q [wZ o] a w):wpList P ops Q [o] a w:=by
 unfold wpList at h ⊢;rw[if_pos (gB rfl)] at h;rw[if_pos hw];exact h
def Xh(B:Nat)(w0:World)(N:Nat)(l:Slots)(L:List Oper)(K:Slots→List Bx→List Rw→World→Prop):Tr→List Oper→List iP→List Bx→List Rw→World→Prop
 | .done,_,m,bs,rs,w=>qY m l fun l'=>K l' bs rs w
 | .step j t,P,m,bs,rs,w=>vg L j fun o=>bif gOk L (P++[o]) o then gK m o.guard fun _ on=>on=true∧xO none B w0 N l (wZ o) P.length m bs rs w fun m' bs' rs' w'=>Xh B w0 N l L K t (P++[wZ o]) m' bs' rs' w' else False
 | .last _,_,_,_,_,_=>False
 | .alt x y,P,m,bs,rs,w=>Xh B w0 N l L K x P m bs rs w∧Xh B w0 N l L K y P m bs rs w
theorem Inv.UE{ops:Array Oper}{a a':Act}{N:Nat}{l:Slots}{m:List iP}{n:Nat}(I:Inv ops a N l m n)(h:Aa [] a a'):Inv ops a' N l m n:=
 ⟨h.fr I.fr,I.L,I.dst,fun e he=>h.old rfl (I.at_ e he),fun q v h1 h2=>h.old rfl (I.base q v h1 h2)⟩
theorem Inv.more{P:List Oper}{o:Oper}{a:Act}{N:Nat}{l:Slots}{m:List iP}(I:Inv P.toArray a N l m P.length):Inv (P++[o]).toArray a N l m P.length:=
 ⟨I.fr,I.L,fun e he=>by
  have h:=I.dst e he;have hlt:=I.L.lt e he;simp only[List.getElem?_toArray] at h ⊢
  rwa [List.getElem?_append_left hlt],I.at_,I.base⟩
theorem D7{B:Nat}{w0:World}{N:Nat}{l:Slots}{L:List Oper}{K:Slots→List Bx→List Rw→World→Prop}{Q:Act→World→Prop}(hbd:∀ (j:Nat) (o:Oper) (d:Nat),L[j]?=some o→o.dst=some d→d<N)
 (hQ:∀ a l' bs rs w,Fs a N l'→aQ B w0 w bs rs→K l' bs rs w→Q a w):∀ {t:Tr} {P:List Oper} {m:List iP} {bs:List Bx} {rs:List Rw} {a:Act} {w:World},Xh B w0 N l L K t P m bs rs w→Inv P.toArray a N l m P.length→aQ B w0 w bs rs→Kq Tryz.prog L.toArray L [] [] (fun _=>True) Q t a w
 | .done,P,m,bs,rs,a,w,hv,I,M=>fun a' hA hk=>by
  obtain⟨l',h1,F⟩:=(I.UE hA).Zl hv;exact hQ _ _ _ _ _ F M h1
 | .step j t,P,m,bs,rs,a,w,hv,I,M=>fun o ho a' hA hb Q' hn=>by
  obtain⟨o',ho',hv⟩:=jt hv;obtain rfl:o'=o:=Option.some.inj (ho'.symm.trans ho);obtain⟨hg,hv⟩:=cB hv;have I':=(I.UE hA).more (o:=o');have I2:=(I.UE hA).more (o:=wZ o');obtain⟨π,on,⟨hon,hv⟩,-,-,hw',-⟩:=QL I' hv;rw[hon] at hw'
  have hw:Region.wanted o' (yielded L.toArray a'.tmps)=true:=by
   rw[← hw'];unfold gOk at hg;unfold Region.wanted
   cases hgd:o'.guard with
   | none=>rfl
   | some g=>
    obtain⟨i,b⟩:=g;rw[hgd] at hg;have hg:(L[i]?).bind (·.dst)=((P++[o'])[i]?).bind (·.dst):=by simpa using hg
    simp only[yielded,List.getElem?_toArray];rw[hg]
  refine XP (ops':=(P++[wZ o']).toArray) hw<|L0 (ops':=(P++[wZ o']).toArray) (S:=fun a1 w1=>∃ m' bs' rs',Inv (P++[wZ o']).toArray a1 N l m' (P.length+1)∧aQ B w0 w1 bs' rs'∧Xh B w0 N l L K t (P++[wZ o']) m' bs' rs' w1) rfl (fun a w ⟨_,_,_,I,_⟩=>I.fr.defers) I'.fr.defers (ql I2 M (by simp) hv (fun _ h=>by cases h) fun a1 m' bs' rs' w1 I2 M2 h2=>wpList_nil ⟨rfl,m',bs',rs',I2,M2,h2⟩) ?_;rintro a1 w1 ⟨m',bs',rs',I2,M2,h2⟩ ⟨v,hv1⟩
  change a1=a'.put o'.dst v at hv1
  subst hv1;refine hn _ _ trivial ?_ (D7 hbd hQ h2 (by simpa using I2) M2)
  cases hd:o'.dst with
  | none=>exact .none hd rfl
  | some d=>exact .some d v hd (qL I'.fr (hbd j o' d ho hd)) fun n k hk=>by simp at hk
 | .last j,P,m,bs,rs,a,w,hv,I,M=>hv.elim
 | .alt x y,P,m,bs,rs,a,w,hv,I,M=>⟨D7 hbd hQ hv.1 I M,D7 hbd hQ hv.2 I M⟩
theorem gt{X Y:Prop}{KP:PK}{B:Nat}{w0 w:World}{N:Nat}{l:Slots}{bs:List Bx}{rs:List Rw}{ops:Array Oper}{id:Nat}{k:Slots→List Bx→List Rw→World→Prop}(t:Tr)(h0:Bw N ops.toList [] t=true)
 (h:∀ w',alc w.heap.size w w'→aQ B w0 w' bs rs→Xh B w0 N l ops.toList k t [] [] bs rs w') :
 X∨Y∨∀ (a:Act) (Q:Exit→Act→World→Prop),Fs a N l→aQ B w0 w bs rs→(∀ Pn,KP=some Pn→∀ a' ch w',Fr a' N→Pn ch w'→Q (.panic ch) a' w')→(∀ a' l' bs' rs' w',Fs a' N l'→aQ B w0 w' bs' rs'→k l' bs' rs' w'→Q .normal a' w')→(Code.region id ops true).wp Tryz.prog Q a w:=by
 refine .inr (.inr fun a Q Fa M _ next=>?_);obtain⟨L,rfl⟩:∃ L:List Oper,ops=L.toArray:=⟨ops.toList,by simp⟩;rw[List.toList_toArray] at h0 h;unfold Bw at h0;simp only[Bool.and_eq_true,decide_eq_true_eq] at h0;obtain⟨jQ,hnd,hbd,hcd,hsub⟩:=h0;have Md:=M.keep (w':=w.drew) (Below.refl _ _).drew;refine xG [] [] t (fun _=>True) (by kernel_rfl) jQ rfl rfl hnd hbd hcd hsub Fa.fr trivial trivial (D7 (fun j o d ho hd=>?_) (fun a l' bs rs w F M h=>next a l' bs rs w F M h) (h w.drew (Below.refl _ _).drew Md) (Inv.start Fa) Md);have:=alb.1 hbd d (List.mem_filterMap.2 ⟨o,ala ho,hd⟩);simpa using this
end Go.Proofs.YtkkmjdceiocnbaaGreatDoor

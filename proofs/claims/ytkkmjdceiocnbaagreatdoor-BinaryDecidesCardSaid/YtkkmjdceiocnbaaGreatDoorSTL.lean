import Derived.JoinedOf
import Derived.LaidMore
import Derived.OpenShut
import Derived.ProofKit
import Derived.SizedLaws
import Derived.Stop.Joined
import Derived.Test.YtkkmjdceiocnbaaGreatDoorCards
import Derived.Test.YtkkmjdceiocnbaaGreatDoorChecked
import Derived.Test.YtkkmjdceiocnbaaGreatDoorRows
import Derived.Test.YtkkmjdceiocnbaaGreatDoorTie
import Derived.Test.YtkkmjdceiocnbaaGreatDoorSTK
open Bool renaming and_eq_true→ama
open Go.RowKit renaming Below→al5
open List renaming getElem?_eq_getElem→al7,mem_of_getElem?→al8,take_length→al9,length_map→amb
open Nat renaming zero_le→al6
set_option maxRecDepth 100000
set_option maxHeartbeats 8000000
set_option linter.unusedSectionVars false
set_option linter.unusedSimpArgs false
set_option linter.unusedVariables false
namespace Go.Proofs.YtkkmjdceiocnbaaGreatDoor
open Go Go.RowKit
theorem oZ{p:aD}(h1:¬ 64<p.conds.length)(h2:¬ ah (eu p) p.conds.length 0=0):cP p=ah (eu p) p.conds.length 0:=by
 unfold cP;rw[if_neg h1,if_neg h2]
theorem oW{p:aD}(h1:¬ 64<p.conds.length)(h2:ah (eu p) p.conds.length 0=0)(h3:4096<p.rules.length):cP p=4:=by
 unfold cP;rw[if_neg h1,if_pos h2,if_pos h3]
theorem oV{p:aD}(h1:¬ 64<p.conds.length)(h2:ah (eu p) p.conds.length 0=0)(h3:¬ 4096<p.rules.length):cP p=ah (iB p) p.rules.length 0:=by
 unfold cP;rw[if_neg h1,if_pos h2,if_neg h3]
theorem sH(w:World)(c0 c1 c2 c3 c4 c5 c6 c7 c8 c9 c10 c11 c12 c13 c14 c15 c16:Value)(p:aD)(hp:aA w c0 c1 c2 c3 c4 c5 c6 c7 c8 c9 c10 c11 c12 c13 c14 c15 c16 p)(hok:p.Ok):Calls Tryz.prog 57 #[.agg #[c0,c1,c2,c3,c4,c5,c6,c7,c8,c9,c10,c11,c12,c13,c14,c15,c16]] w fun e w'=>e=.returned (.int .i64 (cP p))∧al5 w.heap.size w w':=by
 obtain⟨_,_,_,_,_,_,_,_,_,_,_,_,_,_,_,_,_,_,_,_,_,_,_,_,_,_,_,_,_,_,_,_,_,_,rfl,rfl,rfl,rfl,rfl,rfl,rfl,rfl,rfl,rfl,rfl,rfl,rfl,rfl,rfl,rfl,rfl⟩:=hp.open;have rQ:=hok.jm;refine bM [] (fn:=Tryz.f57) Tryz.func57 rfl Tryz.ntmps57 rfl<|fun g1 w1 M1=>lb 0<|an rfl<|an (fun h M=>⟨ri (if_pos (by simp at h;omega)),M.below⟩) fun h=>?_
 have h1:¬ 64<p.conds.length:=by simp at h;omega
 refine lr (ι:=Nat) (fun m=>[(3,.int .i64 (m:Int))]) (fun m _=>m≤p.conds.length∧ah (eu p) p.conds.length 0=ah (eu p) (p.conds.length-m) m) (fun m=>p.conds.length-m) 0 (an ⟨⟨rfl,trivial⟩,fun M=>⟨M,al6 _,by rw[Nat.sub_zero]⟩⟩ ?_);rintro m w2 M ⟨hm,hinv⟩;refine lb 0<|an rfl<|an (fun h2=>?_) fun h2=>?_
 ·have hlt:m<p.conds.length:=by simp at h2;omega
  obtain⟨y,hy⟩:∃ y,p.conds[m]?=some y:=⟨_,al7 hlt⟩;obtain⟨b,o,_,e,hE,hc⟩:=aj.elt hp.conds (by decide) hy;obtain⟨nv,kv,rfl,hn,hk⟩:=hE.open;obtain⟨_,_,rfl,-⟩:=aN.get hn;obtain⟨_,_,rfl,-⟩:=aj.form hk (by decide);have hcf:eu p m=cW p.bools.length y:=by unfold eu;rw[hy]
  exact dr (by kernel_rfl)<|lb 0<|an rfl<|lb 0<|an rfl<|ia<|an ⟨e,rfl,hlt⟩<|lc<|an (bZ M.below hc)<|cl<|an (fun w' hb' M'=>mI y _ _ _ _ _ _ _ _ _ _ _ _ _ _ _ _ _ _ _ p (hp.keep M'.below) (hE.keep M'.below)) fun w2 hb2 M2=>an (fun h3 M=>⟨ri (by
   have h3:eu p m≠0:=by rw[hcf];simpa using h3
   rw[oZ h1 (by rw[hinv,aP hlt h3];exact h3),hinv,aP hlt h3,hcf]),M.below⟩) fun h3=>an (by omega)<|bk (m+1) ⟨rfl,trivial⟩ (fun M=>⟨M,by omega,hinv.trans (aG hlt (by rw[hcf];simpa using h3))⟩) (by dsimp only;omega)
 have hz:ah (eu p) p.conds.length 0=0:=by rw[hinv,show m=p.conds.length by simp at h2;omega,aM]
 clear hinv h2 hm h;refine lb 0<|an rfl<|an (fun h M=>⟨ri (oW h1 hz (by simp at h;omega)),M.below⟩) fun h=>?_
 rw[oV h1 hz (by simp at h;omega)];have hr:¬ 4096<p.rules.length:=by simp at h;omega
 clear h M;refine lr (ι:=Nat) (fun m=>[(5,.int .i64 (m:Int))]) (fun i _=>i≤p.rules.length∧ah (iB p) p.rules.length 0=ah (iB p) (p.rules.length-i) i) (fun i=>p.rules.length-i) 0 (an ⟨⟨rfl,trivial⟩,fun M=>⟨M,al6 _,by rw[Nat.sub_zero]⟩⟩ ?_);rintro i w M ⟨hi,hinv⟩;refine lb 0<|an rfl<|an (fun h2=>?_) fun h2 M=>⟨ri (by rw[hinv,show i=p.rules.length by simp at h2;omega,aM]),M.below⟩
 have hlt:i<p.rules.length:=by simp at h2;omega
 obtain⟨r,hy⟩:∃ y,p.rules[i]?=some y:=⟨_,al7 hlt⟩;have Ey:=hok.rules r (al8 hy);obtain⟨b,o,e,hc⟩:=SliceAt.elt hp.rules (fun _=>rfl) (by decide) hy hlt;have hcf:iB p i=o_ p.types.length p.conds.length p.classes r:=by unfold iB;rw[hy]
 have out:∀ v:Int,o_ p.types.length p.conds.length p.classes r=v→v≠0→ah (iB p) p.rules.length 0=v:=fun v h1 h2=>by rw[hinv,aP hlt (by rw[hcf,h1];exact h2),hcf,h1]
 unfold o_ at hcf out;refine lb 0<|an rfl<|ia<|an ⟨e,rfl,hlt⟩<|lc<|an (bZ M.below hc)<|ei<|an zH fun g2 w3 M3=>lb 0<|an ⟨rfl,rfl⟩ fun w4 M4=>lb 0<|an rfl<|lb 0<|an (fun _=>rfl)<|an (fun h M=>⟨ri (out 13 ?_ (by decide)),M.below⟩) fun h=>?_
 ·by_cases h5:r.kind<1
  ·rw[if_pos h5]
  ·rw[if_neg h5,if_pos (by simp at h;omega)]
 rw[if_neg (by simp at h;omega),if_neg (by simp at h;omega)] at hcf out;refine lb 0<|an rfl<|lb 1<|an rfl<|cl<|an (bQ _ r.src Ey.src _ rQ) fun w5 M5=>lb 0<|an rfl<|lb 1<|an rfl<|cl<|an (bQ _ r.tgt Ey.tgt _ rQ) fun w6 M6=>lb 1<|an (fun _=>rfl)<|lb 0<|an (fun _=>rfl)<|lb 0<|an (fun _=>rfl)<|cl<|an (fun _=>j8 _ _ _ _ _ _ _ _ _ _ _ _ _ _ _ _ _ _ p (hp.keep M6.below) r.cls r.perms Ey.perms) fun w7 M7=>lb 1<|an (fun _=>rfl)<|lb 0<|an (fun _=>rfl)<|cl<|an (fun _=>pG _ _ _ _ _ _ _ _ _ _ _ _ _ _ _ _ _ _ p (hp.keep M7.below) _) fun w8 M8=>an (fun h3 M=>⟨ri (out 3 ?_ (by decide)),M.below⟩) fun h3=>?_
 ·clear out hcf;cases h6:r.src.within (aE.all p.types.length)<;>cases h7:r.tgt.within (aE.all p.types.length)<;>cases h8:eM p.classes r.cls r.perms<;>cases h9:lX p.conds.length r.cond<;>simp_all [oO]
 rw[if_neg (by clear out hcf;cases h6:r.src.within (aE.all p.types.length)<;>cases h7:r.tgt.within (aE.all p.types.length)<;>cases h8:eM p.classes r.cls r.perms<;>cases h9:lX p.conds.length r.cond<;>simp_all [oO])] at hcf out;exact lb 0<|an (fun _=>rfl)<|lb 0<|an (fun _=>rfl)<|lb 0<|an (fun _=>rfl)<|lb 0<|an (fun _=>rfl)<|an (fun h4 M=>⟨ri (out 2 (if_pos h4) (by decide)),M.below⟩) fun h4=>an (by omega)<|bk (i+1) ⟨rfl,trivial⟩ (fun M=>⟨M.only (.cons _ (.refl _)) (.refl _),by omega,hinv.trans (aG hlt (by rw[hcf,if_neg (fun e=>by rw[show tW (bD r.src) (bD r.tgt) r=false from h4] at e;cases e)]))⟩) (by dsimp only;omega)
theorem SliceAt.of_whole{w:World}{g:Nat}{t:TypeId}{cs:Array Value}{k n:Nat}(h:Whole w g t cs)(hl:cs.toList.length=n*k)(h1:cs.toList.all (·.oneCell')=true)(hn:n≤maxLen):
 SliceAt w (.slice (some ⟨g,0,none⟩) n n) k n cs.toList:=
 ⟨hl,hn,fun u hu=>List.all_eq_true.1 h1 u hu,.inr ⟨_,n,rfl,Nat.le_refl _,fun j u hu=>by rw[Addr.add_lit,Nat.zero_add,h.cell];simpa using hu⟩⟩
theorem pN(w:World)(c0 c1 c2 c3 c4 c5 c6 c7 c8 c9 c10 c11 c12 c13 c14 c15 c16:Value)(p:aD)(hp:aA w c0 c1 c2 c3 c4 c5 c6 c7 c8 c9 c10 c11 c12 c13 c14 c15 c16 p)(hok:p.Ok):Calls Tryz.prog 62 #[.agg #[c0,c1,c2,c3,c4,c5,c6,c7,c8,c9,c10,c11,c12,c13,c14,c15,c16]] w fun e w'=>e=.returned (.int .i64 (dG p))∧al5 w.heap.size w w':=by
 obtain⟨_,_,_,_,_,_,_,_,_,_,_,_,_,_,_,_,_,_,_,_,_,_,_,_,_,_,_,_,_,_,_,_,_,_,rfl,rfl,rfl,rfl,rfl,rfl,rfl,rfl,rfl,rfl,rfl,rfl,rfl,rfl,rfl,rfl,rfl⟩:=hp.open;have rQ:=hok.jm;refine bM [] (fn:=Tryz.f62) Tryz.func62 rfl Tryz.ntmps62 rfl<|fun g1 w1 M1=>lb 0<|an rfl<|an (fun h M=>⟨ri (if_pos (by simp at h;omega)),M.below⟩) fun h=>?_
 have hr:¬ 64<p.asserts.length:=by simp at h;omega
 rw[show dG p=ah (dX p) p.asserts.length 0 from if_neg hr];refine lq (ι:=Nat×Value) (fun(m,u)=>[(3,u),(4,.int .i64 (m:Int))]) (fun(m,u)=>[⟨u,9,1,m,((p.asserts.take m).map (·.name)).flatMap aR⟩]) (fun(m,u) _=>m≤p.asserts.length∧ah (dX p) p.asserts.length 0=ah (dX p) (p.asserts.length-m) m) (fun(m,u)=>p.asserts.length-m) (0,.slice none 0 0) (an ⟨⟨rfl,rfl,trivial⟩,fun M=>⟨M.bS 9 1,al6 _,by rw[Nat.sub_zero]⟩⟩ ?_);rintro⟨m,u⟩ w M ⟨hm,hinv⟩;refine lb 0<|an rfl<|an (fun h2=>?_) fun h2 M=>⟨ri (by rw[hinv,show m=p.asserts.length by simp at h2;omega,aM]),M.below⟩
 have hlt:m<p.asserts.length:=by simp at h2;omega
 obtain⟨y,hy⟩:∃ y,p.asserts[m]?=some y:=⟨_,al7 hlt⟩;have dD:=hok.asserts y (al8 hy);obtain⟨b,o,e,hc⟩:=SliceAt.elt hp.asserts (fun _=>rfl) (by decide) hy hlt;have hcf:dX p m=jA p.types.length ((p.asserts.take m).map (·.name)) y:=by unfold dX;rw[hy]
 have out:∀ v:Int,jA p.types.length ((p.asserts.take m).map (·.name)) y=v→v≠0→ah (dX p) p.asserts.length 0=v:=fun v h1 h2=>by rw[hinv,aP hlt (by rw[hcf,h1];exact h2),hcf,h1]
 unfold jA at hcf out;refine lb 0<|an rfl<|ia<|an ⟨e,rfl,hlt⟩<|lc<|an (bZ M.below hc)<|ei<|an A_ fun g2 w2 M2=>lb 0<|an ⟨rfl,rfl⟩ fun w3 M3=>lb 0<|an rfl<|fun g3 w4 M4=>cl<|an (bF _ _ _ [y.name] ((p.asserts.take m).map (·.name)) (M4.slice 0 rfl rfl rfl (by simp[maxLen])) (bP (M4.r 0 rfl) (by simp;omega) rfl) (by simpa using dD.name)) fun w5 M5=>an (fun h3 M=>⟨ri (out _ (if_neg (by simpa using h3)) (by simpa using h3)),M.below⟩) fun h3=>?_
 replace h3:aU [y.name] ((p.asserts.take m).map (·.name))=0:=by simpa using h3
 rw[if_pos h3] at hcf out;refine lb 1<|an rfl<|fun g4 w6 M6=>ap 0 id rfl (M6.slice 0 rfl rfl rfl (by simp[maxLen])) ⟨by unfold maxLen;omega,by omega⟩ fun v5 w7 M7=>lb 2<|an rfl<|lb 2<|an (fun _=>rfl)<|an (fun h M=>⟨ri (out 13 ?_ (by decide)),M.below⟩) fun h=>?_
 ·by_cases h5:y.kind<1
  ·rw[if_pos h5]
  ·rw[if_neg h5,if_pos (by simp at h;omega)]
 rw[if_neg (by simp at h;omega),if_neg (by simp at h;omega)] at hcf out;refine lb 2<|an rfl<|lb 3<|an rfl<|cl<|an (bQ _ y.src dD.src _ rQ) fun w8 M8=>lb 2<|an rfl<|lb 3<|an rfl<|cl<|an (bQ _ y.tgt dD.tgt _ rQ) fun w9 M9=>an (fun h4 M=>⟨ri (out 3 (if_pos h4) (by decide)),M.below⟩) fun h4=>?_
 rw[if_neg (fun e=>by rw[h4] at e;cases e)] at hcf out;exact an (fun h5 M=>⟨ri (out 2 (if_pos h5) (by decide)),M.below⟩) fun h5=>an (by omega)<|bk (m+1,v5) ⟨rfl,rfl,trivial⟩ (fun M=>⟨(M.only (.cons _ (.cons _ (.cons _ (.refl _)))) (.refl _)).cast rfl (by dsimp only;rw[eD hy]),by omega,hinv.trans (aG hlt (by rw[hcf,if_neg (fun e=>by rw[h5] at e;cases e)]))⟩) (by dsimp only;omega)
theorem sI(w0:World)(c0 c1 c2 c3 c4 c5 c6 c7 c8 c9 c10 c11 c12 c13 c14 c15 c16:Value)(p:aD)(hp:aA w0 c0 c1 c2 c3 c4 c5 c6 c7 c8 c9 c10 c11 c12 c13 c14 c15 c16 p)(hok:p.Ok):Calls Tryz.prog 54 #[.agg #[c0,c1,c2,c3,c4,c5,c6,c7,c8,c9,c10,c11,c12,c13,c14,c15,c16]] w0 (RI w0 (dO p)):=by
 obtain⟨_,_,_,a3,_,_,_,_,_,_,_,_,_,_,_,_,_,_,_,_,k3,_,_,_,_,_,_,_,_,_,_,_,_,_,rfl,rfl,rfl,rfl,rfl,rfl,rfl,rfl,rfl,rfl,rfl,rfl,rfl,rfl,rfl,rfl,rfl⟩:=hp.open
 obtain⟨r,b,o,H⟩:∃ (r:dI) (b o:Nat),p.roles.length≠0→p.roles[0]?=some r∧a3=some ⟨b,o,none⟩∧∀ j u,r.cells[j]?=some u→w0.cell? ⟨b,o+0*9+j,none⟩=some u:=by
  by_cases h0:p.roles.length=0
  ·exact⟨gU,0,0,fun h=>absurd h0 h⟩
  ·have hy:=al7 (Nat.pos_of_ne_zero h0);obtain⟨b,o,e,hc⟩:=SliceAt.elt hp.roles (fun _=>rfl) (by decide) hy (Nat.pos_of_ne_zero h0);exact⟨_,b,o,fun _=>⟨hy,e,hc⟩⟩
 refine bM [] (fn:=Tryz.f54) Tryz.func54 rfl Tryz.ntmps54 rfl<|fun g1 w1 M1=>lb 0<|an rfl<|an (fun h M=>⟨ri (by unfold dO;rw[if_pos (by simp at h;omega)]),M.below⟩) fun h=>?_
 have hr:¬ 32<p.roles.length:=by simp at h;omega
 refine lb 0<|an rfl<|cl<|an (kg _ _ hok.jm) fun w2 M2=>ei<|an m_ fun g2 w3 M3=>lb 0<|an ⟨rfl,rfl⟩ fun w4 M4=>lb 1<|an rfl<|lb 1<|an (fun _=>rfl)<|ia (b:=b) (off:=o) (i:=0)<|an (fun h=>⟨(H fun e=>by simp[e] at h).2.1,rfl,Nat.pos_of_ne_zero fun e=>by simp[e] at h⟩)<|lc (x:=[.string r.name,.int .u64 r.types.a,.int .u64 r.types.b,.int .u64 r.types.c,.int .u64 r.types.d,.int .u64 r.next.a,.int .u64 r.next.b,.int .u64 r.next.c,.int .u64 r.next.d])<|an (fun h=>bZ M4.below (H fun e=>by simp[e] at h).2.2)<|ei (x:=.agg #[.string ⟨#[111,98,106,101,99,116,95,114]⟩,.int .u64 0,.int .u64 0,.int .u64 0,.int .u64 0,.int .u64 0,.int .u64 0,.int .u64 0,.int .u64 0])<|an (fun _=>bd (by kernel_rfl))<|ei<|an (fun h=>⟨LG,ur r⟩)<|an (fun h2 M=>⟨ri ?_,M.below⟩) fun h2=>?_
 ·unfold dO;rw[if_neg hr,if_pos];by_cases h0:p.roles.length=0
  ·exact vU h0
  ·exact AX (H h0).1 (by simpa[h0] using h2)
 have h0:p.roles.length≠0:=fun e=>by simp[e] at h2
 obtain⟨hr0,-,-⟩:=H h0;have hro:r=gU:=by simpa[h0] using h2
 rw[show dO p=ah (ji p) (p.roles.length-1) 1 by unfold dO;rw[if_neg hr,if_neg (head_eq hr0 hro)]];refine fun g3 w5 M5=>lp (ι:=Nat×Value) (fun(m,u)=>[(4,u),(5,.int .i64 (m:Int))]) (fun _=>[_,_]) (fun(m,u)=>[⟨u,9,1,m,((p.roles.take m).map (·.name)).flatMap aR⟩]) (fun(m,u) _=>(1≤m∧m≤p.roles.length)∧ah (ji p) (p.roles.length-1) 1=ah (ji p) (p.roles.length-m) m) (fun(m,u)=>p.roles.length-m) (1,.slice (some ⟨g3,0,none⟩) 1 1) (an ⟨⟨rfl,rfl,trivial⟩,fun M=>⟨(M.su 1 1 (by simp[maxLen]) rfl).cast rfl (by dsimp only;rw[← tX hr0 hro];rfl),⟨Nat.le_refl _,Nat.pos_of_ne_zero h0⟩,rfl⟩⟩ ?_)
 rintro⟨m,u⟩ w M ⟨⟨h1m,hm⟩,hinv⟩;refine lb 1<|an rfl<|an (fun h2=>?_) fun h2 M=>⟨ri (by rw[hinv,show m=p.roles.length by simp at h2;omega,aM]),M.below⟩
 have hlt:m<p.roles.length:=by simp at h2;omega
 obtain⟨y,hy⟩:∃ y,p.roles[m]?=some y:=⟨_,al7 hlt⟩;have dD:=hok.roles y (al8 hy);obtain⟨b,o,e,hc⟩:=SliceAt.elt hp.roles (fun _=>rfl) (by decide) hy hlt;have hcf:ji p m=qD p.types.length p.roles.length ((p.roles.take m).map (·.name)) y:=by unfold ji;rw[hy]
 have out:∀ v:Int,qD p.types.length p.roles.length ((p.roles.take m).map (·.name)) y=v→v≠0→ah (ji p) (p.roles.length-1) 1=v:=fun v h1 h2=>by rw[hinv,aP hlt (by rw[hcf,h1];exact h2),hcf,h1]
 unfold qD at hcf out;refine lb 1<|an rfl<|ia<|an ⟨e,rfl,hlt⟩<|lc<|an (bZ M.below hc)<|ei<|an C9 fun g2 w2 M2=>lb 0<|an ⟨rfl,rfl⟩ fun w3 M3=>lb 0<|an rfl<|fun g3 w4 M4=>cl<|an (bF _ _ _ [y.name] ((p.roles.take m).map (·.name)) (M4.slice 0 rfl rfl rfl (by simp[maxLen])) (bP (M4.r 0 rfl) (by simp;omega) rfl) (by simpa using dD.name)) fun w5 M5=>an (fun h3 M=>⟨ri (out _ (if_neg (by simpa using h3)) (by simpa using h3)),M.below⟩) fun h3=>?_
 replace h3:aU [y.name] ((p.roles.take m).map (·.name))=0:=by simpa using h3
 rw[if_pos h3] at hcf out;refine lb 1<|an rfl<|fun g4 w6 M6=>ap 0 id rfl (M6.slice 0 rfl rfl rfl (by simp[maxLen])) ⟨by unfold maxLen;omega,by omega⟩ fun v5 w7 M7=>lb 2<|an rfl<|lb 3<|an rfl<|cl<|an (fV _ y.types (aE.all p.types.length) dD.types (jZ _)) fun w8 M8=>lb 4<|an (fun _=>rfl)<|lb 2<|an (fun _=>rfl)<|cl<|an (fun _=>cI _ _ _ _ _ _ _ _ _ _ _ _ _ _ _ _ _ _ p (hp.keep M8.below) hok y.next dD.next) fun w9 M9=>an (fun h5 M=>⟨ri (out 3 ?_ (by decide)),M.below⟩) fun h5=>an (by omega)<|bk (m+1,v5) ⟨rfl,rfl,trivial⟩ (fun M=>⟨(M.only (.cons _ (.cons _ (.cons _ (.refl _)))) (.refl _)).cast rfl (by dsimp only;rw[eD hy]),by omega,hinv.trans (aG hlt ?_)⟩) (by dsimp only;omega)
 all_goals first|(rw[hcf];clear hcf out)|clear hcf out
 all_goals cases h6:y.types.within (aE.all p.types.length)<;>cases h7:kf p.roles.length y.next<;>simp_all
structure aD.HJ (p:aD):Prop where
 types:p.types.length≤12
 jg:∀ t∈p.types,t.jg.length≤4
theorem j_{p:aD}(h:p.HJ)(m:Nat):(bh (p.types.take m)).length≤m*5:=by
 have h1:=vN (l:=p.types.take m) fun t ht=>h.jg t (List.mem_of_mem_take ht)
 have h2:(p.types.take m).length≤m:=List.length_take_le _ _;omega
theorem gJ(w0:World)(c0 c1 c2 c3 c4 c5 c6 c7 c8 c9 c10 c11 c12 c13 c14 c15 c16:Value)(p:aD)(hp:aA w0 c0 c1 c2 c3 c4 c5 c6 c7 c8 c9 c10 c11 c12 c13 c14 c15 c16 p)(hok:p.Ok)(pR:p.HJ)(k:Nat)(hk:k≤p.types.length):Calls Tryz.prog 151 #[.agg #[c0,c1,c2,c3,c4,c5,c6,c7,c8,c9,c10,c11,c12,c13,c14,c15,c16],.int .i64 (k:Int)] w0 (fun(e:Ending) (w':World)=>∃ v,e=.returned v∧(Ks w' w0.heap.size v (bh (p.types.take k))∧al5 w0.heap.size w0 w')):=by
 obtain⟨_,_,_,_,_,_,_,_,_,_,_,_,_,_,_,_,_,_,_,_,_,_,_,_,_,_,_,_,_,_,_,_,_,_,rfl,rfl,rfl,rfl,rfl,rfl,rfl,rfl,rfl,rfl,rfl,rfl,rfl,rfl,rfl,rfl,rfl⟩:=hp.open;have rQ:=pR.types;refine bM [] (fn:=Tryz.f151) Tryz.func151 rfl Tryz.ntmps151 rfl<|fun g1 w1 M1=>lq (ι:=Nat×Value) (fun(m,u)=>[(5,u),(6,.int .i64 (m:Int))]) (fun(m,u)=>[⟨u,9,1,(bh (p.types.take m)).length,(bh (p.types.take m)).flatMap aR⟩]) (fun(m,u) _=>m≤k) (fun(m,u)=>k-m) (0,.slice none 0 0) (an ⟨⟨rfl,rfl,trivial⟩,fun M=>⟨M.bS 9 1,al6 _⟩⟩ ?_)
 rintro⟨m,u⟩ w M hm;refine an (fun h2=>?_) fun h2 M=>⟨_,rfl,?_,M.below⟩
 ·have hlt:m<k:=by simp at h2;omega
  obtain⟨y,hy⟩:∃ y,p.types[m]?=some y:=⟨_,al7 (Nat.lt_of_lt_of_le hlt hk)⟩;obtain⟨b,o,_,e,⟨v,rfl,hv⟩,hc⟩:=aj.elt hp.types (by decide) hy;have hl:=j_ pR m;have hal:=pR.jg y (al8 hy);exact lb 0<|an rfl<|ia<|an ⟨e,rfl,by omega⟩<|lc<|an (bZ M.below hc 0 _ rfl)<|fun g2 w2 M2=>ap 0 id rfl (M2.slice 0 rfl rfl rfl (by simp[maxLen])) ⟨by unfold maxLen;omega,by omega⟩ fun v3 w3 M3=>lb 1<|an rfl<|ia<|an ⟨e,rfl,by omega⟩<|lc<|an (bZ M3.below hc 1 _ rfl)<|ap 0 id rfl (hv.keep M3.below) ⟨by unfold maxLen;omega,by omega⟩ fun v4 w4 M4=>an (by omega)<|bk (m+1,v4) ⟨rfl,rfl,trivial⟩ (fun M=>⟨(M.only (.cons _ (.refl _)) (.refl _)).cast rfl (by dsimp only;rw[List.take_add_one,hy];simp[bh,aR];omega),by omega⟩) (by dsimp only;omega)
 ·obtain rfl:m=k:=by simp at h2;omega
  exact M.r 0 rfl
theorem sA(w0:World)(c0 c1 c2 c3 c4 c5 c6 c7 c8 c9 c10 c11 c12 c13 c14 c15 c16:Value)(p:aD)(hp:aA w0 c0 c1 c2 c3 c4 c5 c6 c7 c8 c9 c10 c11 c12 c13 c14 c15 c16 p)(hok:p.Ok)(pR:p.HJ):Calls Tryz.prog 53 #[.agg #[c0,c1,c2,c3,c4,c5,c6,c7,c8,c9,c10,c11,c12,c13,c14,c15,c16]] w0 (RI w0 (eO p)):=by
 obtain⟨_,_,_,_,_,_,_,_,_,_,_,_,_,_,_,_,_,_,_,_,_,_,_,_,_,_,_,_,_,_,_,_,_,_,rfl,rfl,rfl,rfl,rfl,rfl,rfl,rfl,rfl,rfl,rfl,rfl,rfl,rfl,rfl,rfl,rfl⟩:=hp.open;have rQ:=pR.types;refine bM [] (fn:=Tryz.f53) Tryz.func53 rfl Tryz.ntmps53 rfl<|fun g1 w1 M1=>lb 0<|an rfl<|an (fun h=>by simp at h;omega) fun h=>?_
 have hr:¬ 256<p.types.length:=by omega
 refine lr (ι:=Nat) (fun m=>[(3,.int .i64 (m:Int))]) (fun m _=>m≤p.types.length∧ah (iz p) p.types.length 0=ah (iz p) (p.types.length-m) m) (fun m=>p.types.length-m) 0 (an ⟨⟨rfl,trivial⟩,fun M=>⟨M,al6 _,by rw[Nat.sub_zero]⟩⟩ ?_);rintro m w M ⟨hm,hinv⟩;refine lb 0<|an rfl<|an (fun h2=>?_) fun h2=>?_
 ·have hlt:m<p.types.length:=by simp at h2;omega
  obtain⟨y,hy⟩:∃ y,p.types[m]?=some y:=⟨_,al7 hlt⟩;have dD:=hok.types y (al8 hy);have hal:=pR.jg y (al8 hy);obtain⟨b,o,_,e,⟨v,rfl,hv⟩,hc⟩:=aj.elt hp.types (by decide) hy;have hcf:iz p m=aU (y.name::y.jg) (bh (p.types.take m)):=by unfold iz;rw[hy];rfl
  exact dr (by kernel_rfl)<|lb 0<|an rfl<|ia<|an ⟨e,rfl,hlt⟩<|lc<|an (bZ M.below hc 0 _ rfl)<|bl<|lb 0<|an rfl<|ia<|an ⟨e,rfl,hlt⟩<|lc<|an (bZ M.below hc 1 _ rfl)<|fun g2 w2 hb2 M2=>ap 0 (fun M=>M.su 1 1 (by simp[maxLen]) rfl) rfl (hv.keep M2.below) ⟨by unfold maxLen;omega,by omega⟩ fun v3 w3 M3=>lb 0<|an rfl<|cw M3 (gJ _ _ _ _ _ _ _ _ _ _ _ _ _ _ _ _ _ _ p (hp.keep M3.below) hok pR m hm) fun u w4 M4=>cl<|an (bF _ _ _ (y.name::y.jg) (bh (p.types.take m)) (bP (M4.r 1 rfl) (by simp;omega) rfl) (bP (M4.r 0 rfl) rfl rfl) (oM dD)) fun w5 M5=>an (fun h3 M=>⟨ri (by
   have h3:aU (y.name::y.jg) (bh (p.types.take m))≠0:=by simpa using h3
   have e:ah (iz p) p.types.length 0=aU (y.name::y.jg) (bh (p.types.take m)):=by rw[hinv,aP hlt (by rw[hcf];exact h3),hcf]
   unfold eO;rw[if_neg hr,e,if_neg h3]),M.below⟩) fun h3=>an (by omega)<|bk (m+1) ⟨rfl,trivial⟩ (fun M=>⟨M.only (.refl _) (.cons _ (.cons _ (.refl _))),by omega,hinv.trans (aG hlt (by rw[hcf];simpa using h3))⟩) (by dsimp only;omega)
 have hz:ah (iz p) p.types.length 0=0:=by rw[hinv,show m=p.types.length by simp at h2;omega,aM]
 clear hinv h2;refine lb 0<|an rfl<|an (fun h M=>⟨ri (by unfold eO;rw[if_neg hr,if_pos hz,if_pos (by simp at h;omega)]),M.below⟩) fun h=>?_
 have ha:¬ 64<p.attrs.length:=by simp at h;omega
 rw[show eO p=ah (iJ p) p.attrs.length 0 by unfold eO;rw[if_neg hr,if_pos hz,if_neg ha]];refine lb 0<|an rfl<|lb 0<|an rfl<|cw M (gJ _ _ _ _ _ _ _ _ _ _ _ _ _ _ _ _ _ _ p (hp.keep M.below) hok pR p.types.length (Nat.le_refl _)) fun u0 w5 M5=>lq (ι:=Nat×Value) (fun(m,u)=>[(6,u),(7,.int .i64 (m:Int))]) (fun(m,u)=>[⟨u,9,1,(bh p.types++(p.attrs.take m).map (·.name)).length,(bh p.types++(p.attrs.take m).map (·.name)).flatMap aR⟩]) (fun(m,u) _=>m≤p.attrs.length∧ah (iJ p) p.attrs.length 0=ah (iJ p) (p.attrs.length-m) m) (fun(m,u)=>p.attrs.length-m) (0,u0) (an ⟨⟨rfl,rfl,trivial⟩,fun M=>⟨M.cast rfl (by rw[al9];simp),al6 _,by rw[Nat.sub_zero]⟩⟩ ?_)
 clear M;rintro⟨m,u⟩ w M ⟨hm,hinv⟩;refine lb 0<|an rfl<|an (fun h2=>?_) fun h2 M=>⟨ri (by rw[hinv,show m=p.attrs.length by simp at h2;omega,aM]),M.below⟩
 have hlt:m<p.attrs.length:=by simp at h2;omega
 obtain⟨y,hy⟩:∃ y,p.attrs[m]?=some y:=⟨_,al7 hlt⟩;have dD:=hok.attrs y (al8 hy);obtain⟨b,o,e,hc⟩:=SliceAt.elt hp.attrs (fun _=>rfl) (by decide) hy hlt;have hcf:iJ p m=ru p.types.length (bh p.types++(p.attrs.take m).map (·.name)) y:=by unfold iJ;rw[hy]
 have out:∀ v:Int,ru p.types.length (bh p.types++(p.attrs.take m).map (·.name)) y=v→v≠0→ah (iJ p) p.attrs.length 0=v:=fun v h1 h2=>by rw[hinv,aP hlt (by rw[hcf,h1];exact h2),hcf,h1]
 unfold ru at hcf out;have hl:=j_ pR p.types.length;rw[al9] at hl;refine lb 0<|an rfl<|ia<|an ⟨e,rfl,hlt⟩<|lc<|an (bZ M.below hc 0 _ rfl)<|fun g4 w6 M6=>cl<|an (bF _ _ _ [y.name] (bh p.types++(p.attrs.take m).map (·.name)) (M6.slice 0 rfl rfl rfl (by simp[maxLen])) (bP (M6.r 0 rfl) rfl rfl) (by simpa using dD.name)) fun w7 M7=>an (fun h3 M=>⟨ri (out _ (if_neg (by simpa using h3)) (by simpa using h3)),M.below⟩) fun h3=>?_
 replace h3:aU [y.name] (bh p.types++(p.attrs.take m).map (·.name))=0:=by simpa using h3
 rw[if_pos h3] at hcf out;have hll:(bh p.types++(p.attrs.take m).map (·.name)).length≤200:=by simp;omega
 exact lb 1<|an rfl<|ia<|an ⟨e,rfl,hlt⟩<|lc<|an (bZ M7.below hc 0 _ rfl)<|fun g5 w8 M8=>ap 0 id rfl (M8.slice 0 rfl rfl rfl (by simp[maxLen])) ⟨by unfold maxLen;omega,by omega⟩ fun v6 w9 M9=>dr (by kernel_rfl)<|lb 2<|an rfl<|ia<|an ⟨e,rfl,hlt⟩<|lc (x:=[.int .u64 y.types.a,.int .u64 y.types.b,.int .u64 y.types.c,.int .u64 y.types.d])<|an (ef (bZ M9.below hc) rfl)<|lb 2<|an rfl<|cl<|an (fun w' hb' M'=>bQ _ y.types dD.types _ (by omega)) fun pT QF j3=>an (fun h4 M=>⟨ri (out 3 (if_pos (by simpa using h4)) (by decide)),M.below⟩) fun h4=>an (by omega)<|bk (m+1,v6) ⟨rfl,rfl,trivial⟩ (fun M=>⟨(M.only (.cons _ (.cons _ (.refl _))) (.refl _)).cast rfl (by dsimp only;rw[List.take_add_one,hy];simp[aR];omega),by omega,hinv.trans (aG hlt (by rw[hcf,if_neg (by simpa using h4)]))⟩) (by dsimp only;omega)
theorem bR(w:World)(i n:Int):Calls Tryz.prog 162 #[.int .i64 i,.int .i64 n] w fun e w'=>e=.returned (.bool (aF i n))∧al5 w.heap.size w w':=(bN w i n).mono fun _ _ ⟨h1,h2⟩=>⟨h1,h2▸Below.refl _ _⟩
theorem tC.no{v u:Value}{l r:List Nat}{e:Int}(he:e≠0)(h:tC v l u r e):u=.slice none 0 0:=by unfold tC at h;rwa [if_neg he] at h
theorem sC(w0:World)(c0 c1 c2 c3 c4 c5 c6 c7 c8 c9 c10 c11 c12 c13 c14 c15 c16:Value)(p:aD)(hp:aA w0 c0 c1 c2 c3 c4 c5 c6 c7 c8 c9 c10 c11 c12 c13 c14 c15 c16 p)(hok:p.Ok):Calls Tryz.prog 58 #[.agg #[c0,c1,c2,c3,c4,c5,c6,c7,c8,c9,c10,c11,c12,c13,c14,c15,c16]] w0 (RI w0 (h_ p)):=by
 obtain⟨_,_,_,_,_,_,_,_,_,_,_,_,_,_,_,_,_,_,_,_,_,_,_,_,_,_,_,_,_,_,_,_,_,_,rfl,rfl,rfl,rfl,rfl,rfl,rfl,rfl,rfl,rfl,rfl,rfl,rfl,rfl,rfl,rfl,rfl⟩:=hp.open;obtain⟨_,_,e10,-,Wf,-⟩:=SliceAt.form hp.trans (by decide);obtain⟨_,_,e1,-,hm1,-⟩:=aj.form hp.types (by decide);have tr:=fun m h=>SliceAt.elt (i:=m) hp.trans (fun _=>rfl) (by decide) (al7 h) h
 refine bM [] (fn:=Tryz.f58) Tryz.func58 rfl Tryz.ntmps58 rfl fun g1 w1 M1=>ei<|an Ab fun g2 w2 M2=>lp (ι:=Nat) (fun m=>[(4,.int .i64 (m:Int))]) (fun m=>(g2,75,#[.int .i64 0,.int .i64 ((aX (p.trans.take m) 1:Nat):Int),.int .i64 ((aX (p.trans.take m) 2:Nat):Int),.int .i64 ((aX (p.trans.take m) 3:Nat):Int)])::_) (fun _=>[]) (fun m _=>m≤p.trans.length∧∀ q:Int,1≤q→q≤3→aX (p.trans.take m) q≤1024) (fun m=>p.trans.length-m) 0 (an ⟨⟨rfl,trivial⟩,fun M=>⟨M,al6 _,fun _ _ _=>al6 _⟩⟩ ?_)
 rintro m w M ⟨hm,hle⟩;refine lb 1<|an rfl<|an (fun h2=>?_) fun h2=>?_
 ·simp only[decide_eq_true_eq] at h2;have hlt:m<p.trans.length:=by omega
  obtain⟨b,o,e,hc⟩:=tr m hlt;have hy:p.trans[m]?=some p.trans[m]:=al7 hlt;refine lb 1<|an rfl<|ia<|an ⟨e,rfl,hlt⟩<|lc<|an (cell_later M.below (hc 0 _ rfl))<|an (fun h3=>?_) fun h3=>?_
  rotate_left
  ·have hno:∀ q:Int,1≤q→q≤3→aX (p.trans.take (m+1)) q=aX (p.trans.take m) q:=fun q h1 h2=>by
    rw[cE hy,bO,if_neg (fun e=>by simp only[Bool.and_eq_false_iff,decide_eq_false_iff_not] at h3;omega)];rfl
   exact an (by omega)<|bk (m+1) ⟨rfl,trivial⟩ (fun M=>⟨by rw[hno 1 (by omega) (by omega),hno 2 (by omega) (by omega),hno 3 (by omega) (by omega)];exact M,by omega,fun q h1 h2=>by rw[hno q h1 h2];exact hle q h1 h2⟩) (by dsimp only;omega)
  simp only[ama,decide_eq_true_eq] at h3;rcases(show p.trans[m].kind=1∨p.trans[m].kind=2∨p.trans[m].kind=3 by omega) with hk|hk|hk
  ·have hk1:aX (p.trans.take (m+1)) 1=aX (p.trans.take m) 1+1:=by rw[cE hy,bO,if_pos hk]
   have hno:∀ q:Int,q≠1→aX (p.trans.take (m+1)) q=aX (p.trans.take m) q:=fun q h1=>by rw[cE hy,bO,if_neg (by omega)];rfl
   have hq:=hle 1 (by omega) (by omega);refine ei (x:=1)<|an ⟨hk,by decide⟩<|lb 0<|an rfl<|an (by omega)<|ei (x:=1)<|an ⟨hk,by decide⟩<|lb 0<|an ⟨rfl,rfl⟩ fun w M=>ei (x:=1)<|an ⟨hk,by decide⟩<|lb 0<|an rfl<|an (fun h4 M=>⟨?_,M.below⟩) fun h4=>an (by omega)<|bk (m+1) ⟨rfl,trivial⟩ (fun M=>⟨by rw[hk1,hno 2 (by omega),hno 3 (by omega)];exact M,by omega,fun q h1 h2=>?_⟩) (by dsimp only;omega)
   ·simp only[decide_eq_true_eq] at h4;rw[gL (q:=1) (m:=m+1) (by omega) (by omega) (by rw[hk1];omega)];rfl
   ·simp only[decide_eq_false_iff_not] at h4;by_cases e:q=1
    ·subst e;rw[hk1];omega
    ·rw[hno q e];exact hle q h1 h2
  ·have hk1:aX (p.trans.take (m+1)) 2=aX (p.trans.take m) 2+1:=by rw[cE hy,bO,if_pos hk]
   have hno:∀ q:Int,q≠2→aX (p.trans.take (m+1)) q=aX (p.trans.take m) q:=fun q h1=>by rw[cE hy,bO,if_neg (by omega)];rfl
   have hq:=hle 2 (by omega) (by omega);refine ei (x:=2)<|an ⟨hk,by decide⟩<|lb 0<|an rfl<|an (by omega)<|ei (x:=2)<|an ⟨hk,by decide⟩<|lb 0<|an ⟨rfl,rfl⟩ fun w M=>ei (x:=2)<|an ⟨hk,by decide⟩<|lb 0<|an rfl<|an (fun h4 M=>⟨?_,M.below⟩) fun h4=>an (by omega)<|bk (m+1) ⟨rfl,trivial⟩ (fun M=>⟨by rw[hk1,hno 1 (by omega),hno 3 (by omega)];exact M,by omega,fun q h1 h2=>?_⟩) (by dsimp only;omega)
   ·simp only[decide_eq_true_eq] at h4;rw[gL (q:=2) (m:=m+1) (by omega) (by omega) (by rw[hk1];omega)];rfl
   ·simp only[decide_eq_false_iff_not] at h4;by_cases e:q=2
    ·subst e;rw[hk1];omega
    ·rw[hno q e];exact hle q h1 h2
  ·have hk1:aX (p.trans.take (m+1)) 3=aX (p.trans.take m) 3+1:=by rw[cE hy,bO,if_pos hk]
   have hno:∀ q:Int,q≠3→aX (p.trans.take (m+1)) q=aX (p.trans.take m) q:=fun q h1=>by rw[cE hy,bO,if_neg (by omega)];rfl
   have hq:=hle 3 (by omega) (by omega);refine ei (x:=3)<|an ⟨hk,by decide⟩<|lb 0<|an rfl<|an (by omega)<|ei (x:=3)<|an ⟨hk,by decide⟩<|lb 0<|an ⟨rfl,rfl⟩ fun w M=>ei (x:=3)<|an ⟨hk,by decide⟩<|lb 0<|an rfl<|an (fun h4 M=>⟨?_,M.below⟩) fun h4=>an (by omega)<|bk (m+1) ⟨rfl,trivial⟩ (fun M=>⟨by rw[hk1,hno 1 (by omega),hno 2 (by omega)];exact M,by omega,fun q h1 h2=>?_⟩) (by dsimp only;omega)
   ·simp only[decide_eq_true_eq] at h4;rw[gL (q:=3) (m:=m+1) (by omega) (by omega) (by rw[hk1];omega)];rfl
   ·simp only[decide_eq_false_iff_not] at h4;by_cases e:q=3
    ·subst e;rw[hk1];omega
    ·rw[hno q e];exact hle q h1 h2
 simp only[decide_eq_false_iff_not] at h2;obtain rfl:m=p.trans.length:=by omega
 rw[al9] at hle;rw[tO hle];have rQ:=hok.jm;refine lr (ι:=Nat) (fun m=>[(6,.int .i64 (m:Int))]) (fun i _=>i≤p.trans.length∧ah (j9 p) p.trans.length 0=ah (j9 p) (p.trans.length-i) i) (fun i=>p.trans.length-i) 0 (an ⟨⟨rfl,trivial⟩,fun M=>⟨M,al6 _,by rw[Nat.sub_zero]⟩⟩ ?_);rintro i w M ⟨hi,hinv⟩;refine lb 1<|an rfl<|an (fun h2=>?_) fun h2 M=>⟨?_,M.below⟩
 ·simp only[decide_eq_true_eq] at h2;have hlz:i<p.trans.length:=by omega
  obtain⟨b,o,e,hc⟩:=tr i hlz;have sN:=hok.trans p.trans[i] (List.getElem_mem hlz);have hcf:j9 p i=qC p.types.length p.classes.length p.conds.length p.trans[i]:=by unfold j9;rw[al7 hlz]
  generalize p.trans[i]=z at hc sN hcf;have out:∀ v:Int,qC p.types.length p.classes.length p.conds.length z=v→v≠0→Ending.returned (rG [.int .i64 v])=.returned (.int .i64 (ah (j9 p) p.trans.length 0)):=fun v h1 h2=>by rw[hinv,aP hlz (by rw[hcf,h1];exact h2),hcf,h1];rfl
  unfold qC at out hcf;refine lb 1<|an rfl<|ia<|an ⟨e,rfl,hlz⟩<|lc<|an (bZ M.below hc)<|ei<|an FG fun g3 w3 M3=>lb 0<|an ⟨rfl,rfl⟩ fun w4 M4=>lb 0<|an rfl<|lb 0<|an (fun _=>rfl)<|an (fun h M=>⟨out 13 ?_ (by decide),M.below⟩) fun h=>?_
  ·simp only[Bool.or_eq_true,decide_eq_true_eq] at h;by_cases h1:z.kind<1
   ·rw[if_pos h1]
   ·rw[if_neg h1,if_pos (by omega)]
  simp only[Bool.or_eq_false_iff,decide_eq_false_iff_not] at h;rw[if_neg h.1,if_neg h.2] at out hcf;refine lb 0<|an rfl<|lb 2<|an rfl<|cl<|an (bQ _ z.src sN.src _ rQ) fun w5 M5=>lb 0<|an rfl<|lb 2<|an rfl<|cl<|an (bQ _ z.tgt sN.tgt _ rQ) fun w6 M6=>?_
  refine lb 0<|an (fun _=>rfl)<|lb 2<|an (fun _=>rfl)<|cl<|an (fun _=>bR _ _ _) fun w7 M7=>lb 0<|an (fun _=>rfl)<|lb 2<|an (fun _=>rfl)<|cl<|an (fun _=>bR _ _ _) fun w8 M8=>lb 2<|an (fun _=>rfl)<|lb 0<|an (fun _=>rfl)<|cl<|an (fun _=>pG _ _ _ _ _ _ _ _ _ _ _ _ _ _ _ _ _ _ p (hp.keep M8.below) _) fun w9 M9=>an (fun h3 M=>⟨out 3 ?_ (by decide),M.below⟩) fun h3=>?_
  ·simp only[Bool.or_eq_true,Bool.not_eq_true'] at h3;rcases h3 with(((h3|h3)|h3)|h3)|h3<;>simp[h3]
  simp only[Bool.or_eq_false_iff,Bool.not_eq_false'] at h3;obtain⟨⟨⟨⟨a1,a2⟩,a3⟩,a4⟩,a5⟩:=h3;simp only[a1,a2,a3,a4,a5,Bool.true_eq_false,if_false] at out hcf;refine lb 0<|an (fun _=>rfl)<|lb 0<|an (fun _=>rfl)<|an (fun h4 M=>⟨out 2 ?_ (by decide),M.below⟩) fun h4=>?_
  ·change (!bD z.src||!bD z.tgt||(!decide (z.kind=1)&&!bT z.name))=true at h4
   clear out hcf;cases ha:bD z.src<;>cases hb:bD z.tgt<;>cases hc:bT z.name<;>cases hd:cR z.name<;>by_cases hk:z.kind=1<;>simp_all
  refine lb 0<|an rfl<|lb 0<|an (fun _=>rfl)<|cl<|an (fun _=>(qQ _ z.name sN.name).mono fun _ _ ⟨h1,h2⟩=>⟨h1,h2▸Below.refl _ _⟩) fun pT j3=>an (fun h5 M=>⟨out 10 ?_ (by decide),M.below⟩) fun h5=>an (by omega)<|bk (i+1) ⟨rfl,trivial⟩ (fun M=>⟨M.only (.cons _ (.refl _)) (.refl _),by omega,hinv.trans (aG hlz ?_)⟩) (by dsimp only;omega)
  ·change (!bD z.src||!bD z.tgt||(!decide (z.kind=1)&&!bT z.name))=false at h4
   change (!bT z.name&&!cR z.name)=true at h5
   clear out hcf;cases ha:bD z.src<;>cases hb:bD z.tgt<;>cases hc:bT z.name<;>cases hd:cR z.name<;>by_cases hk:z.kind=1<;>simp_all
  ·change (!bD z.src||!bD z.tgt||(!decide (z.kind=1)&&!bT z.name))=false at h4
   change (!bT z.name&&!cR z.name)=false at h5
   rw[hcf];clear out hcf;cases ha:bD z.src<;>cases hb:bD z.tgt<;>cases hc:bT z.name<;>cases hd:cR z.name<;>by_cases hk:z.kind=1<;>simp_all
 simp only[decide_eq_false_iff_not] at h2;obtain rfl:i=p.trans.length:=by omega
 rw[hinv,Nat.sub_self];rfl
theorem mU(w0:World)(c0 c1 c2 c3 c4 c5 c6 c7 c8 c9 c10 c11 c12 c13 c14 c15 c16:Value)(p:aD)(hp:aA w0 c0 c1 c2 c3 c4 c5 c6 c7 c8 c9 c10 c11 c12 c13 c14 c15 c16 p)(hok:p.Ok)(c:eG)(hc:c.Ok):Calls Tryz.prog 165 #[.agg #[c0,c1,c2,c3,c4,c5,c6,c7,c8,c9,c10,c11,c12,c13,c14,c15,c16],.agg #[.int .i64 c.user,.int .i64 c.role,.int .i64 c.typ,.int .i64 c.rng.low.ak,.int .u64 c.rng.low.cats,.int .i64 c.rng.high.ak,.int .u64 c.rng.high.cats]] w0 (fun(e:Ending) (w':World)=>e=.returned (.int .i64 (iU p c))∧al5 w0.heap.size w0 w'):=by
 obtain⟨_,_,_,_,_,_,_,_,_,_,_,_,_,_,_,_,_,_,_,_,_,_,_,_,_,_,_,_,_,_,_,_,_,_,rfl,rfl,rfl,rfl,rfl,rfl,rfl,rfl,rfl,rfl,rfl,rfl,rfl,rfl,rfl,rfl,rfl⟩:=hp.open;refine bM [] (fn:=Tryz.f165) Tryz.func165 rfl Tryz.ntmps165 rfl<|fun g1 w1 M1=>fun g2 w2 M2=>lb 0<|an rfl<|lb 1<|an rfl<|cl<|an (bR _ _ _) fun w3 M3=>lb 0<|an (fun _=>rfl)<|lb 1<|an (fun _=>rfl)<|cl<|an (fun _=>bR _ _ _) fun w4 M4=>lb 0<|an (fun _=>rfl)<|lb 1<|an (fun _=>rfl)<|cl<|an (fun _=>bR _ _ _) fun w5 M5=>an (fun h M=>⟨ri ?_,M.below⟩) fun h=>?_
 ·unfold iU;cases h5:aF c.user p.users.length<;>cases h6:aF c.role p.roles.length<;>cases h7:aF c.typ p.types.length<;>simp_all
 have hb:aF c.user p.users.length=true∧aF c.role p.roles.length=true∧aF c.typ p.types.length=true:=by cases h5:aF c.user p.users.length<;>cases h6:aF c.role p.roles.length<;>cases h7:aF c.typ p.types.length<;>simp_all
 clear h;have hpm:iU p c=if gE p.ak.length p.cats.length c.rng=false then 18 else if c.role=0 then 0 else ud p c:=by unfold iU;rw[hb.1,hb.2.1,hb.2.2];rfl
 rw[dZ,dZ,dZ] at hb;obtain⟨⟨hu0,hu1⟩,⟨hr0,hr1⟩,ht0,ht1⟩:=hb;refine lb 1<|an rfl<|lb 0<|an rfl<|cl<|an (iR _ _ _ _ _ _ _ _ _ _ _ _ _ _ _ _ _ _ p (hp.keep M5.below) c.rng hc.rng) fun w6 M6=>an (fun h M=>⟨ri (by rw[hpm,if_pos (by simpa using h)]),M.below⟩) fun h=>?_
 rw[if_neg (by simpa using h)] at hpm;refine lb 0<|an rfl<|an (fun h M=>⟨ri (by rw[hpm,if_pos (by simpa using h)]),M.below⟩) fun h=>?_
 rw[if_neg (by simpa using h)] at hpm;have QA:c.user.toNat<p.users.length:=by omega
 have hlr:c.role.toNat<p.roles.length:=by omega
 obtain⟨u,hu⟩:∃ u,p.users[c.user.toNat]?=some u:=⟨_,al7 QA⟩;obtain⟨r,hr⟩:∃ r,p.roles[c.role.toNat]?=some r:=⟨_,al7 hlr⟩;have La:=hok.users u (al8 hu);have Ey:=hok.roles r (al8 hr);obtain⟨b,o,e,Um⟩:=SliceAt.elt hp.users (fun _=>rfl) (by decide) hu QA;obtain⟨b',o',e',Wp⟩:=SliceAt.elt hp.roles (fun _=>rfl) (by decide) hr hlr;rw[t_ hu hr] at hpm;refine lb 1<|an rfl<|lb 0<|an rfl<|ia<|an ⟨e,(Int.toNat_of_nonneg hu0).symm,QA⟩<|lc<|an (bZ M6.below Um)<|ei<|an uN fun g3 w7 M7=>lb 0<|an ⟨rfl,rfl⟩ fun w8 M8=>lb 1<|an rfl<|lb 0<|an rfl<|cl<|an (iD _ c.rng.low u.rng.low hc.rng.low La.rng.low) fun w9 M9=>lb 0<|an (fun _=>rfl)<|lb 1<|an (fun _=>rfl)<|cl<|an (fun _=>iD _ u.rng.high c.rng.high La.rng.high hc.rng.high) fun pT j3=>?_
 refine dr (by kernel_rfl)<|lb 0<|an (fun _=>rfl)<|lb 1<|an (fun _=>rfl)<|cl<|an (fun _ w' hb' M'=>zR _ u.roles La.roles _)<|lb 2<|an (fun _=>rfl)<|lb 1<|an (fun _=>rfl)<|ia<|an (fun _=>⟨e',(Int.toNat_of_nonneg hr0).symm,hlr⟩)<|lc (x:=[.int .u64 r.types.a,.int .u64 r.types.b,.int .u64 r.types.c,.int .u64 r.types.d])<|an (fun _=>ef (bZ j3.below Wp) rfl)<|lb 1<|an (fun _=>rfl)<|cl<|an (fun _ w' hb' M'=>zR _ r.types Ey.types _) fun yY Nu M11=>an (fun h3 M=>⟨ri ?_,M.below⟩) fun h3 M=>⟨ri ?_,M.below⟩
 all_goals rw[hpm];clear hpm;cases h4:jY c.rng.low u.rng.low<;>cases h5:jY u.rng.high c.rng.high<;>cases h6:u.roles.mem c.role<;>cases h7:r.types.mem c.typ<;>simp_all
theorem pK(w0:World)(x:ByteArray)(hx:bW x):Calls Tryz.prog 166 #[.agg #[.int .i64 3,.string x,.int .i64 0,.int .i64 0]] w0 (fun(e:Ending) (w':World)=>e=.returned (.bool (dg x))∧al5 w0.heap.size w0 w'):=by
 exact bM [] (fn:=Tryz.f166) Tryz.func166 rfl Tryz.ntmps166 rfl<|fun g1 w1 M1=>lb 0<|an rfl<|an (fun h=>absurd h (by decide)) fun _=>an (fun h=>absurd h (by decide)) fun _=>an (fun h=>absurd h (by decide)) fun _=>an (fun _=>lb 0<|an rfl<|cl<|an ((qI _ x hx).mono fun _ _ ⟨h1,h2⟩=>⟨h1,h2▸Below.refl _ _⟩) fun w4 M4 M=>⟨rfl,M.below⟩) fun h=>absurd h (by decide)
theorem qW(w0:World)(c0 c1 c2 c3 c4 c5 c6 c7 c8 c9 c10 c11 c12 c13 c14 c15 c16:Value)(p:aD)(hp:aA w0 c0 c1 c2 c3 c4 c5 c6 c7 c8 c9 c10 c11 c12 c13 c14 c15 c16 p)(hok:p.Ok):Calls Tryz.prog 61 #[.agg #[c0,c1,c2,c3,c4,c5,c6,c7,c8,c9,c10,c11,c12,c13,c14,c15,c16]] w0 (RI w0 (b_ p)):=by
 obtain⟨_,_,_,_,_,_,_,_,_,_,_,_,_,_,_,_,_,_,_,_,_,_,_,_,_,_,_,_,_,_,_,_,_,_,rfl,rfl,rfl,rfl,rfl,rfl,rfl,rfl,rfl,rfl,rfl,rfl,rfl,rfl,rfl,rfl,rfl⟩:=hp.open;refine bM [] (fn:=Tryz.f61) Tryz.func61 rfl Tryz.ntmps61 rfl<|fun g1 w1 M1=>lb 0<|an rfl<|an (fun h M=>⟨ri (by unfold b_;rw[if_pos (by simp at h;omega)]),M.below⟩) fun h=>?_
 have hr:¬ 1024<p.bg.length:=by simp at h;omega
 refine lq (ι:=Nat×Value) (fun(m,u)=>[(3,u),(4,.int .i64 (m:Int))]) (fun(m,u)=>[⟨u,9,1,m,((p.bg.take m).map (·.name)).flatMap aR⟩]) (fun(m,u) _=>m≤p.bg.length∧ah (ng p) p.bg.length 0=ah (ng p) (p.bg.length-m) m) (fun(m,u)=>p.bg.length-m) (0,.slice none 0 0) (an ⟨⟨rfl,rfl,trivial⟩,fun M=>⟨M.bS 9 1,al6 _,by rw[Nat.sub_zero]⟩⟩ ?_);rintro⟨m,u⟩ w M ⟨hm,hinv⟩;refine lb 0<|an rfl<|an (fun h2=>?_) fun h2=>?_
 have hlt:m<p.bg.length:=by simp at h2;omega
 obtain⟨y,hy⟩:∃ y,p.bg[m]?=some y:=⟨_,al7 hlt⟩;have dD:=hok.bg y (al8 hy)
 ·obtain⟨b,o,e,hc⟩:=SliceAt.elt hp.bg (fun _=>rfl) (by decide) hy hlt;have hcf:ng p m=wP p ((p.bg.take m).map (·.name)) y:=by unfold ng;rw[hy]
  have out:∀ v:Int,wP p ((p.bg.take m).map (·.name)) y=v→v≠0→b_ p=v:=fun v h1 h2=>by
   have e:ah (ng p) p.bg.length 0=v:=by rw[hinv,aP hlt (by rw[hcf,h1];exact h2),hcf,h1]
   unfold b_;rw[if_neg hr,e,if_neg h2]
  unfold wP at hcf out;refine lb 0<|an rfl<|ia<|an ⟨e,rfl,hlt⟩<|lc<|an (bZ M.below hc 0 _ rfl)<|fun g2 w2 M2=>cl<|an (bF _ _ _ [y.name] ((p.bg.take m).map (·.name)) (M2.slice 0 rfl rfl rfl (by simp[maxLen])) (bP (M2.r 0 rfl) (by simp;omega) rfl) (by simpa using dD.name)) fun w3 M3=>an (fun h3 M=>⟨ri (out _ (if_neg (by simpa using h3)) (by simpa using h3)),M.below⟩) fun h3=>?_
  replace h3:aU [y.name] ((p.bg.take m).map (·.name))=0:=by simpa using h3
  rw[if_pos h3] at hcf out;exact lb 1<|an rfl<|ia<|an ⟨e,rfl,hlt⟩<|lc<|an (bZ M3.below hc 0 _ rfl)<|fun g3 w4 M4=>ap 0 id rfl (M4.slice 0 rfl rfl rfl (by simp[maxLen])) ⟨by unfold maxLen;omega,by omega⟩ fun v4 w5 M5=>dr (by kernel_rfl)<|lb 2<|an rfl<|lb 2<|an rfl<|ia<|an ⟨e,rfl,hlt⟩<|lc (x:=[.int .i64 y.ctx.user,.int .i64 y.ctx.role,.int .i64 y.ctx.typ,.int .i64 y.ctx.rng.low.ak,.int .u64 y.ctx.rng.low.cats,.int .i64 y.ctx.rng.high.ak,.int .u64 y.ctx.rng.high.cats])<|an (ef (bZ M5.below hc) rfl)<|cl<|an (fun w' hb' M'=>mU _ _ _ _ _ _ _ _ _ _ _ _ _ _ _ _ _ _ p (hp.keep M'.below) hok y.ctx dD.ctx) fun w6 zx M6=>an (fun h4 M=>⟨ri (out _ rfl (by simpa using h4)),M.below⟩) fun h4=>an (by omega)<|bk (m+1,v4) ⟨rfl,rfl,trivial⟩ (fun M=>⟨(M.only (.cons _ (.cons _ (.refl _))) (.refl _)).cast rfl (by dsimp only;rw[eD hy]),by omega,hinv.trans (aG hlt (by rw[hcf];simpa using h4))⟩) (by dsimp only;omega)
 have hz:ah (ng p) p.bg.length 0=0:=by rw[hinv,show m=p.bg.length by simp at h2;omega,aM]
 clear hinv h2 hm;refine lb 0<|an rfl<|an (fun h M=>⟨ri (by unfold b_;rw[if_neg hr,if_pos hz,if_pos (by simp at h;omega)]),M.below⟩) fun h=>?_
 rw[show b_ p=ah (iI p) p.files.length 0 by unfold b_;rw[if_neg hr,if_pos hz,if_neg (by simp at h;omega)]];have hfl:¬ 256<p.files.length:=by simp at h;omega
 refine lp (ι:=Nat) (fun m=>[(7,.int .i64 (m:Int))]) (fun _=>_) (fun _=>[]) (fun m _=>m≤p.files.length∧ah (iI p) p.files.length 0=ah (iI p) (p.files.length-m) m) (fun m=>p.files.length-m) 0 (an ⟨⟨rfl,trivial⟩,fun M=>⟨M.only (.refl _) (.cons _ (.refl _)),al6 _,by rw[Nat.sub_zero]⟩⟩ ?_);clear M;rintro m w M ⟨hm,hinv⟩;refine lb 0<|an rfl<|an (fun h2=>?_) fun h2 M=>⟨ri (by rw[hinv,show m=p.files.length by simp at h2;omega,aM]),M.below⟩
 have hlt:m<p.files.length:=by simp at h2;omega
 obtain⟨y,hy⟩:∃ y,p.files[m]?=some y:=⟨_,al7 hlt⟩;have dD:=hok.files y (al8 hy);obtain⟨b,o,e,hc⟩:=SliceAt.elt hp.files (fun _=>rfl) (by decide) hy hlt;have hcf:iI p m=q5 p y:=by unfold iI;rw[hy]
 have out:∀ v:Int,q5 p y=v→v≠0→ah (iI p) p.files.length 0=v:=fun v h1 h2=>by rw[hinv,aP hlt (by rw[hcf,h1];exact h2),hcf,h1]
 unfold q5 at hcf out;refine lb 0<|an rfl<|ia<|an ⟨e,rfl,hlt⟩<|lc<|an (bZ M.below hc)<|ei<|an C8 fun g5 w7 M7=>lb 0<|an ⟨rfl,rfl⟩ fun w8 M8=>lb 0<|an rfl<|lb 0<|an (fun _=>rfl)<|ei (x:=.agg #[.int .i64 3,.string y.pat,.int .i64 0,.int .i64 0])<|an (fun _=>bd (by kernel_rfl))<|cl<|an (fun _=>pK _ y.pat dD.pat) fun w9 M9=>an (fun h3 M=>⟨ri (out 10 ?_ (by decide)),M.below⟩) fun h3=>?_
 ·change (bT y.pat||!dg y.pat)=true at h3
  clear out hcf;cases h4:bT y.pat<;>cases h5:dg y.pat<;>simp_all
 change (bT y.pat||!dg y.pat)=false at h3
 rw[if_neg (by intro e;simp[e] at h3),if_neg (by intro e;simp[e] at h3)] at hcf out;refine lb 0<|an rfl<|lb 0<|an (fun _=>rfl)<|an (fun h4 M=>⟨ri (out 13 ?_ (by decide)),M.below⟩) fun h4=>?_
 ·by_cases h5:y.kind<0
  ·rw[if_pos h5]
  ·rw[if_neg h5,if_pos (by simp at h4;omega)]
 rw[if_neg (by simp at h4;omega),if_neg (by simp at h4;omega)] at hcf out;exact lb 1<|an rfl<|lb 0<|an rfl<|cl<|an (mU _ _ _ _ _ _ _ _ _ _ _ _ _ _ _ _ _ _ p (hp.keep M9.below) hok y.ctx dD.ctx) fun pT j3=>an (fun h5 M=>⟨ri (out _ rfl (by simpa using h5)),M.below⟩) fun h5=>an (by omega)<|bk (m+1) ⟨rfl,trivial⟩ (fun M=>⟨M.only (.cons _ (.refl _)) (.refl _),by omega,hinv.trans (aG hlt (by rw[hcf];simpa using h5))⟩) (by dsimp only;omega)
theorem pL(w0:World)(c0 c1 c2 c3 c4 c5 c6 c7 c8 c9 c10 c11 c12 c13 c14 c15 c16:Value)(p:aD)(hp:aA w0 c0 c1 c2 c3 c4 c5 c6 c7 c8 c9 c10 c11 c12 c13 c14 c15 c16 p)(hok:p.Ok):Calls Tryz.prog 59 #[.agg #[c0,c1,c2,c3,c4,c5,c6,c7,c8,c9,c10,c11,c12,c13,c14,c15,c16]] w0 (RI w0 (bB p)):=by
 obtain⟨_,_,_,_,_,_,_,_,_,_,_,_,_,_,_,_,_,_,_,_,_,_,_,_,_,_,_,_,_,_,_,_,_,_,rfl,rfl,rfl,rfl,rfl,rfl,rfl,rfl,rfl,rfl,rfl,rfl,rfl,rfl,rfl,rfl,rfl⟩:=hp.open;have rQ:=hok.jm;refine bM [] (fn:=Tryz.f59) Tryz.func59 rfl Tryz.ntmps59 rfl fun g1 w1 M1=>lb 0<|an rfl<|an (fun h M=>⟨?_,M.below⟩) fun h=>?_
 ·simp only[decide_eq_true_eq] at h;unfold bB;rw[if_pos (by omega)];rfl
 simp only[decide_eq_false_iff_not] at h;have hr:¬ 1024<p.ay.length:=by omega
 have QT:∀ v:Int,ah (wm p) p.ay.length 0=v→v≠0→bB p=v:=fun v h1 h2=>by unfold bB;rw[if_neg hr,if_neg (by rw[h1];exact h2),h1]
 refine lr (ι:=Nat) (fun m=>[(3,.int .i64 (m:Int))]) (fun i _=>i≤p.ay.length∧ah (wm p) p.ay.length 0=ah (wm p) (p.ay.length-i) i) (fun i=>p.ay.length-i) 0 (an ⟨⟨rfl,trivial⟩,fun M=>⟨M,al6 _,by rw[Nat.sub_zero]⟩⟩ ?_);rintro i w M ⟨hi,hinv⟩;refine lb 0<|an rfl<|an (fun h2=>?_) fun h2=>?_
 ·simp only[decide_eq_true_eq] at h2;have hlz:i<p.ay.length:=by omega
  obtain⟨b,o,e,hc⟩:=SliceAt.elt (i:=i) hp.ay (fun _=>rfl) (by decide) (al7 hlz) hlz;have sN:=hok.ay p.ay[i] (List.getElem_mem hlz);have hcf:wm p i=Ip p.types.length p.classes.length p.roles.length p.ay[i]:=by unfold wm;rw[al7 hlz]
  generalize p.ay[i]=z at hc sN hcf
  have out:∀ v:Int,Ip p.types.length p.classes.length p.roles.length z=v→v≠0→Ending.returned (rG [.int .i64 v])=.returned (.int .i64 (bB p)):=fun v h1 h2=>by
   have e:ah (wm p) p.ay.length 0=v:=by rw[hinv,aP hlz (by rw[hcf,h1];exact h2),hcf,h1]
   rw[QT _ e h2];rfl
  unfold Ip at out hcf;refine lb 0<|an rfl<|ia<|an ⟨e,rfl,hlz⟩<|lc<|an (bZ M.below hc)<|ei<|an Bb fun g3 w3 M3=>lb 0<|an ⟨rfl,rfl⟩ fun w4 M4=>?_
  refine dr (by kernel_rfl)<|lb 0<|an rfl<|ei (x:=.agg #[.int .u64 0,.int .u64 0,.int .u64 0,.int .u64 0])<|an (bd (by kernel_rfl))<|ei<|an ⟨sW,fun w=>dN z.roles w⟩<|lb 1<|an rfl<|lb 0<|an rfl<|cl<|an (fun w' hb' M'=>cI w' _ _ _ _ _ _ _ _ _ _ _ _ _ _ _ _ _ p (hp.keep M'.below) hok z.roles sN.roles) fun w5 uL M5=>?_
  refine lb 0<|an rfl<|lb 1<|an rfl<|cl<|an (bQ _ z.types sN.types _ rQ) fun w6 Mw6=>lb 0<|an (fun _=>rfl)<|lb 1<|an (fun _=>rfl)<|cl<|an (fun _=>bR _ _ _) fun w7 UH=>lb 0<|an (fun _=>rfl)<|lb 1<|an (fun _=>rfl)<|cl<|an (fun _=>bR _ _ _) fun w8 Mw8=>lb 0<|an (fun _=>rfl)<|an (fun h3 M=>⟨out 3 ?_ (by decide),M.below⟩) fun h3=>an (fun h4 M=>⟨out 2 ?_ (by decide),M.below⟩) fun h4=>an (by omega)<|bk (i+1) ⟨rfl,trivial⟩ (fun M=>⟨M.only (.cons _ (.refl _)) (.refl _),by omega,hinv.trans (aG hlz ?_)⟩) (by dsimp only;omega)
  all_goals first|(rw[hcf];clear out hcf)|clear out hcf
  all_goals cases h5:kf p.roles.length z.roles<;>cases h6:z.types.within (aE.all p.types.length)<;>cases h7:aF z.cls (p.classes.length:Int)<;>cases h8:aF z.res (p.roles.length:Int)<;>by_cases h9:z.res=0<;>by_cases h10:z.roles=aE.zero<;>cases h11:bD z.types<;>simp_all
 simp only[decide_eq_false_iff_not] at h2;obtain rfl:i=p.ay.length:=by omega
 rw[Nat.sub_self] at hinv;replace hinv:ah (wm p) p.ay.length 0=0:=hinv;have hz:=hinv;refine lb 0<|an rfl<|an (fun h M=>⟨?_,M.below⟩) fun h=>?_
 ·simp only[decide_eq_true_eq] at h;unfold bB;rw[if_neg hr,if_pos hz,if_pos (by omega)];rfl
 simp only[decide_eq_false_iff_not] at h;have hg:¬ 1024<p.ranges.length:=by omega
 have Hv:bB p=ah (wW p) p.ranges.length 0:=by unfold bB;rw[if_neg hr,if_pos hz,if_neg hg]
 have QS:∀ v:Int,ah (wW p) p.ranges.length 0=v→v≠0→bB p=v:=fun v h1 _=>Hv.trans h1
 clear hinv h2;refine lr (ι:=Nat) (fun m=>[(9,.int .i64 (m:Int))]) (fun i _=>i≤p.ranges.length∧ah (wW p) p.ranges.length 0=ah (wW p) (p.ranges.length-i) i) (fun i=>p.ranges.length-i) 0 (an ⟨⟨rfl,trivial⟩,fun M=>⟨M,al6 _,by rw[Nat.sub_zero]⟩⟩ ?_);rintro i w M ⟨hi,hinv⟩;refine lb 0<|an rfl<|an (fun h2=>?_) fun h2=>?_
 ·simp only[decide_eq_true_eq] at h2;have hlz:i<p.ranges.length:=by omega
  obtain⟨b,o,e,hc⟩:=SliceAt.elt (i:=i) hp.ranges (fun _=>rfl) (by decide) (al7 hlz) hlz;have sN:=hok.ranges p.ranges[i] (List.getElem_mem hlz);have hcf:wW p i=Ir p.types.length p.classes.length p.ak.length p.cats.length p.ranges[i]:=by unfold wW;rw[al7 hlz]
  generalize p.ranges[i]=z at hc sN hcf
  have out:∀ v:Int,Ir p.types.length p.classes.length p.ak.length p.cats.length z=v→v≠0→Ending.returned (rG [.int .i64 v])=.returned (.int .i64 (bB p)):=fun v h1 h2=>by
   have e:ah (wW p) p.ranges.length 0=v:=by rw[hinv,aP hlz (by rw[hcf,h1];exact h2),hcf,h1]
   rw[QS _ e h2];rfl
  unfold Ir at out hcf;refine lb 0<|an rfl<|ia<|an ⟨e,rfl,hlz⟩<|lc<|an (bZ M.below hc)<|ei<|an Ba fun g3 w3 M3=>lb 0<|an ⟨rfl,rfl⟩ fun w4 M4=>?_
  refine lb 0<|an rfl<|lb 1<|an rfl<|cl<|an (bQ _ z.src sN.src _ rQ) fun w5 Mw5=>lb 0<|an rfl<|lb 1<|an rfl<|cl<|an (bQ _ z.tgt sN.tgt _ rQ) fun w6 Mw6=>lb 0<|an (fun _=>rfl)<|lb 1<|an (fun _=>rfl)<|cl<|an (fun _=>bR _ _ _) fun w7 UH=>an (fun h3 M=>⟨out 3 ?_ (by decide),M.below⟩) fun h3=>an (fun h4 M=>⟨out 2 ?_ (by decide),M.below⟩) fun h4=>lb 1<|an rfl<|lb 0<|an rfl<|cl<|an (iR _ _ _ _ _ _ _ _ _ _ _ _ _ _ _ _ _ _ p (hp.keep UH.below) z.rng sN.rng) fun w8 M8=>an (fun h5 M=>⟨out 18 ?_ (by decide),M.below⟩) fun h5=>an (by omega)<|bk (i+1) ⟨rfl,trivial⟩ (fun M=>⟨M.only (.cons _ (.refl _)) (.refl _),by omega,hinv.trans (aG hlz ?_)⟩) (by dsimp only;omega)
  all_goals first|(rw[hcf];clear out hcf)|clear out hcf
  all_goals cases h6:z.src.within (aE.all p.types.length)<;>cases h7:z.tgt.within (aE.all p.types.length)<;>cases h8:aF z.cls (p.classes.length:Int)<;>cases h9:bD z.src<;>cases h10:bD z.tgt<;>cases h11:gE p.ak.length p.cats.length z.rng<;>simp_all
 simp only[decide_eq_false_iff_not] at h2;obtain rfl:i=p.ranges.length:=by omega
 rw[Nat.sub_self] at hinv;exact fun M=>⟨by rw[Hv,hinv];rfl,M.below⟩
theorem pJ(w0:World)(c0 c1 c2 c3 c4 c5 c6 c7 c8 c9 c10 c11 c12 c13 c14 c15 c16:Value)(p:aD)(hp:aA w0 c0 c1 c2 c3 c4 c5 c6 c7 c8 c9 c10 c11 c12 c13 c14 c15 c16 p)(hok:p.Ok):Calls Tryz.prog 52 #[.agg #[c0,c1,c2,c3,c4,c5,c6,c7,c8,c9,c10,c11,c12,c13,c14,c15,c16]] w0 (RI w0 (bV p)):=by
 obtain⟨_,_,_,_,_,_,_,_,_,_,_,_,_,_,_,_,_,_,_,_,_,_,_,_,_,_,_,_,_,_,_,_,_,_,rfl,rfl,rfl,rfl,rfl,rfl,rfl,rfl,rfl,rfl,rfl,rfl,rfl,rfl,rfl,rfl,rfl⟩:=hp.open;refine bM [] (fn:=Tryz.f52) Tryz.func52 rfl Tryz.ntmps52 rfl<|fun g1 w1 M1=>lb 0<|an rfl<|an (fun h M=>⟨ri (by unfold bV;rw[if_pos (by simp at h;omega)]),M.below⟩) fun h=>?_
 have hr:¬ 32<p.classes.length:=by simp at h;omega
 rw[show bV p=ah (fT p) p.classes.length 0 from if_neg hr];refine lq (ι:=Nat×Value) (fun(m,u)=>[(3,u),(4,.int .i64 (m:Int))]) (fun(m,u)=>[⟨u,9,1,m,((p.classes.take m).map (·.name)).flatMap aR⟩]) (fun(m,u) _=>m≤p.classes.length∧ah (fT p) p.classes.length 0=ah (fT p) (p.classes.length-m) m) (fun(m,u)=>p.classes.length-m) (0,.slice none 0 0) (an ⟨⟨rfl,rfl,trivial⟩,fun M=>⟨M.bS 9 1,al6 _,by rw[Nat.sub_zero]⟩⟩ ?_);rintro⟨m,u⟩ w M ⟨hm,hinv⟩;refine lb 0<|an rfl<|an (fun h2=>?_) fun h2 M=>⟨ri (by rw[hinv,show m=p.classes.length by simp at h2;omega,aM]),M.below⟩
 have hlt:m<p.classes.length:=by simp at h2;omega
 obtain⟨y,hy⟩:∃ y,p.classes[m]?=some y:=⟨_,al7 hlt⟩;have dD:=hok.classes y (al8 hy);obtain⟨b,o,_,e,⟨v,rfl,hv⟩,hc⟩:=aj.elt hp.classes (by decide) hy;obtain⟨va,vc,rfl,-⟩:=aN.get hv;have hcf:fT p m=mz ((p.classes.take m).map (·.name)) y:=by unfold fT;rw[hy]
 have out:∀ v:Int,mz ((p.classes.take m).map (·.name)) y=v→v≠0→ah (fT p) p.classes.length 0=v:=fun v h1 h2=>by rw[hinv,aP hlt (by rw[hcf,h1];exact h2),hcf,h1]
 unfold mz at hcf out;refine lb 0<|an rfl<|ia<|an ⟨e,rfl,hlt⟩<|lc<|an (bZ M.below hc)<|ei<|an C_ fun g2 w2 M2=>lb 0<|an ⟨rfl,rfl⟩ fun w3 M3=>lb 0<|an rfl<|fun g3 w4 M4=>cl<|an (bF _ _ _ [y.name] ((p.classes.take m).map (·.name)) (M4.slice 0 rfl rfl rfl (by simp[maxLen])) (bP (M4.r 0 rfl) (by simp;omega) rfl) (by simpa using dD.name)) fun w5 M5=>an (fun h3 M=>⟨ri (out _ (if_neg (by simpa using h3)) (by simpa using h3)),M.below⟩) fun h3=>?_
 replace h3:aU [y.name] ((p.classes.take m).map (·.name))=0:=by simpa using h3
 rw[if_pos h3] at hcf out;refine lb 1<|an rfl<|fun g4 w6 M6=>ap 0 id rfl (M6.slice 0 rfl rfl rfl (by simp[maxLen])) ⟨by unfold maxLen;omega,by omega⟩ fun v5 w7 M7=>lb 2<|an rfl<|an (fun h4 M=>⟨ri (out _ (if_pos (by simp at h4;omega)) (by decide)),M.below⟩) fun h4=>?_
 rw[if_neg (by simp at h4;omega)] at hcf out;refine lb 2<|an rfl<|an (fun h5 M=>⟨ri (out _ (if_pos (by simp at h5;simp[h5])) (by decide)),M.below⟩) fun h5=>?_
 rw[if_neg (by simp at h5;simp[h5])] at hcf out;exact lb 2<|an rfl<|cl<|an (bF _ _ _ y.perms [] (hv.keep M7.below) (SliceAt.nil _ _) dD.perms.all) fun w8 M8=>an (fun h6 M=>⟨ri (out _ rfl (by simpa using h6)),M.below⟩) fun h6=>an (by omega)<|bk (m+1,v5) ⟨rfl,rfl,trivial⟩ (fun M=>⟨(M.only (.cons _ (.cons _ (.cons _ (.refl _)))) (.refl _)).cast rfl (by dsimp only;rw[eD hy]),by omega,hinv.trans (aG hlt (by rw[hcf];simpa using h6))⟩) (by dsimp only;omega)
theorem sy(w0:World)(c0 c1 c2 c3 c4 c5 c6 c7 c8 c9 c10 c11 c12 c13 c14 c15 c16:Value)(p:aD)(hp:aA w0 c0 c1 c2 c3 c4 c5 c6 c7 c8 c9 c10 c11 c12 c13 c14 c15 c16 p)(hok:p.Ok):Calls Tryz.prog 55 #[.agg #[c0,c1,c2,c3,c4,c5,c6,c7,c8,c9,c10,c11,c12,c13,c14,c15,c16]] w0 (RI w0 (fK p)):=by
 obtain⟨_,_,_,_,_,_,_,_,_,_,_,_,_,_,_,_,_,_,_,_,_,_,_,_,_,_,_,_,_,_,_,_,_,_,rfl,rfl,rfl,rfl,rfl,rfl,rfl,rfl,rfl,rfl,rfl,rfl,rfl,rfl,rfl,rfl,rfl⟩:=hp.open;refine bM [] (fn:=Tryz.f55) Tryz.func55 rfl Tryz.ntmps55 rfl<|fun g1 w1 M1=>lb 0<|an rfl<|an (fun h M=>⟨ri (by unfold fK;rw[if_pos (by simp at h;omega)]),M.below⟩) fun h=>?_
 have hr:¬ 32<p.users.length:=by simp at h;omega
 rw[show fK p=ah (jh p) p.users.length 0 from if_neg hr];refine lq (ι:=Nat×Value) (fun(m,u)=>[(3,u),(4,.int .i64 (m:Int))]) (fun(m,u)=>[⟨u,9,1,m,((p.users.take m).map (·.name)).flatMap aR⟩]) (fun(m,u) _=>m≤p.users.length∧ah (jh p) p.users.length 0=ah (jh p) (p.users.length-m) m) (fun(m,u)=>p.users.length-m) (0,.slice none 0 0) (an ⟨⟨rfl,rfl,trivial⟩,fun M=>⟨M.bS 9 1,al6 _,by rw[Nat.sub_zero]⟩⟩ ?_);rintro⟨m,u⟩ w M ⟨hm,hinv⟩;refine lb 0<|an rfl<|an (fun h2=>?_) fun h2 M=>⟨ri (by rw[hinv,show m=p.users.length by simp at h2;omega,aM]),M.below⟩
 have hlt:m<p.users.length:=by simp at h2;omega
 obtain⟨y,hy⟩:∃ y,p.users[m]?=some y:=⟨_,al7 hlt⟩;have dD:=hok.users y (al8 hy);obtain⟨b,o,e,hc⟩:=SliceAt.elt hp.users (fun _=>rfl) (by decide) hy hlt;have hcf:jh p m=qB p.roles.length p.ak.length p.cats.length ((p.users.take m).map (·.name)) y:=by unfold jh;rw[hy]
 have out:∀ v:Int,qB p.roles.length p.ak.length p.cats.length ((p.users.take m).map (·.name)) y=v→v≠0→ah (jh p) p.users.length 0=v:=fun v h1 h2=>by rw[hinv,aP hlt (by rw[hcf,h1];exact h2),hcf,h1]
 unfold qB at hcf out;refine lb 0<|an rfl<|ia<|an ⟨e,rfl,hlt⟩<|lc<|an (bZ M.below hc)<|ei<|an uN fun g2 w2 M2=>lb 0<|an ⟨rfl,rfl⟩ fun w3 M3=>lb 0<|an rfl<|fun g3 w4 M4=>cl<|an (bF _ _ _ [y.name] ((p.users.take m).map (·.name)) (M4.slice 0 rfl rfl rfl (by simp[maxLen])) (bP (M4.r 0 rfl) (by simp;omega) rfl) (by simpa using dD.name)) fun w5 M5=>an (fun h3 M=>⟨ri (out _ (if_neg (by simpa using h3)) (by simpa using h3)),M.below⟩) fun h3=>?_
 replace h3:aU [y.name] ((p.users.take m).map (·.name))=0:=by simpa using h3
 rw[if_pos h3] at hcf out;refine lb 1<|an rfl<|fun g4 w6 M6=>ap 0 id rfl (M6.slice 0 rfl rfl rfl (by simp[maxLen])) ⟨by unfold maxLen;omega,by omega⟩ fun v5 w7 M7=>lb 3<|an rfl<|lb 2<|an rfl<|cl<|an (cI _ _ _ _ _ _ _ _ _ _ _ _ _ _ _ _ _ _ p (hp.keep M7.below) hok y.roles dD.roles) fun w8 M8=>an (fun h4 M=>⟨ri (out 3 (if_pos (by simpa using h4)) (by decide)),M.below⟩) fun h4=>?_
 rw[if_neg (by simpa using h4)] at hcf out;refine lb 3<|an rfl<|lb 2<|an rfl<|cl<|an (iR _ _ _ _ _ _ _ _ _ _ _ _ _ _ _ _ _ _ p (hp.keep M8.below) y.rng dD.rng) fun w9 M9=>lb 3<|an (fun _=>rfl)<|lb 2<|an (fun _=>rfl)<|cl<|an (fun _=>iW _ _ _ _ _ _ _ _ _ _ _ _ _ _ _ _ _ _ p (hp.keep M9.below) y.dflt dD.dflt) fun pT j3=>lb 2<|an (fun _=>rfl)<|lb 2<|an (fun _=>rfl)<|cl<|an (fun _=>iD _ y.rng.high y.dflt dD.rng.high dD.dflt) fun yY M11=>lb 2<|an (fun _=>rfl)<|lb 2<|an (fun _=>rfl)<|cl<|an (fun _=>iD _ y.dflt y.rng.low dD.dflt dD.rng.low) fun Dh y9=>an (fun h5 M=>⟨ri (out 18 ?_ (by decide)),M.below⟩) fun h5=>an (by omega)<|bk (m+1,v5) ⟨rfl,rfl,trivial⟩ (fun M=>⟨(M.only (.cons _ (.cons _ (.cons _ (.refl _)))) (.refl _)).cast rfl (by dsimp only;rw[eD hy]),by omega,hinv.trans (aG hlt ?_)⟩) (by dsimp only;omega)
 all_goals first|(rw[hcf];clear hcf out)|clear hcf out
 all_goals cases h6:gE p.ak.length p.cats.length y.rng<;>cases h7:iH p.ak.length p.cats.length y.dflt<;>cases h8:jY y.rng.high y.dflt<;>cases h9:jY y.dflt y.rng.low<;>simp_all
theorem jS(w:World)(c0 c1 c2 c3 c4 c5 c6 c7 c8 c9 c10 c11 c12 c13 c14 c15 c16:Value)(p:aD)(hp:aA w c0 c1 c2 c3 c4 c5 c6 c7 c8 c9 c10 c11 c12 c13 c14 c15 c16 p)(hok:p.Ok):Calls Tryz.prog 60 #[.agg #[c0,c1,c2,c3,c4,c5,c6,c7,c8,c9,c10,c11,c12,c13,c14,c15,c16]] w fun e w'=>e=.returned (.int .i64 (gP p))∧al5 w.heap.size w w':=by
 obtain⟨_,_,_,_,_,_,_,_,_,_,_,_,_,_,_,_,_,_,_,_,_,_,_,_,_,_,_,_,_,_,_,_,_,_,rfl,rfl,rfl,rfl,rfl,rfl,rfl,rfl,rfl,rfl,rfl,rfl,rfl,rfl,rfl,rfl,rfl⟩:=hp.open;refine bM [] (fn:=Tryz.f60) Tryz.func60 rfl Tryz.ntmps60 rfl<|fun g1 w1 M1=>lb 0<|an rfl<|an (fun h M=>⟨ri (by unfold gP;rw[if_pos (by simp at h;omega)]),M.below⟩) fun h=>?_
 have hr:¬ 64<p.cons.length:=by simp at h;omega
 rw[show gP p=ah (pI p) p.cons.length 0 from if_neg hr];refine lr (ι:=Nat) (fun m=>[(3,.int .i64 (m:Int))]) (fun m _=>m≤p.cons.length∧ah (pI p) p.cons.length 0=ah (pI p) (p.cons.length-m) m) (fun m=>p.cons.length-m) 0 (an ⟨⟨rfl,trivial⟩,fun M=>⟨M,al6 _,by rw[Nat.sub_zero]⟩⟩ ?_);rintro m w2 M ⟨hm,hinv⟩;refine lb 0<|an rfl<|an (fun h2=>?_) fun h2 M=>⟨ri (by rw[hinv,show m=p.cons.length by simp at h2;omega,aM]),M.below⟩
 have hlt:m<p.cons.length:=by simp at h2;omega
 obtain⟨y,hy⟩:∃ y,p.cons[m]?=some y:=⟨_,al7 hlt⟩;have dD:=hok.cons y (al8 hy);obtain⟨b,o,_,e,⟨_,rfl,hE⟩,hc⟩:=aj.elt hp.cons (by decide) hy;obtain⟨nv,kv,rfl,hn,hk⟩:=hE.open;obtain⟨_,_,rfl,-⟩:=aN.get hn;obtain⟨_,_,rfl,-⟩:=aj.form hk (by decide);have hcf:pI p m=vG p.users.length p.roles.length p.types.length p.classes y:=by unfold pI;rw[hy]
 have out:∀ v:Int,vG p.users.length p.roles.length p.types.length p.classes y=v→v≠0→ah (pI p) p.cons.length 0=v:=fun v h1 h2=>by rw[hinv,aP hlt (by rw[hcf,h1];exact h2),hcf,h1]
 unfold vG at hcf out;refine lb 0<|an rfl<|ia<|an ⟨e,rfl,hlt⟩<|lc<|an (bZ M.below hc)<|ei<|an FE fun g2 w2 M2=>lb 0<|an ⟨rfl,rfl⟩ fun w3 M3=>lb 1<|an rfl<|lb 0<|an rfl<|lb 0<|an rfl<|cl<|an (j8 _ _ _ _ _ _ _ _ _ _ _ _ _ _ _ _ _ _ p (hp.keep M3.below) y.cls y.perms dD.perms) fun w4 M4=>an (fun h3 M=>⟨ri (out 3 (if_pos (by simpa using h3)) (by decide)),M.below⟩) fun h3=>?_
 rw[if_neg (by simpa using h3)] at hcf out;refine lb 0<|an rfl<|lb 0<|an rfl<|an (fun h4 M=>⟨ri (out 2 (if_pos (by simpa using h4)) (by decide)),M.below⟩) fun h4=>?_
 rw[if_neg (by simpa using h4)] at hcf out;exact lb 1<|an rfl<|lb 0<|an rfl<|lb 0<|an rfl<|cl<|an (kU y.expr dD.expr _ _ _ _ _ _ _ _ _ _ _ _ _ _ _ _ _ _ _ p (hp.keep M4.below) hok (hE.keep M4.below) y.val) fun w5 M5=>an (fun h5 M=>⟨ri (out _ rfl (by simpa using h5)),M.below⟩) fun h5=>an (by omega)<|bk (m+1) ⟨rfl,trivial⟩ (fun M=>⟨M.only (.cons _ (.refl _)) (.refl _),by omega,hinv.trans (aG hlt (by rw[hcf];simpa using h5))⟩) (by dsimp only;omega)
theorem qP(w:World)(c0 c1 c2 c3 c4 c5 c6 c7 c8 c9 c10 c11 c12 c13 c14 c15 c16:Value)(p:aD)(hp:aA w c0 c1 c2 c3 c4 c5 c6 c7 c8 c9 c10 c11 c12 c13 c14 c15 c16 p)(hok:p.Ok):Calls Tryz.prog 56 #[.agg #[c0,c1,c2,c3,c4,c5,c6,c7,c8,c9,c10,c11,c12,c13,c14,c15,c16]] w fun e w'=>e=.returned (.int .i64 (fO p))∧al5 w.heap.size w w':=by
 obtain⟨_,_,_,_,_,_,_,_,_,_,_,_,_,_,_,_,_,_,_,_,_,_,_,_,_,_,_,_,_,_,_,_,_,_,rfl,rfl,rfl,rfl,rfl,rfl,rfl,rfl,rfl,rfl,rfl,rfl,rfl,rfl,rfl,rfl,rfl⟩:=hp.open;refine bM [] (fn:=Tryz.f56) Tryz.func56 rfl Tryz.ntmps56 rfl<|fun g1 w1 M1=>lb 0<|an rfl<|an (fun h M=>⟨ri (if_pos (by simp at h;omega)),M.below⟩) fun h=>?_
 have hr:¬ 16<p.bools.length:=by simp at h;omega
 refine lq (ι:=Nat×Value) (fun(m,u)=>[(3,u),(4,.int .i64 (m:Int))]) (fun(m,u)=>[⟨u,9,1,m,((p.bools.take m).map (·.name)).flatMap aR⟩]) (fun(m,u) _=>m≤p.bools.length) (fun(m,u)=>p.bools.length-m) (0,.slice none 0 0) (an ⟨⟨rfl,rfl,trivial⟩,fun M=>⟨M.bS 9 1,al6 _⟩⟩ ?_);rintro⟨m,u⟩ w2 M hm;refine lb 0<|an rfl<|an (fun h2=>?_) fun h2=>?_
 ·have hlt:m<p.bools.length:=by simp at h2;omega
  obtain⟨y,hy⟩:∃ y,p.bools[m]?=some y:=⟨_,al7 hlt⟩;obtain⟨b,o,e,hc⟩:=SliceAt.elt hp.bools (fun _=>rfl) (by decide) hy hlt;exact lb 0<|an rfl<|ia<|an ⟨e,rfl,hlt⟩<|lc<|an (bZ M.below hc 0 _ rfl)<|fun g2 w2 M2=>ap 0 id rfl (M2.slice 0 rfl rfl rfl (by simp[maxLen])) ⟨by unfold maxLen;omega,by omega⟩ fun v3 w3 M3=>an (by omega)<|bk (m+1,v3) ⟨rfl,rfl,trivial⟩ (fun M=>⟨(M.only (.cons _ (.refl _)) (.refl _)).cast rfl (by dsimp only;rw[eD hy]),by omega⟩) (by dsimp only;omega)
 obtain rfl:m=p.bools.length:=by simp at h2;omega
 have hM:fO p=if ¬ aU (p.bools.map (·.name)) []=0 then aU (p.bools.map (·.name)) [] else if 16<p.ak.length then 4 else if ¬ aU p.ak []=0 then aU p.ak [] else if 64<p.cats.length then 4 else aU p.cats []:=if_neg hr
 refine cl<|an (bF _ _ _ (p.bools.map (·.name)) [] (bP (M.r 0 rfl) (by simp) (by rw[al9])) (SliceAt.nil _ _) (fun s hs=>by obtain⟨y,hy,rfl⟩:=List.mem_map.1 hs;exact(hok.bools y hy).name)) fun w4 M4=>an (fun h3 M=>⟨ri (by rw[hM,if_pos (by simpa using h3)]),M.below⟩) fun h3=>?_
 rw[if_neg (by simpa using h3)] at hM;refine lb 0<|an rfl<|an (fun h4 M=>⟨ri (by rw[hM,if_pos (by simp at h4;omega)]),M.below⟩) fun h4=>?_
 rw[if_neg (by simp at h4;omega)] at hM;refine lb 0<|an rfl<|cl<|an (bF _ _ _ p.ak [] (hp.ak.keep M4.below) (SliceAt.nil _ _) hok.ak) fun w5 M5=>an (fun h5 M=>⟨ri (by rw[hM,if_pos (by simpa using h5)]),M.below⟩) fun h5=>?_
 rw[if_neg (by simpa using h5)] at hM;refine lb 0<|an rfl<|an (fun h6 M=>⟨ri (by rw[hM,if_pos (by simp at h6;omega)]),M.below⟩) fun h6=>?_
 rw[if_neg (by simp at h6;omega)] at hM;exact lb 0<|an rfl<|cl<|an (bF _ _ _ p.cats [] (hp.cats.keep M5.below) (SliceAt.nil _ _) hok.cats) fun w6 M6 M=>⟨ri hM,M.below⟩
theorem vw{w:World}{l:List Int}{n:Nat}{u:Value}{w0:World}(h:vK w0 43 n (l.map mY) u w)(hn:n=l.length)(hm:l.length≤maxLen:=by simp[maxLen]):Calls Tryz.prog 51 #[u] w fun e w'=>e=.returned (.int .i64 (jv l))∧al5 w.heap.size w w':=by
 subst hn;obtain⟨g,rfl,hW,-⟩:=h;exact(sV _ _ l (SliceAt.of_whole hW (by simp) (by simp[mY,Value.oneCell']) hm)).mono fun _ _ ⟨h1,h2⟩=>⟨h1,h2▸Below.refl _ _⟩
theorem tu(w0:World)(c0 c1 c2 c3 c4 c5 c6 c7 c8 c9 c10 c11 c12 c13 c14 c15 c16:Value)(p:aD)(hp:aA w0 c0 c1 c2 c3 c4 c5 c6 c7 c8 c9 c10 c11 c12 c13 c14 c15 c16 p)(hok:p.Ok)(pR:p.HJ):Calls Tryz.prog 23 #[.agg #[c0,c1,c2,c3,c4,c5,c6,c7,c8,c9,c10,c11,c12,c13,c14,c15,c16]] w0 (RI w0 (aZ p)):=by
 refine bM [] (fn:=Tryz.f23) Tryz.func23 rfl Tryz.ntmps23 rfl<|fun g1 w1 M1=>dr (by kernel_rfl)<|lb 0<|an rfl<|cl<|an (fun w' hb M=>pJ _ _ _ _ _ _ _ _ _ _ _ _ _ _ _ _ _ _ p (hp.keep M.below) hok)<|lb 0<|an rfl<|cl<|an (fun w' hb M=>sA _ _ _ _ _ _ _ _ _ _ _ _ _ _ _ _ _ _ p (hp.keep M.below) hok pR)<|lb 0<|an rfl<|cl<|an (fun w' hb M=>sI _ _ _ _ _ _ _ _ _ _ _ _ _ _ _ _ _ _ p (hp.keep M.below) hok)<|br (vK w1 43 3 ([bV p,eO p,dO p].map mY))<|an kA<|an (fun w1 a o' hb M' hop pW=>bK (p:=fun _=>True) (kk:=1) (b:=8) (by kernel_rfl) rfl rfl (by decide) (by decide) (by simp[Value.cells]) rfl w1 a o' hb trivial hop pW)<|cu<|an (fun u _ w' hb' M' hR=>vw hR rfl)<|fun w2 hb2 M2=>an (fun h M=>⟨ri (if_neg (by simpa using h)),M.below⟩) fun h=>?_
 rw[show aZ p=jv [fK p,fO p,cP p,h_ p,bB p,gP p,b_ p,dG p] from if_pos (by simpa using h)];exact dr (by kernel_rfl)<|lb 0<|an rfl<|cl<|an (fun w' hb M=>sy _ _ _ _ _ _ _ _ _ _ _ _ _ _ _ _ _ _ p (hp.keep M.below) hok)<|lb 0<|an rfl<|cl<|an (fun w' hb M=>qP _ _ _ _ _ _ _ _ _ _ _ _ _ _ _ _ _ _ p (hp.keep M.below) hok)<|lb 0<|an rfl<|cl<|an (fun w' hb M=>sH _ _ _ _ _ _ _ _ _ _ _ _ _ _ _ _ _ _ p (hp.keep M.below) hok)<|lb 0<|an rfl<|cl<|an (fun w' hb M=>sC _ _ _ _ _ _ _ _ _ _ _ _ _ _ _ _ _ _ p (hp.keep M.below) hok)<|lb 0<|an rfl<|cl<|an (fun w' hb M=>pL _ _ _ _ _ _ _ _ _ _ _ _ _ _ _ _ _ _ p (hp.keep M.below) hok)<|lb 0<|an rfl<|cl<|an (fun w' hb M=>jS _ _ _ _ _ _ _ _ _ _ _ _ _ _ _ _ _ _ p (hp.keep M.below) hok)<|lb 0<|an rfl<|cl<|an (fun w' hb M=>qW _ _ _ _ _ _ _ _ _ _ _ _ _ _ _ _ _ _ p (hp.keep M.below) hok)<|lb 0<|an rfl<|cl<|an (fun w' hb M=>pN _ _ _ _ _ _ _ _ _ _ _ _ _ _ _ _ _ _ p (hp.keep M.below) hok)<|br (vK w2 43 8 ([fK p,fO p,cP p,h_ p,bB p,gP p,b_ p,dG p].map mY))<|an kA<|an (fun w1 a o' hb M' hop pW=>bK (p:=fun _=>True) (kk:=1) (b:=8) (by kernel_rfl) rfl rfl (by decide) (by decide) (by simp[Value.cells]) rfl w1 a o' hb trivial hop pW)<|cu<|an (fun u _ w' hb' M' hR=>vw hR rfl)<|fun w3 fL M3 M=>⟨rfl,M.below⟩
theorem aD.fM.few{p:aD}(h:p.fM):p.HJ:=⟨h.sizes.types,h.jg⟩
theorem ld(w0:World)(c0 c1 c2 c3 c4 c5 c6 c7 c8 c9 c10 c11 c12 c13 c14 c15 c16:Value)(p:aD)(hp:aA w0 c0 c1 c2 c3 c4 c5 c6 c7 c8 c9 c10 c11 c12 c13 c14 c15 c16 p)(hok:p.Ok):Calls Tryz.prog 11 #[.agg #[c0,c1,c2,c3,c4,c5,c6,c7,c8,c9,c10,c11,c12,c13,c14,c15,c16]] w0 (fun(e:Ending) (w':World)=>∃ v,e=.returned v∧∃ b:Bool,v=.bool b∧(b=true→p.fM)∧al5 w0.heap.size w0 w'):=by
 obtain⟨_,_,_,_,_,_,_,_,_,_,_,_,_,_,_,_,_,_,_,_,_,_,_,_,_,_,_,_,_,_,_,_,_,_,rfl,rfl,rfl,rfl,rfl,rfl,rfl,rfl,rfl,rfl,rfl,rfl,rfl,rfl,rfl,rfl,rfl⟩:=hp.open;have tr:=fun m h=>SliceAt.elt (i:=m) hp.trans (fun _=>rfl) (by decide) (al7 h) h
 obtain⟨_,_,e1,-,-,ty⟩:=aj.form hp.types (by decide);obtain⟨_,_,e8,-,-,cd⟩:=aj.form hp.conds (by decide);obtain⟨_,_,e13,-,-,cn⟩:=aj.form hp.cons (by decide);injection e1 with e1;injection e8 with e8;injection e13 with e13;subst e1 e8 e13;have no:∀ w,al5 w0.heap.size w0 w→∃ v,Ending.returned (rG [Value.bool false])=.returned v∧∃ b:Bool,v=.bool b∧(b=true→p.fM)∧al5 w0.heap.size w0 w:=fun w h=>⟨_,rfl,false,rfl,(fun e=>by cases e),h⟩
 refine bM [] (fn:=Tryz.f11) Tryz.func11 rfl Tryz.ntmps11 rfl fun g1 w1 M1=>lb 0<|an rfl<|lb 0<|an (fun _=>rfl)<|lb 0<|an (fun _=>rfl)<|lb 0<|an (fun _=>rfl)<|lb 0<|an (fun _=>rfl)<|lb 0<|an (fun _=>rfl)<|lb 0<|an (fun _=>rfl)<|lb 0<|an (fun _=>rfl)<|lb 0<|an (fun _=>rfl)<|an (fun h M=>no _ M.below) fun h=>?_
 simp only[Bool.or_eq_false_iff,decide_eq_false_iff_not] at h;refine lb 0<|an rfl<|lb 0<|an (fun _=>rfl)<|lb 0<|an (fun _=>rfl)<|lb 0<|an (fun _=>rfl)<|lb 0<|an (fun _=>rfl)<|lb 0<|an (fun _=>rfl)<|lb 0<|an (fun _=>rfl)<|lb 0<|an (fun _=>rfl)<|an (fun h M=>no _ M.below) fun h'=>?_
 simp only[Bool.or_eq_false_iff,decide_eq_false_iff_not] at h';refine ei<|an Ab fun g2 w2 M2=>lp (ι:=Nat×Int×Int×Int×Int) (fun(m,_)=>[(4,.int .i64 (m:Int))]) (fun(m,n0,n1,n2,n3)=>(g2,75,#[.int .i64 n0,.int .i64 n1,.int .i64 n2,.int .i64 n3])::_) (fun _=>[]) (fun(m,n0,n1,n2,n3) _=>m≤p.trans.length∧0≤n1∧n1≤m∧0≤n2∧n2≤m∧0≤n3∧n3≤m) (fun(m,_)=>p.trans.length-m) (0,0,0,0,0) (an ⟨⟨rfl,trivial⟩,fun M=>⟨M,by omega⟩⟩ ?_)
 rintro⟨m,n0,n1,n2,n3⟩ w M hm;refine lb 1<|an rfl<|an (fun h2=>?_) fun h2=>?_
 ·simp only[decide_eq_true_eq] at h2;have hlt:m<p.trans.length:=by omega
  obtain⟨b,o,e,hc⟩:=tr m hlt;refine lb 1<|an rfl<|ia<|an ⟨e,rfl,hlt⟩<|lc<|an (cell_later M.below (hc 0 _ rfl))<|an (fun h3=>?_) fun h3=>an (by omega)<|bk (m+1,n0,n1,n2,n3) ⟨rfl,trivial⟩ (fun M=>⟨M,by omega⟩) (by dsimp only;omega)
  simp only[ama,decide_eq_true_eq] at h3;have hk:p.trans[m].kind=1∨p.trans[m].kind=2∨p.trans[m].kind=3:=by omega
  rcases hk with hk|hk|hk
  ·exact ei (x:=1)<|an ⟨hk,by decide⟩<|lb 0<|an rfl<|an (by omega)<|ei (x:=1)<|an ⟨hk,by decide⟩<|lb 0<|an ⟨rfl,rfl⟩ fun w M=>an (by omega)<|bk (m+1,n0,n1+1,n2,n3) ⟨rfl,trivial⟩ (fun M=>⟨M,by omega⟩) (by dsimp only;omega)
  ·exact ei (x:=2)<|an ⟨hk,by decide⟩<|lb 0<|an rfl<|an (by omega)<|ei (x:=2)<|an ⟨hk,by decide⟩<|lb 0<|an ⟨rfl,rfl⟩ fun w M=>an (by omega)<|bk (m+1,n0,n1,n2+1,n3) ⟨rfl,trivial⟩ (fun M=>⟨M,by omega⟩) (by dsimp only;omega)
  ·exact ei (x:=3)<|an ⟨hk,by decide⟩<|lb 0<|an rfl<|an (by omega)<|ei (x:=3)<|an ⟨hk,by decide⟩<|lb 0<|an ⟨rfl,rfl⟩ fun w M=>an (by omega)<|bk (m+1,n0,n1,n2,n3+1) ⟨rfl,trivial⟩ (fun M=>⟨M,by omega⟩) (by dsimp only;omega)
 refine lr (ι:=Nat) (fun m=>[(6,.int .i64 (m:Int))]) (fun m _=>m≤p.types.length∧∀ x∈p.types.take m,x.jg.length≤4) (fun m=>p.types.length-m) 0 (an ⟨⟨rfl,trivial⟩,fun M=>⟨M,al6 _,by simp⟩⟩ ?_);rintro i1 w M ⟨hi1,ha⟩;refine lb 1<|an rfl<|an (fun h2=>?_) fun h2=>?_
 ·simp only[decide_eq_true_eq] at h2;obtain⟨x,hx⟩:∃ x,p.types[i1]?=some x:=⟨_,al7 (by omega)⟩;obtain⟨b,o,z,rfl,⟨u,rfl,hu⟩,-,hc⟩:=ty i1 x hx;obtain⟨_,_,rfl,-⟩:=hu.get;refine lb 1<|an rfl<|ia<|an ⟨rfl,rfl,by omega⟩<|lc<|an (cell_later M.below (hc 1 _ rfl))<|an (fun h3 M=>no _ M.below) fun h3=>an (by omega)<|bk (i1+1) ⟨rfl,trivial⟩ (fun M=>⟨M,by omega,fun y hy=>?_⟩) (by dsimp only;omega)
  rw[List.take_add_one,hx] at hy;rcases List.mem_append.1 hy with hy|hy
  ·exact ha y hy
  ·obtain rfl:y=x:=by simpa using hy
   simp only[decide_eq_false_iff_not] at h3;omega
 simp only[decide_eq_false_iff_not] at h2;obtain rfl:i1=p.types.length:=by omega
 refine lr (ι:=Nat) (fun m=>[(7,.int .i64 (m:Int))]) (fun m _=>m≤p.conds.length∧∀ x∈p.conds.take m,aL 13 x≤6) (fun m=>p.conds.length-m) 0 (an ⟨⟨rfl,trivial⟩,fun M=>⟨M,al6 _,by simp⟩⟩ ?_);rintro i2 w M ⟨hi2,hb⟩;refine lb 1<|an rfl<|an (fun h2=>?_) fun h2=>?_
 ·simp only[decide_eq_true_eq] at h2;obtain⟨x,hx⟩:∃ x,p.conds[i2]?=some x:=⟨_,al7 (by omega)⟩;obtain⟨b,o,z,rfl,hz,-,hc⟩:=cd i2 x hx;obtain⟨nv,kv,rfl,-⟩:=hz.open;refine lb 1<|an rfl<|ia<|an ⟨rfl,rfl,by omega⟩<|lc<|an (bZ M.below hc)<|cl<|an (cJ _ _ x (bq.keep M.below hz)) fun w3 M3=>an (fun h3 M=>no _ M.below) fun h3=>an (by omega)<|bk (i2+1) ⟨rfl,trivial⟩ (fun M=>⟨M,by omega,fun y hy=>?_⟩) (by dsimp only;omega)
  rw[List.take_add_one,hx] at hy;rcases List.mem_append.1 hy with hy|hy
  ·exact hb y hy
  ·obtain rfl:y=x:=by simpa using hy
   simp only[decide_eq_false_iff_not] at h3;omega
 simp only[decide_eq_false_iff_not] at h2;obtain rfl:i2=p.conds.length:=by omega
 refine lr (ι:=Nat) (fun m=>[(8,.int .i64 (m:Int))]) (fun m _=>m≤p.cons.length∧∀ x∈p.cons.take m,aL 13 x.expr≤6) (fun m=>p.cons.length-m) 0 (an ⟨⟨rfl,trivial⟩,fun M=>⟨M,al6 _,by simp⟩⟩ ?_);rintro i3 w M ⟨Xy,hcn⟩;refine lb 1<|an rfl<|an (fun h2=>?_) fun h2=>?_
 ·simp only[decide_eq_true_eq] at h2;obtain⟨x,hx⟩:∃ x,p.cons[i3]?=some x:=⟨_,al7 (by omega)⟩;obtain⟨b,o,z,rfl,⟨es,rfl,hz⟩,-,hc⟩:=cn i3 x hx
  have hc3:∀ j u,es[j]?=some u→w0.cell? ⟨b,o+i3*13+3+j,none⟩=some u:=fun j u hj=>by
   have h4:=hc (j+3) u (by simpa using hj)
   rwa [show o+i3*13+(j+3)=o+i3*13+3+j by omega] at h4
  obtain⟨nv,kv,rfl,-⟩:=hz.open;refine lb 1<|an rfl<|ia<|an ⟨rfl,rfl,by omega⟩<|lc<|an (bZ M.below hc3)<|cl<|an (cJ _ _ x.expr (bq.keep M.below hz)) fun w3 M3=>an (fun h3 M=>no _ M.below) fun h3=>an (by omega)<|bk (i3+1) ⟨rfl,trivial⟩ (fun M=>⟨M,by omega,fun y hy=>?_⟩) (by dsimp only;omega)
  rw[List.take_add_one,hx] at hy;rcases List.mem_append.1 hy with hy|hy
  ·exact hcn y hy
  ·obtain rfl:y=x:=by simpa using hy
   simp only[decide_eq_false_iff_not] at h3;omega
 simp only[decide_eq_false_iff_not] at h2;obtain rfl:i3=p.cons.length:=by omega
 rw[al9] at ha hb hcn;exact ei (x:=1)<|an ⟨rfl,by decide⟩<|lb 0<|an rfl<|ei (x:=2)<|an (fun _=>⟨rfl,by decide⟩)<|lb 0<|an (fun _=>rfl)<|ei (x:=3)<|an (fun _=>⟨rfl,by decide⟩)<|lb 0<|an (fun _=>rfl) fun M=>⟨_,rfl,_,rfl,fun _=>⟨by constructor<;>omega,ha,hb,hcn⟩,M.below⟩
theorem Io{p:aD}{v:Nat}(h1:1≤v)(h3:v≤3)(hR:sw v p)(hc:aZ p=0):nW aZ (eP (dM v p))=.ok (p,v)∧wN (eP (dM v p))=.ok v:=by
 have h:=Em hR [];rw[List.append_nil] at h;have hf:=vW v h1 h3 p;constructor
 ·unfold nW;rw[hf];simp only[h,hc];rfl
 ·unfold wN;rw[hf]
end Go.Proofs.YtkkmjdceiocnbaaGreatDoor
namespace Go.Proofs.YtkkmjdceiocnbaaGreatDoor
open Go Go.ChangeAt Go.ChangeShapes Go.RowKit Go.WideShapes
theorem Kk{P:Program}{w:World}{t u s:TypeId}{vs:List Value}(h:Args P w [t,u,s] vs):∃ a b c,vs=[a,b,c]∧Arg P w t a∧Arg P w u b∧Arg P w s c:=by
 match vs,h with
 | [a,b,c],⟨h1,h2,h3,_⟩=>exact⟨a,b,c,rfl,h1,h2,h3⟩
end Go.Proofs.YtkkmjdceiocnbaaGreatDoor
namespace Go.Proofs.YtkkmjdceiocnbaaGreatDoor
open Go
theorem ab9:Tryz.prog.wantsStandIn 58=false:=by kernel_rfl
theorem ab8:Tryz.prog.wantsStandIn 66=false:=by kernel_rfl
theorem EN:Tryz.prog.wantsStandIn 39=false:=by kernel_rfl
end Go.Proofs.YtkkmjdceiocnbaaGreatDoor
namespace Go.Proofs.YtkkmjdceiocnbaaGreatDoor
open Go Go.RowKit
def ZV(s:List Bool)(n:Int):Bool:=decide (0≤n)&&(s[n.toNat]?).getD false
theorem RP(n:Int):IntKind.u64.wrap n=n%18446744073709551616:=by simp[IntKind.wrap,IntKind.bits,IntKind.signed]
theorem Tf{x y:ByteArray}(h:(x.toList == y.toList)=true):x=y:=of_decide_eq_true ((kZ x y).symm.trans h)
theorem WE{x y:ByteArray}(h:(x.toList == y.toList)=false):x≠y:=of_decide_eq_false ((kZ x y).symm.trans h)
def yN(s c t d:Int):Bool:=decide (t≤s)&&decide (bits .and .u64 c d=d)
theorem tj(w0:World)(s c t d:Int):Calls Tryz.prog 168 #[.agg #[.int .i64 s,.int .u64 c],.agg #[.int .i64 t,.int .u64 d]] w0 fun r w'=>r=.returned (.bool (yN s c t d))∧al5 w0.heap.size w0 w':=
 bM [] (fn:=Tryz.f168) Tryz.func168 rfl Tryz.ntmps168 rfl<|fun g1 w1 M1=>fun g2 w2 M2=>lb 1<|an rfl<|lb 0<|an rfl<|lb 1<|an (fun _=>rfl)<|lb 0<|an (fun _=>rfl)<|ei (x:=bits .and .u64 c d)<|an (fun _=>rfl)<|lb 0<|an (fun _=>rfl) fun M=>⟨rfl,M.below⟩
theorem LQ{P:Program}{a:Act}{w:World}{o:Oper}{ty yt:TypeId}{x y:Operand}{m r:Nat}(ho:o.op=.binOp .quo ty x y yt)(hx:a.eval x=.int .u64 (m:Int))(hy:a.eval y=.int .u64 ((2^r:Nat):Int))(hm:fA m):(execOp a.eval o).run P w=.ok (.value (.int .u64 ((m/2^r:Nat):Int))) w:=by
 have hp:=Nat.two_pow_pos r;have hle:m/2^r≤m:=Nat.div_le_self _ _;have hm:m<18446744073709551616:=hm;have he:((m:Int)/((2^r:Nat):Int))=((m/2^r:Nat):Int):=(Int.natCast_ediv m (2^r)).symm;rw[LH ho hx hy (by omega),Int.tdiv_eq_ediv_of_nonneg (by omega),he,RP];generalize m/2^r=q at *;rw[Int.emod_eq_of_lt (by omega) (by omega)]
theorem KT{P:Program}{a:Act}{w:World}{o:Oper}{ty yt:TypeId}{x y:Operand}{m:Nat}(ho:o.op=.binOp .rem ty x y yt)(hx:a.eval x=.int .u64 (m:Int))(hy:a.eval y=.int .u64 2):(execOp a.eval o).run P w=.ok (.value (.int .u64 ((m%2:Nat):Int))) w:=by
 rw[QY ho hx hy (by decide),Int.tmod_eq_emod_of_nonneg (by omega)];congr 3
theorem LX(x r:Nat):decide ((((x/2^r)%2:Nat):Int)=1)=x.testBit r:=by
 rw[Nat.testBit_eq_decide_div_mod_eq];exact decide_eq_decide.2 (by omega)
theorem qw(w0:World)(s:aE)(hs:s.Ok)(n:Int):Calls Tryz.prog 169 #[.agg #[.int .u64 s.a,.int .u64 s.b,.int .u64 s.c,.int .u64 s.d],.int .i64 n] w0 fun e w'=>e=.returned (.bool (s.mem n))∧al5 w0.heap.size w0 w':=by
 by_cases h:0≤n∧n<256
 ·obtain⟨q,r,hq,hr,rfl⟩:=lu h;rw[sP hq hr];rcases(show q=0∨q=1∨q=2∨q=3 by omega) with rfl|rfl|rfl|rfl
  all_goals
   refine bM [] (fn:=Tryz.f169) Tryz.func169 rfl Tryz.ntmps169 rfl<|fun g1 w1 M1=>dr (by kernel_rfl)<|ei<|an (fun _ a w o ho hv=>sJ hq hr ho (aY hv) (cC hv))<|ei<|an (fun _=>⟨rfl,by decide⟩)<|lb 0<|an (fun _=>rfl)<|ei<|an (fun _ a w o ho hv=>Sl hr ho (aY hv) (cC hv))<|ei<|an (fun _ a w o ho hv=>R8 hr ho (aY hv) (cC hv))<|ei<|an (fun _ a w o ho hv=>LQ ho (aY hv) (cC hv) (by first|exact hs.a|exact hs.b|exact hs.c|exact hs.d))<|ei<|an (fun _ a w o ho hv=>KT ho (aY hv) (cC hv))<|fun w3 fL M3=>fun M=>⟨?_,M.below⟩
   rw[decide_eq_true h.1,decide_eq_true h.2,LX];rfl
 ·refine bM [] (fn:=Tryz.f169) Tryz.func169 rfl Tryz.ntmps169 rfl<|fun g1 w1 M1=>dr (by kernel_rfl)<|ei (x:=.int .i64 0)<|an (fun h2=>absurd h (by simpa using h2))<|ei (x:=0)<|an (fun h2=>⟨rfl,by decide⟩)<|lb 0<|an (fun _=>rfl)<|ei (x:=.int .i64 0)<|an (fun h2=>absurd h (by simpa using h2))<|ei (x:=.int .u64 0)<|an (fun h2=>absurd h (by simpa using h2))<|ei (x:=.int .u64 0)<|an (fun h2=>absurd h (by simpa using h2))<|ei (x:=.int .u64 0)<|an (fun h2=>absurd h (by simpa using h2))<|fun w3 fL M3=>fun M=>⟨?_,M.below⟩
  rw[show s.mem n=false by unfold aE.mem;rw[decide_eq_false h];rfl]
  have:(decide (0≤n)&&decide (n<256))=false:=by
   rw[Bool.and_eq_false_iff,decide_eq_false_iff_not,decide_eq_false_iff_not];omega
  simp[rG,this]
def Cz(st:List Bool)(op a:Int)(l:List Bool):Bool:=
 if op=1 then ZV st a else if l.length=0 then false else if op=2 then !(l.getD 0 false) else if l.length<2 then false else if op=3 then l.getD 0 false&&l.getD 1 false else
  if op=4 then l.getD 0 false||l.getD 1 false else if op=6 then l.getD 0 false == l.getD 1 false else l.getD 0 false != l.getD 1 false
mutual
def gQ(st:List Bool):aS→Bool
 | .node op a _ _ _ _ kids=>Cz st op a (rV st kids)
def rV(st:List Bool):List aS→List Bool
 | []=>[]
 | k::l=>gQ st k::rV st l
end
theorem tq(st:List Bool)(e:aS):gQ st e=Cz st e.op e.a (rV st e.kids):=by cases e;rw[gQ];rfl
theorem zY(st:List Bool):∀ l,rV st l=l.map (gQ st)
 | []=>by rw[rV];rfl
 | k::l=>by rw[rV,zY st l];rfl
theorem CA(st:List Bool):∀ (e:aS) (w0:World) (cs:List Value),bq w0 cs e→∀ v:Value,yX w0 v st→Calls Tryz.prog 270 #[.agg cs.toArray,v] w0 (fun(r:Ending) (w':World)=>r=.returned (.bool (gQ st e))∧al5 w0.heap.size w0 w'):=by
 refine aS.ind fun e ih=>?_
 intro w0 cs hE v hL;have Ur:=hE;obtain⟨_,_,rfl,-,hkk⟩:=Ur.open;obtain⟨_,_,rfl,-⟩:=aj.form hkk (by decide);obtain⟨la,lk,rfl,-,-,hcell⟩:=SliceAt.form hL (by decide);have hm:=zY st e.kids;refine bM [] (fn:=Tryz.f270) Tryz.func270 rfl Tryz.ntmps270 rfl<|fun g1 w1 M1=>lb 0<|an rfl<|an (fun h=>?_) fun h=>?_
 ·have h1:e.op=1:=by simpa using h
  have hv:gQ st e=ZV st e.a:=by rw[tq,Cz,if_pos h1]
  rw[hv];by_cases hin:0≤e.a∧e.a<st.length
  ·obtain⟨b,off,e2,hc⟩:=hcell e.a.toNat (by omega);refine lb 0<|an rfl<|lb 0<|an (fun _=>rfl)<|lb 0<|an (fun _=>rfl)<|ia (i:=e.a.toNat)<|an (fun _=>⟨e2,by omega,by omega⟩)<|lc (x:=.bool st[e.a.toNat])<|an (fun _=>cell_later M1.below (hc 0 (.bool st[e.a.toNat]) (by simp[show e.a.toNat<st.length by omega]))) fun M=>⟨?_,M.below⟩
   unfold ZV;rw[decide_eq_true hin.1,decide_eq_true (show e.a<(st.length:Int) from hin.2),al7 (by omega)];rfl
  ·refine lb 0<|an rfl<|lb 0<|an (fun _=>rfl)<|lb 0<|an (fun _=>rfl)<|ia (b:=0) (off:=0) (i:=0)<|an (fun h2=>absurd hin (fun h3=>h3 (by simpa using h2) |>.elim))<|lc (x:=.bool false)<|an (fun h2=>absurd (show 0≤e.a∧e.a<st.length by simpa using h2) hin) fun M=>⟨?_,M.below⟩
   have hf:(decide (0≤e.a)&&decide (e.a<(st.length:Int)))=false:=by
    rw[Bool.and_eq_false_iff,decide_eq_false_iff_not,decide_eq_false_iff_not];omega
   have ha:ZV st e.a=false:=by
    unfold ZV;by_cases h0:0≤e.a
    ·rw[List.getElem?_eq_none (by omega)];simp
    ·simp[h0]
   rw[hf,ha];rfl
 have h1:e.op≠1:=by simpa using h
 refine lb 0<|an rfl<|an (fun h2 M=>⟨?_,M.below⟩) fun h2=>?_
 ·have h2:e.kids.length=0:=by
   simp only[decide_eq_true_eq] at h2;omega
  rw[tq,Cz,if_neg h1,hm,if_pos (by rw[amb];exact h2)];rfl
 have h2:e.kids.length≠0:=by
  simp only[decide_eq_false_iff_not] at h2;omega
 obtain⟨y,hy⟩:∃ y,e.kids[0]?=some y:=⟨_,al7 (by omega)⟩;have iK:=al8 hy;obtain⟨b,o,_,e1,AY,hc⟩:=aj.elt hkk (by decide) hy;obtain⟨_,_,rfl,-⟩:=AY.open;have hv0:(rV st e.kids).getD 0 false=gQ st y:=by rw[hm,List.getD_eq_getElem?_getD,List.getElem?_map,hy];rfl
 refine lb 0<|an rfl<|ia (i:=0)<|an ⟨e1,rfl,by omega⟩<|lc<|an (bZ M1.below hc)<|cl<|an (ih y iK _ _ (AY.keep M1.below) _ (hL.keep M1.below)) fun w3 M3=>lb 0<|an rfl<|an (fun h3 M=>⟨?_,M.below⟩) fun h3=>?_
 ·have h3:e.op=2:=by simpa using h3
  have hv:gQ st e=!gQ st y:=by rw[tq st e,Cz,if_neg h1,hm,if_neg (by rw[amb];exact h2),if_pos h3,← hm,hv0]
  rw[hv];rfl
 have h3:e.op≠2:=by simpa using h3
 refine lb 0<|an rfl<|an (fun h4 M=>⟨?_,M.below⟩) fun h4=>?_
 ·have h4:e.kids.length<2:=by
   simp only[decide_eq_true_eq] at h4;omega
  rw[tq,Cz,if_neg h1,hm,if_neg (by rw[amb];exact h2),if_neg h3,if_pos (by rw[amb];exact h4)];rfl
 have h4:¬ e.kids.length<2:=by
  simp only[decide_eq_false_iff_not] at h4;omega
 obtain⟨z,hz⟩:∃ z,e.kids[1]?=some z:=⟨_,al7 (by omega)⟩;have Xt:=al8 hz;obtain⟨bz,oz,_,e2,XD,hcz⟩:=aj.elt hkk (by decide) hz;obtain⟨_,_,rfl,-⟩:=XD.open;have hv1:(rV st e.kids).getD 1 false=gQ st z:=by rw[hm,List.getD_eq_getElem?_getD,List.getElem?_map,hz];rfl
 have hV:gQ st e=if e.op=3 then gQ st y&&gQ st z else if e.op=4 then gQ st y||gQ st z else if e.op=6 then gQ st y == gQ st z else gQ st y != gQ st z:=by
  rw[tq st e,Cz,if_neg h1,if_neg (by rw[hm,amb];exact h2),if_neg h3,if_neg (by rw[hm,amb];exact h4),hv0,hv1]
 rw[hV];clear hV hv0 hv1;refine lb 0<|an rfl<|ia (i:=1)<|an ⟨e2,rfl,by omega⟩<|lc<|an (bZ M3.below hcz)<|cl<|an (ih z Xt _ _ (XD.keep M3.below) _ (hL.keep M3.below)) fun w5 M5=>?_
 generalize gQ st y=p;generalize gQ st z=q;refine lb 0<|an rfl<|an (fun h5 M=>⟨?_,M.below⟩) fun h5=>an (fun h6 M=>⟨?_,M.below⟩) fun h6=>an (fun h7 M=>⟨?_,M.below⟩) fun h7 M=>⟨?_,M.below⟩
 all_goals simp only[decide_eq_true_eq,decide_eq_false_iff_not] at *
 ·rw[if_pos h5];rfl
 ·rw[if_neg h5,if_pos h6];rfl
 ·rw[if_neg h5,if_neg h6,if_pos h7];cases p<;>cases q<;>rfl
 ·rw[if_neg h5,if_neg h6,if_neg h7];cases p<;>cases q<;>rfl
def Hw(conds:List aS)(st:List Bool)(k:Int):Bool:=
 if k=0 then true else if 0<k then decide (k≤conds.length)&&((conds[(k-1).toNat]?).map (gQ st)).getD false
 else decide (0-(conds.length:Int)≤k)&&!((conds[(0-k-1).toNat]?).map (gQ st)).getD false
theorem Fp(w0:World)(c0 c1 c2 c3 c4 c5 c6 c7 c8 c9 c10 c11 c12 c13 c14 c15 c16:Value)(p:aD)(hp:aA w0 c0 c1 c2 c3 c4 c5 c6 c7 c8 c9 c10 c11 c12 c13 c14 c15 c16 p)(v:Value)(st:List Bool)(hL:yX w0 v st)(k:Int)(hk:-1000000≤k∧k≤1000000):Calls Tryz.prog 170 #[.agg #[c0,c1,c2,c3,c4,c5,c6,c7,c8,c9,c10,c11,c12,c13,c14,c15,c16],v,.int .i64 k] w0 (fun(r:Ending) (w':World)=>r=.returned (.bool (Hw p.conds st k))∧al5 w0.heap.size w0 w'):=by
 have vT:=hp;obtain⟨_,_,-,-,hmC,-⟩:=aj.form vT.conds (by decide);obtain⟨_,_,_,_,_,_,_,_,_,_,_,_,_,_,_,_,_,_,_,_,_,_,_,_,_,_,_,_,_,_,_,_,_,_,rfl,rfl,rfl,rfl,rfl,rfl,rfl,rfl,rfl,rfl,rfl,rfl,rfl,rfl,rfl,rfl,rfl⟩:=hp.open;refine bM [] (fn:=Tryz.f170) Tryz.func170 rfl Tryz.ntmps170 rfl<|fun g1 w1 M1=>an (fun h M=>⟨?_,M.below⟩) fun h=>an (fun h1=>?_) fun h1=>?_
 ·have h:k=0:=by simpa using h
  rw[Hw,if_pos h];rfl
 all_goals
  simp only[decide_eq_true_eq,decide_eq_false_iff_not] at h h1;unfold Hw;rw[if_neg h]
 ·rw[if_pos h1];by_cases hin:k≤p.conds.length
  ·obtain⟨y,hy⟩:∃ y,p.conds[(k-1).toNat]?=some y:=⟨_,al7 (by omega)⟩;obtain⟨b,o,_,e1,AY,hc⟩:=aj.elt vT.conds (by decide) hy;obtain⟨_,_,rfl,-⟩:=AY.open;rw[hy];refine lb 0<|an rfl<|lb 0<|an (fun _=>rfl)<|an (fun _=>by omega)<|ia (i:=(k-1).toNat)<|an (fun _=>⟨e1,by omega,by omega⟩)<|lc<|an (fun _=>bZ M1.below hc)<|cl<|an (fun _=>CA st y _ _ (AY.keep M1.below) _ (hL.keep M1.below)) fun w2 M2=>fun M=>⟨rfl,M.below⟩
  ·refine lb 0<|an rfl<|lb 0<|an (fun _=>rfl)<|an (fun _=>by omega)<|ia (b:=0) (off:=0) (i:=0)<|an (fun h2=>absurd (of_decide_eq_true h2) hin)<|lc (x:=[.int .i64 0,.int .i64 0,.int .i64 0,.int .i64 0,.slice none 0 0,.int .u64 0,.int .u64 0,.int .u64 0,.int .u64 0,.slice none 0 0])<|an (fun h2=>absurd (of_decide_eq_true h2) hin)<|cl (v:=.bool false)<|an (fun h2=>absurd (of_decide_eq_true h2) hin) fun w2 M2=>fun M=>⟨?_,M.below⟩
   rw[decide_eq_false hin];rfl
 ·rw[if_neg h1];by_cases hin:0-(p.conds.length:Int)≤k
  ·obtain⟨y,hy⟩:∃ y,p.conds[(0-k-1).toNat]?=some y:=⟨_,al7 (by omega)⟩;obtain⟨b,o,_,e1,AY,hc⟩:=aj.elt vT.conds (by decide) hy;obtain⟨_,_,rfl,-⟩:=AY.open;rw[hy];refine lb 0<|an rfl<|an (by omega)<|lb 0<|an (fun _=>rfl)<|an (fun _=>by omega)<|an (fun _=>by omega)<|ia (i:=(0-k-1).toNat)<|an (fun _=>⟨e1,by omega,by omega⟩)<|lc<|an (fun _=>bZ M1.below hc)<|cl<|an (fun _=>CA st y _ _ (AY.keep M1.below) _ (hL.keep M1.below)) fun w2 M2=>fun M=>⟨rfl,M.below⟩
  ·refine lb 0<|an rfl<|an (by omega)<|lb 0<|an (fun _=>rfl)<|an (fun _=>by omega)<|an (fun _=>by omega)<|ia (b:=0) (off:=0) (i:=0)<|an (fun h2=>absurd (of_decide_eq_true h2) hin)<|lc (x:=[.int .i64 0,.int .i64 0,.int .i64 0,.int .i64 0,.slice none 0 0,.int .u64 0,.int .u64 0,.int .u64 0,.int .u64 0,.slice none 0 0])<|an (fun h2=>absurd (of_decide_eq_true h2) hin)<|cl (v:=.bool true)<|an (fun h2=>absurd (of_decide_eq_true h2) hin) fun w2 M2=>fun M=>⟨?_,M.below⟩
   rw[decide_eq_false hin];rfl
def EB(r:bY)(s t:eG)(cls:Int):Bool:=decide (r.cls=cls)&&r.src.mem s.typ&&(r.tgt.mem t.typ||(r.self&&decide (s.typ=t.typ)))
theorem Gw(w0:World)(r:bY)(hr:r.oo)(s t:eG)(cls:Int):Calls Tryz.prog 171 #[.agg #[.int .i64 r.kind,.int .u64 r.src.a,.int .u64 r.src.b,.int .u64 r.src.c,.int .u64 r.src.d,.int .u64 r.tgt.a,.int .u64 r.tgt.b,.int .u64 r.tgt.c,.int .u64 r.tgt.d,.bool r.self,.int .i64 r.cls,.int .u32 r.perms,.int .i64 r.cond],.agg #[.int .i64 s.user,.int .i64 s.role,.int .i64 s.typ,.int .i64 s.rng.low.ak,.int .u64 s.rng.low.cats,.int .i64 s.rng.high.ak,.int .u64 s.rng.high.cats],.agg #[.int .i64 t.user,.int .i64 t.role,.int .i64 t.typ,.int .i64 t.rng.low.ak,.int .u64 t.rng.low.cats,.int .i64 t.rng.high.ak,.int .u64 t.rng.high.cats],.int .i64 cls] w0 (fun(e:Ending) (w':World)=>e=.returned (.bool (EB r s t cls))∧al5 w0.heap.size w0 w'):=by
 refine bM [] (fn:=Tryz.f171) Tryz.func171 rfl Tryz.ntmps171 rfl<|fun g1 w1 M1=>fun g2 w2 M2=>fun g3 w3 M3=>lb 2<|an rfl<|lb 2<|an (fun _=>rfl)<|lb 1<|an (fun _=>rfl)<|cl<|an (fun _=>qw _ r.src hr.src s.typ) fun w4 M4=>lb 2<|an (fun _=>rfl)<|lb 0<|an (fun _=>rfl)<|cl<|an (fun _=>qw _ r.tgt hr.tgt t.typ) fun w5 M5=>lb 2<|an (fun _=>rfl)<|lb 1<|an (fun _=>rfl)<|lb 0<|an (fun _=>rfl) fun M=>⟨rfl,M.below⟩
def Bm(p:aD)(st:List Bool)(kind:Int)(s t:eG)(cls:Int)(v:Int)(r:bY):Int:=if (decide (r.kind=kind)&&Hw p.conds st r.cond&&EB r s t cls)=true then bits .or .u32 v r.perms else v
def rK(p:aD)(st:List Bool)(kind:Int)(s t:eG)(cls:Int):Int:=p.rules.foldl (Bm p st kind s t cls) 0
theorem L7(w0:World)(c0 c1 c2 c3 c4 c5 c6 c7 c8 c9 c10 c11 c12 c13 c14 c15 c16:Value)(p:aD)(hp:aA w0 c0 c1 c2 c3 c4 c5 c6 c7 c8 c9 c10 c11 c12 c13 c14 c15 c16 p)(hok:p.Ok)(XA:∀ r∈p.rules,-1000000≤r.cond∧r.cond≤1000000)(v:Value)(st:List Bool)(hL:yX w0 v st)(kind:Int)(s t:eG)(cls:Int):Calls Tryz.prog 64 #[.agg #[c0,c1,c2,c3,c4,c5,c6,c7,c8,c9,c10,c11,c12,c13,c14,c15,c16],v,.int .i64 kind,.agg #[.int .i64 s.user,.int .i64 s.role,.int .i64 s.typ,.int .i64 s.rng.low.ak,.int .u64 s.rng.low.cats,.int .i64 s.rng.high.ak,.int .u64 s.rng.high.cats],.agg #[.int .i64 t.user,.int .i64 t.role,.int .i64 t.typ,.int .i64 t.rng.low.ak,.int .u64 t.rng.low.cats,.int .i64 t.rng.high.ak,.int .u64 t.rng.high.cats],.int .i64 cls] w0 (fun(e:Ending) (w':World)=>e=.returned (.int .u32 (rK p st kind s t cls))∧al5 w0.heap.size w0 w'):=by
 have vT:=hp;obtain⟨_,_,-,-,hmR,-⟩:=SliceAt.form vT.rules (by decide);obtain⟨_,_,_,_,_,_,_,_,_,_,_,_,_,_,_,_,_,_,_,_,_,_,_,_,_,_,_,_,_,_,_,_,_,_,rfl,rfl,rfl,rfl,rfl,rfl,rfl,rfl,rfl,rfl,rfl,rfl,rfl,rfl,rfl,rfl,rfl⟩:=hp.open;refine bM [] (fn:=Tryz.f64) Tryz.func64 rfl Tryz.ntmps64 rfl<|fun g1 w1 M1=>fun g2 w2 M2=>fun g3 w3 M3=>lr (ι:=Nat) (fun m=>[(13,.int .u32 ((p.rules.take m).foldl (Bm p st kind s t cls) 0)),(14,.int .i64 (m:Int))]) (fun m _=>m≤p.rules.length) (fun m=>p.rules.length-m) 0 (an ⟨⟨rfl,rfl,trivial⟩,fun M=>⟨M,al6 _⟩⟩ ?_)
 intro m w M hm;refine lb 2<|an rfl<|an (fun h=>?_) fun h=>?_
 ·have hlt:m<p.rules.length:=by simp at h;omega
  obtain⟨y,hy⟩:∃ y,p.rules[m]?=some y:=⟨_,al7 hlt⟩;have iK:=al8 hy;obtain⟨b,o,e,hc⟩:=SliceAt.elt vT.rules (fun _=>rfl) (by decide) hy hlt;have hn:(p.rules.take (m+1)).foldl (Bm p st kind s t cls) 0=Bm p st kind s t cls ((p.rules.take m).foldl (Bm p st kind s t cls) 0) y:=by rw[cE hy,List.foldl_append];rfl
  have hF:∀ b,(decide (y.kind=kind)&&Hw p.conds st y.cond&&EB y s t cls)=b→Bm p st kind s t cls ((p.rules.take m).foldl (Bm p st kind s t cls) 0) y=if b=true then bits .or .u32 ((p.rules.take m).foldl (Bm p st kind s t cls) 0) y.perms else (p.rules.take m).foldl (Bm p st kind s t cls) 0:=fun b hb=>by unfold Bm;rw[hb]
  refine lb 2<|an rfl<|ia<|an ⟨e,rfl,hlt⟩<|lc<|an (bZ M.below hc)<|ei<|an zH fun g4 w4 M4=>lb 0<|an ⟨rfl,rfl⟩ fun w5 M5=>lb 0<|an rfl<|lb 3<|an (fun _=>rfl)<|lb 0<|an (fun _=>rfl)<|cl<|an (fun _=>Fp _ _ _ _ _ _ _ _ _ _ _ _ _ _ _ _ _ _ p (vT.keep M5.below) _ st (hL.keep M5.below) y.cond (XA y iK)) fun w6 M6=>lb 0<|an (fun _=>rfl)<|lb 2<|an (fun _=>rfl)<|lb 1<|an (fun _=>rfl)<|cl<|an (fun _=>Gw _ y (hok.rules y iK) s t cls) fun w7 M7=>an (fun h2=>?_) fun h2=>?_
  ·exact lb 0<|an rfl<|ei<|an rfl<|an (by omega)<|bk (m+1) ⟨by dsimp only;rw[hn,hF _ h2];rfl,rfl,trivial⟩ (fun M=>⟨M.only (.cons _ (.refl _)) (.refl _),by omega⟩) (by dsimp only;omega)
  ·exact an (by omega)<|bk (m+1) ⟨by dsimp only;rw[hn,hF _ h2];rfl,rfl,trivial⟩ (fun M=>⟨M.only (.cons _ (.refl _)) (.refl _),by omega⟩) (by dsimp only;omega)
 ·obtain rfl:m=p.rules.length:=by simp at h;omega
  rw[show rK p st kind s t cls=(p.rules.take p.rules.length).foldl (Bm p st kind s t cls) 0 by rw[al9];rfl];exact fun M'=>⟨rfl,M.below⟩
def Dy(p:aD)(l:iL):Bool:=!(decide (l.ak<0)||decide ((p.ak.length:Int)≤l.ak))&&(List.range 64).all fun i=>!(l.cats.testBit i&&decide ((p.cats.length:Int)≤(i:Int)))
theorem Dx(w0:World)(c0 c1 c2 c3 c4 c5 c6 c7 c8 c9 c10 c11 c12 c13 c14 c15 c16:Value)(p:aD)(hp:aA w0 c0 c1 c2 c3 c4 c5 c6 c7 c8 c9 c10 c11 c12 c13 c14 c15 c16 p)(l:iL)(hl:l.Ok):Calls Tryz.prog 167 #[.agg #[c0,c1,c2,c3,c4,c5,c6,c7,c8,c9,c10,c11,c12,c13,c14,c15,c16],.agg #[.int .i64 l.ak,.int .u64 l.cats]] w0 (fun(r:Ending) (w':World)=>r=.returned (.bool (Dy p l))∧al5 w0.heap.size w0 w'):=by
 have vT:=hp;obtain⟨_,_,_,_,_,_,_,_,_,_,_,_,_,_,_,_,_,_,_,_,_,_,_,_,_,_,_,_,_,_,_,_,_,_,rfl,rfl,rfl,rfl,rfl,rfl,rfl,rfl,rfl,rfl,rfl,rfl,rfl,rfl,rfl,rfl,rfl⟩:=hp.open;refine bM [] (fn:=Tryz.f167) Tryz.func167 rfl Tryz.ntmps167 rfl<|fun g1 w1 M1=>fun g2 w2 M2=>lb 0<|an rfl<|lb 0<|an (fun _=>rfl)<|lb 1<|an (fun _=>rfl)<|an (fun h M=>⟨?_,M.below⟩) fun h=>?_
 ·have h:(decide (l.ak<0)||decide ((p.ak.length:Int)≤l.ak))=true:=h;unfold Dy;rw[h];rfl
 have h:(decide (l.ak<0)||decide ((p.ak.length:Int)≤l.ak))=false:=h;have he:Dy p l=(List.range 64).all fun i=>!(l.cats.testBit i&&decide ((p.cats.length:Int)≤(i:Int))):=by unfold Dy;rw[h];rfl
 rw[he];refine lr (ι:=Nat) (fun m=>[(5,.int .i64 (m:Int))]) (fun m _=>m≤64∧∀ i,i<m→(!(l.cats.testBit i&&decide ((p.cats.length:Int)≤(i:Int))))=true) (fun m=>64-m) 0 (an ⟨⟨rfl,trivial⟩,fun M=>⟨M,al6 _,fun i h=>absurd h (Nat.not_lt_zero i)⟩⟩ ?_);intro m w M ⟨hm,hI⟩;refine an (fun h2=>?_) fun h2 M=>⟨?_,M.below⟩
 ·have hlt:m<64:=by simp at h2;omega
  refine dr (by kernel_rfl)<|lb 0<|an rfl<|ei<|an (fun a w o ho hv=>R8 hlt ho (aY hv) (cC hv))<|ei<|an (fun a w o ho hv=>LQ ho (aY hv) (cC hv) hl.cats)<|ei<|an (fun a w o ho hv=>KT ho (aY hv) (cC hv))<|lb 1<|an (fun _=>rfl)<|fun w3 fL M3=>?_
  rw[LX];refine an (fun h3 M=>⟨?_,M.below⟩) fun h3=>an (by omega)<|bk (m+1) ⟨rfl,trivial⟩ (fun M=>⟨M,by omega,fun i hi=>?_⟩) (by dsimp only;omega)
  ·have h4:(l.cats.testBit m&&decide ((p.cats.length:Int)≤(m:Int)))=true:=h3
   rw[show((List.range 64).all fun i=>!(l.cats.testBit i&&decide ((p.cats.length:Int)≤(i:Int))))=false from by
    rw[List.all_eq_false];exact⟨m,List.mem_range.2 hlt,by rw[h4];decide⟩]
   rfl
  ·by_cases e:i=m
   ·subst e;have h4:(l.cats.testBit i&&decide ((p.cats.length:Int)≤(i:Int)))=false:=h3;rw[h4];rfl
   ·exact hI i (by omega)
 ·rw[show((List.range 64).all fun i=>!(l.cats.testBit i&&decide ((p.cats.length:Int)≤(i:Int))))=true from by
   rw[List.all_eq_true];exact fun i hi=>hI i (by have:=List.mem_range.1 hi;simp only[decide_eq_false_iff_not] at h2;omega)]
  rfl
def wV(p:aD)(a b:Int):Bool:=if (((decide (a<0)||decide ((p.roles.length:Int)≤a))||decide (b<0))||decide ((p.roles.length:Int)≤b))=true then false else decide (a=b)||((p.roles[a.toNat]?).map fun r=>r.next.mem b).getD false
theorem Iq(w0:World)(c0 c1 c2 c3 c4 c5 c6 c7 c8 c9 c10 c11 c12 c13 c14 c15 c16:Value)(p:aD)(hp:aA w0 c0 c1 c2 c3 c4 c5 c6 c7 c8 c9 c10 c11 c12 c13 c14 c15 c16 p)(hok:p.Ok)(a b:Int):Calls Tryz.prog 173 #[.agg #[c0,c1,c2,c3,c4,c5,c6,c7,c8,c9,c10,c11,c12,c13,c14,c15,c16],.int .i64 a,.int .i64 b] w0 (fun(r:Ending) (w':World)=>r=.returned (.bool (wV p a b))∧al5 w0.heap.size w0 w'):=by
 have vT:=hp;obtain⟨_,_,_,_,_,_,_,_,_,_,_,_,_,_,_,_,_,_,_,_,_,_,_,_,_,_,_,_,_,_,_,_,_,_,rfl,rfl,rfl,rfl,rfl,rfl,rfl,rfl,rfl,rfl,rfl,rfl,rfl,rfl,rfl,rfl,rfl⟩:=hp.open;refine bM [] (fn:=Tryz.f173) Tryz.func173 rfl Tryz.ntmps173 rfl<|fun g1 w1 M1=>lb 0<|an (fun _=>rfl)<|lb 0<|an (fun _=>rfl)<|an (fun h M=>⟨?_,M.below⟩) fun h=>?_
 ·unfold wV;rw[if_pos h];rfl
 have hh:¬ ((((decide (a<0)||decide ((p.roles.length:Int)≤a))||decide (b<0))||decide ((p.roles.length:Int)≤b))=true):=by
  intro h2;rw[show _=false from h] at h2;cases h2
 unfold wV;rw[if_neg hh]
 have ha:0≤a∧a<p.roles.length:=by
  simp only[Bool.or_eq_true,decide_eq_true_eq] at hh;omega
 obtain⟨y,hy⟩:∃ y,p.roles[a.toNat]?=some y:=⟨_,al7 (by omega)⟩;obtain⟨b1,o1,e1,hc⟩:=SliceAt.elt vT.roles (fun _=>rfl) (by decide) hy (by omega);rw[hy];exact lb 0<|an (fun _=>rfl)<|ia (i:=a.toNat)<|an (fun _=>⟨e1,by omega,by omega⟩)<|lc (x:=[.int .u64 y.next.a,.int .u64 y.next.b,.int .u64 y.next.c,.int .u64 y.next.d])<|an (fun _=>ef (bZ M1.below hc) rfl)<|cl<|an (fun _=>qw _ y.next (hok.roles y (al8 hy)).next b) fun w2 M2=>fun M=>⟨rfl,M.below⟩
def sK(l:List ByteArray)(s:ByteArray):Nat→Nat→Int×Bool
 | 0,_=>(0,false)
 | f+1,i=>match l[i]? with
  | some x=>if x=s then ((i:Int),true) else sK l s f (i+1)
  | none=>(0,false)
def mo(p:aD)(cls:Int)(s:ByteArray):Int×Bool:=if (decide (cls<0)||decide ((p.classes.length:Int)≤cls))=true then (0,false) else ((p.classes[cls.toNat]?).map fun c=>sK c.perms s 32 0).getD (0,false)
theorem IV(w0:World)(c0 c1 c2 c3 c4 c5 c6 c7 c8 c9 c10 c11 c12 c13 c14 c15 c16:Value)(p:aD)(hp:aA w0 c0 c1 c2 c3 c4 c5 c6 c7 c8 c9 c10 c11 c12 c13 c14 c15 c16 p)(cls:Int)(s:ByteArray):Calls Tryz.prog 174 #[.agg #[c0,c1,c2,c3,c4,c5,c6,c7,c8,c9,c10,c11,c12,c13,c14,c15,c16],.int .i64 cls,.string s] w0 (fun(r:Ending) (w':World)=>r=.returned (.tuple #[.int .i64 (mo p cls s).1,.bool (mo p cls s).2])∧al5 w0.heap.size w0 w'):=by
 have vT:=hp;obtain⟨_,_,_,_,_,_,_,_,_,_,_,_,_,_,_,_,_,_,_,_,_,_,_,_,_,_,_,_,_,_,_,_,_,_,rfl,rfl,rfl,rfl,rfl,rfl,rfl,rfl,rfl,rfl,rfl,rfl,rfl,rfl,rfl,rfl,rfl⟩:=hp.open;refine bM [] (fn:=Tryz.f174) Tryz.func174 rfl Tryz.ntmps174 rfl<|fun g1 w1 M1=>lb 0<|an (fun _=>rfl)<|an (fun h M=>⟨?_,M.below⟩) fun h=>?_
 ·unfold mo;rw[if_pos h];rfl
 have hh:¬ ((decide (cls<0)||decide ((p.classes.length:Int)≤cls))=true):=by
  intro h2;rw[show _=false from h] at h2;cases h2
 have ha:0≤cls∧cls<p.classes.length:=by
  simp only[Bool.or_eq_true,decide_eq_true_eq] at hh;omega
 obtain⟨y,hy⟩:∃ y,p.classes[cls.toNat]?=some y:=⟨_,al7 (by omega)⟩;obtain⟨b1,o1,_,e1,⟨pv,rfl,Uk⟩,hc⟩:=aj.elt vT.classes (by decide) hy;obtain⟨_,_,rfl,-,hmp,-⟩:=aN.open Uk;have he:mo p cls s=sK y.perms s 32 0:=by unfold mo;rw[if_neg hh,hy];rfl
 rw[he];refine lb 0<|an rfl<|ia (i:=cls.toNat)<|an ⟨e1,by omega,by omega⟩<|lc<|an (bZ M1.below hc 1 _ rfl)<|lr (ι:=Nat) (fun m=>[(9,.int .i64 (m:Int))]) (fun m _=>m≤y.perms.length∧m≤32∧sK y.perms s 32 0=sK y.perms s (32-m) m) (fun m=>32-m) 0 (an ⟨⟨rfl,trivial⟩,fun M=>⟨M,al6 _,al6 _,rfl⟩⟩ ?_);intro m w M ⟨hm,hm2,hI⟩;refine an (fun h2=>?_) fun h2 M=>⟨?_,M.below⟩
 ·have hlt:m<y.perms.length∧m<32:=by
   simp only[ama,decide_eq_true_eq] at h2;omega
  obtain⟨x,hx⟩:∃ x,y.perms[m]?=some x:=⟨_,al7 hlt.1⟩;obtain⟨b2,o2,e2,hc2⟩:=SliceAt.elt Uk (fun _=>rfl) (by decide) hx hlt.1
  have hs:sK y.perms s (32-m) m=if x=s then ((m:Int),true) else sK y.perms s (32-(m+1)) (m+1):=by
   rw[show 32-m=(32-(m+1))+1 by omega,sK,hx]
  refine ia<|an ⟨e2,rfl,hlt.1⟩<|lc (x:=.string x)<|an (bZ M.below hc2 0 _ rfl)<|an (fun h3 M=>⟨?_,M.below⟩) fun h3=>an (by omega)<|bk (m+1) ⟨rfl,trivial⟩ (fun M=>⟨M,by omega,by omega,?_⟩) (by dsimp only;omega)
  ·rw[hI,hs,if_pos (Tf h3)];rfl
  ·rw[hI,hs,if_neg (WE h3)]
 ·have:sK y.perms s (32-m) m=(0,false):=by
   simp only[Bool.and_eq_false_iff,decide_eq_false_iff_not] at h2;by_cases e:m=32
   ·subst e;rfl
   ·rw[show 32-m=(32-(m+1))+1 by omega,sK,List.getElem?_eq_none (by omega)]
  rw[hI,this];rfl
def Cl:Nat→Int
 | 0=>0
 | k+1=>bits .or .u32 (Cl k) (IntKind.u32.wrap (1*2^(k:Int).toNat))
theorem JK(w0:World)(c0 c1 c2 c3 c4 c5 c6 c7 c8 c9 c10 c11 c12 c13 c14 c15 c16:Value)(p:aD)(hp:aA w0 c0 c1 c2 c3 c4 c5 c6 c7 c8 c9 c10 c11 c12 c13 c14 c15 c16 p)(cls:Nat)(y:gi)(hy:p.classes[cls]?=some y):Calls Tryz.prog 67 #[.agg #[c0,c1,c2,c3,c4,c5,c6,c7,c8,c9,c10,c11,c12,c13,c14,c15,c16],.int .i64 (cls:Int)] w0 (fun(r:Ending) (w':World)=>r=.returned (.int .u32 (Cl (min y.perms.length 32)))∧al5 w0.heap.size w0 w'):=by
 have vT:=hp;have hlt:=(List.getElem?_eq_some_iff.1 hy).1;obtain⟨_,_,_,_,_,_,_,_,_,_,_,_,_,_,_,_,_,_,_,_,_,_,_,_,_,_,_,_,_,_,_,_,_,_,rfl,rfl,rfl,rfl,rfl,rfl,rfl,rfl,rfl,rfl,rfl,rfl,rfl,rfl,rfl,rfl,rfl⟩:=hp.open;obtain⟨b1,o1,_,e1,⟨pv,rfl,Uk⟩,hc⟩:=aj.elt vT.classes (by decide) hy;obtain⟨_,_,rfl,-,hmp,-⟩:=aN.open Uk;refine bM [] (fn:=Tryz.f67) Tryz.func67 rfl Tryz.ntmps67 rfl<|fun g1 w1 M1=>lr (ι:=Nat) (fun m=>[(5,.int .u32 (Cl m)),(6,.int .i64 (m:Int))]) (fun m _=>m≤y.perms.length∧m≤32) (fun m=>32-m) 0 (an ⟨⟨rfl,rfl,trivial⟩,fun M=>⟨M,al6 _,al6 _⟩⟩ ?_)
 intro m w M ⟨hm,hm2⟩;refine lb 0<|an rfl<|ia<|an ⟨e1,rfl,hlt⟩<|lc<|an (bZ M.below hc 1 _ rfl)<|an (fun h2=>?_) fun h2=>?_
 ·have hl:m<y.perms.length∧m<32:=by
   simp only[ama,decide_eq_true_eq] at h2;omega
  exact ei<|an (fun a w o ho hv=>DL ho (aY hv) (cC hv) (by omega) (show _≤((32:Nat):Int) by omega))<|ei<|an rfl<|an (by omega)<|bk (m+1) ⟨rfl,rfl,trivial⟩ (fun M=>⟨M,by omega,by omega⟩) (by dsimp only;omega)
 ·obtain rfl:m=min y.perms.length 32:=by
   simp only[Bool.and_eq_false_iff,decide_eq_false_iff_not] at h2;omega
  exact fun M'=>⟨rfl,M.below⟩
def ny(p:aD)(x:eG):Bool:=
 if (((((decide (x.user<0)||decide ((p.users.length:Int)≤x.user))||decide (x.role<0))||decide ((p.roles.length:Int)≤x.role))||decide (x.typ<0))||decide ((p.types.length:Int)≤x.typ))=true then false
 else if ((!Dy p x.rng.low||!Dy p x.rng.high)||!yN x.rng.high.ak x.rng.high.cats x.rng.low.ak x.rng.low.cats)=true then false
 else if x.role=0 then true
 else match p.users[x.user.toNat]?,p.roles[x.role.toNat]? with
  | some u,some r=>((u.roles.mem x.role&&r.types.mem x.typ)&&yN x.rng.low.ak x.rng.low.cats u.rng.low.ak u.rng.low.cats)&&yN u.rng.high.ak u.rng.high.cats x.rng.high.ak x.rng.high.cats
  | _,_=>false
theorem zK(w0:World)(c0 c1 c2 c3 c4 c5 c6 c7 c8 c9 c10 c11 c12 c13 c14 c15 c16:Value)(p:aD)(hp:aA w0 c0 c1 c2 c3 c4 c5 c6 c7 c8 c9 c10 c11 c12 c13 c14 c15 c16 p)(hok:p.Ok)(x:eG)(hx:x.Ok):Calls Tryz.prog 63 #[.agg #[c0,c1,c2,c3,c4,c5,c6,c7,c8,c9,c10,c11,c12,c13,c14,c15,c16],.agg #[.int .i64 x.user,.int .i64 x.role,.int .i64 x.typ,.int .i64 x.rng.low.ak,.int .u64 x.rng.low.cats,.int .i64 x.rng.high.ak,.int .u64 x.rng.high.cats]] w0 (fun(r:Ending) (w':World)=>r=.returned (.bool (ny p x))∧al5 w0.heap.size w0 w'):=by
 have vT:=hp;obtain⟨_,_,_,_,_,_,_,_,_,_,_,_,_,_,_,_,_,_,_,_,_,_,_,_,_,_,_,_,_,_,_,_,_,_,rfl,rfl,rfl,rfl,rfl,rfl,rfl,rfl,rfl,rfl,rfl,rfl,rfl,rfl,rfl,rfl,rfl⟩:=hp.open;refine bM [] (fn:=Tryz.f63) Tryz.func63 rfl Tryz.ntmps63 rfl<|fun g1 w1 M1=>fun g2 w2 M2=>lb 0<|an rfl<|lb 0<|an (fun _=>rfl)<|lb 1<|an (fun _=>rfl)<|lb 0<|an (fun _=>rfl)<|lb 0<|an (fun _=>rfl)<|lb 1<|an (fun _=>rfl)<|lb 0<|an (fun _=>rfl)<|lb 0<|an (fun _=>rfl)<|lb 1<|an (fun _=>rfl)<|an (fun h M=>⟨?_,M.below⟩) fun h=>?_
 ·unfold ny;rw[if_pos h];rfl
 have hh:¬ ((((((decide (x.user<0)||decide ((p.users.length:Int)≤x.user))||decide (x.role<0))||decide ((p.roles.length:Int)≤x.role))||decide (x.typ<0))||decide ((p.types.length:Int)≤x.typ))=true):=by
  intro h2;rw[show _=false from h] at h2;cases h2
 have hr:(0≤x.user∧x.user<p.users.length)∧(0≤x.role∧x.role<p.roles.length):=by
  simp only[Bool.or_eq_true,decide_eq_true_eq] at hh;omega
 unfold ny;rw[if_neg hh];refine lb 1<|an rfl<|lb 0<|an rfl<|cl<|an (Dx _ _ _ _ _ _ _ _ _ _ _ _ _ _ _ _ _ _ p (vT.keep M2.below) x.rng.low hx.rng.low) fun w3 M3=>lb 1<|an (fun _=>rfl)<|lb 0<|an (fun _=>rfl)<|cl<|an (fun _=>Dx _ _ _ _ _ _ _ _ _ _ _ _ _ _ _ _ _ _ p (vT.keep M3.below) x.rng.high hx.rng.high) fun w4 M4=>lb 0<|an (fun _=>rfl)<|lb 0<|an (fun _=>rfl)<|cl<|an (fun _=>tj _ x.rng.high.ak x.rng.high.cats x.rng.low.ak x.rng.low.cats) fun w5 M5=>an (fun h2 M=>⟨?_,M.below⟩) fun h2=>?_
 ·rw[if_pos h2];rfl
 rw[if_neg (by intro h3;rw[show _=false from h2] at h3;cases h3)];refine lb 0<|an rfl<|an (fun h3 M=>⟨?_,M.below⟩) fun h3=>?_
 ·rw[if_pos (by simpa using h3)];rfl
 rw[if_neg (by simpa using h3)];obtain⟨y,hy⟩:∃ y,p.users[x.user.toNat]?=some y:=⟨_,al7 (by omega)⟩;obtain⟨b1,o1,e1,hc⟩:=SliceAt.elt vT.users (fun _=>rfl) (by decide) hy (by omega);obtain⟨z,hz⟩:∃ z,p.roles[x.role.toNat]?=some z:=⟨_,al7 (by omega)⟩;obtain⟨b2,o2,e2,hc2⟩:=SliceAt.elt vT.roles (fun _=>rfl) (by decide) hz (by omega);have oy:=hok.users y (al8 hy);have oz:=hok.roles z (al8 hz);rw[hy,hz];refine lb 1<|an rfl<|lb 0<|an rfl<|ia (i:=x.user.toNat)<|an ⟨e1,by omega,by omega⟩<|lc<|an (bZ M5.below hc)<|ei<|an uN fun g3 w6 M6=>lb 0<|an ⟨rfl,rfl⟩ fun w7 M7=>?_
 exact dr (by kernel_rfl)<|lb 0<|an rfl<|lb 1<|an rfl<|cl<|an (fun w' hb' M'=>qw _ y.roles oy.roles x.role)<|lb 2<|an (fun _=>rfl)<|lb 1<|an (fun _=>rfl)<|ia (i:=x.role.toNat)<|an (fun _=>⟨e2,by omega,by omega⟩)<|lc (x:=[.int .u64 z.types.a,.int .u64 z.types.b,.int .u64 z.types.c,.int .u64 z.types.d])<|an (fun _=>ef (bZ M7.below hc2) rfl)<|lb 1<|an (fun _=>rfl)<|cl<|an (fun _ w' hb' M'=>qw _ z.types oz.types x.typ)<|lb 1<|an (fun _=>rfl)<|lb 0<|an (fun _=>rfl)<|cl<|an (fun _ w' hb' M'=>tj _ x.rng.low.ak x.rng.low.cats y.rng.low.ak y.rng.low.cats)<|lb 0<|an (fun _=>rfl)<|lb 1<|an (fun _=>rfl)<|cl<|an (fun _ w' hb' M'=>tj _ y.rng.high.ak y.rng.high.cats x.rng.high.ak x.rng.high.cats)<|fun w8 XB M8=>fun M=>⟨rfl,M.below⟩
end Go.Proofs.YtkkmjdceiocnbaaGreatDoor

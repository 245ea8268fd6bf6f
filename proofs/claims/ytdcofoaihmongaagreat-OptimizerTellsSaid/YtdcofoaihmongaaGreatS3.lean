import Derived.Laws.BitsLemmas
import Derived.Shelf.SlicesE.Clone
import Derived.Test.YtdcofoaihmongaaGreatProg
import Derived.Test.YtdcofoaihmongaaGreatS2
open Bool renaming and_eq_true→att
open Go renaming cell_later→as8,wp_seq_k→atc,wpList_nil→atd,wp_cond_split→ate,wp_block→atf
open Go.Lib renaming hid→as6
open Go.RowKit renaming Below→as5
open List renaming getElem?_eq_getElem→as7,mem_cons→as_,getElem?_eq_some_iff→ata,mem_of_getElem?→atb,mem_singleton→ati,take_length→atk,mem_map→atl,length_map→atm,getElem?_map→atn,all_eq_true→ato,map_append→atp,length_append→atq,flatMap_append→atr,getD_eq_getElem?_getD→atu
open Nat renaming zero_le→as9,le_trans→atg,mul_le_mul_right→atj
open Option.some renaming inj→ath
set_option maxRecDepth 100000
set_option maxHeartbeats 8000000
namespace Go.Proofs.YtdcofoaihmongaaGreat
open Go Go.RowKit
theorem vn:(Tryz.prog.info? 39).map (·.size)=some 17:=by kernel_rfl
theorem Rq:(Tryz.prog.info? 89).map (·.size)=some 10:=by kernel_rfl
theorem A_(n:Nat):(au.all n).Ok:=Ft _
def eA(s:au):Bool:=!(decide (s=au.zero))
theorem fW(w:World)(s:au)(hs:s.Ok)(n:Nat)(hn:n≤140737488355328):Calls Tryz.prog 103 #[.agg #[.int .u64 s.a,.int .u64 s.b,.int .u64 s.c,.int .u64 s.d],.int .i64 (n:Int)] w fun e w'=>e=.returned (.tuple #[.bool (eA s),.bool (s.within (au.all n))])∧as5 w.heap.size w w':=by
 have Un:=as6 hs;clear hs;obtain⟨b1,hb1⟩:∃ b1,b1=eA s:=⟨_,rfl⟩;obtain⟨b2,hb2⟩:∃ b2,b2=s.within (au.all n):=⟨_,rfl⟩;have nA:=as6 hb2;obtain⟨q,hq⟩:∃ q,q=decide (s=au.zero):=⟨_,rfl⟩;have HQ:=as6 (show ∀ W,(Op.equalIn 10000 54 (.agg #[.int .u64 s.a,.int .u64 s.b,.int .u64 s.c,.int .u64 s.d]) (.agg #[.int .u64 0,.int .u64 0,.int .u64 0,.int .u64 0])).run Tryz.prog W=.ok q W from by rw[hq];exact kJ s);have eE:=as6 (show b1=(!q) by rw[hb1,hq];rfl);rw[← hb1,← hb2];clear hb1 hb2 hq;obtain⟨wo,bS⟩:∃ wo,wo=(w).alloc (.cells #[.int .u64 s.a,.int .u64 s.b,.int .u64 s.c,.int .u64 s.d] 54):=⟨_,rfl⟩;have W0:=as6 (show Whole wo w.heap.size 54 #[.int .u64 s.a,.int .u64 s.b,.int .u64 s.c,.int .u64 s.d] by rw[bS];exact(Whole.new w 54 _));have ef:=as6 (show as5 w.heap.size w wo by rw[bS];exact((Below.refl _ w).alloc (Nat.le_refl _) _))
 go_enter Tryz.func103,Tryz.ntmps103
 go_upto_region 1 with(fail)
 rw[← bS];clear bS;refine jX [some 6,some 7,some 8,some 9,some 10,some 11,some 12,some 4] [yR (.agg #[.int .u64 s.a,.int .u64 s.b,.int .u64 s.c,.int .u64 s.d]),yR (.agg #[.int .u64 0,.int .u64 0,.int .u64 0,.int .u64 0]),yR (.bool b1),yR (.agg #[.int .u64 s.a,.int .u64 s.b,.int .u64 s.c,.int .u64 s.d]),yR (.int .i64 (n:Int)),yR (.agg #[.int .u64 (au.all n).a,.int .u64 (au.all n).b,.int .u64 (au.all n).c,.int .u64 (au.all n).d]),yR (.bool b2),yR (.bool b1)] (fun _ w'=>as5 wo.heap.size wo w') [] (by kernel_rfl) (by kernel_rfl) (by kernel_rfl) rfl (by decide) rfl rfl ((Below.refl _ _).drew) ⟨bI _,bI _,bI _,bI _,bI _,bI _,bI _,bI _,trivial⟩ ⟨?_,?_,?_,?_,?_,?_,?_,?_,?_⟩
 ·intro L a wy Q' hL hi H F hK
  try dsimp only at hi
  have h2:a.tmps[2]?=some (.pointer (some ⟨w.heap.size,0,none⟩)):=F 2 rfl;have HI:=as6 hi;clear H F hi hL;have kq0:wy.cell? ⟨w.heap.size,0,none⟩=some (.int .u64 s.a):=(Whole.under HI.out W0.out (Whole.lt W0.out)).cell 0;have kq1:wy.cell? ⟨w.heap.size,1,none⟩=some (.int .u64 s.b):=(Whole.under HI.out W0.out (Whole.lt W0.out)).cell 1;have kq2:wy.cell? ⟨w.heap.size,2,none⟩=some (.int .u64 s.c):=(Whole.under HI.out W0.out (Whole.lt W0.out)).cell 2;have kq3:wy.cell? ⟨w.heap.size,3,none⟩=some (.int .u64 s.d):=(Whole.under HI.out W0.out (Whole.lt W0.out)).cell 3
  go_wp2_with fail
  exact hK _ _ (Below.refl _ _) HI.out rfl
 ·intro L a wy Q' hL hi H F hK
  try dsimp only at hi
  have HI:=as6 hi;clear H F hi hL
  go_wp2_with fail
  exact hK _ _ (Below.refl _ _) HI.out rfl
 ·intro L a wy Q' hL hi H F hK
  try dsimp only at hi
  obtain⟨_,h6,rfl⟩:=H 0 ⟨.data,by simp,rfl⟩ _ rfl;replace h6:=h6 _ rfl;obtain⟨_,h7,rfl⟩:=H 1 ⟨.data,by simp,rfl⟩ _ rfl;replace h7:=h7 _ rfl;have HI:=as6 hi;clear H F hi hL;have hq:=HQ.out
  go_wp2_with fail
  exact hK _ _ (Below.refl _ _) HI.out (congrArg Value.bool eE.out)
 ·intro L a wy Q' hL hi H F hK
  try dsimp only at hi
  have h2:a.tmps[2]?=some (.pointer (some ⟨w.heap.size,0,none⟩)):=F 2 rfl;have HI:=as6 hi;clear H F hi hL;have kq0:wy.cell? ⟨w.heap.size,0,none⟩=some (.int .u64 s.a):=(Whole.under HI.out W0.out (Whole.lt W0.out)).cell 0;have kq1:wy.cell? ⟨w.heap.size,1,none⟩=some (.int .u64 s.b):=(Whole.under HI.out W0.out (Whole.lt W0.out)).cell 1;have kq2:wy.cell? ⟨w.heap.size,2,none⟩=some (.int .u64 s.c):=(Whole.under HI.out W0.out (Whole.lt W0.out)).cell 2;have kq3:wy.cell? ⟨w.heap.size,3,none⟩=some (.int .u64 s.d):=(Whole.under HI.out W0.out (Whole.lt W0.out)).cell 3
  go_wp2_with fail
  exact hK _ _ (Below.refl _ _) HI.out rfl
 ·intro L a wy Q' hL hi H F hK
  try dsimp only at hi
  have h1:a.tmps[1]?=some (.int .i64 (n:Int)):=F 1 rfl;have HI:=as6 hi;clear H F hi hL
  go_wp2_with fail
  exact hK _ _ (Below.refl _ _) HI.out rfl
 ·intro L a wy Q' hL hi H F hK
  try dsimp only at hi
  obtain⟨_,Je,rfl⟩:=H 4 ⟨.data,by simp,rfl⟩ _ rfl;replace Je:=Je _ rfl;have HI:=as6 hi;clear H F hi hL;have HK:=as6 hK;clear hK
  go_wp2_with (go_at_call 104;go_must (refine(zO wy n hn).mono ?_;rintro e w1 ⟨rfl,hb1⟩))
  exact HK.out _ _ hb1 (HI.out.trans (hb1.mono HI.out.size)) rfl
 ·intro L a wy Q' hL hi H F hK
  try dsimp only at hi
  obtain⟨_,h9,rfl⟩:=H 3 ⟨.data,by simp,rfl⟩ _ rfl;replace h9:=h9 _ rfl;obtain⟨_,mH,rfl⟩:=H 5 ⟨.data,by simp,rfl⟩ _ rfl;replace mH:=mH _ rfl;have HI:=as6 hi;clear H F hi hL;have HK:=as6 hK;clear hK
  go_wp2_with (go_at_call 105;go_must (refine(show Calls Tryz.prog 105 _ _ (fun e w'=>e=.returned (.bool b2)∧as5 wy.heap.size wy w') from by rw[nA.out];exact pE wy s (au.all n) Un.out (A_ n)).mono ?_;rintro e w1 ⟨rfl,hb1⟩))
  exact HK.out _ _ hb1 (HI.out.trans (hb1.mono HI.out.size)) rfl
 ·intro L a wy Q' hL hi H F hK
  try dsimp only at hi
  obtain⟨_,h8,rfl⟩:=H 2 ⟨.data,by simp,rfl⟩ _ rfl;replace h8:=h8 _ rfl;have HI:=as6 hi;clear H F hi hL
  go_wp2_with fail
  exact hK _ _ (Below.refl _ _) HI.out rfl
 ·intro a wy L hl hi hL Q' hK
  try dsimp only at hi
  have HB:=as6 hi;clear hi hL;obtain⟨_,rfl,_,rfl,_,rfl,_,rfl,_,rfl,_,rfl,_,rfl,_,rfl,rfl⟩:=hl;simp only[List.setIfInBounds_toArray,List.set_cons_zero,List.set_cons_succ]
  go_wp2_with fail
  refine bodyPost_ret (v:=.tuple #[.bool b1,.bool b2]) ?_ rfl ⟨rfl,ef.out.trans (HB.out.mono ef.out.size)⟩;simp[results,Tryz.results103,go_sem]
def rF(n:Nat)(s:au):Bool:=s.within (au.all n).unit
theorem ju(w:World)(c0 c1 c2 c3 c4 c5 c6 c7 c8 c9 aW aP aO aU aT aS aR:Value)(p:aG)(hp:aL w c0 c1 c2 c3 c4 c5 c6 c7 c8 c9 aW aP aO aU aT aS aR p)(hok:p.Ok)(s:au)(hs:s.Ok):Calls Tryz.prog 106 #[.agg #[c0,c1,c2,c3,c4,c5,c6,c7,c8,c9,aW,aP,aO,aU,aT,aS,aR],.agg #[.int .u64 s.a,.int .u64 s.b,.int .u64 s.c,.int .u64 s.d]] w fun e w'=>e=.returned (.bool (rF p.roles.length s))∧as5 w.heap.size w w':=by
 have Un:=as6 hs;have hn3:p.roles.length≤140737488355328:=hok.RA;clear hs hok;obtain⟨a3,k3,rfl,XG,hm3⟩:=aL.f3 hp;obtain⟨n3,Zr⟩:∃ n,n=p.roles.length:=⟨_,rfl⟩;have N3:=as6 Zr;rw[← Zr] at XG hm3 hn3 ⊢;clear Zr;have HN3:=as6 hn3;clear hp;unfold rF;obtain⟨b,hb⟩:∃ b,b=s.within (au.all n3).unit:=⟨_,rfl⟩;have eE:=as6 hb;rw[← hb];clear hb;obtain⟨wo,bS⟩:∃ wo,wo=((w).alloc (.cells #[c0,c1,c2,.slice a3 n3 k3,c4,c5,c6,c7,c8,c9,aW,aP,aO,aU,aT,aS,aR] 39)).alloc (.cells #[.int .u64 s.a,.int .u64 s.b,.int .u64 s.c,.int .u64 s.d] 54):=⟨_,rfl⟩;have W0:=as6 (show Whole wo w.heap.size 39 #[c0,c1,c2,.slice a3 n3 k3,c4,c5,c6,c7,c8,c9,aW,aP,aO,aU,aT,aS,aR] by rw[bS];exact((show Whole _ w.heap.size 39 #[c0,c1,c2,.slice a3 n3 k3,c4,c5,c6,c7,c8,c9,aW,aP,aO,aU,aT,aS,aR] from Whole.new w 39 _).alloc _));have W1:=as6 (show Whole wo (w.heap.size+1) 54 #[.int .u64 s.a,.int .u64 s.b,.int .u64 s.c,.int .u64 s.d] by rw[bS];exact(dg w _ _ _));have ef:=as6 (show as5 w.heap.size w wo by rw[bS];exact(((Below.refl _ w).alloc (Nat.le_refl _) _).alloc (by simp) _))
 go_enter Tryz.func106,Tryz.ntmps106
 go_upto_region 1 with(fail)
 rw[← bS];clear bS;refine jX [some 5,some 6,some 7,some 8,some 9,some 10,some 11] [yR (.agg #[.int .u64 s.a,.int .u64 s.b,.int .u64 s.c,.int .u64 s.d]),yR (.pointer (some ⟨w.heap.size,3,none⟩)),yR (.slice a3 n3 k3),yR (.int .i64 (n3:Int)),yR (.agg #[.int .u64 (au.all n3).a,.int .u64 (au.all n3).b,.int .u64 (au.all n3).c,.int .u64 (au.all n3).d]),yR (.agg #[.int .u64 (au.all n3).unit.a,.int .u64 (au.all n3).unit.b,.int .u64 (au.all n3).unit.c,.int .u64 (au.all n3).unit.d]),yR (.bool b)] (fun _ w'=>as5 wo.heap.size wo w') [] (by kernel_rfl) (by kernel_rfl) (by kernel_rfl) rfl (by decide) rfl rfl ((Below.refl _ _).drew) ⟨bI _,bI _,bI _,bI _,bI _,bI _,bI _,trivial⟩ ⟨?_,?_,?_,?_,?_,?_,?_,?_⟩
 ·intro L a wy Q' hL hi H F hK
  try dsimp only at hi
  have h3:a.tmps[3]?=some (.pointer (some ⟨w.heap.size+1,0,none⟩)):=F 3 rfl;have HI:=as6 hi;clear H F hi hL;have kq0:wy.cell? ⟨w.heap.size+1,0,none⟩=some (.int .u64 s.a):=(Whole.under HI.out W1.out (Whole.lt W1.out)).cell 0;have kq1:wy.cell? ⟨w.heap.size+1,1,none⟩=some (.int .u64 s.b):=(Whole.under HI.out W1.out (Whole.lt W1.out)).cell 1;have kq2:wy.cell? ⟨w.heap.size+1,2,none⟩=some (.int .u64 s.c):=(Whole.under HI.out W1.out (Whole.lt W1.out)).cell 2;have kq3:wy.cell? ⟨w.heap.size+1,3,none⟩=some (.int .u64 s.d):=(Whole.under HI.out W1.out (Whole.lt W1.out)).cell 3
  go_wp2_with fail
  exact hK _ _ (Below.refl _ _) HI.out rfl
 ·intro L a wy Q' hL hi H F hK
  try dsimp only at hi
  have h2:a.tmps[2]?=some (.pointer (some ⟨w.heap.size,0,none⟩)):=F 2 rfl;have HI:=as6 hi;clear H F hi hL
  go_wp2_with fail
  exact hK _ _ (Below.refl _ _) HI.out rfl
 ·intro L a wy Q' hL hi H F hK
  try dsimp only at hi
  obtain⟨_,h6,rfl⟩:=H 1 ⟨.data,by simp,rfl⟩ _ rfl;replace h6:=h6 _ rfl;have HI:=as6 hi;clear H F hi hL;have kq0:wy.cell? ⟨w.heap.size,3,none⟩=some (.slice a3 n3 k3):=(Whole.under HI.out W0.out (Whole.lt W0.out)).cell 3
  go_wp2_with fail
  exact hK _ _ (Below.refl _ _) HI.out rfl
 ·intro L a wy Q' hL hi H F hK
  try dsimp only at hi
  obtain⟨_,h7,rfl⟩:=H 2 ⟨.data,by simp,rfl⟩ _ rfl;replace h7:=h7 _ rfl;have HI:=as6 hi;clear H F hi hL
  go_wp2_with fail
  exact hK _ _ (Below.refl _ _) HI.out rfl
 ·intro L a wy Q' hL hi H F hK
  try dsimp only at hi
  obtain⟨_,h8,rfl⟩:=H 3 ⟨.data,by simp,rfl⟩ _ rfl;replace h8:=h8 _ rfl;have HI:=as6 hi;clear H F hi hL;have HK:=as6 hK;clear hK
  go_wp2_with (go_at_call 104;go_must (refine(zO wy n3 HN3.out).mono ?_;rintro e w1 ⟨rfl,hb1⟩))
  exact HK.out _ _ hb1 (HI.out.trans (hb1.mono HI.out.size)) rfl
 ·intro L a wy Q' hL hi H F hK
  try dsimp only at hi
  obtain⟨_,h9,rfl⟩:=H 4 ⟨.data,by simp,rfl⟩ _ rfl;replace h9:=h9 _ rfl;have HI:=as6 hi;clear H F hi hL;have HK:=as6 hK;clear hK
  go_wp2_with (go_at_call 195;go_must (refine(BA wy (au.all n3) (A_ n3)).mono ?_;rintro e w1 ⟨rfl,hb1⟩))
  exact HK.out _ _ hb1 (HI.out.trans (hb1.mono HI.out.size)) rfl
 ·intro L a wy Q' hL hi H F hK
  try dsimp only at hi
  obtain⟨_,h5,rfl⟩:=H 0 ⟨.data,by simp,rfl⟩ _ rfl;replace h5:=h5 _ rfl;obtain⟨_,Je,rfl⟩:=H 5 ⟨.data,by simp,rfl⟩ _ rfl;replace Je:=Je _ rfl;have HI:=as6 hi;clear H F hi hL;have HK:=as6 hK;clear hK
  go_wp2_with (go_at_call 105;go_must (refine(show Calls Tryz.prog 105 _ _ (fun e w'=>e=.returned (.bool b)∧as5 wy.heap.size wy w') from by rw[eE.out];exact pE wy s (au.all n3).unit Un.out (au.U2 (A_ n3))).mono ?_;rintro e w1 ⟨rfl,hb1⟩))
  exact HK.out _ _ hb1 (HI.out.trans (hb1.mono HI.out.size)) rfl
 ·intro a wy L hl hi hL Q' hK
  try dsimp only at hi
  have HB:=as6 hi;clear hi hL;obtain⟨_,rfl,_,rfl,_,rfl,_,rfl,_,rfl,_,rfl,_,rfl,rfl⟩:=hl;simp only[List.setIfInBounds_toArray,List.set_cons_zero,List.set_cons_succ]
  go_wp2_with fail
  go_ret
  exact⟨rfl,ef.out.trans (HB.out.mono ef.out.size)⟩
def pP(nS nC:Nat)(l:qO):Bool:=bn l.aV (nS:Int)&&(decide ((64:Int)≤(nC:Int))||decide ((l.cats:Int)/2^nC=0))
theorem kL(w:World)(c0 c1 c2 c3 c4 c5 c6 c7 c8 c9 aW aP aO aU aT aS aR:Value)(p:aG)(hp:aL w c0 c1 c2 c3 c4 c5 c6 c7 c8 c9 aW aP aO aU aT aS aR p)(l:qO)(hl:l.Ok):Calls Tryz.prog 108 #[.agg #[c0,c1,c2,c3,c4,c5,c6,c7,c8,c9,aW,aP,aO,aU,aT,aS,aR],.agg #[.int .i64 l.aV,.int .u64 l.cats]] w fun e w'=>e=.returned (.bool (pP p.aV.length p.cats.length l))∧as5 w.heap.size w w':=by
 obtain⟨a6,k6,rfl,hk6,hm6⟩:=aL.f6 hp;obtain⟨n6,Zq⟩:∃ n,n=p.aV.length:=⟨_,rfl⟩;have N6:=as6 Zq;rw[← Zq] at hk6 hm6 ⊢;clear Zq;obtain⟨a7,k7,rfl,hk7,hm7⟩:=aL.f7 hp;obtain⟨n7,hn7⟩:∃ n,n=p.cats.length:=⟨_,rfl⟩;have N7:=as6 hn7;rw[← hn7] at hk7 hm7 ⊢;clear hn7;have hcl:l.cats<18446744073709551616:=hl.cats;clear hp hl;obtain⟨wo,bS⟩:∃ wo,wo=((w).alloc (.cells #[c0,c1,c2,c3,c4,c5,.slice a6 n6 k6,.slice a7 n7 k7,c8,c9,aW,aP,aO,aU,aT,aS,aR] 39)).alloc (.cells #[.int .i64 l.aV,.int .u64 l.cats] 70):=⟨_,rfl⟩;have W0:=as6 (show Whole wo w.heap.size 39 #[c0,c1,c2,c3,c4,c5,.slice a6 n6 k6,.slice a7 n7 k7,c8,c9,aW,aP,aO,aU,aT,aS,aR] by rw[bS];exact((show Whole _ w.heap.size 39 #[c0,c1,c2,c3,c4,c5,.slice a6 n6 k6,.slice a7 n7 k7,c8,c9,aW,aP,aO,aU,aT,aS,aR] from Whole.new w 39 _).alloc _));have W1:=as6 (show Whole wo (w.heap.size+1) 70 #[.int .i64 l.aV,.int .u64 l.cats] by rw[bS];exact(dg w _ _ _));have ef:=as6 (show as5 w.heap.size w wo by rw[bS];exact(((Below.refl _ w).alloc (Nat.le_refl _) _).alloc (by simp) _));have ka6:wo.cell? ⟨w.heap.size,6,none⟩=some (.slice a6 n6 k6):=W0.out.cell 6;have ka7:wo.cell? ⟨w.heap.size,7,none⟩=some (.slice a7 n7 k7):=W0.out.cell 7;have kb0:wo.cell? ⟨w.heap.size+1,0,none⟩=some (.int .i64 l.aV):=W1.out.cell 0;have kb1:wo.cell? ⟨w.heap.size+1,1,none⟩=some (.int .u64 l.cats):=W1.out.cell 1;unfold pP
 cases hb:bn l.aV (n6:Int) with
 | false=>
  have H1:=as6 hb;clear hb
  go_enter Tryz.func108,Tryz.ntmps108
  go_upto_region 1 with(fail)
  rw[← bS];clear bS
  go_wp2_with (have hZ:=H1;clear hZ;go_at_call 113;go_must (refine(show Calls Tryz.prog 113 _ _ (fun e w'=>e=.returned (.bool false)∧wo=w') from by have h:=cC wo l.aV (n6:Int);rw[H1.out] at h;exact h).mono ?_;rintro e w' ⟨rfl,rfl⟩;clear H1))
  go_ret
  exact⟨rfl,ef.out⟩
 | true=>
  have H1:=as6 hb;clear hb;by_cases h64:(64:Int)≤(n7:Int)
  ·have d1:decide ((64:Int)≤(n7:Int))=true:=by simp;omega
   rw[d1]
   go_enter Tryz.func108,Tryz.ntmps108
   go_upto_region 1 with(fail)
   rw[← bS];clear bS
   go_wp2_with (have hZ:=H1;clear hZ;go_at_call 113;go_must (refine(show Calls Tryz.prog 113 _ _ (fun e w'=>e=.returned (.bool true)∧wo=w') from by have h:=cC wo l.aV (n6:Int);rw[H1.out] at h;exact h).mono ?_;rintro e w' ⟨rfl,rfl⟩;clear H1))
   go_ret
   exact⟨rfl,ef.out⟩
  ·have d1:decide ((64:Int)≤(n7:Int))=false:=by simp;omega
   rw[d1];have h7:n7<64:=by omega
   go_enter Tryz.func108,Tryz.ntmps108
   go_upto_region 1 with(fail)
   rw[← bS];clear bS
   go_wp2_with (have hZ:=H1;clear hZ;go_at_call 113;go_must (refine(show Calls Tryz.prog 113 _ _ (fun e w'=>e=.returned (.bool true)∧wo=w') from by have h:=cC wo l.aV (n6:Int);rw[H1.out] at h;exact h).mono ?_;rintro e w' ⟨rfl,rfl⟩;clear H1))
   go_ret
   exact⟨ay (by first|rfl|(simp<;>rfl)),ef.out⟩
def pJ(nS nC:Nat)(r:uJ):Bool:=pP nS nC r.low&&pP nS nC r.high&&vZ r.high r.low
theorem vD(w:World)(c0 c1 c2 c3 c4 c5 c6 c7 c8 c9 aW aP aO aU aT aS aR:Value)(p:aG)(hp:aL w c0 c1 c2 c3 c4 c5 c6 c7 c8 c9 aW aP aO aU aT aS aR p)(r:uJ)(hr:r.Ok):Calls Tryz.prog 107 #[.agg #[c0,c1,c2,c3,c4,c5,c6,c7,c8,c9,aW,aP,aO,aU,aT,aS,aR],.agg #[.int .i64 r.low.aV,.int .u64 r.low.cats,.int .i64 r.high.aV,.int .u64 r.high.cats]] w fun e w'=>e=.returned (.bool (pJ p.aV.length p.cats.length r))∧as5 w.heap.size w w':=by
 have HP:=as6 hp;have Un:=as6 hr;clear hp hr;obtain⟨wo,bS⟩:∃ wo,wo=((w).alloc (.cells #[c0,c1,c2,c3,c4,c5,c6,c7,c8,c9,aW,aP,aO,aU,aT,aS,aR] 39)).alloc (.cells #[.int .i64 r.low.aV,.int .u64 r.low.cats,.int .i64 r.high.aV,.int .u64 r.high.cats] 72):=⟨_,rfl⟩;have WY:=as6 (show Whole wo w.heap.size 39 #[c0,c1,c2,c3,c4,c5,c6,c7,c8,c9,aW,aP,aO,aU,aT,aS,aR] by rw[bS];exact((show Whole _ w.heap.size 39 #[c0,c1,c2,c3,c4,c5,c6,c7,c8,c9,aW,aP,aO,aU,aT,aS,aR] from Whole.new w 39 _).alloc _));have UH:=as6 (show Whole wo (w.heap.size+1) 72 #[.int .i64 r.low.aV,.int .u64 r.low.cats,.int .i64 r.high.aV,.int .u64 r.high.cats] by rw[bS];exact(dg w _ _ _));have ef:=as6 (show as5 w.heap.size w wo by rw[bS];exact(((Below.refl _ w).alloc (Nat.le_refl _) _).alloc (by simp) _));have akW:wo.cell? ⟨w.heap.size+1,0,none⟩=some (.int .i64 r.low.aV):=UH.out.cell 0;have akV:wo.cell? ⟨w.heap.size+1,1,none⟩=some (.int .u64 r.low.cats):=UH.out.cell 1;have akU:wo.cell? ⟨w.heap.size+1,2,none⟩=some (.int .i64 r.high.aV):=UH.out.cell 2;have akT:wo.cell? ⟨w.heap.size+1,3,none⟩=some (.int .u64 r.high.cats):=UH.out.cell 3;unfold pJ
 cases ha:pP p.aV.length p.cats.length r.low with
 | false=>
  have HA:=as6 ha;clear ha
  go_enter Tryz.func107,Tryz.ntmps107
  go_upto_region 1 with(fail)
  rw[← bS];clear bS
  go_wp2_with (first|(refine wpList_load_row rfl 39 _ rfl (w.heap.size) rfl 39 _ (0,0) _ WY.out Tryz.underlying39 rfl vn ?_)|(refine iQ rfl 39 _ rfl (w.heap.size) rfl 39 _ (0,0) _ WX.out Tryz.underlying39 rfl vn ?_)|(have hZ:=HA;clear hZ;go_at_call 108;go_must (refine(show Calls Tryz.prog 108 _ _ (fun e w'=>e=.returned (.bool false)∧as5 wo.heap.size wo w') from by have h:=kL wo c0 c1 c2 c3 c4 c5 c6 c7 c8 c9 aW aP aO aU aT aS aR p (HP.out.keep ef.out) r.low Un.out.low;rw[HA.out] at h;exact h).mono ?_;rintro e w1 ⟨rfl,hb⟩;have eE:=as6 hb;clear hb HA;have WX:=as6 (Whole.under eE.out WY.out (Whole.lt WY.out));have FI:=as6 (Whole.under eE.out UH.out (Whole.lt UH.out));have abG:w1.cell? ⟨w.heap.size+1,0,none⟩=some (.int .i64 r.low.aV):=FI.out.cell 0;have abF:w1.cell? ⟨w.heap.size+1,1,none⟩=some (.int .u64 r.low.cats):=FI.out.cell 1;have abE:w1.cell? ⟨w.heap.size+1,2,none⟩=some (.int .i64 r.high.aV):=FI.out.cell 2;have abD:w1.cell? ⟨w.heap.size+1,3,none⟩=some (.int .u64 r.high.cats):=FI.out.cell 3)))
  go_ret
  exact⟨rfl,ef.out.trans (eE.out.mono ef.out.size)⟩
 | true=>
  have HA:=as6 ha
  cases ha2:pP p.aV.length p.cats.length r.high with
  | false=>
   have UL:=as6 ha2;clear ha ha2
   go_enter Tryz.func107,Tryz.ntmps107
   go_upto_region 1 with(fail)
   rw[← bS];clear bS
   go_wp2_with (first|(refine wpList_load_row rfl 39 _ rfl (w.heap.size) rfl 39 _ (0,0) _ WY.out Tryz.underlying39 rfl vn ?_)|(refine iQ rfl 39 _ rfl (w.heap.size) rfl 39 _ (0,0) _ WX.out Tryz.underlying39 rfl vn ?_)|(have hZ:=HA;clear hZ;go_at_call 108;go_must (refine(show Calls Tryz.prog 108 _ _ (fun e w'=>e=.returned (.bool true)∧as5 wo.heap.size wo w') from by have h:=kL wo c0 c1 c2 c3 c4 c5 c6 c7 c8 c9 aW aP aO aU aT aS aR p (HP.out.keep ef.out) r.low Un.out.low;rw[HA.out] at h;exact h).mono ?_;rintro e w1 ⟨rfl,hb⟩;have eE:=as6 hb;clear hb HA;have WX:=as6 (Whole.under eE.out WY.out (Whole.lt WY.out));have FI:=as6 (Whole.under eE.out UH.out (Whole.lt UH.out));have abG:w1.cell? ⟨w.heap.size+1,0,none⟩=some (.int .i64 r.low.aV):=FI.out.cell 0;have abF:w1.cell? ⟨w.heap.size+1,1,none⟩=some (.int .u64 r.low.cats):=FI.out.cell 1;have abE:w1.cell? ⟨w.heap.size+1,2,none⟩=some (.int .i64 r.high.aV):=FI.out.cell 2;have abD:w1.cell? ⟨w.heap.size+1,3,none⟩=some (.int .u64 r.high.cats):=FI.out.cell 3))|(have hZ:=UL;clear hZ;go_at_call 108;go_must (refine(show Calls Tryz.prog 108 _ _ (fun e w'=>e=.returned (.bool false)∧as5 w1.heap.size w1 w') from by have h:=kL w1 c0 c1 c2 c3 c4 c5 c6 c7 c8 c9 aW aP aO aU aT aS aR p (HP.out.keep (ef.out.trans (eE.out.mono ef.out.size))) r.high Un.out.high;rw[UL.out] at h;exact h).mono ?_;rintro e w2 ⟨rfl,hb⟩;have nA:=as6 hb;clear hb UL;have W0c:=as6 (Whole.under nA.out WX.out (Whole.lt WX.out));have WW:=as6 (Whole.under nA.out FI.out (Whole.lt FI.out));have afv:w2.cell? ⟨w.heap.size+1,0,none⟩=some (.int .i64 r.low.aV):=WW.out.cell 0;have afu:w2.cell? ⟨w.heap.size+1,1,none⟩=some (.int .u64 r.low.cats):=WW.out.cell 1;have aft:w2.cell? ⟨w.heap.size+1,2,none⟩=some (.int .i64 r.high.aV):=WW.out.cell 2;have afs:w2.cell? ⟨w.heap.size+1,3,none⟩=some (.int .u64 r.high.cats):=WW.out.cell 3)))
   go_ret
   exact⟨rfl,(ef.out.trans (eE.out.mono ef.out.size)).trans (nA.out.mono (by have:=ef.out.size;have:=eE.out.size;omega))⟩
  | true=>
   have UL:=as6 ha2;clear ha ha2
   go_enter Tryz.func107,Tryz.ntmps107
   go_upto_region 1 with(fail)
   rw[← bS];clear bS
   go_wp2_with (first|(refine wpList_load_row rfl 39 _ rfl (w.heap.size) rfl 39 _ (0,0) _ WY.out Tryz.underlying39 rfl vn ?_)|(refine iQ rfl 39 _ rfl (w.heap.size) rfl 39 _ (0,0) _ WX.out Tryz.underlying39 rfl vn ?_)|(have hZ:=HA;clear hZ;go_at_call 108;go_must (refine(show Calls Tryz.prog 108 _ _ (fun e w'=>e=.returned (.bool true)∧as5 wo.heap.size wo w') from by have h:=kL wo c0 c1 c2 c3 c4 c5 c6 c7 c8 c9 aW aP aO aU aT aS aR p (HP.out.keep ef.out) r.low Un.out.low;rw[HA.out] at h;exact h).mono ?_;rintro e w1 ⟨rfl,hb⟩;have eE:=as6 hb;clear hb HA;have WX:=as6 (Whole.under eE.out WY.out (Whole.lt WY.out));have FI:=as6 (Whole.under eE.out UH.out (Whole.lt UH.out));have abG:w1.cell? ⟨w.heap.size+1,0,none⟩=some (.int .i64 r.low.aV):=FI.out.cell 0;have abF:w1.cell? ⟨w.heap.size+1,1,none⟩=some (.int .u64 r.low.cats):=FI.out.cell 1;have abE:w1.cell? ⟨w.heap.size+1,2,none⟩=some (.int .i64 r.high.aV):=FI.out.cell 2;have abD:w1.cell? ⟨w.heap.size+1,3,none⟩=some (.int .u64 r.high.cats):=FI.out.cell 3))|(have hZ:=UL;clear hZ;go_at_call 108;go_must (refine(show Calls Tryz.prog 108 _ _ (fun e w'=>e=.returned (.bool true)∧as5 w1.heap.size w1 w') from by have h:=kL w1 c0 c1 c2 c3 c4 c5 c6 c7 c8 c9 aW aP aO aU aT aS aR p (HP.out.keep (ef.out.trans (eE.out.mono ef.out.size))) r.high Un.out.high;rw[UL.out] at h;exact h).mono ?_;rintro e w2 ⟨rfl,hb⟩;have nA:=as6 hb;clear hb UL;have W0c:=as6 (Whole.under nA.out WX.out (Whole.lt WX.out));have WW:=as6 (Whole.under nA.out FI.out (Whole.lt FI.out));have afv:w2.cell? ⟨w.heap.size+1,0,none⟩=some (.int .i64 r.low.aV):=WW.out.cell 0;have afu:w2.cell? ⟨w.heap.size+1,1,none⟩=some (.int .u64 r.low.cats):=WW.out.cell 1;have aft:w2.cell? ⟨w.heap.size+1,2,none⟩=some (.int .i64 r.high.aV):=WW.out.cell 2;have afs:w2.cell? ⟨w.heap.size+1,3,none⟩=some (.int .u64 r.high.cats):=WW.out.cell 3))|(go_at_call 109;go_must (refine(tZ w2 r.high r.low Un.out.high Un.out.low).mono ?_;rintro e w3 ⟨rfl,hb⟩;have HB3:=as6 hb;clear hb)))
   go_ret
   exact⟨rfl,((ef.out.trans (eE.out.mono ef.out.size)).trans (nA.out.mono (by have:=ef.out.size;have:=eE.out.size;omega))).trans (HB3.out.mono (by have:=ef.out.size;have:=eE.out.size;have:=nA.out.size;omega))⟩
def kq(cl:List lG)(c:Int)(v:Int):Bool:=match (if 0≤c then cl[c.toNat]? else none) with
 | some x=>decide ((32:Int)≤(x.perms.length:Int))||decide (v/2^x.perms.length=0)
 | none=>false
theorem wJ{cl:List lG}{c v:Int}(h:bn c (cl.length:Int)=false):kq cl c v=false:=by
 unfold kq;by_cases h0:0≤c
 ·rw[if_pos h0,List.getElem?_eq_none (by unfold bn at h;simp[h0] at h;omega)]
 ·rw[if_neg h0]
theorem zo(w:World)(c0 c1 c2 c3 c4 c5 c6 c7 c8 c9 aW aP aO aU aT aS aR:Value)(p:aG)(hp:aL w c0 c1 c2 c3 c4 c5 c6 c7 c8 c9 aW aP aO aU aT aS aR p)(c v:Int)(hv:UJ v):Calls Tryz.prog 111 #[.agg #[c0,c1,c2,c3,c4,c5,c6,c7,c8,c9,aW,aP,aO,aU,aT,aS,aR],.int .i64 c,.int .u32 v] w fun e w'=>e=.returned (.bool (kq p.classes c v))∧as5 w.heap.size w w':=by
 obtain⟨a0,k0,rfl,hk0,hm0,hcell⟩:=aC.form hp.classes (by decide);obtain⟨n0,hn0⟩:∃ n,n=p.classes.length:=⟨_,rfl⟩;have N0:=as6 hn0;have HC:=as6 hcell;rw[← hn0] at hk0 hm0 ⊢;have hv':0≤v∧v<4294967296:=hv;clear hn0 hcell hp hv;obtain⟨wo,bS⟩:∃ wo,wo=(w).alloc (.cells #[.slice a0 n0 k0,c1,c2,c3,c4,c5,c6,c7,c8,c9,aW,aP,aO,aU,aT,aS,aR] 39):=⟨_,rfl⟩;have W0:=as6 (show Whole wo w.heap.size 39 #[.slice a0 n0 k0,c1,c2,c3,c4,c5,c6,c7,c8,c9,aW,aP,aO,aU,aT,aS,aR] by rw[bS];exact(Whole.new w 39 _));have ef:=as6 (show as5 w.heap.size w wo by rw[bS];exact((Below.refl _ w).alloc (Nat.le_refl _) _));have ka0:wo.cell? ⟨w.heap.size,0,none⟩=some (.slice a0 n0 k0):=W0.out.cell 0
 cases hb:bn c (n0:Int) with
 | false=>
  have H1:=as6 hb;rw[wJ (by rw[← N0.out];exact hb)];clear hb
  go_enter Tryz.func111,Tryz.ntmps111
  go_upto_region 1 with(fail)
  rw[← bS];clear bS
  go_wp2_with (have hZ:=H1;clear hZ;go_at_call 113;go_must (refine(show Calls Tryz.prog 113 _ _ (fun e w'=>e=.returned (.bool false)∧wo=w') from by have h:=cC wo c (n0:Int);rw[H1.out] at h;exact h).mono ?_;rintro e w' ⟨rfl,rfl⟩;clear H1))
  go_ret
  exact⟨rfl,ef.out⟩
 | true=>
  have H1:=as6 hb;obtain⟨hc0,hcn⟩:0≤c∧c<(n0:Int):=by unfold bn at hb;simpa using hb
  obtain⟨i,rfl⟩:∃ i:Nat,c=i:=⟨c.toNat,by omega⟩;obtain⟨x,hx⟩:∃ x,p.classes[i]?=some x:=⟨_,as7 (by have:=N0.out;omega)⟩
  have hval:kq p.classes (i:Int) v=(decide ((32:Int)≤(x.perms.length:Int))||decide (v/2^x.perms.length=0)):=by
   unfold kq;rw[if_pos hc0];simp only[Int.toNat_natCast,hx]
  rw[hval];obtain⟨b,off,cs,rfl,hrow,hlen,hcc⟩:=HC.out i x hx;obtain⟨pv,rfl,hst⟩:=hrow;obtain⟨a1,k1,rfl,hk1,hm1,-⟩:=hst.open;have kx:wo.cell? ⟨b,off+i*2+1,none⟩=some (.slice a1 x.perms.length k1):=as8 ef.out (hcc 1 _ rfl);obtain⟨m,hm⟩:∃ m,m=x.perms.length:=⟨_,rfl⟩;rw[← hm] at kx hm1 hk1 ⊢;clear hb hval hx hst hcc hm;by_cases h32:(32:Int)≤(m:Int)
  ·have d1:decide ((32:Int)≤(m:Int))=true:=by simp;omega
   rw[d1]
   go_enter Tryz.func111,Tryz.ntmps111
   go_upto_region 1 with(fail)
   rw[← bS];clear bS
   go_wp2_with (have hZ:=H1;clear hZ;go_at_call 113;go_must (refine(show Calls Tryz.prog 113 _ _ (fun e w'=>e=.returned (.bool true)∧wo=w') from by have h:=cC wo (i:Int) (n0:Int);rw[H1.out] at h;exact h).mono ?_;rintro e w' ⟨rfl,rfl⟩;clear H1))
   go_ret
   exact⟨rfl,ef.out⟩
  ·have d1:decide ((32:Int)≤(m:Int))=false:=by simp;omega
   rw[d1];have h7:m<32:=by omega
   go_enter Tryz.func111,Tryz.ntmps111
   go_upto_region 1 with(fail)
   rw[← bS];clear bS
   go_wp2_with (have hZ:=H1;clear hZ;go_at_call 113;go_must (refine(show Calls Tryz.prog 113 _ _ (fun e w'=>e=.returned (.bool true)∧wo=w') from by have h:=cC wo (i:Int) (n0:Int);rw[H1.out] at h;exact h).mono ?_;rintro e w' ⟨rfl,rfl⟩;clear H1))
   go_ret
   exact⟨ay (by first|rfl|(simp<;>rfl)),ef.out⟩
def dY:Nat→aA→Int
 | 0,_=>0
 | m+1,e=>mE (fun i=>match e.kids[i]? with|some k=>dY m k|none=>0) e.kids.length+1
theorem mF:∀ (m:Nat) (e:aA),0≤dY m e∧dY m e≤m
 | 0,_=>⟨Int.le_refl 0,Int.le_refl 0⟩
 | m+1,e=>by
  unfold dY;have h1:=mD (fun i=>match e.kids[i]? with|some k=>dY m k|none=>0) e.kids.length
  have h2:=vL (f:=fun i=>match e.kids[i]? with|some k=>dY m k|none=>0) (b:=m) (by omega) e.kids.length fun i _=>by
   split
   ·exact(mF m _).2
   ·omega
  omega
theorem KJ:∀ (m:Nat) (w:World) (cs:List Value) (e:aA),m≤13→bB w cs e→Calls Tryz.prog 100 #[.agg cs.toArray,.int .i64 (m:Int)] w fun r w'=>r=.returned (.int .i64 (dY m e))∧as5 w.heap.size w w':=by
 intro m
 induction m with
 | zero=>
  intro w cs e _ h;obtain⟨nv,kv,rfl,-,-⟩:=h.open;show Calls Tryz.prog 100 #[.agg #[.int .i64 e.op,.int .i64 e.a,.int .i64 e.rel,.int .i64 e.b,nv,.int .u64 e.set.a,.int .u64 e.set.b,.int .u64 e.set.c,.int .u64 e.set.d,kv],.int .i64 0] w _;clear h;obtain⟨wo,bS⟩:∃ wo,wo=(w).alloc (.cells #[.int .i64 e.op,.int .i64 e.a,.int .i64 e.rel,.int .i64 e.b,nv,.int .u64 e.set.a,.int .u64 e.set.b,.int .u64 e.set.c,.int .u64 e.set.d,kv] 89):=⟨_,rfl⟩;have W0:=as6 (show Whole wo w.heap.size 89 #[.int .i64 e.op,.int .i64 e.a,.int .i64 e.rel,.int .i64 e.b,nv,.int .u64 e.set.a,.int .u64 e.set.b,.int .u64 e.set.c,.int .u64 e.set.d,kv] by rw[bS];exact(Whole.new w 89 _));have ef:=as6 (show as5 w.heap.size w wo by rw[bS];exact((Below.refl _ w).alloc (Nat.le_refl _) _))
  go_enter Tryz.func100,Tryz.ntmps100
  go_upto_region 1 with(fail)
  rw[← bS];clear bS
  go_wp2_with fail
  go_ret
  exact⟨rfl,ef.out⟩
 | succ m ih=>
  intro w cs e hm h;have IH:=as6 ih;obtain⟨nv,kv,rfl,-,hk⟩:=h.open;obtain⟨a,c,rfl,hc,yT,hcell⟩:=hk.form (by decide);obtain⟨n,hn⟩:∃ n,n=e.kids.length:=⟨_,rfl⟩;have HN:=as6 hn;have HC:=as6 hcell;rw[← hn] at hc yT ⊢;clear h hk hcell ih;obtain⟨f,hf⟩:∃ f:Nat→Int,f=fun i=>match e.kids[i]? with|some k=>dY m k|none=>0:=⟨_,rfl⟩
  have HF:=as6 hf;have hval:dY (m+1) e=mE f n+1:=by rw[hf,hn];rfl
  have hfr:∀ i,0≤mE f i∧mE f i≤m:=fun i=>⟨mD f i,vL (by omega) i fun j _=>by
   rw[hf];dsimp only;split
   ·exact(mF m _).2
   ·omega⟩
  have HFR:=as6 hfr;rw[hval];clear hval hf hfr hn;show Calls Tryz.prog 100 #[.agg #[.int .i64 e.op,.int .i64 e.a,.int .i64 e.rel,.int .i64 e.b,nv,.int .u64 e.set.a,.int .u64 e.set.b,.int .u64 e.set.c,.int .u64 e.set.d,.slice a n c],.int .i64 ((m+1:Nat):Int)] w _;obtain⟨M,hM⟩:∃ M:Int,M=((m+1:Nat):Int):=⟨_,rfl⟩;rw[← hM];have hm1:(M == 0)=false:=by simp;omega
  have HM:=as6 (show M-1=(m:Int) by omega);have hMr:1≤M∧M≤13:=by omega
  clear hM;obtain⟨wo,bS⟩:∃ wo,wo=(w).alloc (.cells #[.int .i64 e.op,.int .i64 e.a,.int .i64 e.rel,.int .i64 e.b,nv,.int .u64 e.set.a,.int .u64 e.set.b,.int .u64 e.set.c,.int .u64 e.set.d,.slice a n c] 89):=⟨_,rfl⟩;have W0:=as6 (show Whole wo w.heap.size 89 #[.int .i64 e.op,.int .i64 e.a,.int .i64 e.rel,.int .i64 e.b,nv,.int .u64 e.set.a,.int .u64 e.set.b,.int .u64 e.set.c,.int .u64 e.set.d,.slice a n c] by rw[bS];exact(Whole.new w 89 _));have ef:=as6 (show as5 w.heap.size w wo by rw[bS];exact((Below.refl _ w).alloc (Nat.le_refl _) _))
  go_enter Tryz.func100,Tryz.ntmps100
  go_upto_region 1 with(fail)
  rw[← bS];clear bS
  go_wp2_with fail
  go_loopw [5,6] (fun g i wr=>∃ k:Nat,k≤n∧g=.int .i64 (mE f k)∧i=.int .i64 k∧as5 w.heap.size w wr∧Whole wr w.heap.size 89 #[.int .i64 e.op,.int .i64 e.a,.int .i64 e.rel,.int .i64 e.b,nv,.int .u64 e.set.a,.int .u64 e.set.b,.int .u64 e.set.c,.int .u64 e.set.d,.slice a n c]) (fun _ i _=>n-(intOf i).toNat)
  case atStart=>exact⟨0,as9 _,rfl,rfl,ef.out,W0.out⟩
  case round=>
   clear W0 ef;obtain⟨k,hk,rfl,rfl,hb,hW⟩:=hrel;have HBR:=as6 hb;have QG:=as6 hW;have uM:=HFR.out k;have k9:wr.cell? ⟨w.heap.size,9,none⟩=some (.slice a n c):=QG.out.cell 9;clear hb hW;by_cases hlt:k<n
   ·obtain⟨y,hy⟩:∃ y,e.kids[k]?=some y:=⟨_,as7 (by rw[← HN.out];exact hlt)⟩;obtain⟨b,off,cs,rfl,hrow,hlen,hcc⟩:=HC.out k y hy;have HKC:=as6 (show ∀ j u,cs[j]?=some u→wr.cell? ⟨b,off+k*10+j,none⟩=some u from fun j u hu=>as8 HBR.out (hcc j u hu));have HKE:=as6 (bB.keep HBR.out hrow);have aif:=as6 hlen;have HFK:=as6 (show f k=dY m y by rw[HF.out];dsimp only;rw[hy]);have Ux:=mF m y;obtain⟨x,hx⟩:∃ x,x=dY m y:=⟨_,rfl⟩;have HX:=as6 hx;obtain⟨g,hg⟩:∃ g,g=mE f k:=⟨_,rfl⟩;have HG:=as6 hg;rw[← hg] at uM ⊢;rw[← hx] at Ux;clear hy hrow hlen hcc hx hg
    go_wp2_with (first|(refine xQ rfl 89 _ rfl b (off+k*10) rfl cs _ HKC.out Tryz.underlying89 rfl (by rw[aif.out];exact Rq) ?_)|(rw[show M-1=(m:Int) from HM.out];go_at_call 100;go_must (refine(IH.out wr cs y (by omega) HKE.out).mono ?_;rintro r w1 ⟨rfl,hb1⟩;rw[← HX.out];have eE:=as6 hb1;clear hb1))|(go_at_call 100;go_must (refine(show Calls Tryz.prog 100 #[.agg cs.toArray,.int .i64 (M-1)] wr _ from by rw[HM.out];exact IH.out wr cs y (by omega) HKE.out).mono ?_;rintro r w1 ⟨rfl,hb1⟩;rw[← HX.out];have eE:=as6 hb1;clear hb1)))
    go_roundw
    case rel=>exact⟨k+1,by omega,by show _=Value.int .i64 (max (mE f k) (f k));rw[HFK.out,← HX.out,← HG.out],by go_num,HBR.out.trans (eE.out.mono HBR.out.size),Whole.under eE.out QG.out QG.out.lt⟩
    case measure=>simp[intOf];omega
   ·obtain rfl:k=n:=by omega
    go_wp2_with fail
    go_ret
    exact⟨rfl,HBR.out⟩
def qW(o:Int):Int:=if o=1 then 0 else if o=8 then 0 else if o=9 then 0 else if o=2 then 1 else if o=3 then 2 else if o=4 then 2 else if o=5 then 2 else if o=6 then 2 else if o=7 then 2 else -1
theorem G_(w:World)(o:Int):Calls Tryz.prog 244 #[.int .i64 o] w fun e w'=>e=.returned (.int .i64 (qW o))∧w=w':=by
 unfold qW;by_cases h0:o=1
 ·rw[if_pos h0];subst h0
  go_enter Tryz.func244,Tryz.ntmps244
  go_wp2
  go_ret
  exact⟨rfl,rfl⟩
 ·rw[if_neg h0];by_cases h1:o=8
  ·rw[if_pos h1];subst h1
   go_enter Tryz.func244,Tryz.ntmps244
   go_wp2
   go_ret
   exact⟨rfl,rfl⟩
  ·rw[if_neg h1];by_cases h2:o=9
   ·rw[if_pos h2];subst h2
    go_enter Tryz.func244,Tryz.ntmps244
    go_wp2
    go_ret
    exact⟨rfl,rfl⟩
   ·rw[if_neg h2];by_cases h3:o=2
    ·rw[if_pos h3];subst h3
     go_enter Tryz.func244,Tryz.ntmps244
     go_wp2
     go_ret
     exact⟨rfl,rfl⟩
    ·rw[if_neg h3];by_cases h4:o=3
     ·rw[if_pos h4];subst h4
      go_enter Tryz.func244,Tryz.ntmps244
      go_wp2
      go_ret
      exact⟨rfl,rfl⟩
     ·rw[if_neg h4];by_cases h5:o=4
      ·rw[if_pos h5];subst h5
       go_enter Tryz.func244,Tryz.ntmps244
       go_wp2
       go_ret
       exact⟨rfl,rfl⟩
      ·rw[if_neg h5];by_cases h6:o=5
       ·rw[if_pos h6];subst h6
        go_enter Tryz.func244,Tryz.ntmps244
        go_wp2
        go_ret
        exact⟨rfl,rfl⟩
       ·rw[if_neg h6];by_cases h7:o=6
        ·rw[if_pos h7];subst h7
         go_enter Tryz.func244,Tryz.ntmps244
         go_wp2
         go_ret
         exact⟨rfl,rfl⟩
        ·rw[if_neg h7];by_cases h8:o=7
         ·rw[if_pos h8];subst h8
          go_enter Tryz.func244,Tryz.ntmps244
          go_wp2
          go_ret
          exact⟨rfl,rfl⟩
         ·rw[if_neg h8]
          go_enter Tryz.func244,Tryz.ntmps244
          go_wp2
          go_ret
          exact⟨rfl,rfl⟩
theorem n_(w:World)(cs:List Value)(e:aA)(h:bB w cs e):Calls Tryz.prog 39 #[.agg cs.toArray] w fun r w'=>r=.returned (.int .i64 (dY 13 e))∧as5 w.heap.size w w':=by
 have HE:=as6 h;obtain⟨nv,kv,hcs,-,-⟩:=h.open;rw[hcs] at HE;subst hcs;clear h;show Calls Tryz.prog 39 #[.agg #[.int .i64 e.op,.int .i64 e.a,.int .i64 e.rel,.int .i64 e.b,nv,.int .u64 e.set.a,.int .u64 e.set.b,.int .u64 e.set.c,.int .u64 e.set.d,kv]] w _;obtain⟨wo,bS⟩:∃ wo,wo=(w).alloc (.cells #[.int .i64 e.op,.int .i64 e.a,.int .i64 e.rel,.int .i64 e.b,nv,.int .u64 e.set.a,.int .u64 e.set.b,.int .u64 e.set.c,.int .u64 e.set.d,kv] 89):=⟨_,rfl⟩;have W0:=as6 (show Whole wo w.heap.size 89 #[.int .i64 e.op,.int .i64 e.a,.int .i64 e.rel,.int .i64 e.b,nv,.int .u64 e.set.a,.int .u64 e.set.b,.int .u64 e.set.c,.int .u64 e.set.d,kv] by rw[bS];exact(Whole.new w 89 _));have ef:=as6 (show as5 w.heap.size w wo by rw[bS];exact((Below.refl _ w).alloc (Nat.le_refl _) _))
 go_enter Tryz.func39,Tryz.ntmps39
 go_upto_region 1 with(fail)
 rw[← bS];clear bS
 go_wp2_with (first|(refine wpList_load_row rfl 89 _ rfl (w.heap.size) rfl 89 _ (0,0) _ W0.out Tryz.underlying89 rfl Rq ?_)|(go_at_call 100;go_must (refine(KJ 13 wo _ e (by omega) (bB.keep ef.out HE.out)).mono ?_;rintro r w1 ⟨rfl,hb1⟩;have eE:=as6 hb1;clear hb1)))
 go_ret
 exact⟨rfl,ef.out.trans (eE.out.mono ef.out.size)⟩
def nX(e:aA):Bool:=(((((((decide (e.op=8)||decide (e.op=9))||(!decide (qW e.op=(e.kids.length:Int))))||(!decide (e.rel=0)))||(!decide (e.b=0)))||decide (0<(e.names.length:Int)))||(!decide (e.set=au.zero)))||((!decide (e.op=1))&&(!decide (e.a=0))))
theorem aA.ind{M:aA→Prop}(h:∀ e,(∀ k∈e.kids,M k)→M e):∀ e,M e:=
 fun e=>aA.rec (motive_1:=M) (motive_2:=fun l=>∀ k∈l,M k) (fun _ _ _ _ _ _ _ ih=>h _ ih) (fun _ hk=>by cases hk) (fun _ _ hk hl x hx=>by
  rcases as_.1 hx with rfl|hx
  ·exact hk
  ·exact hl x hx) e
mutual
def ng(nB:Nat):aA→Int
 | .node op a rel b names set kids=>if nX (.node op a rel b names set kids)=true then 2 else if (decide (op=1)&&!bn a (nB:Int))=true then 3 else nh nB kids
def nh(nB:Nat):List aA→Int
 | []=>0
 | k::l=>if ng nB k=0 then nh nB l else ng nB k
end
theorem ud(nB:Nat)(e:aA):ng nB e=if nX e=true then 2 else if (decide (e.op=1)&&!bn e.a (nB:Int))=true then 3 else nh nB e.kids:=by
 cases e;rw[ng];rfl
theorem AR{nB:Nat}{l:List aA}{k:Nat}{y:aA}(h:l[k]?=some y):nh nB (l.drop k)=if ng nB y=0 then nh nB (l.drop (k+1)) else ng nB y:=by
 obtain⟨hk,rfl⟩:=ata.1 h;rw[List.drop_eq_getElem_cons hk,nh]
section
variable {nB:Nat} {e:aA}
theorem PX(h:nX e=true):ng nB e=2:=by rw[ud,if_pos h]
theorem PW(h:nX e=false)(h2:(decide (e.op=1)&&!bn e.a (nB:Int))=true):ng nB e=3:=by rw[ud,if_neg (by rw[h];decide),if_pos h2]
theorem AQ(h:nX e=false)(h2:(decide (e.op=1)&&!bn e.a (nB:Int))=false):ng nB e=nh nB e.kids:=by rw[ud,if_neg (by rw[h];decide),if_neg (by rw[h2];decide)]
end
theorem BR:∀ e:aA,∀ (w0:World) (cs:List Value) (c0 c1 c2 c3 c4 c5 c6 c7 c8 c9 aW aP aO aU aT aS aR:Value) (p:aG),aL w0 c0 c1 c2 c3 c4 c5 c6 c7 c8 c9 aW aP aO aU aT aS aR p→bB w0 cs e→Calls Tryz.prog 196 #[.agg #[c0,c1,c2,c3,c4,c5,c6,c7,c8,c9,aW,aP,aO,aU,aT,aS,aR],.agg cs.toArray] w0 (RI w0 (ng p.bools.length e)):=by
 refine aA.ind fun e ih=>?_
 intro w0 cs c0 c1 c2 c3 c4 c5 c6 c7 c8 c9 aW aP aO aU aT aS aR p hp h;obtain⟨nv,kv,rfl,Nb,hk⟩:=h.open;obtain⟨_,_,rfl,-⟩:=bp.get Nb;obtain⟨_,_,rfl,-,yT,-⟩:=aC.form hk (by decide);obtain⟨_,_,_,_,_,_,_,_,_,_,_,_,_,_,_,_,_,_,_,_,_,_,_,_,_,_,_,_,_,_,_,_,_,_,rfl,rfl,rfl,rfl,rfl,rfl,rfl,rfl,rfl,rfl,rfl,rfl,rfl,rfl,rfl,rfl,rfl⟩:=hp.open;refine fL [] (fn:=Tryz.f196) Tryz.func196 rfl Tryz.ntmps196 rfl<|fun g1 w1 M1=>fun g2 w2 M2=>dr (by kernel_rfl)<|lb 0<|an rfl<|lb 0<|an (fun _=>rfl)<|lb 0<|an (fun _=>rfl)<|cl<|an (fun _ w' hb M=>(G_ _ _).mono fun _ _ ⟨h1,h2⟩=>⟨h1,h2▸Below.refl _ _⟩)<|lb 0<|an (fun _=>rfl)<|lb 0<|an (fun _=>rfl)<|lb 0<|an (fun _=>rfl)<|lb 0<|an (fun _=>rfl)<|lb 0<|an (fun _=>rfl)<|ei (x:=.agg #[.int .u64 0,.int .u64 0,.int .u64 0,.int .u64 0])<|an (fun _=>bd (by kernel_rfl))<|ei<|an (fun _=>⟨AJ,fun w=>kJ e.set w⟩)<|lb 0<|an (fun _=>rfl)<|lb 0<|an (fun _=>rfl)<|fun w3 hb M3=>an (fun h1 M=>⟨ri (PX h1),M.below⟩) fun h1=>lb 0<|an rfl<|lb 0<|an (fun _=>rfl)<|lb 1<|an (fun _=>rfl)<|cl<|an (fun _=>(cC _ _ _).mono fun _ _ ⟨h1,h2⟩=>⟨h1,h2▸Below.refl _ _⟩) fun w4 M4=>an (fun h2 M=>⟨ri (PW h1 h2),M.below⟩) fun h2=>lr (ι:=Nat) (fun m=>[(5,.int .i64 (m:Int))]) (fun m _=>m≤e.kids.length∧nh p.bools.length e.kids=nh p.bools.length (e.kids.drop m)) (fun m=>e.kids.length-m) 0 (an ⟨⟨rfl,trivial⟩,fun M=>⟨M,as9 _,rfl⟩⟩ ?_)
 rintro m w M ⟨hm,hinv⟩;refine lb 0<|an rfl<|an (fun h3=>?_) fun h3 M=>⟨ri (by rw[AQ h1 h2,hinv,show m=e.kids.length by simp at h3;omega,List.drop_length];rfl),M.below⟩
 have hlt:m<e.kids.length:=by simp at h3;omega
 obtain⟨y,hy⟩:∃ y,e.kids[m]?=some y:=⟨_,as7 hlt⟩;obtain⟨b,o,_,e1,hE,hc⟩:=aC.elt hk (by decide) hy;obtain⟨nv',kv',rfl,hn',hk'⟩:=hE.open;obtain⟨_,_,rfl,-⟩:=bp.get hn';obtain⟨_,_,rfl,-⟩:=aC.form hk' (by decide);exact dr (by kernel_rfl)<|lb 1<|an rfl<|lb 0<|an rfl<|ia<|an ⟨e1,rfl,hlt⟩<|lc<|an (dJ M.below hc)<|cl<|an (fun w' hb M'=>ih y (atb hy) w' _ _ _ _ _ _ _ _ _ _ _ _ _ _ _ _ _ _ p (hp.keep M'.below) (hE.keep M'.below)) fun w5 hb5 M5=>an (fun h4 M=>⟨ri (by rw[AQ h1 h2,hinv,AR hy,if_neg (by simpa using h4)]),M.below⟩) fun h4=>an (by omega)<|bk (m+1) ⟨rfl,trivial⟩ (fun M=>⟨M,by omega,by rw[hinv,AR hy,if_pos (by simpa using h4)]⟩) (by dsimp only;omega)
def gB(nB:Nat)(e:aA):Int:=if (12:Int)<dY 13 e then 4 else ng nB e
theorem B_(e:aA)(w0:World)(cs:List Value)(c0 c1 c2 c3 c4 c5 c6 c7 c8 c9 aW aP aO aU aT aS aR:Value)(p:aG)(hp:aL w0 c0 c1 c2 c3 c4 c5 c6 c7 c8 c9 aW aP aO aU aT aS aR p)(h:bB w0 cs e):Calls Tryz.prog 110 #[.agg #[c0,c1,c2,c3,c4,c5,c6,c7,c8,c9,aW,aP,aO,aU,aT,aS,aR],.agg cs.toArray] w0 (RI w0 (gB p.bools.length e)):=by
 obtain⟨nv,kv,rfl,-,-⟩:=h.open;have aM:=hr1 Tryz.prog Tryz.f110 (RI w0 (gB p.bools.length e)) 11 4 rfl;refine en Tryz.func110 rfl Tryz.ntmps110 rfl (vs:=[.agg #[c0,c1,c2,c3,c4,c5,c6,c7,c8,c9,aW,aP,aO,aU,aT,aS,aR],.agg #[.int .i64 e.op,.int .i64 e.a,.int .i64 e.rel,.int .i64 e.b,nv,.int .u64 e.set.a,.int .u64 e.set.b,.int .u64 e.set.c,.int .u64 e.set.d,kv]]) rfl fun _ F=>?_
 have M:=Mm.start w0;refine atc fun K1 dw=>ah<|oG (on rfl) rfl (F.u rf) rfl F rfl M fun g1 _ _ F M=>oG (on rfl) rfl (F.u rf) rfl F rfl M fun g2 _ _ F M=>xA (v:=.int .i64 0) F rf rf rf fun _ F=>atd<|dw _ _ ?_
 refine atc fun K2 cQ=>atc fun K3 fJ=>ah<|xW F (M.b 0 rfl) rf rf rf j9 rf eG rf fun _ F=>xC F M rf rf q39 (args1 (F.u rf)) (n_ _ _ e (bB.keep M.below h)) fun _ _ F M=>kz F rf (CX rfl (F.u rf) rfl) fun _ F=>atd<|fJ _ _ ?_
 refine ate (F.e 7 rfl) (fun hc3=>?_) (fun hc3=>?_)
 ·have BH:=of_decide_eq_true hc3;refine atc fun K4 fQ=>ah<|xA (v:=.int .i64 4) F rf rf rf fun _ F=>atd<|fQ _ _ ?_
  refine wp_ret<|aM _ _ _ _ F rfl ?_;exact⟨bE (by unfold gB;repeat (first|with_reducible rfl|assumption|(with_reducible refine Eq.trans (if_pos ?_) ?_;focus (first|assumption|(refine cO ?_;assumption)|(refine cN ?_;assumption)|omega|(simp[BH];done)))|(with_reducible refine Eq.trans (if_neg ?_) ?_;focus (first|assumption|(refine cO ?_;assumption)|(refine cN ?_;assumption)|omega|(simp[BH];done)))|omega)),M.below⟩
 ·have Ao:=of_decide_eq_false hc3;refine wp_skip<|cQ _ _ ?_;refine atc fun K5 gL=>ah<|xW F (M.b 1 rfl) rf rf rf iU rf kS rf fun _ F=>xW F (M.b 0 rfl) rf rf rf j9 rf eG rf fun _ F=>xC F M rf rf afQ (args2 (F.u rf) (F.u rf)) (BR e _ _ _ _ _ _ _ _ _ _ _ _ _ _ _ _ _ _ _ p (hp.keep M.below) (bB.keep M.below h)) fun _ _ F M=>xA F rf rf rf fun _ F=>atd<|gL _ _ ?_
  refine wp_ret<|aM _ _ _ _ F rfl ?_;exact⟨bE (by unfold gB;repeat (first|with_reducible rfl|assumption|(with_reducible refine Eq.trans (if_pos ?_) ?_;focus (first|assumption|(refine cO ?_;assumption)|(refine cN ?_;assumption)|omega|(simp[Ao];done)))|(with_reducible refine Eq.trans (if_neg ?_) ?_;focus (first|assumption|(refine cO ?_;assumption)|(refine cN ?_;assumption)|omega|(simp[Ao];done)))|omega)),M.below⟩
end Go.Proofs.YtdcofoaihmongaaGreat
namespace Go.Proofs.YtdcofoaihmongaaGreat
open Go Go.RowKit
theorem cf{B:Nat}{w0 w:World}{bs:List Bx}{rs:List Rw}{X:Prop}{f:FuncId}{args:Array Value}{R:Value→World→Prop}{K:Value→List Bx→List Rw→World→Prop}(M:bg B w0 w bs rs)(hc:Calls Tryz.prog f args w fun e w'=>∃ v,e=.returned v∧(R v w'∧as5 w.heap.size w w'))
 (h:∀ v w',R v w'→as5 w.heap.size w w'→bg B w0 w' bs rs→K v bs rs w'):X∨∃ R:Value→World→Prop,(Calls Tryz.prog f args w fun e w'=>∃ v,e=.returned v∧R v w')∧∀ v w',R v w'→∃ bs' rs',bg B w0 w' bs' rs'∧K v bs' rs' w':=
 .inr ⟨_,hc,fun v w' ⟨h1,h2⟩=>⟨_,_,M.keep h2,h v w' h1 h2 (M.keep h2)⟩⟩
theorem cb{B:Nat}{w0 w:World}{bs:List Bx}{rs:List Rw}{X:Prop}{f:FuncId}{args:Array Value}{v:Value}{K:Value→List Bx→List Rw→World→Prop}(M:bg B w0 w bs rs)(hc:Calls Tryz.prog f args w fun e w'=>e=.returned v∧as5 w.heap.size w w')
 (h:∀ w',as5 w.heap.size w w'→bg B w0 w' bs rs→K v bs rs w'):X∨∃ R:Value→World→Prop,(Calls Tryz.prog f args w fun e w'=>∃ v,e=.returned v∧R v w')∧∀ v w',R v w'→∃ bs' rs',bg B w0 w' bs' rs'∧K v bs' rs' w':=
 cf (R:=fun u _=>u=v) M (hc.mono fun _ _ ⟨h1,h2⟩=>⟨v,h1,rfl,h2⟩) fun u w' e hb M'=>by subst e;exact h w' hb M'
theorem cst{B:Nat}{w0 w:World}{bs:List Bx}{rs:List Rw}{X:Prop}{f:FuncId}{args:Array Value}{x:Int}{K:Value→List Bx→List Rw→World→Prop}(M:bg B w0 w bs rs)
 (hc:Calls Tryz.prog f args w fun r w'=>∃ v,r=.returned v∧(bO w' w.heap.size v x∧as5 w.heap.size w w')) (h:∀ g w',bg B w0 w' ((g,52,#[.int .u64 x])::bs) rs→K (.slice (some ⟨g,0,none⟩) 1 1) ((g,52,#[.int .u64 x])::bs) rs w') :
 X∨∃ R:Value→World→Prop,(Calls Tryz.prog f args w fun e w'=>∃ v,e=.returned v∧R v w')∧∀ v w',R v w'→∃ bs' rs',bg B w0 w' bs' rs'∧K v bs' rs' w':=
 .inr ⟨_,hc,fun v w' ⟨⟨g,e,hW,hg⟩,hb⟩=>by subst e;exact⟨_,_,M.newAt hb hW hg,h g w' (M.newAt hb hW hg)⟩⟩
theorem mz1{B:Nat}{w0 w:World}{bs:List Bx}{rs:List Rw}{t e ty b:Nat}{z:Value}{x y:Operand}{κ κ':IntKind}{K:Value→List Bx→List Rw→World→Prop}(M:bg B w0 w bs rs)(hu:Tryz.prog.underlying t=some (.slice e))(hi:gU (Tryz.prog.info? e) 1 b=true)(hz:(Tryz.prog.info? e).bind (·.zero)=some z)(h1:z.cells=#[z])(hb:b≤281474976710656)
 (h:∀ g w',bg B w0 w' ((g,e,#[z])::bs) rs→K (.slice (some ⟨g,0,none⟩) 1 1) ((g,e,#[z])::bs) rs w') (he:Nat.blt e 9000=true:=by rfl) :
 ∃ R:Value→World→Prop,(∀ (a:Act) (o':Oper),o'.op=.makeSlice t x y→o'.type=ty→uP a [x,y] [.int κ 1,.int κ' 1]→∃ v w',(execOp a.eval o').run Tryz.prog w=.ok (.value v) w'∧R v w')∧∀ v w',R v w'→∃ bs' rs',bg B w0 w' bs' rs'∧K v bs' rs' w':=by
 refine⟨fun v w'=>v=.slice (some ⟨w.heap.size,0,none⟩) 1 1∧w'=w.alloc (.cells #[z] e),fun a o' ho _ ny=>⟨_,_,tV ho (qN ny) (yx ny) hu hi hz h1 hb,rfl,rfl⟩,?_⟩;rintro v w' ⟨rfl,rfl⟩;have M':=M.newAt (w':=w.alloc (.cells #[z] e)) ((Below.refl _ w).alloc (Nat.le_refl _) _) (Whole.new w e #[z]) (Nat.le_refl _) he;exact⟨_,_,M',h _ _ M'⟩
section
variable {u:Int} {n:Nat} {e:aA}
theorem Oa{n:Nat}{op a:Int}{k:Nat}(h:iD n op a k=false):(k:Int)=xZ op∧(op=1→0≤a∧a<n):=by
 unfold iD at h;simp only[Bool.or_eq_false_iff,Bool.not_eq_false',decide_eq_true_eq,Bool.and_eq_false_iff,decide_eq_false_iff_not] at h;refine⟨h.1,fun ho=>?_⟩;rcases h.2 with h2|h2
 ·exact absurd ho h2
 ·omega
theorem U1(h:iD n e.op e.a e.kids.length=true):cM u n e=0:=by
 rw[sI,JK,oL,if_pos h]
theorem Rf(h:iD n e.op e.a e.kids.length=false)(h1:e.op=1):cM u n e=xB u e.a:=by
 rw[sI,JK,oL,if_neg (by rw[h];decide),if_pos h1]
theorem UZ{y:aA}(h:iD n e.op e.a e.kids.length=false)(h2:e.op=2)(hy:e.kids[0]?=some y):cM u n e=notM u (cM u n y):=by
 rw[sI,JK,oL,if_neg (by rw[h];decide),if_neg (by omega),if_pos h2,sJ _ _ _ _ hy]
theorem U0{y z:aA}(h:iD n e.op e.a e.kids.length=false)(h1:e.op≠1)(h2:e.op≠2)(hy:e.kids[0]?=some y)(hz:e.kids[1]?=some z):cM u n e=BX u e.op (cM u n y) (cM u n z):=by
 rw[sI,JK,oL,if_neg (by rw[h];decide),if_neg h1,if_neg h2,sJ _ _ _ _ hy,sJ _ _ _ _ hz]
end
theorem yM(w0:World)(tp mb:Nat)(c0 c1 c2 c3 c4 c6 c7 c8 c9 aW aP aO aU aT aS aR:Value)(gh:Option Addr)(nB f_:Nat)(u:Int)(hT:qd w0 tp mb c0 c1 c2 c3 c4 (.slice gh nB f_) c6 c7 c8 c9 aW aP aO aU aT aS aR u)(sg:Nat)(sx:Int)(hs:Whole w0 sg 52 #[.int .u64 sx]):Calls Tryz.prog 175 #[.pointer (some ⟨tp,0,none⟩),.slice (some ⟨sg,0,none⟩) 1 1] w0 (fun(r:Ending) (w':World)=>∃ v,r=.returned v∧((bO w' w0.heap.size v (notM u sx))∧as5 w0.heap.size w0 w')):=by
 have Ld:∀ j uu,[c0,c1,c2,c3,c4,.slice gh nB f_,c6,c7,c8,c9,aW,aP,aO,aU,aT,aS,aR,.int .i64 1,.int .u64 u,(.map (some mb))][j]?=some uu→w0.cell? ⟨tp,0+j,none⟩=some uu:=fun j u hu=>by rw[Nat.zero_add];exact(Whole.cell hT j).trans (by simpa using hu)
 have hSG:∀ j uu,[Value.int .u64 sx][j]?=some uu→w0.cell? ⟨sg,0+j,none⟩=some uu:=fun j u hu=>by rw[Nat.zero_add];exact(hs.cell j).trans (by simpa using hu)
 have aM:=hr1 Tryz.prog Tryz.f175 (fun(r:Ending) (w':World)=>∃ v,r=.returned v∧((bO w' w0.heap.size v (notM u sx))∧as5 w0.heap.size w0 w')) 32 4 rfl;refine en Tryz.func175 rfl Tryz.ntmps175 rfl (vs:=[.pointer (some ⟨tp,0,none⟩),.slice (some ⟨sg,0,none⟩) 1 1]) rfl fun _ F=>?_
 have M:=Mm.start w0;refine atc fun K1 dw=>ah<|xA (v:=.slice none 0 0) F rf rf rf fun _ F=>atd<|dw _ _ ?_
 refine atc fun K2 cQ=>ah<|xM F rf rf rf fun _ F=>kz F rf (cG rfl (F.u rf)) fun _ F=>xF 17 F rf rf rf sK rf Bn rf fun _ F=>kz F rf (aD rf (F.u rf) u3 rfl ((dJ M.below Ld) 17 _ rfl)) fun _ F=>
  kn (f:=fun n=>.slice (some ⟨n,0,none⟩) 1 1) (on rfl) (tV rfl (F.u rf) (F.u rf) oO Hh QJ rfl (by decide)) rfl F rfl M fun g1 _ _ F M=>
  xA F rf rf rf fun _ F=>
  atd<|
  cQ _ _ ?_
 refine atc fun K3 fJ=>atc fun K4 fQ=>ah<|xM F rf rf rf fun _ F=>kz F rf (bA rfl (F.u rf) oO) fun _ F=>xM (v:=.int .i64 0) F rf rf rf fun _ F=>atd<|fQ _ _ ?_
 refine atf<|?_;refine bV (ι:=Nat×Int) (fun|(t,x),a,w=>Fs a 32 [(0,.pointer (some ⟨tp,0,none⟩)),(1,.slice (some ⟨sg,0,none⟩) 1 1),(5,.slice (some ⟨g1,0,none⟩) 1 1),(13,.int .i64 1),(14,.int .i64 (t:Int))]∧Mm w0 w [(g1,52,#[.int .u64 x])] []∧t≤1∧(t=0→x=0)∧(t=1→x=notM u sx)) (fun|(t,x)=>1-t) (0,0) ⟨F.sub ⟨rfl,rfl,rfl,rfl,rfl,trivial⟩,M,as9 _,⟨fun _=>rfl,fun h=>by cases h⟩⟩ ?_
 (repeat clear F);(repeat clear M)
 rintro⟨t,x⟩ _ _ ⟨F,M,ht,hx⟩;refine atc fun K5 gL=>ah<|kz F rf (d_ rfl (F.u rf) (F.u rf)) fun _ F=>atd<|gL _ _ ?_
 refine atc fun K6 iC=>?_
 refine ate (F.e 15 rfl) (fun hc2=>?_) (fun hc2=>?_)
 ·have hd3:=of_decide_eq_true hc2;refine wp_skip<|iC _ _ ?_;refine atc fun K7 iO=>atf<|atc fun K8 jf=>?_
  have F:=F.eq 14 rfl (congrArg (Value.int .i64) (show((t:Nat):Int)=0 by omega));refine ah<|xM F rf rf rf fun _ F=>xA F rf rf rf fun _ F=>atd<|jf _ _ ?_
  refine rd 13 [17,18,19,20,21,22,23,24,25,26,27,28,29] [bL (.slice (some ⟨g1,0,none⟩) 1 1),bL (.int .i64 0),bL (.slice (some ⟨sg,0,none⟩) 1 1),bL (.int .i64 0),bL (.pointer (some ⟨sg,0,none⟩)),bL (.int .u64 sx),bL (.int .u64 (bits .xor .u64 18446744073709551615 sx)),bL (.pointer (some ⟨tp,0,none⟩)),bL (.pointer (some ⟨tp,0,none⟩)),bL (.pointer (some ⟨tp,18,none⟩)),bL (.int .u64 u),bL (.int .u64 (bits .and .u64 (bits .xor .u64 18446744073709551615 sx) u)),bL (.pointer (some ⟨g1,0,none⟩))] (by kernel_rfl) (by kernel_rfl) (by kernel_rfl) rfl (by decide) rfl rfl F ⟨aj _,aj _,aj _,aj _,aj _,aj _,aj _,aj _,aj _,aj _,aj _,aj _,aj _,trivial⟩ ⟨?_,?_,?_,?_,?_,?_,?_,?_,?_,?_,?_,?_,?_,trivial⟩ ?_
  ·exact fun a w Q' hf hi H G hK=>dv (on rfl) (bC rfl (G 5 _ rfl (F.g 5 rfl)).ev) rfl hf rfl hK rfl
  ·exact fun a w Q' hf hi H G hK=>dv (on rfl) (bC rfl (G 6 _ rfl (F.g 6 rfl)).ev) rfl hf rfl hK rfl
  ·exact fun a w Q' hf hi H G hK=>dv (on rfl) (bC rfl (G 1 _ rfl (F.g 1 rfl)).ev) rfl hf rfl hK rfl
  ·exact fun a w Q' hf hi H G hK=>dv (on rfl) (bC rfl (G 6 _ rfl (F.g 6 rfl)).ev) rfl hf rfl hK rfl
  ·exact fun a w Q' hf hi H G hK=>dv (on rfl) (aK (i:=0) rfl (iA (H 2 ⟨.data,by simp,rfl⟩ _ _ rfl rfl)).ev (iA (H 3 ⟨.data,by simp,rfl⟩ _ _ rfl rfl)).ev (by omega) oO iM) rfl hf rfl hK rfl
  ·exact fun a w Q' hf hi H G hK=>dv (on rfl) (aD rfl (iA (H 4 ⟨.data,by simp,rfl⟩ _ _ rfl rfl)).ev Ga rfl ((dJ (M.keep hi).below hSG) 0 _ rfl)) rfl hf rfl hK rfl
  ·exact fun a w Q' hf hi H G hK=>dv (on rfl) (Nw rfl (iA (H 5 ⟨.data,by simp,rfl⟩ _ _ rfl rfl)).ev) rfl hf rfl hK rfl
  ·exact fun a w Q' hf hi H G hK=>dv (on rfl) (bC rfl (G 0 _ rfl (F.g 0 rfl)).ev) rfl hf rfl hK rfl
  ·exact fun a w Q' hf hi H G hK=>dv (on rfl) (cG rfl (iA (H 7 ⟨.data,by simp,rfl⟩ _ _ rfl rfl)).ev) rfl hf rfl hK rfl
  ·exact fun a w Q' hf hi H G hK=>dv (on rfl) (aI rfl (iA (H 8 ⟨.data,by simp,rfl⟩ _ _ rfl rfl)).ev sK rfl iM) rfl hf rfl hK rfl
  ·exact fun a w Q' hf hi H G hK=>dv (on rfl) (aD rfl (iA (H 9 ⟨.data,by simp,rfl⟩ _ _ rfl rfl)).ev Ga rfl ((dJ (M.keep hi).below Ld) 18 _ rfl)) rfl hf rfl hK rfl
  ·exact fun a w Q' hf hi H G hK=>dv (on rfl) (xg rfl (iA (H 6 ⟨.data,by simp,rfl⟩ _ _ rfl rfl)).ev (iA (H 10 ⟨.data,by simp,rfl⟩ _ _ rfl rfl)).ev) rfl hf rfl hK rfl
  ·exact fun a w Q' hf hi H G hK=>dv (on rfl) (aK (i:=0) rfl (iA (H 0 ⟨.data,by simp,rfl⟩ _ _ rfl rfl)).ev (iA (H 1 ⟨.data,by simp,rfl⟩ _ _ rfl rfl)).ev (by omega) oO iM) rfl hf rfl hK rfl
  (repeat clear F);intro _ _ qK F D
  obtain⟨_,h,rfl⟩:=D 11 _ _ rfl rfl;have F:=F.add h;obtain⟨_,h,rfl⟩:=D 12 _ _ rfl rfl;have F:=F.add h;have M:=M.keep qK;clear D qK;intro Qt BI;refine ks (on rfl) rfl (F.u rf) (F.u rf) F M 0 (cs':=#[.int .u64 (bits .and .u64 (bits .xor .u64 18446744073709551615 sx) u)]) rfl rfl rfl iM rfl (iG _ _ rfl) rfl rfl fun _ M=>atd (BI _ _ ?_)
  refine iO _ _ ?_;have F:=F.eq 14 rfl (congrArg (Value.int .i64) (show(0:Int)=((t:Nat):Int) by omega))
  refine ah<|
   ke (on rfl) (cL rfl (F.u rf) rfl) rfl F rfl (congrArg (Value.int .i64) (wrap_i64 (by omega))) fun _ F=>
   xM F rf rf rf fun _ F=>
   atd<|?_
  exact⟨(t+1,bits .and .u64 (bits .xor .u64 18446744073709551615 sx) u),⟨F.sub ⟨rfl,rfl,rfl,rfl,rfl,trivial⟩,M,by omega,⟨fun h=>by omega,fun _=>rfl⟩⟩,by show 1-(t+1)<1-t;omega⟩
 ·have BH:=of_decide_eq_false hc2;refine wp_exit<|fJ _ _ ?_;refine atc fun K9 jW=>ah<|xM F rf rf rf fun _ F=>xA F rf rf rf fun _ F=>atd<|jW _ _ ?_
  refine wp_ret<|aM _ _ _ _ F rfl ?_;exact⟨_,rfl,⟨_,rfl,(by have hW:=M.b 0 rfl;rw[hx.2 (by omega)] at hW;exact hW),M.lo _ (atb (i:=0) rfl)⟩,M.below⟩
theorem uZ:∀ e:aA,∀ (w0:World) (cs:List Value) (tp mb:Nat) (c0 c1 c2 c3 c4 c6 c7 c8 c9 aW aP aO aU aT aS aR:Value) (gh:Option Addr) (nB f_:Nat) (u:Int) (_:nB≤5),qd w0 tp mb c0 c1 c2 c3 c4 (.slice gh nB f_) c6 c7 c8 c9 aW aP aO aU aT aS aR u→bB w0 cs e→Calls Tryz.prog 173 #[.pointer (some ⟨tp,0,none⟩),.agg cs.toArray] w0 (fun(r:Ending) (w':World)=>∃ v,r=.returned v∧((bO w' w0.heap.size v (cM u nB e))∧as5 w0.heap.size w0 w')):=by
 refine aA.ind fun e ih=>?_
 intro w0 cs tp mb c0 c1 c2 c3 c4 c6 c7 c8 c9 aW aP aO aU aT aS aR gh nB f_ u hn hT h;obtain⟨nv,kv,rfl,-,hk⟩:=h.open;obtain⟨_,_,rfl,-,yT,-⟩:=aC.form hk (by decide);refine fL [] (fn:=Tryz.f173) Tryz.func173 rfl Tryz.ntmps173 rfl<|fun g1 w1 M1=>dr (by kernel_rfl)<|lb 0<|an rfl<|lb 0<|an rfl<|cl<|an (fun w' hb M'=>DU w' e.op)<|lb 0<|an (fun _=>rfl)<|lb 0<|an (fun _=>rfl)<|lb 0<|an (fun _=>rfl)<|lc (x:=.slice gh nB f_)<|an (fun _=>as8 M1.below (hT.cell 5))<|fun w2 hb2 M2=>an (fun h1=>?_) fun h1=>?_
 ·exact lc (x:=.int .i64 1)<|an (as8 M2.below (hT.cell 17))<|mz1 M2 oO Hh QJ rfl (by decide) fun g w M M=>⟨_,rfl,⟨_,rfl,by have hW:=M.b 0 rfl;rw[U1 h1];exact hW,M.lo _ (atb (i:=0) rfl)⟩,M.below⟩
 have h1:iD nB e.op e.a e.kids.length=false:=h1;obtain⟨hv1,hv2⟩:=Oa h1;refine lb 0<|an rfl<|an (fun h2=>?_) fun h2=>?_
 ·have h2:e.op=1:=by simpa using h2
  exact lb 0<|an rfl<|cst M2 (IL _ tp mb _ _ _ _ _ _ _ _ _ _ _ _ _ _ _ _ gh nB f_ u (Whole.under M2.below hT hT.lt) e.a (by omega) (by omega)) fun g w M M=>⟨_,rfl,⟨_,rfl,by have hW:=M.b 0 rfl;rw[Rf h1 h2];exact hW,M.lo _ (atb (i:=0) rfl)⟩,M.below⟩
 have h2:¬ e.op=1:=by simpa using h2
 have Ux:0<e.kids.length:=by unfold xZ at hv1;split at hv1<;>(try split at hv1)<;>omega
 obtain⟨y,hy⟩:∃ y,e.kids[0]?=some y:=⟨_,as7 Ux⟩;obtain⟨b,o,_,e1,hE,hc⟩:=aC.elt hk (by decide) hy;obtain⟨nv',kv',rfl,-⟩:=hE.open;refine lb 0<|an rfl<|ia (i:=0)<|an ⟨e1,rfl,Ux⟩<|lc<|an (dJ M2.below hc)<|cst M2 (ih y (atb hy) _ _ tp mb _ _ _ _ _ _ _ _ _ _ _ _ _ _ _ _ gh nB f_ u hn (Whole.under M2.below hT hT.lt) (hE.keep M2.below)) fun gy w3 M3=>lb 1<|an rfl<|an (fun h3=>?_) fun h3=>?_
 ·exact cst M3 (yM _ tp mb _ _ _ _ _ _ _ _ _ _ _ _ _ _ _ _ gh nB f_ u (Whole.under M3.below hT hT.lt) gy _ (M3.b 0 rfl)) fun g w M M=>⟨_,rfl,⟨_,rfl,by have hW:=M.b 0 rfl;rw[UZ h1 (by simpa using h3) hy];exact hW,M.lo _ (atb (i:=0) rfl)⟩,M.below⟩
 have h3:¬ e.op=2:=by simpa using h3
 have hlz:1<e.kids.length:=by unfold xZ at hv1;split at hv1<;>(try split at hv1)<;>omega
 obtain⟨z,hz⟩:∃ z,e.kids[1]?=some z:=⟨_,as7 hlz⟩;obtain⟨bz,oz,_,e2,hEz,hcz⟩:=aC.elt hk (by decide) hz;obtain⟨nvz,kvz,rfl,-⟩:=hEz.open;refine lb 1<|an rfl<|ia (i:=1)<|an ⟨e2,rfl,hlz⟩<|lc<|an (dJ M3.below hcz)<|cst M3 (ih z (atb hz) _ _ tp mb _ _ _ _ _ _ _ _ _ _ _ _ _ _ _ _ gh nB f_ u hn (Whole.under M3.below hT hT.lt) (hEz.keep M3.below)) fun gz w4 M4=>lp (ι:=Nat×Int) (fun(t,x)=>[(68,.int .i64 (t:Int))]) (fun(t,x)=>_::(gy,52,#[.int .u64 x])::_) (fun _=>[]) (fun(t,x) _=>t≤1∧(t=0→x=cM u nB y)∧(t=1→x=BX u e.op (cM u nB y) (cM u nB z))) (fun(t,x)=>1-t) (0,cM u nB y) (an ⟨⟨rfl,trivial⟩,fun M=>⟨M,by decide,fun _=>rfl,fun h=>by cases h⟩⟩ ?_)
 rintro⟨t,x⟩ w M ⟨ht,hx0,hx1⟩;refine an (fun h=>?_) fun h M=>⟨_,rfl,⟨_,rfl,by have hW:=M.b 1 rfl;rw[U0 h1 h2 h3 hy hz,← hx1 (by simp at h;omega)];exact hW,M.lo _ (atb (i:=1) rfl)⟩,M.below⟩
 obtain rfl:t=0:=by simp at h;omega
 obtain rfl:=hx0 rfl;refine lb 2<|an rfl<|an (fun h4=>?_) fun h4=>an (fun h5=>?_) fun h5=>an (fun h6=>?_) fun h6=>?_
 all_goals simp only[decide_eq_true_eq,decide_eq_false_iff_not] at *
 ·exact dr (by kernel_rfl)<|ia (i:=0)<|an ⟨rfl,rfl,by decide⟩<|lb 1<|an rfl<|ia (i:=0)<|an ⟨rfl,rfl,by decide⟩<|lb 0<|an rfl<|ei (x:=bits .and .u64 (cM u nB y) (cM u nB z))<|an rfl<|ia (i:=0)<|an ⟨rfl,rfl,by decide⟩<|fun w hb M=>lb 1<|an ⟨⟨rfl,rfl⟩,Nat.le_refl _⟩ fun w M=>an (by omega)<|bk (1,bits .and .u64 (cM u nB y) (cM u nB z)) ⟨rfl,trivial⟩ (fun M=>⟨M,by omega,(fun h=>by cases h),fun _=>by unfold BX;rw[if_pos h4]⟩) (by dsimp only;omega)
 ·exact dr (by kernel_rfl)<|ia (i:=0)<|an ⟨rfl,rfl,by decide⟩<|lb 1<|an rfl<|ia (i:=0)<|an ⟨rfl,rfl,by decide⟩<|lb 0<|an rfl<|ei (x:=bits .or .u64 (cM u nB y) (cM u nB z))<|an rfl<|ia (i:=0)<|an ⟨rfl,rfl,by decide⟩<|fun w hb M=>lb 1<|an ⟨⟨rfl,rfl⟩,Nat.le_refl _⟩ fun w M=>an (by omega)<|bk (1,bits .or .u64 (cM u nB y) (cM u nB z)) ⟨rfl,trivial⟩ (fun M=>⟨M,by omega,(fun h=>by cases h),fun _=>by unfold BX;rw[if_neg h4,if_pos h5]⟩) (by dsimp only;omega)
 ·exact dr (by kernel_rfl)<|ia (i:=0)<|an ⟨rfl,rfl,by decide⟩<|lb 1<|an rfl<|ia (i:=0)<|an ⟨rfl,rfl,by decide⟩<|lb 0<|an rfl<|ei (x:=bits .xor .u64 (cM u nB y) (cM u nB z))<|an rfl<|ei (x:=.int .u64 (bits .xor .u64 18446744073709551615 (bits .xor .u64 (cM u nB y) (cM u nB z))))<|an (fun a w o ho hv=>Nw ho (qN hv))<|lc (x:=.int .u64 u)<|an (as8 M.below (hT.cell 18))<|ei (x:=bits .and .u64 (bits .xor .u64 18446744073709551615 (bits .xor .u64 (cM u nB y) (cM u nB z))) u)<|an rfl<|ia (i:=0)<|an ⟨rfl,rfl,by decide⟩<|fun w hb M=>lb 1<|an ⟨⟨rfl,rfl⟩,Nat.le_refl _⟩ fun w M=>an (by omega)<|bk (1,bits .and .u64 (bits .xor .u64 18446744073709551615 (bits .xor .u64 (cM u nB y) (cM u nB z))) u) ⟨rfl,trivial⟩ (fun M=>⟨M,by omega,(fun h=>by cases h),fun _=>by unfold BX;rw[if_neg h4,if_neg h5,if_pos h6]⟩) (by dsimp only;omega)
 ·exact dr (by kernel_rfl)<|ia (i:=0)<|an ⟨rfl,rfl,by decide⟩<|lb 1<|an rfl<|ia (i:=0)<|an ⟨rfl,rfl,by decide⟩<|lb 0<|an rfl<|ei (x:=bits .xor .u64 (cM u nB y) (cM u nB z))<|an rfl<|ia (i:=0)<|an ⟨rfl,rfl,by decide⟩<|fun w hb M=>lb 1<|an ⟨⟨rfl,rfl⟩,Nat.le_refl _⟩ fun w M=>an (by omega)<|bk (1,bits .xor .u64 (cM u nB y) (cM u nB z)) ⟨rfl,trivial⟩ (fun M=>⟨M,by omega,(fun h=>by cases h),fun _=>by unfold BX;rw[if_neg h4,if_neg h5,if_neg h6]⟩) (by dsimp only;omega)
theorem one_cell{w:World}{g:Nat}{x:Value}(hs:w.cell? ⟨g,0,none⟩=some x):∀ j uu,[x][j]?=some uu→w.cell? ⟨g,0+j,none⟩=some uu:=fun j u hu=>by
 match j with
 | 0=>
  obtain rfl:x=u:=by simpa using hu
  exact hs
 | j+1=>simp at hu
def Xp(x:Int):Int:=if x=0 then -1 else 0
theorem YS(x:Int):(!decide (0≤Xp x))=decide (x=0):=by
 unfold Xp;by_cases h:x=0
 ·rw[if_pos h];simp[h]
 ·rw[if_neg h];simp[h]
theorem OX(w0:World)(sx:Int):Calls Tryz.prog 223 #[.int .u64 sx] w0 (fun(r:Ending) (w':World)=>r=.returned (.bool (!decide (sx=0)))∧as5 w0.heap.size w0 w'):=by
 have aM:=hr1 Tryz.prog Tryz.f223 (fun(r:Ending) (w':World)=>r=.returned (.bool (!decide (sx=0)))∧as5 w0.heap.size w0 w') 5 2 rfl;refine en Tryz.func223 rfl Tryz.ntmps223 rfl (vs:=[.int .u64 sx]) rfl fun _ F=>?_
 have M:=Mm.start w0;refine atc fun K1 dw=>ah<|xA (v:=.bool false) F rf rf rf fun _ F=>atd<|dw _ _ ?_
 refine atc fun K2 cQ=>ah<|xM F rf rf rf fun _ F=>kz F rf (qY rfl (F.u rf) rfl) fun _ F=>xA F rf rf rf fun _ F=>atd<|cQ _ _ ?_
 refine wp_ret<|aM _ _ _ _ F rfl ?_;exact⟨rfl,M.below⟩
theorem OV(w0:World)(sg ck:Nat)(sx:Int)(hs:w0.cell? ⟨sg,0,none⟩=some (.int .u64 sx)):Calls Tryz.prog 266 #[.slice (some ⟨sg,0,none⟩) 1 ck,.func (.func 223) #[] #[]] w0 (fun(r:Ending) (w':World)=>r=.returned (.int .i64 (Xp sx))∧as5 w0.heap.size w0 w'):=by
 have hSG:=one_cell hs;have aM:=hr1 Tryz.prog Tryz.f266 (fun(r:Ending) (w':World)=>r=.returned (.int .i64 (Xp sx))∧as5 w0.heap.size w0 w') 19 4 rfl;refine en Tryz.func266 rfl Tryz.ntmps266 rfl (vs:=[.slice (some ⟨sg,0,none⟩) 1 ck,.func (.func 223) #[] #[]]) rfl fun _ F=>?_
 have M:=Mm.start w0;refine atc fun K1 dw=>ah<|xA (v:=.int .i64 0) F rf rf rf fun _ F=>atd<|dw _ _ ?_
 refine atc fun K2 cQ=>atc fun K3 fJ=>ah<|xM F rf rf rf fun _ F=>kz F rf (bA rfl (F.u rf) oO) fun _ F=>xM (v:=.int .i64 0) F rf rf rf fun _ F=>atd<|fJ _ _ ?_
 refine atf<|?_;refine bV (ι:=Nat) (fun t a w=>Fs a 19 [(0,.slice (some ⟨sg,0,none⟩) 1 ck),(1,.func (.func 223) #[] #[]),(7,.int .i64 1),(8,.int .i64 (t:Int))]∧Mm w0 w [] []∧t≤1∧(t=1→sx=0)) (fun t=>1-t) 0 ⟨F.sub ⟨rfl,rfl,rfl,rfl,trivial⟩,M,as9 _,fun h=>by cases h⟩ ?_
 (repeat clear F);(repeat clear M)
 rintro t _ _ ⟨F,M,ht,hz⟩;refine atc fun K4 fQ=>ah<|kz F rf (d_ rfl (F.u rf) (F.u rf)) fun _ F=>atd<|fQ _ _ ?_
 refine atc fun K5 gL=>?_
 refine ate (F.e 9 rfl) (fun hc1=>?_) (fun hc1=>?_)
 ·have hd2:=of_decide_eq_true hc1;refine wp_skip<|gL _ _ ?_;refine atc fun K6 iC=>atf<|atc fun K7 iO=>?_
  have F:=F.eq 8 rfl (congrArg (Value.int .i64) (show((t:Nat):Int)=0 by omega));refine ah<|xM F rf rf rf fun _ F=>xA F rf rf rf fun _ F=>atd<|iO _ _ ?_
  refine atc fun K8 jf=>ah<|xM F rf rf rf fun _ F=>xM F rf rf rf fun _ F=>xM F rf rf rf fun _ F=>
   ke (u:=.pointer (some ⟨sg,0,none⟩)) (on rfl) (aK (i:=0) rfl (F.u rf) (F.u rf) (by omega) oO iM) rfl F rfl rfl fun _ F=>
   kz F rf (aD rf (F.u rf) Ga rfl ((dJ M.below hSG) 0 _ rfl)) fun _ F=>
   kc (on rfl) (lW rfl (F.u rf) Tryz.func223 (by kernel_rfl) rfl (args:=#[.int .u64 sx]) (by simp[(F.e 15 rfl)])) (OX _ sx) rfl F rfl M fun _ _ F M=>
   atd<|
   jf _ _ ?_
  refine ate (F.e 16 rfl) (fun hc3=>?_) (fun hc3=>?_)
  ·have BH:=of_decide_eq_false (show decide (sx=0)=false by simpa using hc3);have Uy:(decide (sx=0))=false:=by simpa using hc3
   refine atc fun K9 jW=>ah<|xM F rf rf rf fun _ F=>xA F rf rf rf fun _ F=>atd<|jW _ _ ?_
   refine wp_ret<|aM _ _ _ _ F rfl ?_;exact⟨bE (by unfold Xp;rw[if_neg (by omega)]),M.below⟩
  ·have vU:=of_decide_eq_true (show decide (sx=0)=true by simpa using hc3);have hk7:(decide (sx=0))=true:=by simpa using hc3
   refine wp_skip<|iC _ _ ?_;have F:=F.eq 8 rfl (congrArg (Value.int .i64) (show(0:Int)=((t:Nat):Int) by omega))
   refine ah<|
    ke (on rfl) (cL rfl (F.u rf) rfl) rfl F rfl (congrArg (Value.int .i64) (wrap_i64 (by omega))) fun _ F=>
    xM F rf rf rf fun _ F=>
    atd<|?_
   exact⟨t+1,⟨F.sub ⟨rfl,rfl,rfl,rfl,trivial⟩,M,by omega,fun _=>by omega⟩,by show 1-(t+1)<1-t;omega⟩
 ·have Qz:=of_decide_eq_false hc1;refine wp_exit<|cQ _ _ ?_;refine atc fun Bh dU=>ah<|xA (v:=.int .i64 (-1)) F rf rf rf fun _ F=>atd<|dU _ _ ?_
  refine wp_ret<|aM _ _ _ _ F rfl ?_;exact⟨bE (by have:=hz (by omega);unfold Xp;rw[if_pos this]),M.below⟩
theorem OW(w0:World)(sg ck:Nat)(sx:Int)(hs:w0.cell? ⟨sg,0,none⟩=some (.int .u64 sx)):Calls Tryz.prog 222 #[.slice (some ⟨sg,0,none⟩) 1 ck,.func (.func 223) #[] #[]] w0 (fun(r:Ending) (w':World)=>r=.returned (.bool (decide (0≤Xp sx)))∧as5 w0.heap.size w0 w'):=by
 have aM:=hr1 Tryz.prog Tryz.f222 (fun(r:Ending) (w':World)=>r=.returned (.bool (decide (0≤Xp sx)))∧as5 w0.heap.size w0 w') 9 4 rfl;refine en Tryz.func222 rfl Tryz.ntmps222 rfl (vs:=[.slice (some ⟨sg,0,none⟩) 1 ck,.func (.func 223) #[] #[]]) rfl fun _ F=>?_
 have M:=Mm.start w0;refine atc fun K1 dw=>ah<|xA (v:=.bool false) F rf rf rf fun _ F=>atd<|dw _ _ ?_
 refine atc fun K2 cQ=>ah<|xM F rf rf rf fun _ F=>xM F rf rf rf fun _ F=>xC F M rf rf afL (args2 (F.u rf) (F.u rf)) (OV _ sg ck sx (as8 M.below hs)) fun _ _ F M=>kz F rf (Ip rfl (F.u rf) rfl) fun _ F=>xA F rf rf rf fun _ F=>atd<|cQ _ _ ?_
 refine wp_ret<|aM _ _ _ _ F rfl ?_;exact⟨rfl,M.below⟩
theorem zS(w0:World)(sg ck:Nat)(sx:Int)(hs:w0.cell? ⟨sg,0,none⟩=some (.int .u64 sx)):Calls Tryz.prog 150 #[.slice (some ⟨sg,0,none⟩) 1 ck] w0 (fun(r:Ending) (w':World)=>r=.returned (.bool (decide (sx=0)))∧as5 w0.heap.size w0 w'):=by
 have aM:=hr1 Tryz.prog Tryz.f150 (fun(r:Ending) (w':World)=>r=.returned (.bool (decide (sx=0)))∧as5 w0.heap.size w0 w') 6 2 rfl;refine en Tryz.func150 rfl Tryz.ntmps150 rfl (vs:=[.slice (some ⟨sg,0,none⟩) 1 ck]) rfl fun _ F=>?_
 have M:=Mm.start w0;refine atc fun K1 dw=>ah<|xA (v:=.bool false) F rf rf rf fun _ F=>atd<|dw _ _ ?_
 refine atc fun K2 cQ=>ah<|xM F rf rf rf fun _ F=>xC F M rf rf afO (args2 (F.u rf) rfl) (OW _ sg ck sx (as8 M.below hs)) fun _ _ F M=>kz F rf (jS rfl (F.u rf)) fun _ F=>xA F rf rf rf fun _ F=>atd<|cQ _ _ ?_
 refine wp_ret<|aM _ _ _ _ F rfl ?_;exact⟨ay (YS sx),M.below⟩
def dM(u:Int)(n:Nat)(conds:List aA)(k:Int):Int:=
 if 0<k∧k≤conds.length then (match conds[(k-1).toNat]? with|some e=>cM u n e|none=>0)
 else if k<0∧0-(conds.length:Int)≤k then notM u (match conds[(0-k-1).toNat]? with|some e=>cM u n e|none=>0)
 else notM u 0
theorem WT{u:Int}{n:Nat}{conds:List aA}{k:Int}{e:aA}{m:Nat}(h1:0<k)(h2:k≤conds.length)(hm:(m:Int)=k-1)(he:conds[m]?=some e):dM u n conds k=cM u n e:=by
 unfold dM;rw[if_pos ⟨h1,h2⟩,← hm,Int.toNat_natCast,he]
theorem WU{u:Int}{n:Nat}{conds:List aA}{k:Int}{e:aA}{m:Nat}(h1:k<0)(h2:0-(conds.length:Int)≤k)(hm:(m:Int)=0-k-1)(he:conds[m]?=some e):dM u n conds k=notM u (cM u n e):=by
 unfold dM;rw[if_neg (by omega),if_pos ⟨h1,h2⟩,← hm,Int.toNat_natCast,he]
theorem WV{u:Int}{n:Nat}{conds:List aA}{k:Int}(h1:¬ (0<k∧k≤conds.length))(h2:¬ (k<0∧0-(conds.length:Int)≤k)):dM u n conds k=notM u 0:=by
 unfold dM;rw[if_neg h1,if_neg h2]
structure fO (w:World) (base tp mb:Nat) (c0 c1 c2 c3 c4 c5 c6 c7 c8 c9 aW aP aO aU aT aS aR:Value) (u:Int) (act:Int→Int):Prop where
 box:qd w tp mb c0 c1 c2 c3 c4 c5 c6 c7 c8 c9 aW aP aO aU aT aS aR u
 map:∃ L,aX w Tryz.prog 3 mb (L.map ival)∧∀ k v,jD L k=some v→bO w base v (act k)
 lo:base≤tp∧base≤mb
section
variable {w w':World} {base tp mb:Nat} {c0 c1 c2 c3 c4 c5 c6 c7 c8 c9 aW aP aO aU aT aS aR:Value} {u:Int} {act:Int→Int}
theorem fO.keep(h:fO w base tp mb c0 c1 c2 c3 c4 c5 c6 c7 c8 c9 aW aP aO aU aT aS aR u act)(hb:as5 w.heap.size w w'):fO w' base tp mb c0 c1 c2 c3 c4 c5 c6 c7 c8 c9 aW aP aO aU aT aS aR u act:=by
 obtain⟨h1,⟨L,h2,h3⟩,h4⟩:=h;exact⟨Whole.under hb h1 h1.lt,⟨L,h2.kept (hb.block _ h2.lt),fun k v hk=>(h3 k v hk).keep hb⟩,h4⟩
theorem fO.lt(h:fO w base tp mb c0 c1 c2 c3 c4 c5 c6 c7 c8 c9 aW aP aO aU aT aS aR u act):base≤w.heap.size:=atg h.lo.1 (Nat.le_of_lt h.box.lt)
theorem bO.turn{v:Value}{x:Int}{D:List (Value×Value)}(h:bO w base v x)(hm:aX w Tryz.prog 3 mb D)(hg:w.grownBy w' (some mb)):bO w' base v x:=by
 obtain⟨g,e,hw,hl⟩:=h;exact⟨g,e,hw.grown hg fun e2=>gG hw hm (ath e2),hl⟩
theorem bO.low{v:Value}{x:Int}{b:Nat}(h:bO w base v x)(hb:b≤base):bO w b v x:=by
 obtain⟨g,e,hw,hl⟩:=h;exact⟨g,e,hw,atg hb hl⟩
theorem Fy{w0:World}{L:List (Int×Value)}{k:Int}{v:Value}(hT:qd w0 tp mb c0 c1 c2 c3 c4 c5 c6 c7 c8 c9 aW aP aO aU aT aS aR u)(hM:aX w0 Tryz.prog 3 mb (L.map ival))(hL:∀ k v,jD L k=some v→bO w0 base v (act k))(hlo:base≤tp∧base≤mb)(hb:as5 w0.heap.size w0 w)
 (Ng:aX w' Tryz.prog 3 mb (((k,v)::gP L k).map ival)) (hg:w.grownBy w' (some mb)) (hv:bO w w0.heap.size v (act k)):bO w' base v (act k)∧fO w' base tp mb c0 c1 c2 c3 c4 c5 c6 c7 c8 c9 aW aP aO aU aT aS aR u act∧St [mb] w0 w':=by
 have hMw:=hM.kept (hb.block _ hM.lt);have hTw:qd w tp mb c0 c1 c2 c3 c4 c5 c6 c7 c8 c9 aW aP aO aU aT aS aR u:=Whole.under hb hT hT.lt;have hs:bO w' base v (act k):=(hv.low (atg hlo.1 (Nat.le_of_lt hT.lt))).turn hMw hg;refine⟨hs,⟨Whole.grown hTw hg fun e=>gG hTw hMw (ath e),⟨_,Ng,fun j x hj=>?_⟩,hlo⟩,fV _ _ _ _ (h_ _ _ _ hb) (St.grown hg (ati.2 rfl))⟩;rw[yO] at hj;by_cases e:j=k
 ·rw[if_pos e] at hj;rw[e,← ath hj];exact hs
 ·rw[if_neg e] at hj;exact((hL j x hj).keep hb).turn hMw hg
end
theorem NJ{p q:Prop}[Decidable p][Decidable q](h:(decide p&&decide q)=true):p∧q:=by simpa using h
theorem IZ{p q:Prop}[Decidable p][Decidable q](h:(decide p&&decide q)=false):¬ (p∧q):=by simpa using h
def Ed(r:ak):Int:=if r.kind=4 then 0 else r.cond
theorem r_(w0:World)(base tp mb:Nat)(c0 c1 c2 c3 c4 c6 c7 c8 c9 aW aP aO aU aT aS aR:Value)(gh:Option Addr)(nB f_:Nat)(u:Int)(conds:List aA)(hn:nB≤5)(hE:lF w0 c8 conds)(hcl:conds.length≤1000)(k:Int)(hk:jq k)(ZK:fO w0 base tp mb c0 c1 c2 c3 c4 (.slice gh nB f_) c6 c7 c8 c9 aW aP aO aU aT aS aR u (dM u nB conds)):Calls Tryz.prog 149 #[.pointer (some ⟨tp,0,none⟩),.int .i64 k] w0 (fun(r:Ending) (w':World)=>∃ v,r=.returned v∧(bO w' base v (dM u nB conds k)∧fO w' base tp mb c0 c1 c2 c3 c4 (.slice gh nB f_) c6 c7 c8 c9 aW aP aO aU aT aS aR u (dM u nB conds)∧St [mb] w0 w')):=by
 obtain⟨la8,lk8,rfl,hk8,hm8,Eb⟩:=aC.form hE (by decide);obtain⟨hT,⟨L,hM,hL⟩,hlo⟩:=ZK;have Ld:∀ j uu,[c0,c1,c2,c3,c4,.slice gh nB f_,c6,c7,.slice la8 conds.length lk8,c9,aW,aP,aO,aU,aT,aS,aR,.int .i64 1,.int .u64 u,(.map (some mb))][j]?=some uu→w0.cell? ⟨tp,0+j,none⟩=some uu:=fun j u hu=>by rw[Nat.zero_add];exact(Whole.cell hT j).trans (by simpa using hu)
 have hk1:=hk.1;have hk2:=hk.2;have aM:=hr1 Tryz.prog Tryz.f149 (fun(r:Ending) (w':World)=>∃ v,r=.returned v∧(bO w' base v (dM u nB conds k)∧fO w' base tp mb c0 c1 c2 c3 c4 (.slice gh nB f_) c6 c7 (.slice la8 conds.length lk8) c9 aW aP aO aU aT aS aR u (dM u nB conds)∧St [mb] w0 w')) 85 4 rfl;refine en Tryz.func149 rfl Tryz.ntmps149 rfl (vs:=[.pointer (some ⟨tp,0,none⟩),.int .i64 k]) rfl fun _ F=>?_
 have M:=Mm.start w0;refine atc fun K1 dw=>ah<|xA (v:=.slice none 0 0) F rf rf rf fun _ F=>atd<|dw _ _ ?_
 refine atc fun K2 cQ=>atc fun K3 fJ=>ah<|xM F rf rf rf fun _ F=>kz F rf (cG rfl (F.u rf)) fun _ F=>xF 19 F rf rf rf sK rf Ml rf fun _ F=>kz F rf (aD rf (F.u rf) Du rfl ((dJ M.below Ld) 19 _ rfl)) fun _ F=>xM F rf rf rf fun _ F=>
  kz F rf (tW (z:=.slice none 0 0) Du (by kernel_rfl) (hM.kept (M.below.block _ hM.lt)) rfl (F.u rf) (F.u rf) (by exact hk)) fun _ F=>
  xM F rf rf rf fun _ F=>
  kz F rf (b_ rfl (F.u rf) rfl) fun _ F=>
  kz F rf (b_ rfl (F.u rf) rfl) fun _ F=>
  xA F rf rf rf fun _ F=>
  xA F rf rf rf fun _ F=>
  atd<|
  fJ _ _ ?_
 refine atc fun K4 fQ=>ah<|xM F rf rf rf fun _ F=>atd<|fQ _ _ ?_
 refine ate (F.e 17 rfl) (fun hc1=>?_) (fun hc1=>?_)
 ·refine atc fun K5 gL=>ah<|xM F rf rf rf fun _ F=>xA F rf rf rf fun _ F=>atd<|gL _ _ ?_
  refine wp_ret<|aM _ _ _ _ F rfl ?_;obtain⟨v,hv⟩:=Option.isSome_iff_exists.1 hc1;exact⟨_,rfl,(by rw[hv];exact(hL k v hv).keep M.below),(fO.keep ⟨hT,⟨L,hM,hL⟩,hlo⟩ M.below),h_ _ _ _ M.below⟩
 ·refine wp_skip<|cQ _ _ ?_
  refine atc fun K6 iC=>ah<|xM F rf rf rf fun _ F=>xM F rf rf rf fun _ F=>kz F rf (cG rfl (F.u rf)) fun _ F=>xF 17 F rf rf rf sK rf Bn rf fun _ F=>kz F rf (aD rf (F.u rf) u3 rfl ((dJ M.below Ld) 17 _ rfl)) fun _ F=>
   kn (f:=fun n=>.slice (some ⟨n,0,none⟩) 1 1) (on rfl) (tV rfl (F.u rf) (F.u rf) oO Hh QJ rfl (by decide)) rfl F rfl M fun g2 _ _ F M=>
   kx (on rfl) (bw rfl Tryz.func175 Xt rfl (args2 (F.u rf) (F.u rf))) (yM _ tp mb _ _ _ _ _ _ _ _ _ _ _ _ _ _ _ _ gh nB f_ u (Whole.under M.below hT hT.lt) g2 _ (M.b 0 rfl)) rfl F rfl M fun sv _ _ hR hB F _=>?_
  obtain⟨gs3,rfl,XP,XF⟩:=hR;have M:=M.newAt hB XP XF;clear XP XF;refine xA F rf rf rf fun _ F=>atd<|iC _ _ ?_
  refine atc fun K7 iO=>atf<|atc fun K8 jf=>ah<|xM F rf rf rf fun _ F=>kz F rf (CX rfl (F.u rf) rfl) fun _ F=>xM F rf rf rf fun _ F=>bU (x:=.int .i64 k) rfl rfl (F.g 29 rfl) (bt _) (fun ge=>(bC rfl (F.u rf))) rfl F rfl rfl fun _ F=>bU (x:=.pointer (some ⟨tp,0,none⟩)) rfl rfl (F.g 29 rfl) (bt _) (fun ge=>(bC rfl (F.u rf))) rfl F rfl rfl fun _ F=>bU (x:=.pointer (some ⟨tp,0,none⟩)) rfl rfl (F.g 29 rfl) (bt _) (fun ge=>(cG rfl ((F.g 31 rfl).on ge).ev)) rfl F rfl rfl fun _ F=>bU (x:=.pointer (some ⟨tp,0,none⟩)) rfl rfl (F.g 29 rfl) (bt _) (fun ge=>(aI rfl ((F.g 32 rfl).on ge).ev sK rfl kS)) rfl F rfl rfl fun _ F=>bU (x:=.pointer (some ⟨tp,8,none⟩)) rfl rfl (F.g 29 rfl) (bt _) (fun ge=>(aI rfl ((F.g 33 rfl).on ge).ev iU rfl qG)) rfl F rfl rfl fun _ F=>bU (x:=.slice la8 conds.length lk8) rfl rfl (F.g 29 rfl) (bt _) (fun ge=>(aD rfl ((F.g 34 rfl).on ge).ev sM rfl ((dJ M.below Ld) 8 _ rfl))) rfl F rfl rfl fun _ F=>bU (x:=.int .i64 (conds.length:Int)) rfl rfl (F.g 29 rfl) (bt _) (fun ge=>(bA rfl ((F.g 35 rfl).on ge).ev sM)) rfl F rfl rfl fun _ F=>bU (x:=.bool (decide (k≤(conds.length:Int)))) rfl rfl (F.g 29 rfl) (bt _) (fun ge=>(Nu rfl ((F.g 30 rfl).on ge).ev ((F.g 36 rfl).on ge).ev)) rfl F rfl rfl fun _ F=>kz F rf (rq (bq rfl (F.u rf) (F.u rf) rfl) (qH _ _)) fun _ F=>xA F rf rf rf fun _ F=>atd<|jf _ _ ?_
  refine ate (F.e 26 rfl) (fun yd=>?_) (fun yd=>?_)
  ·have hP:=NJ yd;obtain⟨m,hm⟩:∃ m:Nat,(m:Int)=k-1:=⟨(k-1).toNat,by omega⟩;have Zt:m<conds.length:=by omega
   obtain⟨y,hy⟩:∃ y,conds[m]?=some y:=⟨_,as7 Zt⟩;obtain⟨b8,ob8,cs8,rfl,ZB,Zo,Zm⟩:=Eb _ y hy
   refine ah<|xM F rf rf rf fun _ F=>xM F rf rf rf fun _ F=>kz F rf (cG rfl (F.u rf)) fun _ F=>xF 0 F rf rf rf sK rf kS rf fun _ F=>xF 8 F rf rf rf iU rf qG rf fun _ F=>kz F rf (aD rf (F.u rf) sM rfl ((dJ M.below Ld) 8 _ rfl)) fun _ F=>xM F rf rf rf fun _ F=>
    ke (on rfl) (CW rfl (F.u rf) rfl) rfl F rfl (congrArg (Value.int .i64) ((wrap_i64 (by omega)).trans (by omega))) fun _ F=>
    kz F rf (aK (i:=m) rfl (F.u rf) (F.u rf) (by omega) sM eG) fun _ F=>
    kz F rf (bT cs8 rfl (F.u rf) j9 rfl (by rw[Zo];exact eG) (dJ M.below Zm)) fun _ F=>
    kx (on rfl) (bw rfl Tryz.func173 Xu rfl (args2 (F.u rf) (F.u rf))) (uZ y _ _ tp mb _ _ _ _ _ _ _ _ _ _ _ _ _ _ _ _ gh nB f_ u hn (Whole.under M.below hT hT.lt) (bB.keep M.below ZB)) rfl F rfl M fun sv _ _ hR hB F _=>?_
   obtain⟨gs5,rfl,XO,XE⟩:=hR;have M:=M.newAt hB XO XE;clear XO XE;refine xA F rf rf rf fun _ F=>atd<|iO _ _ ?_
   refine atc fun K9 jW=>ah<|xM F rf rf rf fun _ F=>kz F rf (cG rfl (F.u rf)) fun _ F=>xF 19 F rf rf rf sK rf Ml rf fun _ F=>kz F rf (aD rf (F.u rf) Du rfl ((dJ M.below Ld) 19 _ rfl)) fun _ F=>xM F rf rf rf fun _ F=>xM F rf rf rf fun _ F=>kmu rfl rfl rfl (F.u rf) (F.u rf) (F.u rf) (aX.RF Du (hM.kept (M.below.block _ hM.lt)) hk _) fun w9 hP=>?_
   obtain⟨Ng,hg9⟩:=hP;refine atd<|jW _ _ ?_;refine atc fun Bh dU=>ah<|xM F rf rf rf fun _ F=>xA F rf rf rf fun _ F=>atd<|dU _ _ ?_
   refine wp_ret<|aM _ _ _ _ F rfl ?_;exact⟨_,rfl,Fy hT hM hL hlo M.below Ng hg9 ⟨gs5,rfl,(by rw[WT hP.1 hP.2 hm hy];exact M.b 0 rfl),M.lo _ (atb (i:=0) rfl)⟩⟩
  ·have hP:=IZ yd
   refine atc fun I8 gj=>ah<|xM F rf rf rf fun _ F=>kz F rf (d_ rfl (F.u rf) rfl) fun _ F=>xM F rf rf rf fun _ F=>bU (x:=.int .i64 k) rfl rfl (F.g 53 rfl) (bt _) (fun ge=>(bC rfl (F.u rf))) rfl F rfl rfl fun _ F=>bU (x:=.pointer (some ⟨tp,0,none⟩)) rfl rfl (F.g 53 rfl) (bt _) (fun ge=>(bC rfl (F.u rf))) rfl F rfl rfl fun _ F=>bU (x:=.pointer (some ⟨tp,0,none⟩)) rfl rfl (F.g 53 rfl) (bt _) (fun ge=>(cG rfl ((F.g 55 rfl).on ge).ev)) rfl F rfl rfl fun _ F=>bU (x:=.pointer (some ⟨tp,0,none⟩)) rfl rfl (F.g 53 rfl) (bt _) (fun ge=>(aI rfl ((F.g 56 rfl).on ge).ev sK rfl kS)) rfl F rfl rfl fun _ F=>bU (x:=.pointer (some ⟨tp,8,none⟩)) rfl rfl (F.g 53 rfl) (bt _) (fun ge=>(aI rfl ((F.g 57 rfl).on ge).ev iU rfl qG)) rfl F rfl rfl fun _ F=>bU (x:=.slice la8 conds.length lk8) rfl rfl (F.g 53 rfl) (bt _) (fun ge=>(aD rfl ((F.g 58 rfl).on ge).ev sM rfl ((dJ M.below Ld) 8 _ rfl))) rfl F rfl rfl fun _ F=>bU (x:=.int .i64 (conds.length:Int)) rfl rfl (F.g 53 rfl) (bt _) (fun ge=>(bA rfl ((F.g 59 rfl).on ge).ev sM)) rfl F rfl rfl fun _ F=>
    bU (x:=.int .i64 (0-(conds.length:Int))) rfl rfl (F.g 53 rfl) (bt _) (fun ge=>(rq (Nt rfl ((F.g 60 rfl).on ge).ev) (congrArg (Value.int .i64) (wrap_i64 (by omega))))) rfl F rfl rfl fun _ F=>
    bU (x:=.bool (decide (0-(conds.length:Int)≤k))) rfl rfl (F.g 53 rfl) (bt _) (fun ge=>(Ip rfl ((F.g 54 rfl).on ge).ev ((F.g 61 rfl).on ge).ev)) rfl F rfl rfl fun _ F=>
    kz F rf (rq (bq rfl (F.u rf) (F.u rf) rfl) (qH _ _)) fun _ F=>
    xA F rf rf rf fun _ F=>
    atd<|
    gj _ _ ?_
   refine ate (F.e 50 rfl) (fun je=>?_) (fun je=>?_)
   ·have hN:=NJ je;obtain⟨m,hm⟩:∃ m:Nat,(m:Int)=0-k-1:=⟨(0-k-1).toNat,by omega⟩;have Zt:m<conds.length:=by omega
    obtain⟨y,hy⟩:∃ y,conds[m]?=some y:=⟨_,as7 Zt⟩;obtain⟨b8,ob8,cs8,rfl,ZB,Zo,Zm⟩:=Eb _ y hy
    refine ah<|xM F rf rf rf fun _ F=>xM F rf rf rf fun _ F=>xM F rf rf rf fun _ F=>kz F rf (cG rfl (F.u rf)) fun _ F=>xF 0 F rf rf rf sK rf kS rf fun _ F=>xF 8 F rf rf rf iU rf qG rf fun _ F=>kz F rf (aD rf (F.u rf) sM rfl ((dJ M.below Ld) 8 _ rfl)) fun _ F=>xM F rf rf rf fun _ F=>
     ke (on rfl) (Nt rfl (F.u rf)) rfl F rfl (congrArg (Value.int .i64) (wrap_i64 (by omega))) fun _ F=>
     ke (on rfl) (CW rfl (F.u rf) rfl) rfl F rfl (congrArg (Value.int .i64) ((wrap_i64 (by omega)).trans (by omega))) fun _ F=>
     kz F rf (aK (i:=m) rfl (F.u rf) (F.u rf) (by omega) sM eG) fun _ F=>
     kz F rf (bT cs8 rfl (F.u rf) j9 rfl (by rw[Zo];exact eG) (dJ M.below Zm)) fun _ F=>
     kx (on rfl) (bw rfl Tryz.func173 Xu rfl (args2 (F.u rf) (F.u rf))) (uZ y _ _ tp mb _ _ _ _ _ _ _ _ _ _ _ _ _ _ _ _ gh nB f_ u hn (Whole.under M.below hT hT.lt) (bB.keep M.below ZB)) rfl F rfl M fun sv _ _ hR hB F _=>?_
    obtain⟨gs7,rfl,XM,XD⟩:=hR;have M:=M.newAt hB XM XD;clear XM XD;refine kx (on rfl) (bw rfl Tryz.func175 Xt rfl (args2 (F.u rf) (F.u rf))) (yM _ tp mb _ _ _ _ _ _ _ _ _ _ _ _ _ _ _ _ gh nB f_ u (Whole.under M.below hT hT.lt) gs7 _ (M.b 0 rfl)) rfl F rfl M fun sv _ _ hR hB F _=>?_
    obtain⟨gs8,rfl,H9,Hp⟩:=hR;have M:=M.newAt hB H9 Hp;clear H9 Hp;refine xA F rf rf rf fun _ F=>atd<|iO _ _ ?_
    refine atc fun I7 fT=>ah<|xM F rf rf rf fun _ F=>kz F rf (cG rfl (F.u rf)) fun _ F=>xF 19 F rf rf rf sK rf Ml rf fun _ F=>kz F rf (aD rf (F.u rf) Du rfl ((dJ M.below Ld) 19 _ rfl)) fun _ F=>xM F rf rf rf fun _ F=>xM F rf rf rf fun _ F=>kmu rfl rfl rfl (F.u rf) (F.u rf) (F.u rf) (aX.RF Du (hM.kept (M.below.block _ hM.lt)) hk _) fun w9 hP=>?_
    obtain⟨Ng,hg9⟩:=hP;refine atd<|fT _ _ ?_;refine atc fun Jh gM=>ah<|xM F rf rf rf fun _ F=>xA F rf rf rf fun _ F=>atd<|gM _ _ ?_
    refine wp_ret<|aM _ _ _ _ F rfl ?_;exact⟨_,rfl,Fy hT hM hL hlo M.below Ng hg9 ⟨gs8,rfl,(by rw[WU hN.1 hN.2 hm hy];exact M.b 0 rfl),M.lo _ (atb (i:=0) rfl)⟩⟩
   ·have hN:=IZ je;refine wp_skip<|iO _ _ ?_;refine atc fun NR jg=>ah<|xM F rf rf rf fun _ F=>kz F rf (cG rfl (F.u rf)) fun _ F=>xF 19 F rf rf rf sK rf Ml rf fun _ F=>kz F rf (aD rf (F.u rf) Du rfl ((dJ M.below Ld) 19 _ rfl)) fun _ F=>xM F rf rf rf fun _ F=>xM F rf rf rf fun _ F=>kmu rfl rfl rfl (F.u rf) (F.u rf) (F.u rf) (aX.RF Du (hM.kept (M.below.block _ hM.lt)) hk _) fun w9 hP=>?_
    obtain⟨Ng,hg9⟩:=hP;refine atd<|jg _ _ ?_;refine atc fun W6 mY=>ah<|xM F rf rf rf fun _ F=>xA F rf rf rf fun _ F=>atd<|mY _ _ ?_
    refine wp_ret<|aM _ _ _ _ F rfl ?_;exact⟨_,rfl,Fy hT hM hL hlo M.below Ng hg9 ⟨gs3,rfl,(by rw[WV hP hN];exact M.b 0 rfl),M.lo _ (atb (i:=0) rfl)⟩⟩
theorem PD(w0:World)(base tp mb:Nat)(c0 c1 c2 c3 c4 c6 c7 c8 c9 aW aP aO aU aT aS aR:Value)(gh:Option Addr)(nB f_:Nat)(u:Int)(conds:List aA)(hn:nB≤5)(hE:lF w0 c8 conds)(hcl:conds.length≤1000)(q:ak)(hk:jq q.cond)(ZK:fO w0 base tp mb c0 c1 c2 c3 c4 (.slice gh nB f_) c6 c7 c8 c9 aW aP aO aU aT aS aR u (dM u nB conds)):Calls Tryz.prog 151 #[.pointer (some ⟨tp,0,none⟩),.agg #[.int .i64 q.kind,.int .u64 q.src.a,.int .u64 q.src.b,.int .u64 q.src.c,.int .u64 q.src.d,.int .u64 q.tgt.a,.int .u64 q.tgt.b,.int .u64 q.tgt.c,.int .u64 q.tgt.d,.bool q.self,.int .i64 q.cls,.int .u32 q.perms,.int .i64 q.cond]] w0 (fun(r:Ending) (w':World)=>∃ v,r=.returned v∧(bO w' base v (dM u nB conds (Ed q))∧fO w' base tp mb c0 c1 c2 c3 c4 (.slice gh nB f_) c6 c7 c8 c9 aW aP aO aU aT aS aR u (dM u nB conds)∧St [mb] w0 w')):=by
 have aM:=hr1 Tryz.prog Tryz.f151 (fun(r:Ending) (w':World)=>∃ v,r=.returned v∧(bO w' base v (dM u nB conds (Ed q))∧fO w' base tp mb c0 c1 c2 c3 c4 (.slice gh nB f_) c6 c7 c8 c9 aW aP aO aU aT aS aR u (dM u nB conds)∧St [mb] w0 w')) 14 4 rfl;refine en Tryz.func151 rfl Tryz.ntmps151 rfl (vs:=[.pointer (some ⟨tp,0,none⟩),.agg #[.int .i64 q.kind,.int .u64 q.src.a,.int .u64 q.src.b,.int .u64 q.src.c,.int .u64 q.src.d,.int .u64 q.tgt.a,.int .u64 q.tgt.b,.int .u64 q.tgt.c,.int .u64 q.tgt.d,.bool q.self,.int .i64 q.cls,.int .u32 q.perms,.int .i64 q.cond]]) rfl fun _ F=>?_
 have M:=Mm.start w0;refine atc fun K1 dw=>ah<|oG (on rfl) rfl (F.u rf) rfl F rfl M fun g1 _ _ F M=>xA (v:=.slice none 0 0) F rf rf rf fun _ F=>atd<|dw _ _ ?_
 refine atc fun K2 cQ=>atc fun K3 fJ=>ah<|xF 0 F rf rf rf Qw rf Bn rf fun _ F=>xL F (M.b 0 rfl) rf rf rf u3 rf rf fun _ F=>kz F rf (eX rfl (F.u rf) rfl) fun _ F=>atd<|fJ _ _ ?_
 refine ate (F.e 7 rfl) (fun hc2=>?_) (fun hc2=>?_)
 ·have hd3:=of_decide_eq_true hc2;refine atc fun K4 fQ=>ah<|xM F rf rf rf fun _ F=>kt (on rfl) (bw rfl Tryz.func149 RW rfl (args2 (F.u rf) rfl)) (r_ _ base tp mb _ _ _ _ _ _ _ _ _ _ _ _ _ _ _ _ gh nB f_ u conds hn (hE.keep M.below) hcl 0 ⟨by decide,by decide⟩ (ZK.keep M.below)) rfl F rfl fun v9 _ w9 hR F=>?_
  refine xA F rf rf rf fun _ F=>atd<|fQ _ _ ?_
  refine wp_ret<|aM _ _ _ _ F rfl ?_;exact⟨_,rfl,(by unfold Ed;rw[if_pos (by omega)];exact hR.1),hR.2.1,fV _ _ _ _ (h_ _ _ _ M.below) hR.2.2⟩
 ·have BH:=of_decide_eq_false hc2;refine wp_skip<|cQ _ _ ?_;refine atc fun K5 gL=>ah<|xM F rf rf rf fun _ F=>xF 12 F rf rf rf Qw rf Bn rf fun _ F=>xL F (M.b 0 rfl) rf rf rf u3 rf rf fun _ F=>kt (on rfl) (bw rfl Tryz.func149 RW rfl (args2 (F.u rf) (F.u rf))) (r_ _ base tp mb _ _ _ _ _ _ _ _ _ _ _ _ _ _ _ _ gh nB f_ u conds hn (hE.keep M.below) hcl q.cond hk (ZK.keep M.below)) rfl F rfl fun v9 _ w9 hR F=>?_
  refine xA F rf rf rf fun _ F=>atd<|gL _ _ ?_
  refine wp_ret<|aM _ _ _ _ F rfl ?_;exact⟨_,rfl,(by unfold Ed;rw[if_neg (by omega)];exact hR.1),hR.2.1,fV _ _ _ _ (h_ _ _ _ M.below) hR.2.2⟩
end Go.Proofs.YtdcofoaihmongaaGreat
namespace Go.Proofs.YtdcofoaihmongaaGreat
open Go Go.Proofs Go.RowKit Go.Shelf
variable {P:Program} {ρ:Go.Shelf.Ren}
theorem LD(L:SlLaysE0.n41 P ρ)(size:Nat)(z23:∀ w,(Go.sizeOf (ρ.t 23)).run P w=.ok size w)(a:Addr)(c:Nat)(w:World):
 Calls P (ρ.f 41) #[.slice (some a) 0 c] w fun e w'=>∃ v',e=.returned v'∧w'.ownsRow w.heap.size (ρ.t 23) size v' 0 []∧v'≠.slice none 0 0∧as5 w.heap.size w w':=by
 have mixed:=L.mixed;have t4:=L.t4;have a4:=L.a4;have z4:=L.z4;have v4:=L.v4;have t22:=L.t22;have a22:=L.a22;have z22:=L.z22;have v22:=L.v22;have q22:∀ (w:World) (a:Option Addr) (n c n' c':Nat),(binOp .eql (ρ.t 22) (.slice a n c) (.slice none n' c')).run P w=.ok (.bool a.isNone) w:=fun w a n c n' c'=>Lib.run_eql_slice_nil w _ _ a n c n' c' L.t22
 have u22:∀ w,Sem.run P (underlying (ρ.t 22)) w=.ok (TypeDesc.slice (ρ.t 23)) w:=run_underlying t22;obtain⟨_,_,FG⟩:=L.f41
 go_enter FG,SlBodyN.n41_ntmps ρ
 go_wp2
 go_ret
 refine⟨_,rfl,?_,?_,((Below.refl _ w).alloc (Nat.le_refl _) _)⟩
 ·exact⟨by simp,.inr ⟨w.heap.size,0,#[],rfl,Nat.le_refl _,Whole.new w _ #[],Nat.le_refl _,by simp[maxLen],by simp,by simp⟩⟩
 ·intro h;cases h
theorem dF(L:SlLaysE0.n41 P ρ)(size bytes:Nat)(hi:gU (P.info? (ρ.t 23)) size bytes=true)(hsz:1≤size)(z23:∀ w,(Go.sizeOf (ρ.t 23)).run P w=.ok size w)(w:World)(v:Value)(n:Nat)(cs:List Value)(h:SliceAt w v size n cs)(hbig:n*bytes≤140737488355328):
 Calls P (ρ.f 41) #[v] w fun e w'=>∃ v',e=.returned v'∧w'.ownsRow w.heap.size (ρ.t 23) size v' n cs∧(v=.slice none 0 0↔v'=.slice none 0 0)∧as5 w.heap.size w w':=by
 obtain⟨i0,z,hi0,hz0,hz1,hz2,hzs⟩:=mG hi;rcases h.2.2.2 with⟨rfl,rfl⟩|⟨a,c,rfl,hac,hc⟩
 ·have hl:=h.1;rw[Nat.zero_mul] at hl;have:cs=[]:=List.eq_nil_of_length_eq_zero hl;subst this;refine(AnyE.slices_Clone_nil L 0 0 w).mono ?_;rintro e w' ⟨rfl,rfl⟩;exact⟨_,rfl,World.ownsRow_nil _ _ _ _,Iff.rfl,Below.refl _ _⟩
 ·have hn:¬ Value.slice (some a) n c=.slice none 0 0:=by intro h;cases h
  cases cs with
  | nil=>
   have hl:=h.1
   have:n=0:=by
    rcases Nat.eq_zero_or_pos n with h0|h0
    ·exact h0
    ·have:=Nat.mul_le_mul h0 hsz;simp at hl;omega
   subst this;refine(LD L size z23 a c w).mono ?_;rintro e w' ⟨v',rfl,ho,hv,hb⟩;exact⟨v',rfl,ho,iff_of_false hn hv,hb⟩
  | cons b0 bs=>
   obtain⟨b,off,rfl⟩:=Co (hc 0 _ (by simp;rfl));refine(AnyE.slices_Clone L i0 z size bytes hi0 hz0 hz1 hz2 hzs hsz z23 b off n c (b0::bs) w h.1 h.2.1 hbig (fun j u hu=>by have:=hc j u hu;rwa [Addr.add_mid] at this) h.2.2.1).mono ?_;rintro e w' ⟨v',rfl,ho,hv,hb⟩;exact⟨v',rfl,ho,iff_of_false hn hv,hb⟩
def Fg:Go.Shelf.Ren:=⟨fun|41=>155|n=>n,fun|22=>28|23=>9|4=>4|n=>n,fun|n=>n⟩
theorem Fh:Go.Proofs.SlLaysE0.n41 Tryz.prog Fg:={
 mixed:=by kernel_rfl
 f41:=⟨Tryz.f155.name,by decide,Tryz.func155.trans (congrArg some (by kernel_rfl))⟩
 t4:=Tryz.underlying4
 a4:=Tryz.isAgg4
 z4:=Tryz.sizeOf4
 v4:=Tryz.zeroValue4
 t22:=Tryz.underlying28
 a22:=Tryz.isAgg28
 z22:=Tryz.sizeOf28
 v22:=Tryz.zeroValue28 }
def Fb:Go.Shelf.Ren:=⟨fun|41=>157|n=>n,fun|22=>24|23=>184|4=>4|n=>n,fun|n=>n⟩
theorem Fc:Go.Proofs.SlLaysE0.n41 Tryz.prog Fb:={
 mixed:=by kernel_rfl
 f41:=⟨Tryz.f157.name,by decide,Tryz.func157.trans (congrArg some (by kernel_rfl))⟩
 t4:=Tryz.underlying4
 a4:=Tryz.isAgg4
 z4:=Tryz.sizeOf4
 v4:=Tryz.zeroValue4
 t22:=Tryz.underlying24
 a22:=Tryz.isAgg24
 z22:=Tryz.sizeOf24
 v22:=Tryz.zeroValue24 }
def E8:Go.Shelf.Ren:=⟨fun|41=>158|n=>n,fun|22=>25|23=>188|4=>4|n=>n,fun|n=>n⟩
theorem E9:Go.Proofs.SlLaysE0.n41 Tryz.prog E8:={
 mixed:=by kernel_rfl
 f41:=⟨Tryz.f158.name,by decide,Tryz.func158.trans (congrArg some (by kernel_rfl))⟩
 t4:=Tryz.underlying4
 a4:=Tryz.isAgg4
 z4:=Tryz.sizeOf4
 v4:=Tryz.zeroValue4
 t22:=Tryz.underlying25
 a22:=Tryz.isAgg25
 z22:=Tryz.sizeOf25
 v22:=Tryz.zeroValue25 }
def E5:Go.Shelf.Ren:=⟨fun|41=>159|n=>n,fun|22=>26|23=>192|4=>4|n=>n,fun|n=>n⟩
theorem E6:Go.Proofs.SlLaysE0.n41 Tryz.prog E5:={
 mixed:=by kernel_rfl
 f41:=⟨Tryz.f159.name,by decide,Tryz.func159.trans (congrArg some (by kernel_rfl))⟩
 t4:=Tryz.underlying4
 a4:=Tryz.isAgg4
 z4:=Tryz.sizeOf4
 v4:=Tryz.zeroValue4
 t22:=Tryz.underlying26
 a22:=Tryz.isAgg26
 z22:=Tryz.sizeOf26
 v22:=Tryz.zeroValue26 }
def E2:Go.Shelf.Ren:=⟨fun|41=>160|n=>n,fun|22=>27|23=>197|4=>4|n=>n,fun|n=>n⟩
theorem E3:Go.Proofs.SlLaysE0.n41 Tryz.prog E2:={
 mixed:=by kernel_rfl
 f41:=⟨Tryz.f160.name,by decide,Tryz.func160.trans (congrArg some (by kernel_rfl))⟩
 t4:=Tryz.underlying4
 a4:=Tryz.isAgg4
 z4:=Tryz.sizeOf4
 v4:=Tryz.zeroValue4
 t22:=Tryz.underlying27
 a22:=Tryz.isAgg27
 z22:=Tryz.sizeOf27
 v22:=Tryz.zeroValue27 }
def EZ:Go.Shelf.Ren:=⟨fun|41=>161|n=>n,fun|22=>30|23=>56|4=>4|n=>n,fun|n=>n⟩
theorem E0:Go.Proofs.SlLaysE0.n41 Tryz.prog EZ:={
 mixed:=by kernel_rfl
 f41:=⟨Tryz.f161.name,by decide,Tryz.func161.trans (congrArg some (by kernel_rfl))⟩
 t4:=Tryz.underlying4
 a4:=Tryz.isAgg4
 z4:=Tryz.sizeOf4
 v4:=Tryz.zeroValue4
 t22:=Tryz.underlying30
 a22:=Tryz.isAgg30
 z22:=Tryz.sizeOf30
 v22:=Tryz.zeroValue30 }
def EW:Go.Shelf.Ren:=⟨fun|41=>162|n=>n,fun|22=>31|23=>84|4=>4|n=>n,fun|n=>n⟩
theorem EX:Go.Proofs.SlLaysE0.n41 Tryz.prog EW:={
 mixed:=by kernel_rfl
 f41:=⟨Tryz.f162.name,by decide,Tryz.func162.trans (congrArg some (by kernel_rfl))⟩
 t4:=Tryz.underlying4
 a4:=Tryz.isAgg4
 z4:=Tryz.sizeOf4
 v4:=Tryz.zeroValue4
 t22:=Tryz.underlying31
 a22:=Tryz.isAgg31
 z22:=Tryz.sizeOf31
 v22:=Tryz.zeroValue31 }
def ET:Go.Shelf.Ren:=⟨fun|41=>163|n=>n,fun|22=>32|23=>203|4=>4|n=>n,fun|n=>n⟩
theorem EU:Go.Proofs.SlLaysE0.n41 Tryz.prog ET:={
 mixed:=by kernel_rfl
 f41:=⟨Tryz.f163.name,by decide,Tryz.func163.trans (congrArg some (by kernel_rfl))⟩
 t4:=Tryz.underlying4
 a4:=Tryz.isAgg4
 z4:=Tryz.sizeOf4
 v4:=Tryz.zeroValue4
 t22:=Tryz.underlying32
 a22:=Tryz.isAgg32
 z22:=Tryz.sizeOf32
 v22:=Tryz.zeroValue32 }
def EP:Go.Shelf.Ren:=⟨fun|41=>164|n=>n,fun|22=>33|23=>205|4=>4|n=>n,fun|n=>n⟩
theorem ER:Go.Proofs.SlLaysE0.n41 Tryz.prog EP:={
 mixed:=by kernel_rfl
 f41:=⟨Tryz.f164.name,by decide,Tryz.func164.trans (congrArg some (by kernel_rfl))⟩
 t4:=Tryz.underlying4
 a4:=Tryz.isAgg4
 z4:=Tryz.sizeOf4
 v4:=Tryz.zeroValue4
 t22:=Tryz.underlying33
 a22:=Tryz.isAgg33
 z22:=Tryz.sizeOf33
 v22:=Tryz.zeroValue33 }
def EM:Go.Shelf.Ren:=⟨fun|41=>165|n=>n,fun|22=>35|23=>125|4=>4|n=>n,fun|n=>n⟩
theorem EN:Go.Proofs.SlLaysE0.n41 Tryz.prog EM:={
 mixed:=by kernel_rfl
 f41:=⟨Tryz.f165.name,by decide,Tryz.func165.trans (congrArg some (by kernel_rfl))⟩
 t4:=Tryz.underlying4
 a4:=Tryz.isAgg4
 z4:=Tryz.sizeOf4
 v4:=Tryz.zeroValue4
 t22:=Tryz.underlying35
 a22:=Tryz.isAgg35
 z22:=Tryz.sizeOf35
 v22:=Tryz.zeroValue35 }
def EJ:Go.Shelf.Ren:=⟨fun|41=>166|n=>n,fun|22=>36|23=>127|4=>4|n=>n,fun|n=>n⟩
theorem EK:Go.Proofs.SlLaysE0.n41 Tryz.prog EJ:={
 mixed:=by kernel_rfl
 f41:=⟨Tryz.f166.name,by decide,Tryz.func166.trans (congrArg some (by kernel_rfl))⟩
 t4:=Tryz.underlying4
 a4:=Tryz.isAgg4
 z4:=Tryz.sizeOf4
 v4:=Tryz.zeroValue4
 t22:=Tryz.underlying36
 a22:=Tryz.isAgg36
 z22:=Tryz.sizeOf36
 v22:=Tryz.zeroValue36 }
def EG:Go.Shelf.Ren:=⟨fun|41=>167|n=>n,fun|22=>37|23=>129|4=>4|n=>n,fun|n=>n⟩
theorem EH:Go.Proofs.SlLaysE0.n41 Tryz.prog EG:={
 mixed:=by kernel_rfl
 f41:=⟨Tryz.f167.name,by decide,Tryz.func167.trans (congrArg some (by kernel_rfl))⟩
 t4:=Tryz.underlying4
 a4:=Tryz.isAgg4
 z4:=Tryz.sizeOf4
 v4:=Tryz.zeroValue4
 t22:=Tryz.underlying37
 a22:=Tryz.isAgg37
 z22:=Tryz.sizeOf37
 v22:=Tryz.zeroValue37 }
def EC:Go.Shelf.Ren:=⟨fun|41=>225|n=>n,fun|22=>139|23=>52|4=>4|n=>n,fun|n=>n⟩
theorem ED:Go.Proofs.SlLaysE0.n41 Tryz.prog EC:={
 mixed:=by kernel_rfl
 f41:=⟨Tryz.f225.name,by decide,Tryz.func225.trans (congrArg some (by kernel_rfl))⟩
 t4:=Tryz.underlying4
 a4:=Tryz.isAgg4
 z4:=Tryz.sizeOf4
 v4:=Tryz.zeroValue4
 t22:=Tryz.underlying139
 a22:=Tryz.isAgg139
 z22:=Tryz.sizeOf139
 v22:=Tryz.zeroValue139 }
theorem jj(w:World)(v:Value)(n:Nat)(cs:List Value)(h:SliceAt w v 1 n cs)(hbig:n≤100000000):Calls Tryz.prog 155 #[v] w fun r w'=>∃ v',r=.returned v'∧w'.ownsRow w.heap.size 9 1 v' n cs∧(v=.slice none 0 0↔v'=.slice none 0 0)∧as5 w.heap.size w w':=
 dF Fh 1 16 (by kernel_rfl) (by decide) (fun w=>Tryz.sizeOf9 w) w v n cs h (atg (atj _ hbig) (by decide))
theorem Fe(w:World)(v:Value)(n:Nat)(cs:List Value)(h:SliceAt w v 5 n cs)(hbig:n≤100000000):Calls Tryz.prog 157 #[v] w fun r w'=>∃ v',r=.returned v'∧w'.ownsRow w.heap.size 184 5 v' n cs∧(v=.slice none 0 0↔v'=.slice none 0 0)∧as5 w.heap.size w w':=
 dF Fc 5 48 (by kernel_rfl) (by decide) (fun w=>Tryz.sizeOf184 w) w v n cs h (atg (atj _ hbig) (by decide))
theorem E_(w:World)(v:Value)(n:Nat)(cs:List Value)(h:SliceAt w v 9 n cs)(hbig:n≤100000000):Calls Tryz.prog 158 #[v] w fun r w'=>∃ v',r=.returned v'∧w'.ownsRow w.heap.size 188 9 v' n cs∧(v=.slice none 0 0↔v'=.slice none 0 0)∧as5 w.heap.size w w':=
 dF E9 9 80 (by kernel_rfl) (by decide) (fun w=>Tryz.sizeOf188 w) w v n cs h (atg (atj _ hbig) (by decide))
theorem E7(w:World)(v:Value)(n:Nat)(cs:List Value)(h:SliceAt w v 11 n cs)(hbig:n≤100000000):Calls Tryz.prog 159 #[v] w fun r w'=>∃ v',r=.returned v'∧w'.ownsRow w.heap.size 192 11 v' n cs∧(v=.slice none 0 0↔v'=.slice none 0 0)∧as5 w.heap.size w w':=
 dF E6 11 96 (by kernel_rfl) (by decide) (fun w=>Tryz.sizeOf192 w) w v n cs h (atg (atj _ hbig) (by decide))
theorem E4(w:World)(v:Value)(n:Nat)(cs:List Value)(h:SliceAt w v 2 n cs)(hbig:n≤100000000):Calls Tryz.prog 160 #[v] w fun r w'=>∃ v',r=.returned v'∧w'.ownsRow w.heap.size 197 2 v' n cs∧(v=.slice none 0 0↔v'=.slice none 0 0)∧as5 w.heap.size w w':=
 dF E3 2 24 (by kernel_rfl) (by decide) (fun w=>Tryz.sizeOf197 w) w v n cs h (atg (atj _ hbig) (by decide))
theorem E1(w:World)(v:Value)(n:Nat)(cs:List Value)(h:SliceAt w v 13 n cs)(hbig:n≤100000000):Calls Tryz.prog 161 #[v] w fun r w'=>∃ v',r=.returned v'∧w'.ownsRow w.heap.size 56 13 v' n cs∧(v=.slice none 0 0↔v'=.slice none 0 0)∧as5 w.heap.size w w':=
 dF E0 13 104 (by kernel_rfl) (by decide) (fun w=>Tryz.sizeOf56 w) w v n cs h (atg (atj _ hbig) (by decide))
theorem EY(w:World)(v:Value)(n:Nat)(cs:List Value)(h:SliceAt w v 13 n cs)(hbig:n≤100000000):Calls Tryz.prog 162 #[v] w fun r w'=>∃ v',r=.returned v'∧w'.ownsRow w.heap.size 84 13 v' n cs∧(v=.slice none 0 0↔v'=.slice none 0 0)∧as5 w.heap.size w w':=
 dF EX 13 112 (by kernel_rfl) (by decide) (fun w=>Tryz.sizeOf84 w) w v n cs h (atg (atj _ hbig) (by decide))
theorem EV(w:World)(v:Value)(n:Nat)(cs:List Value)(h:SliceAt w v 10 n cs)(hbig:n≤100000000):Calls Tryz.prog 163 #[v] w fun r w'=>∃ v',r=.returned v'∧w'.ownsRow w.heap.size 203 10 v' n cs∧(v=.slice none 0 0↔v'=.slice none 0 0)∧as5 w.heap.size w w':=
 dF EU 10 80 (by kernel_rfl) (by decide) (fun w=>Tryz.sizeOf203 w) w v n cs h (atg (atj _ hbig) (by decide))
theorem ES(w:World)(v:Value)(n:Nat)(cs:List Value)(h:SliceAt w v 13 n cs)(hbig:n≤100000000):Calls Tryz.prog 164 #[v] w fun r w'=>∃ v',r=.returned v'∧w'.ownsRow w.heap.size 205 13 v' n cs∧(v=.slice none 0 0↔v'=.slice none 0 0)∧as5 w.heap.size w w':=
 dF ER 13 104 (by kernel_rfl) (by decide) (fun w=>Tryz.sizeOf205 w) w v n cs h (atg (atj _ hbig) (by decide))
theorem EO(w:World)(v:Value)(n:Nat)(cs:List Value)(h:SliceAt w v 8 n cs)(hbig:n≤100000000):Calls Tryz.prog 165 #[v] w fun r w'=>∃ v',r=.returned v'∧w'.ownsRow w.heap.size 125 8 v' n cs∧(v=.slice none 0 0↔v'=.slice none 0 0)∧as5 w.heap.size w w':=
 dF EN 8 72 (by kernel_rfl) (by decide) (fun w=>Tryz.sizeOf125 w) w v n cs h (atg (atj _ hbig) (by decide))
theorem EL(w:World)(v:Value)(n:Nat)(cs:List Value)(h:SliceAt w v 9 n cs)(hbig:n≤100000000):Calls Tryz.prog 166 #[v] w fun r w'=>∃ v',r=.returned v'∧w'.ownsRow w.heap.size 127 9 v' n cs∧(v=.slice none 0 0↔v'=.slice none 0 0)∧as5 w.heap.size w w':=
 dF EK 9 80 (by kernel_rfl) (by decide) (fun w=>Tryz.sizeOf127 w) w v n cs h (atg (atj _ hbig) (by decide))
theorem EI(w:World)(v:Value)(n:Nat)(cs:List Value)(h:SliceAt w v 10 n cs)(hbig:n≤100000000):Calls Tryz.prog 167 #[v] w fun r w'=>∃ v',r=.returned v'∧w'.ownsRow w.heap.size 129 10 v' n cs∧(v=.slice none 0 0↔v'=.slice none 0 0)∧as5 w.heap.size w w':=
 dF EH 10 88 (by kernel_rfl) (by decide) (fun w=>Tryz.sizeOf129 w) w v n cs h (atg (atj _ hbig) (by decide))
theorem EF(w:World)(v:Value)(n:Nat)(cs:List Value)(h:SliceAt w v 1 n cs)(hbig:n≤100000000):Calls Tryz.prog 225 #[v] w fun r w'=>∃ v',r=.returned v'∧w'.ownsRow w.heap.size 52 1 v' n cs∧(v=.slice none 0 0↔v'=.slice none 0 0)∧as5 w.heap.size w w':=
 dF ED 1 8 (by kernel_rfl) (by decide) (fun w=>Tryz.sizeOf52 w) w v n cs h (atg (atj _ hbig) (by decide))
end Go.Proofs.YtdcofoaihmongaaGreat
namespace Go.Proofs.YtdcofoaihmongaaGreat
open Go Go.RowKit
def W5(w:World)(base:Nat)(cs:List Value)(x:ak×Int):Prop:=∃ v,cs=x.1.cells++[v]∧bO w base v x.2
def gE(w:World)(base:Nat)(v:Value)(l:List (ak×Int)):Prop:=aC 14 (W5 w base) w v l
theorem W5.keep{w w':World}{base:Nat}{cs:List Value}{x:ak×Int}(h:W5 w base cs x)(hb:as5 w.heap.size w w'):W5 w' base cs x:=by
 obtain⟨v,e,hs⟩:=h;exact⟨v,e,hs.keep hb⟩
theorem gE.keep{w w':World}{base:Nat}{v:Value}{l:List (ak×Int)}(h:gE w base v l)(hb:as5 w.heap.size w w'):gE w' base v l:=aC.mono h hb fun _ _ h=>h.keep hb
theorem zL{w:World}{b o:Nat}{r:ak}{v:Value}(h:∀ j u,(r.cells++[v])[j]?=some u→w.cell? ⟨b,o+j,none⟩=some u):
 ∀ j uu,[.int .i64 r.kind,.int .u64 r.src.a,.int .u64 r.src.b,.int .u64 r.src.c,.int .u64 r.src.d,.int .u64 r.tgt.a,.int .u64 r.tgt.b,.int .u64 r.tgt.c,.int .u64 r.tgt.d,.bool r.self,.int .i64 r.cls,.int .u32 r.perms,.int .i64 r.cond,v][j]?=some uu→w.cell? ⟨b,o+j,none⟩=some uu:=h
theorem MN{w:World}{base e g c:Nat}{x:Value}(h:w.ownsRow base e 1 (.slice (some ⟨g,0,none⟩) 1 c) 1 [x]):w.cell? ⟨g,0,none⟩=some x:=by
 have:=h.cells (g:=g) rfl 0 x rfl;simpa[Addr.add] using this
def ld(r:ak)(s t:Int):Bool:=r.src.mem s&&(r.tgt.mem t||(r.self&&decide (s=t)))
def vh(s t bit acc:Int)(y:ak×Int):Int:=if (decide (bits .and .u32 y.1.perms bit=0)||!(ld y.1 s t))=true then acc else bits .andNot .u64 acc y.2
def Oo(x:Int)(l:List (ak×Int))(s t bit:Int):Bool:=decide (l.foldl (vh s t bit) x=0)
theorem Va{s t bit acc x:Int}{l:List (ak×Int)}{m:Nat}{y:ak×Int}(hy:l[m]?=some y)(h:acc=(l.take m).foldl (vh s t bit) x)(hq:(decide (bits .and .u32 y.1.perms bit=0)||!(ld y.1 s t))=true):acc=(l.take (m+1)).foldl (vh s t bit) x:=by
 rw[bD hy,List.foldl_append,← h];exact(if_pos hq).symm
theorem YE{s t bit acc x:Int}{l:List (ak×Int)}{m:Nat}{y:ak×Int}(hy:l[m]?=some y)(h:acc=(l.take m).foldl (vh s t bit) x)(hq:(decide (bits .and .u32 y.1.perms bit=0)||!(ld y.1 s t))=false):bits .andNot .u64 acc y.2=(l.take (m+1)).foldl (vh s t bit) x:=by
 rw[bD hy,List.foldl_append,← h];exact(if_neg (by rw[hq];decide)).symm
theorem Vb{s t bit acc x:Int}{l:List (ak×Int)}{m:Nat}(hm:m=l.length)(h:acc=(l.take m).foldl (vh s t bit) x):decide (acc=0)=Oo x l s t bit:=by
 subst hm;rw[atk] at h;rw[h];rfl
def kW(x y:ak):Bool:=(decide (y.kind=x.kind)&&decide (y.cls=x.cls))&&!decide (bits .and .u32 y.perms x.perms=0)
def mK(k:Nat):Int:=if k<32 then 2^k else 0
def IU(x:ak×Int)(near:List (ak×Int))(s t:Int)(k:Nat):Bool:=!(decide (bits .and .u32 x.1.perms (mK k)=0))&&!Oo x.2 near s t (mK k)
def ji(x:ak×Int)(l:List (ak×Int)):Bool:=
 decide (x.2=0)||x.1.pairs.all fun p=>(List.range 32).all fun k=>!IU x (l.filter fun y=>kW x.1 y.1) p.1 p.2 k
def qI(a b:List (ak×Int)):Bool:=a.all fun x=>ji x b
theorem vm{w:World}{g c:Nat}{x:Value}(hs:w.cell? ⟨g,0,none⟩=some x)(h1:x.oneCell'=true:=by rfl)(hc:1≤c:=by decide):SliceAt w (.slice (some ⟨g,0,none⟩) 1 c) 1 1 [x]:=
 ⟨rfl,by decide,fun u hu=>by rw[ati.1 hu];exact h1,.inr ⟨_,_,rfl,hc,fun j u hu=>by
  match j with
  | 0=>
   obtain rfl:x=u:=by simpa using hu
   exact hs
  | j+1=>simp at hu⟩⟩
theorem BS(w:World)(v:Value)(n:Nat)(cs:List Value)(h:SliceAt w v 1 n cs)(hbig:n≤100000000):Calls Tryz.prog 225 #[v] w fun r w'=>∃ v',r=.returned v'∧((w'.ownsRow w.heap.size 52 1 v' n cs∧(v=.slice none 0 0↔v'=.slice none 0 0))∧as5 w.heap.size w w'):=
 (EF w v n cs h hbig).mono fun _ _ ⟨v',e,h1,h2,h3⟩=>⟨v',e,⟨h1,h2⟩,h3⟩
theorem PA(w0:World)(q:ak)(hq:q.Ok)(s t:Int):Calls Tryz.prog 226 #[.agg #[.int .i64 q.kind,.int .u64 q.src.a,.int .u64 q.src.b,.int .u64 q.src.c,.int .u64 q.src.d,.int .u64 q.tgt.a,.int .u64 q.tgt.b,.int .u64 q.tgt.c,.int .u64 q.tgt.d,.bool q.self,.int .i64 q.cls,.int .u32 q.perms,.int .i64 q.cond],.int .i64 s,.int .i64 t] w0 (fun(r:Ending) (w':World)=>r=.returned (.bool (ld q s t))∧as5 w0.heap.size w0 w'):=by
 have aM:=hr1 Tryz.prog Tryz.f226 (fun(r:Ending) (w':World)=>r=.returned (.bool (ld q s t))∧as5 w0.heap.size w0 w') 26 6 rfl;refine en Tryz.func226 rfl Tryz.ntmps226 rfl (vs:=[.agg #[.int .i64 q.kind,.int .u64 q.src.a,.int .u64 q.src.b,.int .u64 q.src.c,.int .u64 q.src.d,.int .u64 q.tgt.a,.int .u64 q.tgt.b,.int .u64 q.tgt.c,.int .u64 q.tgt.d,.bool q.self,.int .i64 q.cls,.int .u32 q.perms,.int .i64 q.cond],.int .i64 s,.int .i64 t]) rfl fun _ F=>?_
 have M:=Mm.start w0;refine atc fun K1 dw=>ah<|oG (on rfl) rfl (F.u rf) rfl F rfl M fun g1 _ _ F M=>xA (v:=.bool false) F rf rf rf fun _ F=>atd<|dw _ _ ?_
 refine atc fun K2 cQ=>ah<|xF 1 F rf rf rf Qw rf zB rf fun _ F=>kz F rf (bT [.int .u64 q.src.a,.int .u64 q.src.b,.int .u64 q.src.c,.int .u64 q.src.d] rfl (F.u rf) Xe rfl zB (fU (M.b 0 rfl) rfl)) fun _ F=>xM F rf rf rf fun _ F=>xC F M rf rf afR (args2 (F.u rf) (F.u rf)) (yU _ q.src hq.src s) fun _ _ F M=>xM F rf rf rf fun _ F=>bU (x:=.pointer (some ⟨g1,5,none⟩)) rfl rfl (F.g 11 rfl) (bt _) (fun ge=>(aI rfl (F.u rf) Qw rfl zB)) rfl F rfl rfl fun _ F=>bU (x:=.agg #[.int .u64 q.tgt.a,.int .u64 q.tgt.b,.int .u64 q.tgt.c,.int .u64 q.tgt.d]) rfl rfl (F.g 11 rfl) (bt _) (fun ge=>(bT [.int .u64 q.tgt.a,.int .u64 q.tgt.b,.int .u64 q.tgt.c,.int .u64 q.tgt.d] rfl ((F.g 12 rfl).on ge).ev Xe rfl zB (fU (M.b 0 rfl) rfl))) rfl F rfl rfl fun _ F=>bU (x:=.int .i64 t) rfl rfl (F.g 11 rfl) (bt _) (fun ge=>(bC rfl (F.u rf))) rfl F rfl rfl fun _ F=>k_ rfl rfl (F.g 11 rfl) (bt _) (fun ge=>(bw rfl Tryz.func191 acu rfl (args2 ((F.g 13 rfl).on ge).ev ((F.g 14 rfl).on ge).ev))) (fun ge=>yU _ q.tgt hq.tgt t) rfl F rfl M fun _ _ F M=>bU (x:=.bool (q.tgt.mem t)) rfl rfl (F.g 11 rfl) (bt _) (fun ge=>(bC rfl ((F.g 15 rfl).on ge).ev)) rfl F rfl rfl fun _ F=>Y9 (x:=.pointer (some ⟨g1,9,none⟩)) rfl rfl (F.g 16 rfl) (bf _) (fun ge=>(aI rfl (F.u rf) Qw rfl sz4)) rfl F rfl rfl fun _ F=>Y9 (x:=.bool q.self) rfl rfl (F.g 16 rfl) (bf _) (fun ge=>(aD rfl ((F.g 17 rfl).on ge).ev u4 rfl ((M.b 0 rfl).c1 9))) rfl F rfl rfl fun _ F=>Y9 (x:=.bool q.self) rfl rfl (F.g 16 rfl) (bf _) (fun ge=>(bC rfl ((F.g 18 rfl).on ge).ev)) rfl F rfl rfl fun _ F=>Y9 (x:=.int .i64 s) rfl rfl (F.g 19 rfl) (bt _) (fun ge=>(bC rfl (F.u rf))) rfl F rfl rfl fun _ F=>Y9 (x:=.int .i64 t) rfl rfl (F.g 19 rfl) (bt _) (fun ge=>(bC rfl (F.u rf))) rfl F rfl rfl fun _ F=>Y9 (x:=.bool (decide (s=t))) rfl rfl (F.g 19 rfl) (bt _) (fun ge=>(eX rfl ((F.g 20 rfl).on ge).ev ((F.g 21 rfl).on ge).ev)) rfl F rfl rfl fun _ F=>Y9 (x:=.bool (q.self&&(decide (s=t)))) rfl rfl (F.g 16 rfl) (bf _) (fun ge=>(rq (bq rfl ((F.g 19 rfl).on ge).ev ((F.g 22 rfl).on2 ge).ev rfl) (qH _ _))) rfl F rfl rfl fun _ F=>bU (x:=.bool ((q.tgt.mem t)||(q.self&&(decide (s=t))))) rfl rfl (F.g 11 rfl) (bt _) (fun ge=>(rq (bq rfl ((F.g 16 rfl).on ge).ev rfl ((F.g 23 rfl).on2 ge).ev) (pkT _ _))) rfl F rfl rfl fun _ F=>kz F rf (rq (bq rfl (F.u rf) (F.u rf) rfl) (qH _ _)) fun _ F=>xA F rf rf rf fun _ F=>atd<|cQ _ _ ?_
 refine wp_ret<|aM _ _ _ _ F rfl ?_;exact⟨rfl,M.below⟩
theorem Dz(w0:World)(x:ak×Int)(gx:Nat)(hxc:w0.cell? ⟨gx,0,none⟩=some (.int .u64 x.2))(base:Nat)(lv:Value)(l:List (ak×Int))(hL:gE w0 base lv l)(hcl:l.length≤1000)(hok:∀ y∈l,y.1.Ok)(s t bit:Int):Calls Tryz.prog 154 #[.agg #[.int .i64 x.1.kind,.int .u64 x.1.src.a,.int .u64 x.1.src.b,.int .u64 x.1.src.c,.int .u64 x.1.src.d,.int .u64 x.1.tgt.a,.int .u64 x.1.tgt.b,.int .u64 x.1.tgt.c,.int .u64 x.1.tgt.d,.bool x.1.self,.int .i64 x.1.cls,.int .u32 x.1.perms,.int .i64 x.1.cond,.slice (some ⟨gx,0,none⟩) 1 1],lv,.int .i64 s,.int .i64 t,.int .u32 bit] w0 (fun(r:Ending) (w':World)=>r=.returned (.bool (Oo x.2 l s t bit))∧as5 w0.heap.size w0 w'):=by
 obtain⟨_,_,rfl,-⟩:=aC.form hL (by decide);refine fL [] (fn:=Tryz.f154) Tryz.func154 rfl Tryz.ntmps154 rfl<|fun g1 w1 M1=>lb 0<|an rfl<|cg<|an (BS _ _ 1 [.int .u64 x.2] (vm (as8 M1.below hxc)) (by decide)) fun lv w2 ⟨⟨ho,_⟩,hb⟩=>⟨_,_,M1.rQ (r:=⟨lv,52,1,1,[.int .u64 x.2]⟩) hb ho,?_⟩
 obtain⟨lg,cp,_,rfl,-,-,hlc,-⟩:=tH ho (Nat.zero_lt_one);refine lq (ι:=Nat×Int) (fun(m,acc)=>[(20,.int .i64 (m:Int))]) (fun(m,acc)=>[⟨.slice (some ⟨lg,0,none⟩) 1 cp,52,1,1,[.int .u64 acc]⟩]) (fun(m,acc) _=>m≤l.length∧acc=(l.take m).foldl (vh s t bit) x.2) (fun(m,acc)=>l.length-m) (0,x.2) (an ⟨⟨rfl,trivial⟩,fun M=>⟨M,as9 _,rfl⟩⟩ ?_);rintro⟨m,acc⟩ w M ⟨hm,hacc⟩;refine an (fun h=>?_) fun h=>cl<|an (zS _ lg cp _ (MN (M.r 0 rfl))) fun w7 M7=>fun M=>⟨rb (Vb (by simp at h;omega) hacc).symm,M.below⟩
 have hlt:m<l.length:=by simp at h;omega
 obtain⟨y,hy⟩:∃ y,l[m]?=some y:=⟨_,as7 hlt⟩;obtain⟨b,o,_,e1,⟨_,rfl,gy,rfl,hwy,Ux⟩,hc⟩:=aC.elt hL (by decide) hy;refine ia<|an ⟨e1,rfl,hlt⟩<|lc (x:=_)<|an (dJ M.below (zL hc))<|ei<|an wH fun g2 w3 M3=>lb 0<|an ⟨rfl,rfl⟩ fun w4 M4=>lb 0<|an rfl<|ei (x:=bits .and .u32 y.1.perms bit)<|an rfl<|lb 0<|an (fun _=>rfl)<|cl<|an (fun _=>PA _ y.1 (hok y (atb hy)) s t) fun w5 M5=>?_
 refine an (fun hq=>an (by omega)<|bk (m+1,acc) ⟨rfl,trivial⟩ (fun M=>⟨M.only (.cons _ (.refl _)) (.refl _),by omega,Va hy hacc hq⟩) (by dsimp only;omega)) fun hq=>?_
 refine lq (ι:=Nat×Int) (fun(k,z)=>[(40,.int .i64 (k:Int))]) (fun(k,z)=>[⟨.slice (some ⟨lg,0,none⟩) 1 cp,52,1,1,[.int .u64 z]⟩]) (fun(k,z) _=>k≤1∧(k=0→z=acc)∧(k=1→z=(l.take (m+1)).foldl (vh s t bit) x.2)) (fun(k,z)=>1-k) (0,acc) (an ⟨⟨rfl,trivial⟩,fun M=>⟨M,as9 _,fun _=>rfl,fun h=>by cases h⟩⟩ ?_);rintro⟨k,z⟩ w M ⟨hk,hz0,hz1⟩;refine an (fun h2=>?_) fun h2=>an (by omega)<|bk (m+1,z) ⟨rfl,trivial⟩ (fun M=>⟨M.only (.cons _ (.refl _)) (.refl _),by omega,hz1 (by simp at h2;omega)⟩) (by dsimp only;omega)
 obtain rfl:k=0:=by simp at h2;omega
 obtain rfl:=hz0 rfl;refine dr (by kernel_rfl)<|ia (i:=0)<|an ⟨rfl,rfl,by decide⟩<|lc (x:=.int .u64 z)<|an (MN (M.r 0 rfl))<|lb 0<|an rfl<|ia (i:=0)<|an ⟨rfl,rfl,by decide⟩<|lc (x:=.int .u64 y.2)<|an (as8 M.below ((Whole.cell hwy) 0))<|ei (x:=bits .andNot .u64 z y.2)<|an rfl<|ia (i:=0)<|an ⟨rfl,rfl,by decide⟩<|fun w hb M=>sr 0 0 ⟨rfl,rfl,by decide⟩ rfl fun w M=>an (by omega)<|bk (1,bits .andNot .u64 z y.2) ⟨rfl,trivial⟩ (fun M=>⟨M,by omega,(fun h=>by cases h),fun _=>YE hy hacc hq⟩) (by dsimp only;omega)
def lP(z:(ak×Int)×Nat):List Value:=z.1.1.cells++[.slice (some ⟨z.2,0,none⟩) 1 1]
theorem vO(z:(ak×Int)×Nat):(lP z).length=14:=rfl
def cH{α:Type}(w:World)(base:Nat)(N:List ((α×Int)×Nat)):Prop:=∀ z∈N,Whole w z.2 52 #[.int .u64 z.1.2]∧base≤z.2
theorem cH.snoc{α:Type}{w:World}{base g:Nat}{N:List ((α×Int)×Nat)}{y:α×Int}(h:cH w base N)(hw:Whole w g 52 #[.int .u64 y.2])(hg:base≤g):cH w base (N++[(y,g)]):=fun z hz=>by
 rcases List.mem_append.1 hz with h1|h1
 ·exact h z h1
 ·rw[ati.1 h1];exact⟨hw,hg⟩
theorem cH.keep{α:Type}{w w':World}{base:Nat}{N:List ((α×Int)×Nat)}(h:cH w base N)(hb:as5 w.heap.size w w'):cH w' base N:=fun z hz=>⟨Whole.under hb (h z hz).1 (h z hz).1.lt,(h z hz).2⟩
theorem CF(N:List ((ak×Int)×Nat)):∀ u∈N.flatMap lP,u.oneCell'=true:=fun u hu=>by
 obtain⟨z,-,hz⟩:=List.mem_flatMap.1 hu;simp only[lP,ak.cells,List.mem_append,as_,List.not_mem_nil,or_false] at hz;rcases hz with(rfl|rfl|rfl|rfl|rfl|rfl|rfl|rfl|rfl|rfl|rfl|rfl|rfl)|rfl<;>rfl
theorem KH{w:World}{base b n:Nat}{v:Value}{N:List ((ak×Int)×Nat)}(ho:w.ownsRow b 146 14 v n (N.flatMap lP))(hn:n=N.length)(hN:cH w base N):gE w base v (N.map (·.1)):=by
 subst hn;refine⟨N.map lP,by simp,fun x hx=>?_,?_,fun i x y hx hy=>?_⟩
 ·obtain⟨z,-,rfl⟩:=atl.1 hx;exact vO z
 ·rw[← List.flatMap_def,atm];exact SliceAt.bM ho (CF N)
 ·rw[atn] at hx hy
  cases hz:N[i]? with
  | none=>rw[hz] at hx;simp at hx
  | some z=>
   rw[hz] at hx hy;simp only[Option.map_some,Option.some.injEq] at hx hy;subst hx hy;obtain⟨h1,h2⟩:=hN z (atb hz);exact⟨_,rfl,z.2,rfl,h1,h2⟩
theorem fI{w:World}{base e k n:Nat}{v:Value}{xs:List Value}(h:w.ownsRow base e k v n xs):∃ a c,v=.slice a n c∧n≤c∧n≤9223372036854775807:=by
 rcases h.2 with⟨rfl,rfl⟩|⟨g,cap,cur,rfl,-,-,h1,h2,-⟩
 ·exact⟨none,0,rfl,Nat.le_refl _,by decide⟩
 ·exact⟨_,_,rfl,h1,atg h1 h2⟩
theorem MH{α:Type}{w:World}{base e k n c:Nat}{a:Option Addr}{f:α→List Value}{l:List α}(h:w.ownsRow base e k (.slice a n c) n (l.flatMap f))(hf:∀ x,(f x).length=k){m:Nat}{y:α}(hy:l[m]?=some y)(_:0<k)(hn:n=l.length):
 ∃ g,a=some ⟨g,0,none⟩∧∀ j uu,(f y)[j]?=some uu→w.cell? ⟨g,0+m*k+j,none⟩=some uu:=by
 have hm:=(ata.1 hy).1;obtain⟨g,cap,cur,hv,-,-,-⟩:=tH h (by omega);injection hv with e1 e2 e3;refine⟨g,e1,fun j u hu=>?_⟩;have hj:j<k:=by rw[← hf y];exact(ata.1 hu).1
 have:=h.cells (g:=g) (by rw[e1];rfl) (m*k+j) u (by rw[gN hf hy j hj];exact hu);rw[Addr.add_lit] at this;simpa using this
theorem P7:∀ k:Nat,k<32→IntKind.u32.wrap (mK k*2^((1:Int)).toNat)=mK (k+1):=by decide
theorem WI:∀ k:Nat,k<32→decide (mK k=0)=false:=by decide
theorem T5:mK 32=0:=by decide
theorem Ue{α:Type}{p:α→Bool}{l:List α}{m:Nat}{y:α}(hy:l[m]?=some y)(h:(l.take m).all p=true)(hp:p y=true):(l.take (m+1)).all p=true:=by
 rw[bD hy,List.all_append,h];simp[hp]
theorem Ud{α:Type}{p:α→Bool}{l:List α}{m:Nat}{y:α}(hy:l[m]?=some y)(hp:p y=false):l.all p=false:=by
 rw[Bool.eq_false_iff];intro h;have:=ato.1 h y (atb hy);rw[hp] at this;cases this
theorem Ki{p:Nat→Bool}{k:Nat}(h:(List.range k).all p=true)(hp:p k=true):(List.range (k+1)).all p=true:=by
 rw[List.range_succ,List.all_append,h];simp[hp]
theorem Kh{p:Nat→Bool}{k n:Nat}(hk:k<n)(hp:p k=false):(List.range n).all p=false:=by
 rw[Bool.eq_false_iff];intro h;have:=ato.1 h k (List.mem_range.2 hk);rw[hp] at this;cases this
theorem WB{x:ak×Int}{l near:List (ak×Int)}{m:Nat}(hn:near=l.filter fun y=>kW x.1 y.1)(hm:m=x.1.pairs.length)(h:((x.1.pairs.take m).all fun p=>(List.range 32).all fun k=>!IU x near p.1 p.2 k)=true):true=ji x l:=by
 subst hm hn;rw[atk] at h;unfold ji;rw[h,Bool.or_true]
theorem aau{x:ak×Int}{l near:List (ak×Int)}{m k:Nat}{p:Nat×Nat}(hn:near=l.filter fun y=>kW x.1 y.1)(hp:x.1.pairs[m]?=some p)(hk:k<32)(hx:decide (x.2=0)=false)(hb:IU x near p.1 p.2 k=true):false=ji x l:=by
 subst hn;unfold ji;rw[hx,Bool.false_or];refine(Ud hp ?_).symm;exact Kh hk (by rw[hb];rfl)
theorem RY{x:ak}{l:List (ak×Int)}{N:List ((ak×Int)×Nat)}{m g:Nat}{y:ak×Int}(hy:l[m]?=some y)(h:N.map (·.1)=(l.take m).filter fun y=>kW x y.1)(hq:kW x y.1=true):(N++[(y,g)]).map (·.1)=(l.take (m+1)).filter fun y=>kW x y.1:=by
 rw[bD hy,List.filter_append,← h,atp];simp[hq]
theorem VO{x:ak}{l:List (ak×Int)}{N:List ((ak×Int)×Nat)}{m:Nat}{y:ak×Int}(hy:l[m]?=some y)(h:N.map (·.1)=(l.take m).filter fun y=>kW x y.1)(hq:kW x y.1=false):N.map (·.1)=(l.take (m+1)).filter fun y=>kW x y.1:=by
 rw[bD hy,List.filter_append,← h];simp[hq]
theorem Pf(l:List Nat):ints l=l.flatMap fun x:Nat=>[Value.int .i64 (x:Int)]:=by unfold ints;induction l<;>simp_all
theorem Sq{w:World}{base n c:Nat}{a:Option Addr}{l:List Nat}(h:w.ownsRow base 3 1 (.slice a n c) n (ints l)){m y:Nat}(hy:l[m]?=some y)(hn:n=l.length):∃ g,a=some ⟨g,0,none⟩∧w.cell? ⟨g,0+m*1,none⟩=some (.int .i64 (y:Int)):=by
 obtain⟨g,e,hc⟩:=MH (k:=1) (f:=fun x:Nat=>[Value.int .i64 (x:Int)]) (l:=l) (by rw[← Pf];exact h) (fun _=>rfl) hy (by decide) hn;exact⟨g,e,hc 0 _ rfl⟩
theorem OE(w0:World)(r:ak)(hr:r.Ok):Calls Tryz.prog 59 #[.agg #[.int .i64 r.kind,.int .u64 r.src.a,.int .u64 r.src.b,.int .u64 r.src.c,.int .u64 r.src.d,.int .u64 r.tgt.a,.int .u64 r.tgt.b,.int .u64 r.tgt.c,.int .u64 r.tgt.d,.bool r.self,.int .i64 r.cls,.int .u32 r.perms,.int .i64 r.cond]] w0 fun e w'=>∃ v,e=.returned v∧(w'.ownsRow w0.heap.size 111 2 v r.pairs.length (gZ r.pairs)∧as5 w0.heap.size w0 w'):=by
 refine fL [] (fn:=Tryz.f59) Tryz.func59 rfl Tryz.ntmps59 rfl<|fun g1 w1 M1=>lb 0<|an rfl<|cw M1 (z8 _ r.src hr.src) fun u1 w2 M2=>?_
 obtain⟨a1,c1,rfl,-,-⟩:=fI (v:=u1) (n:=(elems r.src).length) (M2.r 0 rfl);have hn1:(elems r.src).length≤256:=iL _ _;refine lq (ι:=Nat×Value) (fun(k,u)=>[(3,u),(13,.int .i64 (k:Int))]) (fun(k,u)=>⟨u,111,2,(r.dO ((elems r.src).take k)).length,gZ (r.dO ((elems r.src).take k))⟩::_) (fun(k,u) _=>k≤(elems r.src).length) (fun(k,u)=>(elems r.src).length-k) (0,.slice none 0 0) (an ⟨⟨rfl,rfl,trivial⟩,fun M=>⟨M.bX 111 2,as9 _⟩⟩ ?_);rintro⟨k,u⟩ w M hk;refine an (fun h=>?_) fun h=>?_
 ·have hlt:k<(elems r.src).length:=by simp at h;omega
  obtain⟨s,hs⟩:∃ s,(elems r.src)[k]?=some s:=⟨_,as7 hlt⟩;obtain⟨g,e,hc⟩:=Sq (M.r 1 rfl) hs rfl;have hP:=wU r ((elems r.src).take k);have hP2:=List.length_take_le k (elems r.src);have V5:=bD hs;refine ia<|an ⟨e,rfl,hlt⟩<|lc (x:=.int .i64 (s:Int))<|an hc<|lb 0<|an rfl<|ei<|an QI fun g2 w3 M3=>lb 0<|an ⟨rfl,rfl⟩ fun w4 M4=>lb 1<|an rfl<|?_
  have hT:elems (r.tgts s)=if r.self=true then elems (r.tgt.with s) else elems r.tgt:=by unfold ak.tgts;split<;>rfl
  refine an (fun hf=>?_) fun hf=>?_
  rw[if_pos hf] at hT;refine lb 0<|an rfl<|cl<|an (Q9 _ r.tgt hr.tgt s) fun w5 M5=>lb 0<|an ⟨rfl,rfl⟩ fun w6 M6=>lb 0<|an rfl<|cw M6 (z8 _ (r.tgt.with s) (au.Dp hr.tgt s)) fun u2 w7 M7=>?_
  obtain⟨a2,c2,rfl,-,-⟩:=fI (v:=u2) (n:=(elems (r.tgt.with s)).length) (M7.r 0 rfl);generalize elems (r.tgt.with s)=l2 at *
  rotate_left
  rw[if_neg (by rw[hf];decide)] at hT;refine lb 0<|an rfl<|cw M4 (z8 _ r.tgt hr.tgt) fun u2 w7 M7=>?_
  obtain⟨a2,c2,rfl,-,-⟩:=fI (v:=u2) (n:=(elems r.tgt).length) (M7.r 0 rfl);generalize elems r.tgt=l2 at *
  all_goals
   subst hT;have hn2:(elems (r.tgts s)).length≤256:=iL _ _;refine lq (ι:=Nat×Value) (fun(q,u)=>[(3,u),(27,.int .i64 (q:Int))]) (fun(q,u)=>[_,⟨u,111,2,(r.dO ((elems r.src).take k)).length+q,gZ (r.dO ((elems r.src).take k))++gZ (((elems (r.tgts s)).take q).map fun t=>(s,t))⟩,_]) (fun(q,u) _=>q≤(elems (r.tgts s)).length) (fun(q,u)=>(elems (r.tgts s)).length-q) (0,u) (an ⟨⟨rfl,rfl,trivial⟩,fun M=>⟨M.cast rfl (by dsimp only;rw[List.take_zero,List.map_nil,show gZ []=[] from rfl,List.append_nil,Nat.add_zero]),as9 _⟩⟩ ?_);rintro⟨q,u⟩ w M hq;refine an (fun h=>?_) fun h=>?_
   ·have hlt:q<(elems (r.tgts s)).length:=by simp at h;omega
    obtain⟨y,hy⟩:∃ y,(elems (r.tgts s))[q]?=some y:=⟨_,as7 hlt⟩;obtain⟨g,e,hc⟩:=Sq (M.r 0 rfl) hy rfl;refine ia<|an ⟨e,rfl,hlt⟩<|lc (x:=.int .i64 (y:Int))<|an hc<|ei (x:=.agg #[.int .i64 (s:Int),.int .i64 (y:Int)])<|an (bd (by kernel_rfl))<|fun g3 w8 M8=>ap 1 id rfl (M8.slice 0 rfl (k:=2) (n:=1) rfl rfl (by simp[maxLen])) ⟨by unfold maxLen;omega,by omega⟩ fun v4 w9 M9=>an (by omega)<|bk (q+1,v4) ⟨rfl,rfl,trivial⟩ (fun M=>⟨(M.only (.cons _ (.refl _)) (.refl _)).cast rfl (by dsimp only;rw[bD hy,atp,nJ,← List.append_assoc];rfl),by dsimp only;omega⟩) (by dsimp only;omega)
   obtain rfl:q=(elems (r.tgts s)).length:=by simp at h;omega
   exact an (by omega)<|bk (k+1,u) ⟨rfl,rfl,trivial⟩ (fun M=>⟨(M.only (.cons _ (.refl _)) (.cons _ (.refl _))).cast rfl (by dsimp only;rw[atk,V5,tG,nJ,atq,atm]),by dsimp only;omega⟩) (by dsimp only;omega)
 obtain rfl:k=(elems r.src).length:=by simp at h;omega
 exact fun M=>⟨_,rfl,by have h:=M.r 0 rfl;rw[atk] at h;exact h,M.below⟩
theorem xq(w0:World)(x:ak×Int)(hxo:x.1.Ok)(gx:Nat)(hxc:w0.cell? ⟨gx,0,none⟩=some (.int .u64 x.2))(base:Nat)(lv:Value)(l:List (ak×Int))(hL:gE w0 base lv l)(hcl:l.length≤1000)(hok:∀ y∈l,y.1.Ok):Calls Tryz.prog 80 #[.agg #[.int .i64 x.1.kind,.int .u64 x.1.src.a,.int .u64 x.1.src.b,.int .u64 x.1.src.c,.int .u64 x.1.src.d,.int .u64 x.1.tgt.a,.int .u64 x.1.tgt.b,.int .u64 x.1.tgt.c,.int .u64 x.1.tgt.d,.bool x.1.self,.int .i64 x.1.cls,.int .u32 x.1.perms,.int .i64 x.1.cond,.slice (some ⟨gx,0,none⟩) 1 1],lv] w0 (fun(r:Ending) (w':World)=>r=.returned (.bool (ji x l))∧as5 w0.heap.size w0 w'):=by
 obtain⟨_,_,rfl,-⟩:=aC.form hL (by decide);refine fL [] (fn:=Tryz.f80) Tryz.func80 rfl Tryz.ntmps80 rfl<|fun g1 w1 M1=>lb 0<|an rfl<|cl<|an (zS _ gx 1 _ (as8 M1.below hxc)) fun w2 M2=>an (fun h=>fun M=>⟨rb (by unfold ji;rw[h];rfl),M.below⟩) fun h0=>lq (ι:=Nat×Value×List ((ak×Int)×Nat)) (fun(m,v,N)=>[(5,v),(16,.int .i64 (m:Int))]) (fun(m,v,N)=>[⟨v,146,14,N.length,N.flatMap lP⟩]) (fun(m,v,N) _=>m≤l.length∧N.map (·.1)=((l.take m).filter fun y=>kW x.1 y.1)∧cH w0 base N) (fun(m,v,N)=>l.length-m) (0,.slice none 0 0,[]) (an ⟨⟨rfl,rfl,trivial⟩,fun M=>⟨M.bX 146 14,as9 _,rfl,(fun _ h=>by cases h)⟩⟩ ?_)
 rintro⟨m,v,N⟩ w M ⟨hm,BJ,hN⟩;refine an (fun h=>?_) fun h=>?_
 ·have hlt:m<l.length:=by simp at h;omega
  obtain⟨y,hy⟩:∃ y,l[m]?=some y:=⟨_,as7 hlt⟩;obtain⟨b,o,_,e1,⟨_,rfl,gy,rfl,hwy,Ux⟩,hc⟩:=aC.elt hL (by decide) hy
  have hlN:N.length≤1000:=by
   have h:=congrArg List.length BJ;rw[atm] at h;rw[h];exact atg (List.length_filter_le _ _) (by rw[List.length_take];omega)
  exact ia<|an ⟨e1,rfl,hlt⟩<|lc<|an (dJ M.below (zL hc))<|ei<|an wH fun g2 w3 M3=>lb 0<|an ⟨rfl,rfl⟩ fun w4 M4=>lb 0<|an rfl<|lb 1<|an rfl<|lb 0<|an (fun _=>rfl)<|lb 1<|an (fun _=>rfl)<|lb 0<|an (fun _=>rfl)<|lb 1<|an (fun _=>rfl)<|ei (x:=bits .and .u32 y.1.perms x.1.perms)<|an (fun _=>rfl)<|an (fun hq=>lb 0<|an rfl<|fun g3 w5 M5=>ap 0 id rfl (M5.slice 0 rfl (k:=14) (n:=1) rfl rfl (by simp[maxLen])) ⟨by unfold maxLen;omega,by omega⟩ fun v4 w6 M6=>an (by omega)<|bk (m+1,v4,N++[(y,gy)]) ⟨rfl,rfl,trivial⟩ (fun M=>⟨(M.only (.cons _ (.cons _ (.refl _))) (.refl _)).cast rfl (by dsimp only;rw[atq,atr];rfl),by omega,RY hy BJ hq,hN.snoc hwy Ux⟩) (by dsimp only;omega)) fun hq=>an (by omega)<|bk (m+1,v,N) ⟨rfl,rfl,trivial⟩ (fun M=>⟨M.only (.cons _ (.refl _)) (.refl _),by omega,VO hy BJ hq,hN⟩) (by dsimp only;omega)
 obtain rfl:m=l.length:=by simp at h;omega
 rw[atk] at BJ;refine lb 0<|an rfl<|cw M (OE _ x.1 hxo) fun u w7 M7=>?_
 obtain⟨pa,pc,rfl,-,hpl⟩:=fI (v:=u) (n:=x.1.pairs.length) (M7.r 0 rfl);refine lr (ι:=Nat) (fun m=>[(55,.int .i64 (m:Int))]) (fun m _=>m≤x.1.pairs.length∧((x.1.pairs.take m).all fun p=>(List.range 32).all fun k=>!IU x (N.map (·.1)) p.1 p.2 k)=true) (fun m=>x.1.pairs.length-m) 0 (an ⟨⟨rfl,trivial⟩,fun M=>⟨M,as9 _,rfl⟩⟩ ?_);intro m w8 M8 ⟨hm,hall⟩;refine an (fun h2=>?_) fun h2 M=>⟨rb (WB BJ (by simp at h2;omega) hall).symm,M.below⟩
 have hlt:m<x.1.pairs.length:=by simp at h2;omega
 obtain⟨p,hp⟩:∃ p,x.1.pairs[m]?=some p:=⟨_,as7 hlt⟩;obtain⟨pg,e1,hc⟩:=MH (k:=2) (f:=GN) (M8.r 0 rfl) (fun _=>rfl) hp (by decide) rfl;refine ia<|an ⟨e1,rfl,hlt⟩<|lc<|an hc<|ei<|an abr fun g5 w9 M9=>lb 0<|an ⟨rfl,rfl⟩ fun xR sA=>lr (ι:=Nat) (fun k=>[(10,.int .u32 (mK k))]) (fun k _=>k≤32∧((List.range k).all fun k=>!IU x (N.map (·.1)) p.1 p.2 k)=true) (fun k=>32-k) 0 (an ⟨⟨rfl,trivial⟩,fun M=>⟨M,by decide,rfl⟩⟩ ?_)
 intro k JJ M11 ⟨hk,XL⟩;refine an (fun h3=>?_) fun h3=>?_
 ·have Al:k<32:=by
   rcases Nat.lt_or_ge k 32 with h|h
   ·exact h
   ·rw[show k=32 by omega,T5] at h3;cases h3
  refine lb 1<|an rfl<|ei (x:=bits .and .u32 x.1.perms (mK k))<|an rfl<|lb 1<|an (fun _=>rfl)<|ei (x:=0)<|an (fun _=>⟨rfl,by decide⟩)<|lb 0<|an (fun _=>rfl)<|ei (x:=1)<|an (fun _=>⟨rfl,by decide⟩)<|lb 0<|an (fun _=>rfl)<|cl<|an (fun _=>Dz _ x gx (as8 M11.below hxc) base v (N.map (·.1)) (KH (M11.r 1 rfl) rfl (hN.keep M11.below)) (by rw[BJ];exact atg (List.length_filter_le _ _) hcl) (by rw[BJ];exact fun z hz=>hok z (List.mem_filter.1 hz).1) p.1 p.2 (mK k)) fun Mg Jg=>?_
  refine an (fun hb M=>⟨rb (aau BJ hp Al h0 hb).symm,M.below⟩) fun hb=>?_
  refine ei (x:=.int .u32 (mK (k+1)))<|an (fun a w o ho hv=>?_)<|bk (k+1) ⟨rfl,trivial⟩ (fun M=>⟨M,by omega,Ki XL (by rw[show IU x (N.map (·.1)) p.1 p.2 k=false from hb];rfl)⟩) (by dsimp only;omega);exact(lU ho (qN hv) (yx hv) (by decide) (by decide)).trans (by rw[P7 k Al])
 have Al:k=32:=by
  rcases Nat.lt_or_ge k 32 with h|h
  ·rw[WI k h] at h3;cases h3
  ·omega
 exact an (by omega)<|bk (m+1) ⟨rfl,trivial⟩ (fun M=>⟨M.only (.cons _ (.refl _)) (.refl _),by omega,Ue hp hall (by rw[← Al];exact XL)⟩) (by dsimp only;omega)
theorem Wy{P:Program}{a:Act}{w:World}{o:Oper}{f:FuncId}{cs:Array Operand}{cap:Array Value}(ho:o.op=.makeFunc (.func f) #[] cs)(hc:cs.map a.eval=cap):(execOp a.eval o).run P w=.ok (.value (.func (.func f) #[] cap)) w:=by
 unfold execOp;simp[ho,hc,Instr.makeFunc]
def firstAt{α:Type}(p:α→Bool):List α→Nat→Int
 | [],_=>-1
 | x::l,k=>if p x=true then (k:Int) else firstAt p l (k+1)
theorem Av{α:Type}{p:α→Bool}:∀ {l:List α} {k:Nat},decide (0≤firstAt p l k)=l.any p
 | [],_=>rfl
 | x::l,k=>by
  rw[firstAt,List.any_cons]
  cases h:p x with
  | true=>rw[if_pos rfl];simp
  | false=>rw[if_neg (by decide),Av];rfl
theorem Lm{α:Type}{p:α→Bool}{l:List α}{m:Nat}{y:α}(hy:l[m]?=some y)(h:firstAt p l 0=firstAt p (l.drop m) m)(hp:p y=true):(m:Int)=firstAt p l 0:=by
 rw[h,List.drop_eq_getElem_cons (ata.1 hy).1,(ata.1 hy).2,firstAt,if_pos hp]
theorem Ll{α:Type}{p:α→Bool}{l:List α}{m:Nat}{y:α}(hy:l[m]?=some y)(h:firstAt p l 0=firstAt p (l.drop m) m)(hp:p y=false):firstAt p l 0=firstAt p (l.drop (m+1)) (m+1):=by
 rw[h,List.drop_eq_getElem_cons (ata.1 hy).1,(ata.1 hy).2,firstAt,if_neg (by rw[hp];decide)]
theorem Ii{α:Type}{p:α→Bool}{l:List α}{m:Nat}(hm:m=l.length)(h:firstAt p l 0=firstAt p (l.drop m) m):-1=firstAt p l 0:=by
 subst hm;rw[h,List.drop_length];rfl
theorem VU(a b:List (ak×Int)):(!(a.any fun x=>!ji x b))=qI a b:=by
 unfold qI;rw[List.not_any_eq_all_not];simp
theorem Sw(w0:World)(x:ak×Int)(hxo:x.1.Ok)(gx:Nat)(hxc:w0.cell? ⟨gx,0,none⟩=some (.int .u64 x.2))(bx base:Nat)(lv:Value)(l:List (ak×Int))(Wk:Whole w0 bx 141 #[lv])(hL:gE w0 base lv l)(hcl:l.length≤1000)(hok:∀ y∈l,y.1.Ok):Calls Tryz.prog 153 #[.agg #[.int .i64 x.1.kind,.int .u64 x.1.src.a,.int .u64 x.1.src.b,.int .u64 x.1.src.c,.int .u64 x.1.src.d,.int .u64 x.1.tgt.a,.int .u64 x.1.tgt.b,.int .u64 x.1.tgt.c,.int .u64 x.1.tgt.d,.bool x.1.self,.int .i64 x.1.cls,.int .u32 x.1.perms,.int .i64 x.1.cond,.slice (some ⟨gx,0,none⟩) 1 1],.pointer (some ⟨bx,0,none⟩)] w0 (fun(r:Ending) (w':World)=>r=.returned (.bool (!ji x l))∧as5 w0.heap.size w0 w'):=by
 have aM:=hr1 Tryz.prog Tryz.f153 (fun(r:Ending) (w':World)=>r=.returned (.bool (!ji x l))∧as5 w0.heap.size w0 w') 8 3 rfl;refine en Tryz.func153 rfl Tryz.ntmps153 rfl (vs:=[.agg #[.int .i64 x.1.kind,.int .u64 x.1.src.a,.int .u64 x.1.src.b,.int .u64 x.1.src.c,.int .u64 x.1.src.d,.int .u64 x.1.tgt.a,.int .u64 x.1.tgt.b,.int .u64 x.1.tgt.c,.int .u64 x.1.tgt.d,.bool x.1.self,.int .i64 x.1.cls,.int .u32 x.1.perms,.int .i64 x.1.cond,.slice (some ⟨gx,0,none⟩) 1 1],.pointer (some ⟨bx,0,none⟩)]) rfl fun _ F=>?_
 have M:=Mm.start w0;refine atc fun K1 dw=>ah<|oG (on rfl) rfl (F.u rf) rfl F rfl M fun g1 _ _ F M=>xA (v:=.bool false) F rf rf rf fun _ F=>atd<|dw _ _ ?_
 refine atc fun K2 cQ=>ah<|xW F (M.b 0 rfl) rf rf rf Ge rf jJ rf fun _ F=>kz F rf (aD rf (F.u rf) xT rfl ((dJ M.below (Cc Wk)) 0 _ rfl)) fun _ F=>xC F M rf rf q80 (args2 (F.u rf) (F.u rf)) (xq _ x hxo gx (as8 M.below hxc) base lv l (hL.keep M.below) hcl hok) fun _ _ F M=>kz F rf (jS rfl (F.u rf)) fun _ F=>xA F rf rf rf fun _ F=>atd<|cQ _ _ ?_
 refine wp_ret<|aM _ _ _ _ F rfl ?_;exact⟨rfl,M.below⟩
theorem Ss(w0:World)(bx base:Nat)(lv:Value)(l:List (ak×Int))(Wk:Whole w0 bx 141 #[lv])(hL:gE w0 base lv l)(hcl:l.length≤1000)(hok:∀ y∈l,y.1.Ok)(av:Value)(a1:List (ak×Int))(hA:gE w0 base av a1)(hca:a1.length≤1000)(SH:∀ y∈a1,y.1.Ok):Calls Tryz.prog 224 #[av,.func (.func 153) #[] #[.pointer (some ⟨bx,0,none⟩)]] w0 (fun(r:Ending) (w':World)=>r=.returned (.int .i64 (firstAt (fun x=>!ji x l) a1 0))∧as5 w0.heap.size w0 w'):=by
 obtain⟨la6,lk6,rfl,hk6,hm6,ZH⟩:=aC.form hA (by decide);have aM:=hr1 Tryz.prog Tryz.f224 (fun(r:Ending) (w':World)=>r=.returned (.int .i64 (firstAt (fun x=>!ji x l) a1 0))∧as5 w0.heap.size w0 w') 19 4 rfl;refine en Tryz.func224 rfl Tryz.ntmps224 rfl (vs:=[.slice la6 a1.length lk6,.func (.func 153) #[] #[.pointer (some ⟨bx,0,none⟩)]]) rfl fun _ F=>?_
 have M:=Mm.start w0;refine atc fun K1 dw=>ah<|xA (v:=.int .i64 0) F rf rf rf fun _ F=>atd<|dw _ _ ?_
 refine atc fun K2 cQ=>atc fun K3 fJ=>ah<|xM F rf rf rf fun _ F=>kz F rf (bA rfl (F.u rf) xT) fun _ F=>xM (v:=.int .i64 0) F rf rf rf fun _ F=>atd<|fJ _ _ ?_
 refine atf<|?_;refine bV (ι:=Nat) (fun m a w=>Fs a 19 [(0,.slice la6 a1.length lk6),(1,.func (.func 153) #[] #[.pointer (some ⟨bx,0,none⟩)]),(7,.int .i64 (a1.length:Int)),(8,.int .i64 (m:Int))]∧Mm w0 w [] []∧m≤a1.length∧firstAt (fun x=>!ji x l) a1 0=firstAt (fun x=>!ji x l) (a1.drop m) m) (fun m=>a1.length-m) 0 ⟨F.sub ⟨rfl,rfl,rfl,rfl,trivial⟩,M,as9 _,rfl⟩ ?_
 (repeat clear F);(repeat clear M)
 rintro m _ _ ⟨F,M,hm,hI⟩;refine atc fun K4 fQ=>ah<|kz F rf (d_ rfl (F.u rf) (F.u rf)) fun _ F=>atd<|fQ _ _ ?_
 refine atc fun K5 gL=>?_
 refine ate (F.e 9 rfl) (fun hc1=>?_) (fun hc1=>?_)
 ·have hd2:=of_decide_eq_true hc1;refine wp_skip<|gL _ _ ?_;refine atc fun K6 iC=>atf<|atc fun K7 iO=>ah<|xM F rf rf rf fun _ F=>xA F rf rf rf fun _ F=>atd<|iO _ _ ?_
  refine atc fun K8 jf=>?_
  have agW:m<a1.length:=by omega
  obtain⟨x,hx⟩:∃ x,a1[m]?=some x:=⟨_,as7 agW⟩;obtain⟨b6,o6,cs6,rfl,⟨_,rfl,gx,rfl,hwx,hlx⟩,-,hr6⟩:=ZH m x hx;have hr6:=zL hr6
  refine ah<|xM F rf rf rf fun _ F=>xM F rf rf rf fun _ F=>xM F rf rf rf fun _ F=>
   kz F rf (aK (i:=m) rfl (F.u rf) (F.u rf) (by omega) xT jJ) fun _ F=>
   kz F rf (bT [.int .i64 x.1.kind,.int .u64 x.1.src.a,.int .u64 x.1.src.b,.int .u64 x.1.src.c,.int .u64 x.1.src.d,.int .u64 x.1.tgt.a,.int .u64 x.1.tgt.b,.int .u64 x.1.tgt.c,.int .u64 x.1.tgt.d,.bool x.1.self,.int .i64 x.1.cls,.int .u32 x.1.perms,.int .i64 x.1.cond,.slice (some ⟨gx,0,none⟩) 1 1] rfl (F.u rf) Ge rfl jJ (dJ M.below hr6)) fun _ F=>
   kc (on rfl) (lW rfl (F.u rf) Tryz.func153 (by kernel_rfl) rfl (args:=#[.agg #[.int .i64 x.1.kind,.int .u64 x.1.src.a,.int .u64 x.1.src.b,.int .u64 x.1.src.c,.int .u64 x.1.src.d,.int .u64 x.1.tgt.a,.int .u64 x.1.tgt.b,.int .u64 x.1.tgt.c,.int .u64 x.1.tgt.d,.bool x.1.self,.int .i64 x.1.cls,.int .u32 x.1.perms,.int .i64 x.1.cond,.slice (some ⟨gx,0,none⟩) 1 1],.pointer (some ⟨bx,0,none⟩)]) (by simp[(F.e 15 rfl)])) (Sw _ x (SH x (atb hx)) gx (as8 M.below (by simpa using hwx.cell 0)) bx base lv l (Whole.under M.below Wk Wk.lt) (hL.keep M.below) hcl hok) rfl F rfl M fun _ _ F M=>
   atd<|
   jf _ _ ?_
  refine ate (F.e 16 rfl) (fun hc3=>?_) (fun hc3=>?_)
  ·have BH:(ji x l)=false:=by simpa using hc3
   have tP:(!ji x l)=true:=hc3;refine atc fun K9 jW=>ah<|xM F rf rf rf fun _ F=>xA F rf rf rf fun _ F=>atd<|jW _ _ ?_
   refine wp_ret<|aM _ _ _ _ F rfl ?_;exact⟨bE (Lm hx hI tP),M.below⟩
  ·have Ao:(ji x l)=true:=by simpa using hc3
   have tP:(!ji x l)=false:=hc3;refine wp_skip<|iC _ _ ?_
   refine ah<|
    ke (on rfl) (cL rfl (F.u rf) rfl) rfl F rfl (congrArg (Value.int .i64) (wrap_i64 (by omega))) fun _ F=>
    xM F rf rf rf fun _ F=>
    atd<|?_
   exact⟨m+1,⟨F.sub ⟨rfl,rfl,rfl,rfl,trivial⟩,M,by omega,Ll hx hI tP⟩,by show a1.length-(m+1)<a1.length-m;omega⟩
 ·have vU:=of_decide_eq_false hc1;refine wp_exit<|cQ _ _ ?_;refine atc fun Bh dU=>ah<|xA (v:=.int .i64 (-1)) F rf rf rf fun _ F=>atd<|dU _ _ ?_
  refine wp_ret<|aM _ _ _ _ F rfl ?_;exact⟨bE (Ii (by omega) hI),M.below⟩
theorem Sv(w0:World)(bx base:Nat)(lv:Value)(l:List (ak×Int))(Wk:Whole w0 bx 141 #[lv])(hL:gE w0 base lv l)(hcl:l.length≤1000)(hok:∀ y∈l,y.1.Ok)(av:Value)(a1:List (ak×Int))(hA:gE w0 base av a1)(hca:a1.length≤1000)(SH:∀ y∈a1,y.1.Ok):Calls Tryz.prog 152 #[av,.func (.func 153) #[] #[.pointer (some ⟨bx,0,none⟩)]] w0 (fun(r:Ending) (w':World)=>r=.returned (.bool (a1.any fun x=>!ji x l))∧as5 w0.heap.size w0 w'):=by
 have aM:=hr1 Tryz.prog Tryz.f152 (fun(r:Ending) (w':World)=>r=.returned (.bool (a1.any fun x=>!ji x l))∧as5 w0.heap.size w0 w') 9 4 rfl;refine en Tryz.func152 rfl Tryz.ntmps152 rfl (vs:=[av,.func (.func 153) #[] #[.pointer (some ⟨bx,0,none⟩)]]) rfl fun _ F=>?_
 have M:=Mm.start w0;refine atc fun K1 dw=>ah<|xA (v:=.bool false) F rf rf rf fun _ F=>atd<|dw _ _ ?_
 refine atc fun K2 cQ=>ah<|xM F rf rf rf fun _ F=>xM F rf rf rf fun _ F=>xC F M rf rf afN (args2 (F.u rf) (F.u rf)) (Ss _ bx base lv l (Whole.under M.below Wk Wk.lt) (hL.keep M.below) hcl hok av a1 (hA.keep M.below) hca SH) fun _ _ F M=>kz F rf (Ip rfl (F.u rf) rfl) fun _ F=>xA F rf rf rf fun _ F=>atd<|cQ _ _ ?_
 refine wp_ret<|aM _ _ _ _ F rfl ?_;exact⟨ay Av,M.below⟩
theorem tM(w0:World)(base:Nat)(lv:Value)(l:List (ak×Int))(hL:gE w0 base lv l)(hcl:l.length≤1000)(hok:∀ y∈l,y.1.Ok)(av:Value)(a1:List (ak×Int))(hA:gE w0 base av a1)(hca:a1.length≤1000)(SH:∀ y∈a1,y.1.Ok):Calls Tryz.prog 79 #[av,lv] w0 (fun(r:Ending) (w':World)=>r=.returned (.bool (qI a1 l))∧as5 w0.heap.size w0 w'):=by
 obtain⟨gh,f_,rfl,Uy,hm5,Ec⟩:=aC.form hL (by decide);have aM:=hr1 Tryz.prog Tryz.f79 (fun(r:Ending) (w':World)=>r=.returned (.bool (qI a1 l))∧as5 w0.heap.size w0 w') 9 4 rfl;refine en Tryz.func79 rfl Tryz.ntmps79 rfl (vs:=[av,.slice gh l.length f_]) rfl fun _ F=>?_
 have M:=Mm.start w0;refine atc fun K1 dw=>ah<|kb1 (on rfl) rfl (F.u rf) rfl rfl F rfl M fun g1 _ _ F M=>xA (v:=.bool false) F rf rf rf fun _ F=>atd<|dw _ _ ?_
 refine atc fun K2 cQ=>ah<|xM F rf rf rf fun _ F=>
  kz F rf (Wy (cap:=#[.pointer (some ⟨g1,0,none⟩)]) rfl (by simp[(F.e 3 rfl)])) fun _ F=>
  xC F M rf rf afS (args2 (F.u rf) (F.u rf)) (Sv _ g1 base _ l (M.b 0 rfl) (hL.keep M.below) hcl hok av a1 (hA.keep M.below) hca SH) fun _ _ F M=>
  kz F rf (jS rfl (F.u rf)) fun _ F=>
  xA F rf rf rf fun _ F=>
  atd<|
  cQ _ _ ?_
 refine wp_ret<|aM _ _ _ _ F rfl ?_;exact⟨ay (VU a1 l),M.below⟩
theorem St.Z0{w w':World}{mb:Nat}(h:St [mb] w w'):w.grownBy w' (some mb):=⟨h.os,h.tape,h.output,h.size,fun k hk hne=>h.block k hk fun e=>hne (congrArg some (ati.1 e))⟩
theorem bg.Gf{B:Nat}{w0 w w':World}{bs:List Bx}{rs:List Rw}(M:bg B w0 w bs rs)(i:Nat){mb:Nat}{L L':List (Int×Value)}(hi:bs[i]?=some (mb,9003,eu L))(h:St [mb] w w')(hM:aX w' Tryz.prog 3 mb (L'.map ival)):bg B w0 w' (bs.set i (mb,9003,eu L')) rs:=
 M.turn i hi rfl h.Z0 (lN hM) fun _ _ h2=>gG h2 (M.map i hi)
def Bf(w:World)(base:Nat)(L:List (Int×Value))(act:Int→Int):Prop:=∀ k v,jD L k=some v→bO w base v (act k)
theorem Bf.old{w w':World}{base:Nat}{L:List (Int×Value)}{act:Int→Int}(h:Bf w base L act)(ho:∀ g cs,Whole w g 52 cs→Whole w' g 52 cs):Bf w' base L act:=fun k v hv=>by
 obtain⟨g,e,h1,h2⟩:=h k v hv;exact⟨g,e,ho _ _ h1,h2⟩
theorem Bf.nil(w:World)(base:Nat)(act:Int→Int):Bf w base [] act:=fun k v hv=>by cases hv
theorem cH.old{α:Type}{w w':World}{base:Nat}{N:List ((α×Int)×Nat)}(h:cH w base N)(ho:∀ g cs,Whole w g 52 cs→Whole w' g 52 cs):cH w' base N:=fun z hz=>⟨ho _ _ (h z hz).1,(h z hz).2⟩
theorem cH.nil{α:Type}(w:World)(base:Nat):cH w base ([]:List ((α×Int)×Nat)):=fun z hz=>by cases hz
def Cn(z:(bJ×Int)×Nat):List Value:=z.1.1.cells
def om{α:Type}(z:(α×Int)×Nat):List Value:=[.slice (some ⟨z.2,0,none⟩) 1 1]
def xU(u:Int)(n:Nat)(conds:List aA)(y:bJ):Option (bJ×Int):=if dM u n conds y.cond=0 then none else some ({ y with cond:=0 },dM u n conds y.cond)
theorem Yz{u:Int}{n m:Nat}{conds:List aA}{l:List bJ}{N:List ((bJ×Int)×Nat)}{y:bJ}(hy:l[m]?=some y)(h:N.map (·.1)=(l.take m).filterMap (xU u n conds))(hq:decide (dM u n conds y.cond=0)=true):N.map (·.1)=(l.take (m+1)).filterMap (xU u n conds):=by
 rw[bD hy,List.filterMap_append,← h];simp[xU,of_decide_eq_true hq]
theorem U5{u:Int}{n m g:Nat}{conds:List aA}{l:List bJ}{N:List ((bJ×Int)×Nat)}{y:bJ}(hy:l[m]?=some y)(h:N.map (·.1)=(l.take m).filterMap (xU u n conds))(hq:decide (dM u n conds y.cond=0)=false):(N++[((({ y with cond:=0 }:bJ),dM u n conds y.cond),g)]).map (fun z:(bJ×Int)×Nat=>z.1)=(l.take (m+1)).filterMap (xU u n conds):=by
 rw[bD hy,List.filterMap_append,atp,← h];simp[xU,of_decide_eq_false hq]
theorem oq(w0:World)(c0 c1 c2 c3 c4 c5 c6 c7 c8 c9 aW aP aO aU aT aS aR:Value)(p:aG)(hp:aL w0 c0 c1 c2 c3 c4 c5 c6 c7 c8 c9 aW aP aO aU aT aS aR p)(hok:p.Ok)(hn:p.bools.length≤5)(hcl:p.conds.length≤1000)(ag3:p.trans.length≤4096):Calls Tryz.prog 73 #[.agg #[c0,c1,c2,c3,c4,c5,c6,c7,c8,c9,aW,aP,aO,aU,aT,aS,aR]] w0 (fun(r:Ending) (w':World)=>∃ v,r=.returned v∧((∃ v1 v2,∃ N:List ((bJ×Int)×Nat),v=.tuple #[v1,v2]∧N.map (·.1)=p.trans.filterMap (xU (aY p.bools.length) p.bools.length p.conds)∧w'.ownsRow w0.heap.size 84 13 v1 N.length (N.flatMap Cn)∧w'.ownsRow w0.heap.size 139 1 v2 N.length (N.flatMap om)∧cH w' w0.heap.size N)∧as5 w0.heap.size w0 w')):=by
 obtain⟨gh,f_,rfl,Uy,hm5,Ec⟩:=SliceAt.form hp.bools (by decide);obtain⟨O_,O4,rfl,agZ,adt,Wd⟩:=SliceAt.form hp.trans (by decide);have aM:=qB Tryz.prog Tryz.f73 (fun(r:Ending) (w':World)=>∃ v,r=.returned v∧((∃ v1 v2,∃ N:List ((bJ×Int)×Nat),v=.tuple #[v1,v2]∧N.map (·.1)=p.trans.filterMap (xU (aY p.bools.length) p.bools.length p.conds)∧w'.ownsRow w0.heap.size 84 13 v1 N.length (N.flatMap Cn)∧w'.ownsRow w0.heap.size 139 1 v2 N.length (N.flatMap om)∧cH w' w0.heap.size N)∧as5 w0.heap.size w0 w')) 37 2 3 rfl;refine en Tryz.func73 rfl Tryz.ntmps73 rfl (vs:=[.agg #[c0,c1,c2,c3,c4,.slice gh p.bools.length f_,c6,c7,c8,c9,.slice O_ p.trans.length O4,aP,aO,aU,aT,aS,aR]]) rfl fun _ F=>?_
 have M:=Mm.start w0;refine atc fun K1 dw=>ah<|oG (on rfl) rfl (F.u rf) rfl F rfl M fun g1 _ _ F M=>xA (v:=.slice none 0 0) F rf rf rf fun _ F=>xA (v:=.slice none 0 0) F rf rf rf fun _ F=>atd<|dw _ _ ?_
 refine atc fun K2 cQ=>ah<|xW F (M.b 0 rfl) rf rf rf iU rf kS rf fun _ F=>kx (on rfl) (bw rfl Tryz.func148 Xv rfl (args1 (F.u rf))) (mw _ _ _ _ _ _ _ _ _ _ _ _ _ _ _ _ _ gh p.bools.length f_ hn) rfl F rfl M fun tv _ _ hR hB F _=>?_
 obtain⟨tp,mb,rfl,Bo,hMb,Zs,Zu⟩:=hR;have M:=M.DX hB (b1:=(tp,304,#[c0,c1,c2,c3,c4,.slice gh p.bools.length f_,c6,c7,c8,c9,.slice O_ p.trans.length O4,aP,aO,aU,aT,aS,aR,.int .i64 1,.int .u64 (aY p.bools.length),(.map (some mb))])) (.inl ⟨rfl,Bo⟩) Zs (b2:=(mb,9003,eu [])) (lN hMb) Zu (gG Bo hMb);refine xA F rf rf rf fun _ F=>atd<|cQ _ _ ?_
 refine atc fun K3 fJ=>?_
 have M:=M.bX 84 13;refine ah<|xA (v:=.slice none 0 0) F rf rf rf fun _ F=>atd<|fJ _ _ ?_
 refine atc fun K4 fQ=>?_
 have M:=M.bX 139 1;refine ah<|xA (v:=.slice none 0 0) F rf rf rf fun _ F=>atd<|fQ _ _ ?_
 refine atc fun K5 gL=>atc fun K6 iC=>ah<|xF 10 F rf rf rf iU rf YC rf fun _ F=>xL F (M.b 2 rfl) rf rf rf Yv rf rf fun _ F=>kz F rf (bA rfl (F.u rf) Yv) fun _ F=>xM (v:=.int .i64 0) F rf rf rf fun _ F=>atd<|iC _ _ ?_
 refine atf<|?_;refine bV (ι:=Nat×Value×Value×List ((bJ×Int)×Nat)×List (Int×Value)) (fun|(m,v,v2,N,L),a,w=>Fs a 37 [(4,.pointer (some ⟨tp,0,none⟩)),(5,v),(6,v2),(13,.slice O_ p.trans.length O4),(14,.int .i64 (p.trans.length:Int)),(15,.int .i64 (m:Int))]∧Mm w0 w [(tp,304,#[c0,c1,c2,c3,c4,.slice gh p.bools.length f_,c6,c7,c8,c9,.slice O_ p.trans.length O4,aP,aO,aU,aT,aS,aR,.int .i64 1,.int .u64 (aY p.bools.length),(.map (some mb))]),(mb,9003,eu L)] [⟨v2,139,1,N.length,N.flatMap om⟩,⟨v,84,13,N.length,N.flatMap Cn⟩]∧m≤p.trans.length∧N.map (·.1)=(p.trans.take m).filterMap (xU (aY p.bools.length) p.bools.length p.conds)∧cH w w0.heap.size N∧Bf w w0.heap.size L (dM (aY p.bools.length) p.bools.length p.conds)) (fun|(m,v,v2,N,L)=>p.trans.length-m) (0,.slice none 0 0,.slice none 0 0,[],[]) ⟨F.sub ⟨rfl,rfl,rfl,rfl,rfl,rfl,trivial⟩,M.only (.cons_cons _ (.cons_cons _ (.cons _ .slnil))) (.cons_cons _ (.cons_cons _ .slnil)),as9 _,rfl,cH.nil _ _,Bf.nil _ _ _⟩ ?_
 (repeat clear F);(repeat clear M)
 rintro⟨m,v,v2,N,L⟩ _ _ ⟨F,M,hm,BJ,hN,hL⟩;have MR:=M;have M:=M.DN;refine atc fun K7 iO=>ah<|kz F rf (d_ rfl (F.u rf) (F.u rf)) fun _ F=>atd<|iO _ _ ?_
 refine atc fun K8 jf=>?_
 refine ate (F.e 16 rfl) (fun hc2=>?_) (fun hc2=>?_)
 ·have hd3:=of_decide_eq_true hc2;refine wp_skip<|jf _ _ ?_;refine atc fun K9 jW=>atf<|atc fun Bh dU=>?_
  have hlt:m<p.trans.length:=by omega
  obtain⟨y,hy⟩:∃ y,p.trans[m]?=some y:=⟨_,as7 hlt⟩;obtain⟨b10,afY,rfl,XJ⟩:=Wd m hlt
  have adj:∀ j uu,[.int .i64 y.kind,.int .u64 y.src.a,.int .u64 y.src.b,.int .u64 y.src.c,.int .u64 y.src.d,.int .u64 y.tgt.a,.int .u64 y.tgt.b,.int .u64 y.tgt.c,.int .u64 y.tgt.d,.int .i64 y.cls,.string y.name,.int .i64 y.res,.int .i64 y.cond][j]?=some uu→w0.cell? ⟨b10,afY+m*13+j,none⟩=some uu:=fun j u hu=>XJ j u (by
   rw[gN bJ.ez hy j (ata.1 hu).1];exact hu)
  clear XJ;have pN:=hok.trans y (atb hy);have hct:p.trans.length≤4096:=ag3
  refine ah<|
   kz F rf (aK (i:=m) rfl (F.u rf) (F.u rf) (by omega) Yv Rn) fun _ F=>
   kz F rf (bT [.int .i64 y.kind,.int .u64 y.src.a,.int .u64 y.src.b,.int .u64 y.src.c,.int .u64 y.src.d,.int .u64 y.tgt.a,.int .u64 y.tgt.b,.int .u64 y.tgt.c,.int .u64 y.tgt.d,.int .i64 y.cls,.string y.name,.int .i64 y.res,.int .i64 y.cond] rfl (F.u rf) u84 rfl Rn (dJ (MR.below.trans M.below) adj)) fun _ F=>
   sF (on rfl) rfl NT rfl F rfl M fun g4 _ _ F M=>
   sE (on rfl) rfl (F.u rf) (F.u rf) F M 0 rfl Rn rfl rfl rfl fun _ M=>
   atd<|
   dU _ _ ?_
  refine atc fun I8 gj=>ah<|xM F rf rf rf fun _ F=>xF 12 F rf rf rf u84 rf Bn rf fun _ F=>xL F (M.b 0 rfl) rf rf rf u3 rf rf fun _ F=>kt (on rfl) (bw rfl Tryz.func149 RW rfl (args2 (F.u rf) (F.u rf))) (r_ _ w0.heap.size tp mb _ _ _ _ _ _ _ _ _ _ _ _ _ _ _ _ gh p.bools.length f_ (aY p.bools.length) p.conds hn (hp.conds.keep (MR.below.trans M.below)) hcl y.cond (hok.trans y (atb hy)).cond ⟨M.b 1 rfl,⟨_,M.map 2 rfl,hL.old M.old⟩,⟨M.lo _ (atb (i:=1) rfl),M.lo _ (atb (i:=2) rfl)⟩⟩) rfl F rfl fun v9 _ w9 hR F=>?_
  obtain⟨⟨gs,rfl,hws,hls⟩,⟨aha,⟨L9,Ng,hL9⟩,-⟩,QB⟩:=hR;have M:=M.Gf 2 rfl QB Ng;have hN:=hN.old M.old;have MR:=MR.comp M;have M:=M.DN;have hL:Bf _ _ _ _:=hL9;refine xA F rf rf rf fun _ F=>atd<|gj _ _ ?_
  refine atc fun I7 fT=>atc fun Jh gM=>ah<|xM F rf rf rf fun _ F=>
   xC F M rf rf afT (args1 (F.u rf)) (zS _ gs 1 _ (by simpa using(M.old _ _ hws).cell 0)) fun _ _ F M=>
   atd<|
   gM _ _ ?_
  refine ate (F.e 24 rfl) (fun Wi=>?_) (fun Wi=>?_)
  ·have vU:=of_decide_eq_true Wi;have tP:decide (dM (aY p.bools.length) p.bools.length p.conds y.cond=0)=true:=Wi;refine wp_exit<|jW _ _ ?_
   refine ah<|
    ke (on rfl) (cL rfl (F.u rf) rfl) rfl F rfl (congrArg (Value.int .i64) (wrap_i64 (by omega))) fun _ F=>
    xM F rf rf rf fun _ F=>
    atd<|?_
   exact⟨(m+1,v,v2,N,L9),⟨F.sub ⟨rfl,rfl,rfl,rfl,rfl,rfl,trivial⟩,MR.comp (M.only (.cons _ (.cons_cons _ (.cons_cons _ .slnil))) (.cons_cons _ (.cons_cons _ .slnil))),by omega,Yz hy BJ tP,hN.old M.old,hL.old M.old⟩,by show p.trans.length-(m+1)<p.trans.length-m;omega⟩
  ·have QA:=of_decide_eq_false Wi;have tP:decide (dM (aY p.bools.length) p.bools.length p.conds y.cond=0)=false:=Wi;refine wp_skip<|fT _ _ ?_;refine atc fun NR jg=>ah<|xF 12 F rf rf rf u84 rf Bn rf fun _ F=>ks (on rfl) rfl (F.u rf) rfl F M 0 (cs':=#[.int .i64 y.kind,.int .u64 y.src.a,.int .u64 y.src.b,.int .u64 y.src.c,.int .u64 y.src.d,.int .u64 y.tgt.a,.int .u64 y.tgt.b,.int .u64 y.tgt.c,.int .u64 y.tgt.d,.int .i64 y.cls,.string y.name,.int .i64 y.res,.int .i64 0]) rfl rfl rfl Bn rfl rfl rfl rfl fun _ M=>atd<|jg _ _ ?_
   have hlN:N.length≤4096:=by
    have h:=congrArg List.length BJ;rw[atm] at h;rw[h];exact atg (List.length_filterMap_le _ _) (atg (List.length_take_le _ _) (atg (Nat.le_of_lt hlt) hct))
   refine ah<|xM F rf rf rf fun _ F=>xW F (M.b 0 rfl) rf rf rf u84 rf Rn rf fun _ F=>
    kl (on rfl) rfl Yv Rn NT rfl (pv:=#[(0,.agg #[.int .i64 y.kind,.int .u64 y.src.a,.int .u64 y.src.b,.int .u64 y.src.c,.int .u64 y.src.d,.int .u64 y.tgt.a,.int .u64 y.tgt.b,.int .u64 y.tgt.c,.int .u64 y.tgt.d,.int .i64 y.cls,.string y.name,.int .i64 y.res,.int .i64 0])]) (by simp[(F.e 27 rfl)]) (cells:=#[.int .i64 y.kind,.int .u64 y.src.a,.int .u64 y.src.b,.int .u64 y.src.c,.int .u64 y.src.d,.int .u64 y.tgt.a,.int .u64 y.tgt.b,.int .u64 y.tgt.c,.int .u64 y.tgt.d,.int .i64 y.cls,.string y.name,.int .i64 y.res,.int .i64 0]) (by kernel_rfl) rfl F rfl M fun g8 _ _ F M=>
    kp (on rfl) rfl Yv ac4 rfl M 1 rfl (F.u rf) (F.u rf) (M.slice 0 rfl rfl rfl (by simp[maxLen])) ⟨by unfold maxLen;omega,by omega⟩ rfl F rfl fun v9 _ _ F M=>
    xM F rf rf rf fun _ F=>
    xM F rf rf rf fun _ F=>
    xS F M rf rf rf Dw Mn abo rf rf fun g10 _ _ F M=>
    kp (on rfl) rfl Dw Ze rfl M 0 rfl (F.u rf) (F.u rf) (M.slice 0 rfl rfl rfl (by simp[maxLen])) ⟨by unfold maxLen;omega,by omega⟩ rfl F rfl fun v11 _ _ F M=>
    xA F rf rf rf fun _ F=>
    xA F rf rf rf fun _ F=>
    atd<|
    jW _ _ ?_
   refine ah<|
    ke (on rfl) (cL rfl (F.u rf) rfl) rfl F rfl (congrArg (Value.int .i64) (wrap_i64 (by omega))) fun _ F=>
    xM F rf rf rf fun _ F=>
    atd<|?_
   exact⟨(m+1,v9,v11,N++[(({ y with cond:=0 },dM (aY p.bools.length) p.bools.length p.conds y.cond),gs)],L9),⟨F.sub ⟨rfl,rfl,rfl,rfl,rfl,rfl,trivial⟩,(MR.comp (M.only (.cons _ (.cons _ (.cons _ (.cons_cons _ (.cons_cons _ .slnil))))) (.cons_cons _ (.cons_cons _ .slnil)))).cast rfl (by rw[atq,atr,atr];rfl),by omega,U5 hy BJ tP,(hN.old M.old).snoc (M.old _ _ hws) hls,hL.old M.old⟩,by show p.trans.length-(m+1)<p.trans.length-m;omega⟩
 ·have vV:=of_decide_eq_false hc2;refine wp_exit<|gL _ _ ?_;refine atc fun W6 mY=>ah<|xM F rf rf rf fun _ F=>xM F rf rf rf fun _ F=>xA F rf rf rf fun _ F=>xA F rf rf rf fun _ F=>atd<|mY _ _ ?_
  refine wp_ret<|aM _ _ _ _ _ F rfl rfl ?_;exact⟨_,rfl,⟨_,_,N,rfl,(by rw[BJ,List.take_of_length_le (by omega)]),M.r 1 rfl,M.r 0 rfl,hN⟩,(MR.below.trans M.below)⟩
section
variable {P:Program} {ops:Array Oper} {Q':Exit→Act→World→Prop} {a:Act} {w:World} {o:Oper} {d N:Nat} {g:Good}
theorem dxS{S:World→World→Prop}(hw:Region.wanted o (yielded ops a.tmps)=true){f:FuncId}{args:Array Value}(hr:(execOp a.eval o).run P w=.ok (.enter f args) w)
 (hc:Calls P f args w fun e w'=>∃ v,e=.returned v∧(g v w'∧S w w')) (hd:o.dst=some d) (hf:Fr a N) (hN:Nat.blt d N=true)
 (hE:∀ v a' w',S w w'→g v w'→Put a (o.dst.getD 0) v a'→Q' .normal a' w'):wpList P ops Q' [o] a w:=
 kg hw hr hc hd hf (by simpa using hN) fun u a' w' h p=>atd (hE u a' w' h.2 h.1 (by rw[hd];exact p))
end
def Fz(base tp mb:Nat)(c0 c1 c2 c3 c4 c5 c6 c7 c8 c9 aW aP aO aU aT aS aR:Value)(u:Int)(act:Int→Int)(w w':World):Prop:=St [mb] w w'∧(fO w base tp mb c0 c1 c2 c3 c4 c5 c6 c7 c8 c9 aW aP aO aU aT aS aR u act→fO w' base tp mb c0 c1 c2 c3 c4 c5 c6 c7 c8 c9 aW aP aO aU aT aS aR u act)
section
variable {base tp mb:Nat} {c0 c1 c2 c3 c4 c5 c6 c7 c8 c9 aW aP aO aU aT aS aR:Value} {u:Int} {act:Int→Int}
theorem JU(w w':World)(h:as5 w.heap.size w w'):Fz base tp mb c0 c1 c2 c3 c4 c5 c6 c7 c8 c9 aW aP aO aU aT aS aR u act w w':=⟨h_ _ _ _ h,fun hT=>hT.keep h⟩
theorem JT(a b c:World)(h:Fz base tp mb c0 c1 c2 c3 c4 c5 c6 c7 c8 c9 aW aP aO aU aT aS aR u act a b)(k:Fz base tp mb c0 c1 c2 c3 c4 c5 c6 c7 c8 c9 aW aP aO aU aT aS aR u act b c):Fz base tp mb c0 c1 c2 c3 c4 c5 c6 c7 c8 c9 aW aP aO aU aT aS aR u act a c:=⟨fV _ _ _ _ h.1 k.1,fun hT=>k.2 (h.2 hT)⟩
def NN(base mb:Nat)(x:Int):Good:=fun v u=>∃ g,v=.slice (some ⟨g,0,none⟩) 1 1∧Whole u g 52 #[.int .u64 x]∧base≤g∧g≠mb
def aep(base mb:Nat)(y:ak)(x:Int):Good:=fun v u=>∃ g,v=.agg #[.int .i64 y.kind,.int .u64 y.src.a,.int .u64 y.src.b,.int .u64 y.src.c,.int .u64 y.src.d,.int .u64 y.tgt.a,.int .u64 y.tgt.b,.int .u64 y.tgt.c,.int .u64 y.tgt.d,.bool y.self,.int .i64 y.cls,.int .u32 y.perms,.int .i64 y.cond,.slice (some ⟨g,0,none⟩) 1 1]∧Whole u g 52 #[.int .u64 x]∧base≤g∧g≠mb
def SlG(ws:World)(base mb:Nat)(y:ak)(x:Int):Good:=fun v u=>∃ b g,v=.slice (some ⟨b,0,none⟩) 1 1∧Whole u b 146 #[.int .i64 y.kind,.int .u64 y.src.a,.int .u64 y.src.b,.int .u64 y.src.c,.int .u64 y.src.d,.int .u64 y.tgt.a,.int .u64 y.tgt.b,.int .u64 y.tgt.c,.int .u64 y.tgt.d,.bool y.self,.int .i64 y.cls,.int .u32 y.perms,.int .i64 y.cond,.slice (some ⟨g,0,none⟩) 1 1]∧ws.heap.size≤b∧b≠mb∧Whole u g 52 #[.int .u64 x]∧base≤g∧g≠mb
theorem PK{g mb:Nat}(h:g≠mb):g∉[mb]:=fun e=>h (ati.1 e)
theorem KN{base':Nat}{x:Int}:wE (Fz base tp mb c0 c1 c2 c3 c4 c5 c6 c7 c8 c9 aW aP aO aU aT aS aR u act) (NN base' mb x):=fun _ _ _ ⟨g,e,h,k,n⟩ hS=>⟨g,e,hS.1.whole h (PK n),k,n⟩
theorem O9{base':Nat}{x:Int}{y:ak}:wE (Fz base tp mb c0 c1 c2 c3 c4 c5 c6 c7 c8 c9 aW aP aO aU aT aS aR u act) (aep base' mb y x):=fun _ _ _ ⟨g,e,h,k,n⟩ hS=>⟨g,e,hS.1.whole h (PK n),k,n⟩
theorem Sc{ws:World}{base':Nat}{x:Int}{y:ak}:wE (Fz base tp mb c0 c1 c2 c3 c4 c5 c6 c7 c8 c9 aW aP aO aU aT aS aR u act) (SlG ws base' mb y x):=fun _ _ _ ⟨b,g,e,h1,k1,n1,h,k,n⟩ hS=>⟨b,g,e,hS.1.whole h1 (PK n1),k1,n1,hS.1.whole h (PK n),k,n⟩
theorem UN{w:World}{v:Value}{x:Int}(h:bO w base v x)(hT:fO w base tp mb c0 c1 c2 c3 c4 c5 c6 c7 c8 c9 aW aP aO aU aT aS aR u act):NN base mb x v w:=by
 obtain⟨g,e,hw,hl⟩:=h;obtain⟨-,⟨L,hM,-⟩,-⟩:=hT;exact⟨g,e,hw,hl,gG hw hM⟩
end
theorem bg.aaB{B:Nat}{w0 w:World}{bs:List Bx}{rs:List Rw}(M:bg B w0 w bs rs){g:Nat}{t:TypeId}{cs:Array Value}(h:Whole w g t cs)(hB:B≤g)(hf:∀ b∈bs,b.1≠g)(hr:∀ r∈rs,r.v.ownBlock≠some g)(ht:Nat.blt t 9000=true:=by rfl):bg B w0 w ((g,t,cs)::bs) rs:=by
 refine⟨M.below,M.le,M.old,?_,?_,?_,M.row,?_,M.vC⟩
 ·intro b hb;rcases as_.1 hb with rfl|hb
  ·exact .inl ⟨ht,h⟩
  ·exact M.box b hb
 ·intro b hb;rcases as_.1 hb with rfl|hb
  ·exact hB
  ·exact M.lo b hb
 ·rw[List.map_cons,List.nodup_cons];refine⟨fun h=>?_,M.nd⟩;obtain⟨b,hb,e⟩:=atl.1 h;exact hf b hb e
 ·intro r hr' b hb;rcases as_.1 hb with rfl|hb
  ·exact hr r hr'
  ·exact M.far r hr' b hb
theorem bg.U4{B:Nat}{w0 w w':World}{bs:List Bx}{rs:List Rw}(M:bg B w0 w bs rs)(i:Nat){mb:Nat}{L L':List (Int×Value)}(hi:bs[i]?=some (mb,9003,eu L))(h:St [mb] w w')(hM:aX w' Tryz.prog 3 mb (L'.map ival))
 {g:Nat} {t:TypeId} {cs:Array Value} (hg:Whole w' g t cs) (hs:w.heap.size≤g) (ht:Nat.blt t 9000=true:=by rfl):bg B w0 w' ((g,t,cs)::bs.set i (mb,9003,eu L')) rs:=by
 refine(M.Gf i hi h hM).aaB hg (atg M.big hs) (fun b hb=>?_) (fun r hr e=>?_) ht
 ·rcases List.mem_or_eq_of_mem_set hb with hb|rfl
  ·have:=(M.box b hb).lt;omega
  ·have:=(M.box _ (atb hi)).lt;simp only at this ⊢;omega
 ·have:=((M.row r hr).lt g e).2;omega
theorem J_{u:Int}{n m g:Nat}{conds:List aA}{l:List ak}{N:List ((ak×Int)×Nat)}{y:ak}(hy:l[m]?=some y)(h:N.map (·.1)=(l.take m).map fun y=>(y,dM u n conds (Ed y))):(N++[((y,dM u n conds (Ed y)),g)]).map (fun z:(ak×Int)×Nat=>z.1)=(l.take (m+1)).map fun y=>(y,dM u n conds (Ed y)):=by
 rw[bD hy,atp,atp,← h];simp
theorem PB(w0:World)(base tp mb:Nat)(c0 c1 c2 c3 c4 c6 c7 c8 c9 aW aP aO aU aT aS aR:Value)(gh:Option Addr)(nB f_:Nat)(u:Int)(conds:List aA)(hn:nB≤5)(hE:lF w0 c8 conds)(hcl:conds.length≤1000)(q:ak)(hk:jq q.cond)(ZK:fO w0 base tp mb c0 c1 c2 c3 c4 (.slice gh nB f_) c6 c7 c8 c9 aW aP aO aU aT aS aR u (dM u nB conds)):Calls Tryz.prog 151 #[.pointer (some ⟨tp,0,none⟩),.agg #[.int .i64 q.kind,.int .u64 q.src.a,.int .u64 q.src.b,.int .u64 q.src.c,.int .u64 q.src.d,.int .u64 q.tgt.a,.int .u64 q.tgt.b,.int .u64 q.tgt.c,.int .u64 q.tgt.d,.bool q.self,.int .i64 q.cls,.int .u32 q.perms,.int .i64 q.cond]] w0 (fun(r:Ending) (w':World)=>∃ v,r=.returned v∧(NN base mb (dM u nB conds (Ed q)) v w'∧Fz base tp mb c0 c1 c2 c3 c4 (.slice gh nB f_) c6 c7 c8 c9 aW aP aO aU aT aS aR u (dM u nB conds) w0 w')):=
 (PD w0 base tp mb _ _ _ _ _ _ _ _ _ _ _ _ _ _ _ _ gh nB f_ u conds hn hE hcl q hk ZK).mono fun _ _ ⟨v,e,h1,h2,h3⟩=>⟨v,e,UN h1 h2,h3,fun _=>h2⟩
theorem zY(w0:World)(c0 c1 c2 c3 c4 c5 c6 c7 c8 c9 aW aP aO aU aT aS aR:Value)(p:aG)(hp:aL w0 c0 c1 c2 c3 c4 c5 c6 c7 c8 c9 aW aP aO aU aT aS aR p)(hok:p.Ok)(hn:p.bools.length≤5)(hcl:p.conds.length≤1000)(hcr:p.rules.length≤4096):Calls Tryz.prog 78 #[.agg #[c0,c1,c2,c3,c4,c5,c6,c7,c8,c9,aW,aP,aO,aU,aT,aS,aR]] w0 (fun(r:Ending) (w':World)=>∃ v,r=.returned v∧((∃ N:List ((ak×Int)×Nat),N.map (·.1)=(p.rules.map fun y=>(y,(dM (aY p.bools.length) p.bools.length p.conds (Ed y))))∧w'.ownsRow w0.heap.size 146 14 v N.length (N.flatMap lP)∧cH w' w0.heap.size N)∧as5 w0.heap.size w0 w')):=by
 obtain⟨gh,f_,rfl,Uy,hm5,Ec⟩:=SliceAt.form hp.bools (by decide);obtain⟨Sh,O3,rfl,hk9,hm9,Lb⟩:=SliceAt.form hp.rules (by decide);have aM:=hr1 Tryz.prog Tryz.f78 (fun(r:Ending) (w':World)=>∃ v,r=.returned v∧((∃ N:List ((ak×Int)×Nat),N.map (·.1)=(p.rules.map fun y=>(y,(dM (aY p.bools.length) p.bools.length p.conds (Ed y))))∧w'.ownsRow w0.heap.size 146 14 v N.length (N.flatMap lP)∧cH w' w0.heap.size N)∧as5 w0.heap.size w0 w')) 26 2 rfl;refine en Tryz.func78 rfl Tryz.ntmps78 rfl (vs:=[.agg #[c0,c1,c2,c3,c4,.slice gh p.bools.length f_,c6,c7,c8,.slice Sh p.rules.length O3,aW,aP,aO,aU,aT,aS,aR]]) rfl fun _ F=>?_
 have M:=Mm.start w0;refine atc fun K1 dw=>ah<|oG (on rfl) rfl (F.u rf) rfl F rfl M fun g1 _ _ F M=>xA (v:=.slice none 0 0) F rf rf rf fun _ F=>atd<|dw _ _ ?_
 refine atc fun K2 cQ=>ah<|xW F (M.b 0 rfl) rf rf rf iU rf kS rf fun _ F=>kx (on rfl) (bw rfl Tryz.func148 Xv rfl (args1 (F.u rf))) (mw _ _ _ _ _ _ _ _ _ _ _ _ _ _ _ _ _ gh p.bools.length f_ hn) rfl F rfl M fun tv _ _ hR hB F _=>?_
 obtain⟨tp,mb,rfl,Bo,hMb,Zs,Zu⟩:=hR;have M:=M.DX hB (b1:=(tp,304,#[c0,c1,c2,c3,c4,.slice gh p.bools.length f_,c6,c7,c8,.slice Sh p.rules.length O3,aW,aP,aO,aU,aT,aS,aR,.int .i64 1,.int .u64 (aY p.bools.length),(.map (some mb))])) (.inl ⟨rfl,Bo⟩) Zs (b2:=(mb,9003,eu [])) (lN hMb) Zu (gG Bo hMb);refine xA F rf rf rf fun _ F=>atd<|cQ _ _ ?_
 refine atc fun K3 fJ=>?_
 have M:=M.bX 146 14;refine ah<|xA (v:=.slice none 0 0) F rf rf rf fun _ F=>atd<|fJ _ _ ?_
 refine atc fun K4 fQ=>atc fun K5 gL=>ah<|xF 9 F rf rf rf iU rf U9 rf fun _ F=>xL F (M.b 2 rfl) rf rf rf Yw rf rf fun _ F=>kz F rf (bA rfl (F.u rf) Yw) fun _ F=>xM (v:=.int .i64 0) F rf rf rf fun _ F=>atd<|gL _ _ ?_
 refine atf<|?_;refine bV (ι:=Nat×Value×List ((ak×Int)×Nat)×List (Int×Value)) (fun|(m,v,N,L),a,w=>Fs a 26 [(3,.pointer (some ⟨tp,0,none⟩)),(4,v),(10,.slice Sh p.rules.length O3),(11,.int .i64 (p.rules.length:Int)),(12,.int .i64 (m:Int))]∧Mm w0 w [(tp,304,#[c0,c1,c2,c3,c4,.slice gh p.bools.length f_,c6,c7,c8,.slice Sh p.rules.length O3,aW,aP,aO,aU,aT,aS,aR,.int .i64 1,.int .u64 (aY p.bools.length),(.map (some mb))]),(mb,9003,eu L)] [⟨v,146,14,N.length,N.flatMap lP⟩]∧m≤p.rules.length∧N.map (·.1)=((p.rules.take m).map fun y=>(y,(dM (aY p.bools.length) p.bools.length p.conds (Ed y))))∧cH w w0.heap.size N∧Bf w w0.heap.size L (dM (aY p.bools.length) p.bools.length p.conds)) (fun|(m,v,N,L)=>p.rules.length-m) (0,.slice none 0 0,[],[]) ⟨F.sub ⟨rfl,rfl,rfl,rfl,rfl,trivial⟩,M.only (.cons_cons _ (.cons_cons _ (.cons _ .slnil))) (.cons_cons _ .slnil),as9 _,rfl,cH.nil _ _,Bf.nil _ _ _⟩ ?_
 (repeat clear F);(repeat clear M)
 rintro⟨m,v,N,L⟩ _ _ ⟨F,M,hm,BJ,hN,hL⟩;have MR:=M;have M:=M.DN;refine atc fun K6 iC=>ah<|kz F rf (d_ rfl (F.u rf) (F.u rf)) fun _ F=>atd<|iC _ _ ?_
 refine atc fun K7 iO=>?_
 refine ate (F.e 13 rfl) (fun hc2=>?_) (fun hc2=>?_)
 ·have hd3:=of_decide_eq_true hc2;refine wp_skip<|iO _ _ ?_;refine atc fun K8 jf=>atf<|atc fun K9 jW=>?_
  have hlt:m<p.rules.length:=by omega
  obtain⟨y,hy⟩:∃ y,p.rules[m]?=some y:=⟨_,as7 hlt⟩;obtain⟨b9,ob9,rfl,adJ⟩:=Lb m hlt
  have agG:∀ j uu,[.int .i64 y.kind,.int .u64 y.src.a,.int .u64 y.src.b,.int .u64 y.src.c,.int .u64 y.src.d,.int .u64 y.tgt.a,.int .u64 y.tgt.b,.int .u64 y.tgt.c,.int .u64 y.tgt.d,.bool y.self,.int .i64 y.cls,.int .u32 y.perms,.int .i64 y.cond][j]?=some uu→w0.cell? ⟨b9,ob9+m*13+j,none⟩=some uu:=fun j u hu=>adJ j u (by
   rw[gN ak.ez hy j (ata.1 hu).1];exact hu)
  clear adJ;have pN:=hok.rules y (atb hy)
  have hlN:N.length≤4096:=by
   have h:=congrArg List.length BJ;rw[atm,atm] at h;rw[h];exact atg (List.length_take_le _ _) (atg (Nat.le_of_lt hlt) hcr)
  refine ah<|
   kz F rf (aK (i:=m) rfl (F.u rf) (F.u rf) (by omega) Yw rC) fun _ F=>
   kz F rf (bT [.int .i64 y.kind,.int .u64 y.src.a,.int .u64 y.src.b,.int .u64 y.src.c,.int .u64 y.src.d,.int .u64 y.tgt.a,.int .u64 y.tgt.b,.int .u64 y.tgt.c,.int .u64 y.tgt.d,.bool y.self,.int .i64 y.cls,.int .u32 y.perms,.int .i64 y.cond] rfl (F.u rf) Qw rfl rC (dJ (MR.below.trans M.below) agG)) fun _ F=>
   sF (on rfl) rfl oy rfl F rfl M fun g4 _ _ F M=>
   sE (on rfl) rfl (F.u rf) (F.u rf) F M 0 rfl rC rfl rfl rfl fun _ M=>
   atd<|
   jW _ _ ?_
  have hT8:fO _ w0.heap.size tp mb c0 c1 c2 c3 c4 (.slice gh p.bools.length f_) c6 c7 c8 (.slice (some ⟨b9,ob9,none⟩) p.rules.length O3) aW aP aO aU aT aS aR (aY p.bools.length) (dM (aY p.bools.length) p.bools.length p.conds):=⟨M.b 1 rfl,⟨_,M.map 2 rfl,hL.old M.old⟩,⟨M.lo _ (atb (i:=1) rfl),M.lo _ (atb (i:=2) rfl)⟩⟩;have agS:∀ k∈[mb],w0.heap.size≤k:=fun k hk=>by rw[ati.1 hk];exact hT8.lo.2
  refine rdS (Fz w0.heap.size tp mb c0 c1 c2 c3 c4 (.slice gh p.bools.length f_) c6 c7 c8 (.slice (some ⟨b9,ob9,none⟩) p.rules.length O3) aW aP aO aU aT aS aR (aY p.bools.length) (dM (aY p.bools.length) p.bools.length p.conds)) JU JT 7 [16,17,18,19,20,21,22] [bL (v),bL (.agg #[.int .i64 y.kind,.int .u64 y.src.a,.int .u64 y.src.b,.int .u64 y.src.c,.int .u64 y.src.d,.int .u64 y.tgt.a,.int .u64 y.tgt.b,.int .u64 y.tgt.c,.int .u64 y.tgt.d,.bool y.self,.int .i64 y.cls,.int .u32 y.perms,.int .i64 y.cond]),bL (.pointer (some ⟨tp,0,none⟩)),bL (.agg #[.int .i64 y.kind,.int .u64 y.src.a,.int .u64 y.src.b,.int .u64 y.src.c,.int .u64 y.src.d,.int .u64 y.tgt.a,.int .u64 y.tgt.b,.int .u64 y.tgt.c,.int .u64 y.tgt.d,.bool y.self,.int .i64 y.cls,.int .u32 y.perms,.int .i64 y.cond]),(NN w0.heap.size mb (dM (aY p.bools.length) p.bools.length p.conds (Ed y))),(aep w0.heap.size mb y (dM (aY p.bools.length) p.bools.length p.conds (Ed y))),(SlG M.wd w0.heap.size mb y (dM (aY p.bools.length) p.bools.length p.conds (Ed y)))] (by kernel_rfl) (by kernel_rfl) (by kernel_rfl) rfl (by decide) rfl rfl F ⟨qA _ _,qA _ _,qA _ _,qA _ _,KN,O9,Sc,trivial⟩ ⟨?_,?_,?_,?_,?_,?_,?_,trivial⟩ ?_
  ·exact fun a w Q' hf hi H G hK hE=>dv (on rfl) (bC rfl (G 4 _ rfl (F.g 4 rfl)).ev) rfl hf rfl hK rfl
  ·exact fun a w Q' hf hi H G hK hE=>dv (on rfl) (lV rfl (G 6 _ rfl (F.g 6 rfl)).ev Qw rfl (hi.1.whole (M.b 0 rfl) (PK (gG (M.b 0 rfl) (M.map 2 rfl)))) rC rfl) rfl hf rfl hK rfl
  ·exact fun a w Q' hf hi H G hK hE=>dv (on rfl) (bC rfl (G 3 _ rfl (F.g 3 rfl)).ev) rfl hf rfl hK rfl
  ·exact fun a w Q' hf hi H G hK hE=>dv (on rfl) (lV rfl (G 6 _ rfl (F.g 6 rfl)).ev Qw rfl (hi.1.whole (M.b 0 rfl) (PK (gG (M.b 0 rfl) (M.map 2 rfl)))) rC rfl) rfl hf rfl hK rfl
  ·exact fun a w Q' hf hi H G hK hE=>dxS (on rfl) (bw rfl Tryz.func151 acy rfl (args2 (iA (H 2 ⟨.data,by simp,rfl⟩ _ _ rfl rfl)).ev (iA (H 3 ⟨.data,by simp,rfl⟩ _ _ rfl rfl)).ev)) (PB _ w0.heap.size tp mb _ _ _ _ _ _ _ _ _ _ _ _ _ _ _ _ gh p.bools.length f_ (aY p.bools.length) p.conds hn (hp.conds.keep ((MR.below.trans M.below).trans (hi.1.below M.big agS))) hcl y (hok.rules y (atb hy)).cond (hi.2 hT8)) rfl hf rfl hE
  ·intro a w Q' hf hi H G hK hE;obtain⟨_,h20,Wr,rfl,hg8,V9,Zp⟩:=H 4 ⟨.data,by simp,rfl⟩ _ _ rfl rfl;exact dv (on rfl) (tX rfl (pv:=#[(0,.agg #[.int .i64 y.kind,.int .u64 y.src.a,.int .u64 y.src.b,.int .u64 y.src.c,.int .u64 y.src.d,.int .u64 y.tgt.a,.int .u64 y.tgt.b,.int .u64 y.tgt.c,.int .u64 y.tgt.d,.bool y.self,.int .i64 y.cls,.int .u32 y.perms,.int .i64 y.cond]),(1,.slice (some ⟨Wr,0,none⟩) 1 1)]) (by simp[(iA (H 1 ⟨.data,by simp,rfl⟩ _ _ rfl rfl)).ev,h20.ev]) (cells:=#[.int .i64 y.kind,.int .u64 y.src.a,.int .u64 y.src.b,.int .u64 y.src.c,.int .u64 y.src.d,.int .u64 y.tgt.a,.int .u64 y.tgt.b,.int .u64 y.tgt.c,.int .u64 y.tgt.d,.bool y.self,.int .i64 y.cls,.int .u32 y.perms,.int .i64 y.cond,.slice (some ⟨Wr,0,none⟩) 1 1]) (by kernel_rfl)) rfl hf rfl hK ⟨Wr,rfl,hg8,V9,Zp⟩
  ·intro a w Q' hf hi H G hK hE;obtain⟨_,h21,Wr,rfl,hg8,V9,Zp⟩:=H 5 ⟨.data,by simp,rfl⟩ _ _ rfl rfl;exact dn (f:=fun n=>.slice (some ⟨n,0,none⟩) 1 1) (on rfl) (kB rfl xT jJ wH (by decide) (by decide) (pv:=#[(0,.agg #[.int .i64 y.kind,.int .u64 y.src.a,.int .u64 y.src.b,.int .u64 y.src.c,.int .u64 y.src.d,.int .u64 y.tgt.a,.int .u64 y.tgt.b,.int .u64 y.tgt.c,.int .u64 y.tgt.d,.bool y.self,.int .i64 y.cls,.int .u32 y.perms,.int .i64 y.cond,.slice (some ⟨Wr,0,none⟩) 1 1])]) (by simp[h21.ev]) (cells:=#[.int .i64 y.kind,.int .u64 y.src.a,.int .u64 y.src.b,.int .u64 y.src.c,.int .u64 y.src.d,.int .u64 y.tgt.a,.int .u64 y.tgt.b,.int .u64 y.tgt.c,.int .u64 y.tgt.d,.bool y.self,.int .i64 y.cls,.int .u32 y.perms,.int .i64 y.cond,.slice (some ⟨Wr,0,none⟩) 1 1]) (by kernel_rfl)) rfl hf rfl hK (fun b w' n=>⟨b,Wr,rfl,n.whole,n.at_▸hi.1.size,by have:=n.at_;have:=(M.map 2 rfl).lt;have:=hi.1.size;omega,Whole.under n.below hg8 hg8.lt,V9,Zp⟩)
  (repeat clear F);intro _ _ qK F D
  obtain⟨_,h,rfl⟩:=D 0 _ _ rfl rfl;have F:=F.add h;obtain⟨_,h,b8,Wr,rfl,hb8,ag8,-,hg8,V9,-⟩:=D 6 _ _ rfl rfl;have F:=F.add h;obtain⟨aha,⟨L9,Ng,hL9⟩,-⟩:=qK.2 hT8;have M:=M.U4 2 rfl qK.1 Ng hb8 ag8;have hN:=hN.old M.old;have MR:=MR.comp M;have M:=M.DN;have hL:Bf _ _ _ _:=hL9;clear D qK;intro Qt BI;refine kp (on rfl) rfl xT Sr rfl M 0 rfl (F.u rf) (F.u rf) (M.slice 0 rfl rfl rfl (by simp[maxLen])) ⟨by unfold maxLen;omega,by omega⟩ rfl F rfl fun v5 _ _ F M=>atd (BI _ _ ?_)
  intro Qt BI;refine xA F rf rf rf fun _ F=>atd (BI _ _ ?_)
  refine jf _ _ ?_
  refine ah<|
   ke (on rfl) (cL rfl (F.u rf) rfl) rfl F rfl (congrArg (Value.int .i64) (wrap_i64 (by omega))) fun _ F=>
   xM F rf rf rf fun _ F=>
   atd<|?_
  exact⟨(m+1,v5,N++[((y,(dM (aY p.bools.length) p.bools.length p.conds (Ed y))),Wr)],L9),⟨F.sub ⟨rfl,rfl,rfl,rfl,rfl,trivial⟩,(MR.comp (M.only (.cons _ (.cons _ (.cons_cons _ (.cons_cons _ .slnil)))) (.cons_cons _ .slnil))).cast rfl (by rw[atq,atr];rfl),by omega,J_ hy BJ,(hN.old M.old).snoc (M.old _ _ hg8) V9,hL.old M.old⟩,by show p.rules.length-(m+1)<p.rules.length-m;omega⟩
 ·have vU:=of_decide_eq_false hc2;refine wp_exit<|fQ _ _ ?_;refine atc fun Bh dU=>ah<|xM F rf rf rf fun _ F=>xA F rf rf rf fun _ F=>atd<|dU _ _ ?_
  refine wp_ret<|aM _ _ _ _ F rfl ?_;exact⟨_,rfl,⟨N,(by rw[BJ,List.take_of_length_le (by omega)]),M.r 0 rfl,hN⟩,(MR.below.trans M.below)⟩
theorem KG{s:au}{k:Nat}:k∈elems s↔k<256∧s.has k=true:=by
 unfold elems cZ;rw[List.mem_filter,List.mem_range]
theorem zX{r:ak}{s o:Nat}(hs:s<256)(ho:o<256):(s,o)∈r.pairs↔r.src.has s=true∧(r.tgt.has o||r.self&&decide (s=o))=true:=by
 unfold ak.pairs ak.dO;simp only[List.mem_flatMap,atl,Prod.mk.injEq,KG];constructor
 ·rintro⟨a,⟨-,ha⟩,b,⟨-,hb⟩,rfl,rfl⟩;refine⟨ha,?_⟩;unfold ak.tgts at hb
  cases hq:r.self with
  | false=>rw[hq] at hb;simpa using hb
  | true=>
   rw[hq,if_pos rfl] at hb;unfold au.with at hb;rw[if_pos ⟨by omega,by omega⟩,Int.toNat_natCast,au.has_add _ hs ho] at hb;rcases Bool.or_eq_true_iff.1 hb with h|h
   ·have:b=a:=by simpa using h
    subst this;simp
   ·simp[h]
 ·rintro⟨h1,h2⟩;refine⟨s,⟨hs,h1⟩,o,⟨ho,?_⟩,rfl,rfl⟩;unfold ak.tgts
  cases hq:r.self with
  | false=>rw[hq] at h2;simpa using h2
  | true=>
   rw[if_pos rfl]
   unfold au.with
   rw[if_pos ⟨by omega,by omega⟩,Int.toNat_natCast,au.has_add _ hs ho];rw[hq] at h2;rcases Bool.or_eq_true_iff.1 h2 with h|h
   ·simp[h]
   ·have:s=o:=by simpa using h
    subst this;simp
theorem vH{r:ak}{p:Nat×Nat}(h:p∈r.pairs):p.1<256∧p.2<256:=by
 unfold ak.pairs ak.dO at h;obtain⟨s,hs,hp⟩:=List.mem_flatMap.1 h;obtain⟨t,ht,rfl⟩:=atl.1 hp;simp[elems,cZ] at hs ht;exact⟨hs.1,ht.1⟩
def ib(x:Int)(r:Nat):Bool:=x.toNat.testBit r
def uN(x:Int):Prop:=0≤x∧x<18446744073709551616
def yp(x:Int):Prop:=0≤x∧x<4294967296
theorem Dj(n:Int):IntKind.u64.wrap n=n%18446744073709551616:=by simp[IntKind.wrap,IntKind.bits,IntKind.signed]
theorem iT(op:BinOp)(a b:Int):uN (bits op .u64 a b):=by
 unfold bits;simp only[Dj];constructor<;>omega
theorem F5(op:BinOp)(a b:Int):yp (bits op .u32 a b):=by
 unfold bits;simp only[IntKind.wrap_u32];constructor<;>omega
theorem wV{x:Int}(h:uN x):(BitVec.ofInt 64 x).toNat=x.toNat:=by
 obtain⟨a,rfl⟩:=Int.eq_ofNat_of_zero_le h.1;rw[BitVec.ofInt_natCast,BitVec.toNat_ofNat];have:=h.2;simp only[Int.toNat_natCast];exact Nat.mod_eq_of_lt (by omega)
theorem tO(op:BinOp){a b:Int}(ha:uN a)(hb:uN b)(r:Nat):ib (bits op .u64 a b) r=match op with|.and=>ib a r&&ib b r|.or=>ib a r||ib b r|.xor=>ib a r ^^ ib b r|_=>ib a r&&!ib b r:=by
 have key:∀ v:BitVec 64,ib (IntKind.u64.wrap (v.toNat:Int)) r=v.getLsbD r:=by
  intro v;have:=v.isLt;unfold ib;rw[Dj,Int.emod_eq_of_lt (by omega) (by omega),Int.toNat_natCast];rfl
 have ga:(BitVec.ofInt 64 a).getLsbD r=ib a r:=by unfold BitVec.getLsbD;rw[wV ha];rfl
 have gb:(BitVec.ofInt 64 b).getLsbD r=ib b r:=by unfold BitVec.getLsbD;rw[wV hb];rfl
 have aoo:ib b r=true→r<64:=fun h=>by rw[← gb] at h;exact BitVec.lt_of_getLsbD h
 have Z1:ib a r=true→r<64:=fun h=>by rw[← ga] at h;exact BitVec.lt_of_getLsbD h
 unfold bits;show ib (IntKind.u64.wrap ((BitVec.toNat (match op with|.and=>BitVec.ofInt 64 a&&&BitVec.ofInt 64 b|.or=>BitVec.ofInt 64 a|||BitVec.ofInt 64 b|.xor=>BitVec.ofInt 64 a ^^^ BitVec.ofInt 64 b|_=>BitVec.ofInt 64 a&&&~~~BitVec.ofInt 64 b):Nat):Int)) r=_;rw[key];cases op<;>simp only[BitVec.getLsbD_and,BitVec.getLsbD_or,BitVec.getLsbD_xor,BitVec.getLsbD_not,ga,gb] <;>
 ·cases h:ib a r<;>simp;intro _;exact Z1 h
theorem V3(r:Nat):ib 18446744073709551615 r=decide (r<64):=by
 unfold ib;rw[show(18446744073709551615:Int).toNat=2^64-1 from rfl,Nat.testBit_two_pow_sub_one]
theorem V1(n r:Nat):ib (2^n-1) r=decide (r<n):=by
 unfold ib
 have:((2:Int)^n-1).toNat=2^n-1:=by
  rw[show((2:Int)^n-1)=((2^n-1:Nat):Int) by rw[Int.natCast_sub (Nat.two_pow_pos n)];simp];exact Int.toNat_natCast _
 rw[this,Nat.testBit_two_pow_sub_one]
theorem KY{x y:Int}(hx:0≤x)(hy:0≤y)(h:∀ r,ib x r=ib y r):x=y:=by
 have:=Nat.eq_of_testBit_eq (x:=x.toNat) (y:=y.toNat) h;omega
theorem iB(r:Nat):ib 0 r=false:=by unfold ib;simp
theorem UM(n:Int):IntKind.u32.wrap n=n%4294967296:=by simp[IntKind.wrap,IntKind.bits,IntKind.signed]
theorem qU{x:Int}(h:yp x):(BitVec.ofInt 32 x).toNat=x.toNat:=by
 obtain⟨a,rfl⟩:=Int.eq_ofNat_of_zero_le h.1;rw[BitVec.ofInt_natCast,BitVec.toNat_ofNat];have:=h.2;simp only[Int.toNat_natCast];exact Nat.mod_eq_of_lt (by omega)
theorem D6(op:BinOp){a b:Int}(ha:yp a)(hb:yp b)(r:Nat):ib (bits op .u32 a b) r=match op with|.and=>ib a r&&ib b r|.or=>ib a r||ib b r|.xor=>ib a r ^^ ib b r|_=>ib a r&&!ib b r:=by
 have key:∀ v:BitVec 32,ib (IntKind.u32.wrap (v.toNat:Int)) r=v.getLsbD r:=by
  intro v;have:=v.isLt;unfold ib;rw[UM,Int.emod_eq_of_lt (by omega) (by omega),Int.toNat_natCast];rfl
 have ga:(BitVec.ofInt 32 a).getLsbD r=ib a r:=by unfold BitVec.getLsbD;rw[qU ha];rfl
 have gb:(BitVec.ofInt 32 b).getLsbD r=ib b r:=by unfold BitVec.getLsbD;rw[qU hb];rfl
 have Z1:ib a r=true→r<32:=fun h=>by rw[← ga] at h;exact BitVec.lt_of_getLsbD h
 unfold bits;show ib (IntKind.u32.wrap ((BitVec.toNat (match op with|.and=>BitVec.ofInt 32 a&&&BitVec.ofInt 32 b|.or=>BitVec.ofInt 32 a|||BitVec.ofInt 32 b|.xor=>BitVec.ofInt 32 a ^^^ BitVec.ofInt 32 b|_=>BitVec.ofInt 32 a&&&~~~BitVec.ofInt 32 b):Nat):Int)) r=_;rw[key];cases op<;>simp only[BitVec.getLsbD_and,BitVec.getLsbD_or,BitVec.getLsbD_xor,BitVec.getLsbD_not,ga,gb] <;>
 ·cases h:ib a r<;>simp;intro _;exact Z1 h
theorem Sz(k r:Nat):ib ((2:Int)^k) r=decide (k=r):=by
 unfold ib;rw[show((2:Int)^k).toNat=2^k by rw[show((2:Int)^k)=((2^k:Nat):Int) by simp];exact Int.toNat_natCast _,Nat.testBit_two_pow]
theorem D7{x:Int}(h:0≤x):x=0↔∀ r,ib x r=false:=⟨fun e r=>by rw[e];exact iB r,fun H=>KY h (Int.le_refl _) fun r=>by rw[H r,iB]⟩
theorem V2{x:Int}(h:yp x){r:Nat}(hr:ib x r=true):r<32:=by
 refine Classical.byContradiction fun hn=>?_
 unfold ib at hr;have h2:x.toNat<2^r:=Nat.lt_of_lt_of_le (show x.toNat<2^32 by have:=h.2;have:=h.1;omega) (Nat.pow_le_pow_right (by decide) (by omega));rw[Nat.testBit_lt_two_pow h2] at hr;cases hr
theorem WH(k:Nat):yp (mK k):=by
 unfold mK;split
 ·rename_i h;refine⟨Int.pow_nonneg (by decide),?_⟩;have h2:(2:Nat)^k<2^32:=Nat.pow_lt_pow_right (by decide) h;rw[show((2:Int)^k)=((2^k:Nat):Int) by simp];omega
 ·exact⟨Int.le_refl _,by decide⟩
theorem Fq{p:Int}(hp:yp p){k:Nat}(hk:k<32):decide (bits .and .u32 p (mK k)=0)=!ib p k:=by
 have h:=D6 .and hp (WH k);have hb:∀ r,ib (mK k) r=decide (k=r):=fun r=>by unfold mK;rw[if_pos hk];exact Sz k r
 cases e:ib p k with
 | true=>
  rw[decide_eq_false];rfl;intro h0;have h1:=h k;rw[h0,iB,e,hb] at h1;simp at h1
 | false=>
  rw[decide_eq_true];rfl;refine(D7 (F5 _ _ _).1).2 fun r=>?_
  rw[h r,hb];by_cases hkr:k=r
  ·subst hkr;simp[e]
  ·simp[hkr]
def Gv(l:List (ak×Int))(kind cls:Int)(s t k r:Nat):Prop:=∃ y∈l,y.1.kind=kind∧y.1.cls=cls∧ib y.1.perms k=true∧ld y.1 s t=true∧ib y.2 r=true
structure Um (l:List (ak×Int)):Prop where
 perms:∀ y∈l,yp y.1.perms
 Cd:∀ y∈l,uN y.2
theorem Gp{s t:Int}{k:Nat}(hk:k<32):∀ (l:List (ak×Int)) (x:Int),Um l→uN x→uN (l.foldl (vh s t (mK k)) x)∧∀ r,ib (l.foldl (vh s t (mK k)) x) r=(ib x r&&l.all fun y=>!(ib y.1.perms k&&ld y.1 s t&&ib y.2 r))
 | [],x,_,hx=>⟨hx,fun r=>by simp⟩
 | y::l,x,hl,hx=>by
  have hl':Um l:=⟨fun z hz=>hl.perms z (by simp[hz]),fun z hz=>hl.Cd z (by simp[hz])⟩;have hy:=hl.perms y (by simp);have hw:=hl.Cd y (by simp);rw[List.foldl_cons]
  have e:vh s t (mK k) x y=if (ib y.1.perms k&&ld y.1 s t)=true then bits .andNot .u64 x y.2 else x:=by
   unfold vh;rw[Fq hy hk];cases ib y.1.perms k<;>cases ld y.1 s t<;>rfl
  have hx':uN (vh s t (mK k) x y):=by rw[e];split;exact iT _ _ _;exact hx
  obtain⟨h1,h2⟩:=Gp hk l _ hl' hx';refine⟨h1,fun r=>?_⟩;rw[h2 r,e,List.all_cons];split
  ·rename_i hc;rw[tO .andNot hx hw r,hc,Bool.true_and,← Bool.and_assoc]
  ·rename_i hc;rw[show(ib y.1.perms k&&ld y.1 s t)=false by simpa using hc];simp
theorem Mp{l:List (ak×Int)}{x:Int}(hl:Um l)(hx:uN x){s t:Int}{k:Nat}(hk:k<32):Oo x l s t (mK k)=true↔∀ r,ib x r=true→∃ y∈l,ib y.1.perms k=true∧ld y.1 s t=true∧ib y.2 r=true:=by
 obtain⟨h1,h2⟩:=Gp (s:=s) (t:=t) hk l x hl hx;unfold Oo;rw[decide_eq_true_iff,D7 h1.1];constructor
 ·intro H r hr;have h:=H r;rw[h2 r,hr,Bool.true_and,List.all_eq_false] at h;obtain⟨y,hy,hn⟩:=h;refine⟨y,hy,?_⟩;simpa[att,and_assoc] using hn
 ·intro H r;rw[h2 r]
  cases e:ib x r with
  | false=>rfl
  | true=>
   obtain⟨y,hy,a1,a2,a3⟩:=H r e;rw[Bool.true_and,List.all_eq_false];exact⟨y,hy,by simp[a1,a2,a3]⟩
theorem Ws(r:ak){s t:Nat}(hs:s<256)(ht:t<256):ld r s t=(r.src.has s&&(r.tgt.has t||r.self&&decide (s=t))):=by
 have e1:∀ (a:au) (n:Nat),n<256→a.mem (n:Int)=a.has n:=fun a n hn=>by
  unfold au.mem;rw[Int.toNat_natCast,decide_eq_true (by omega:(0:Int)≤n∧(n:Int)<256),Bool.true_and]
 have e2:decide ((s:Int)=(t:Int))=decide (s=t):=decide_eq_decide.2 (by omega);unfold ld;rw[e1 _ _ hs,e1 _ _ ht,e2]
theorem kM{r:ak}{s t:Nat}(hs:s<256)(ht:t<256):ld r s t=true↔(s,t)∈r.pairs:=by
 rw[Ws r hs ht,zX hs ht,att]
theorem VN{x y:ak}(hx:yp x.perms)(hy:yp y.perms)(h1:y.kind=x.kind)(h2:y.cls=x.cls){k:Nat}(hk1:ib x.perms k=true)(hk2:ib y.perms k=true):kW x y=true:=by
 unfold kW;rw[decide_eq_true h1,decide_eq_true h2,decide_eq_false];rfl;intro h0;have h:=D6 .and hy hx k;rw[h0,iB,hk1,hk2] at h;cases h
theorem Nz{x:ak×Int}{l:List (ak×Int)}(hx:yp x.1.perms)(hw:uN x.2)(hl:Um l):ji x l=true↔∀ s t k r:Nat,s<256→t<256→ld x.1 s t=true→ib x.1.perms k=true→ib x.2 r=true→Gv l x.1.kind x.1.cls s t k r:=by
 have hf:Um (l.filter fun y=>kW x.1 y.1):=⟨fun y hy=>hl.perms y (List.mem_filter.1 hy).1,fun y hy=>hl.Cd y (List.mem_filter.1 hy).1⟩;unfold ji;rw[Bool.or_eq_true,decide_eq_true_iff];constructor
 ·intro H s t k r hs ht hg hk hr;rcases H with H|H
  ·rw[H,iB] at hr;cases hr
  ·have Al:=V2 hx hk;have h:=ato.1 (ato.1 H (s,t) ((kM hs ht).1 hg)) k (List.mem_range.2 Al);unfold IU at h;rw[Fq hx Al,hk] at h;obtain⟨y,hy,a1,a2,a3⟩:=(Mp hf hw Al).1 (by simpa using h) r hr;obtain⟨b1,b2⟩:=List.mem_filter.1 hy;unfold kW at b2;simp only[att,decide_eq_true_iff] at b2;exact⟨y,b1,b2.1.1,b2.1.2,a1,a2,a3⟩
 ·intro H;refine .inr (ato.2 fun p hp=>ato.2 fun k hk=>?_);have Al:=List.mem_range.1 hk;obtain⟨hs,ht⟩:=vH hp;unfold IU;rw[Fq hx Al]
  cases e:ib x.1.perms k with
  | false=>rfl
  | true=>
   have:Oo x.2 (l.filter fun y=>kW x.1 y.1) p.1 p.2 (mK k)=true:=(Mp hf hw Al).2 fun r hr=>by
    obtain⟨y,hy,a1,a2,a3,a4,a5⟩:=H p.1 p.2 k r hs ht ((kM hs ht).2 hp) e hr;exact⟨y,List.mem_filter.2 ⟨hy,VN hx (hl.perms y hy) a1 a2 e a3⟩,a3,a4,a5⟩
   rw[this];rfl
theorem MW{a b:List (ak×Int)}(ha:Um a)(hb:Um b):qI a b=true↔∀ (kind cls:Int) (s t k r:Nat),s<256→t<256→Gv a kind cls s t k r→Gv b kind cls s t k r:=by
 unfold qI;rw[ato];constructor
 ·rintro H kind cls s t k r hs ht ⟨y,hy,rfl,rfl,a3,a4,a5⟩;exact(Nz (ha.perms y hy) (ha.Cd y hy) hb).1 (H y hy) s t k r hs ht a4 a3 a5
 ·intro H x hx;exact(Nz (ha.perms x hx) (ha.Cd x hx) hb).2 fun s t k r hs ht hg hk hr=>H _ _ s t k r hs ht ⟨x,hx,rfl,rfl,hk,hg,hr⟩
def Ww(n r:Nat)(op a:Int)(l:List Bool):Bool:=
 if iD n op a l.length=true then false else if op=1 then r.testBit a.toNat else if op=2 then !(l.getD 0 false) else
  if op=3 then l.getD 0 false&&l.getD 1 false else if op=4 then l.getD 0 false||l.getD 1 false else if op=6 then !(l.getD 0 false ^^ l.getD 1 false) else l.getD 0 false ^^ l.getD 1 false
mutual
def Lr(n r:Nat):aA→Bool
 | .node op a _ _ _ _ kids=>Ww n r op a (UF n r kids)
def UF(n r:Nat):List aA→List Bool
 | []=>[]
 | k::l=>Lr n r k::UF n r l
end
theorem Ef(n r:Nat)(e:aA):Lr n r e=Ww n r e.op e.a (UF n r e.kids):=by cases e;rw[Lr];rfl
theorem Mi{n:Nat}(h:n≤5):uN (aY n):=by
 unfold uN aY;rcases five h with rfl|rfl|rfl|rfl|rfl|rfl<;>decide
theorem MX(n r:Nat):ib (aY n) r=decide (r<2^n):=V1 (2^n) r
theorem Q_:uN 18446744073709551615:=by unfold uN;decide
theorem mL:uN 0:=by unfold uN;decide
theorem Kv(u x:Int):uN (notM u x):=iT _ _ _
theorem Ai{n:Nat}(hn:n≤5){x:Int}(hx:uN x)(r:Nat):ib (notM (aY n) x) r=(decide (r<2^n)&&!ib x r):=by
 have h6:=nt6 hn;unfold notM;rw[tO .and (iT _ _ _) (Mi hn),tO .xor Q_ hx,V3,MX];by_cases h:r<2^n
 ·simp[h,show r<64 by omega]
 ·simp[h]
theorem LG{i:Int}{k:Nat}(hk:k<64):jG i k=k.testBit i.toNat:=by
 unfold jG
 have e:((0*64+(k:Int))/2^i.toNat)=((k/2^i.toNat:Nat):Int):=by
  rw[show(0*64+(k:Int))=(k:Int) by omega,Int.natCast_ediv];simp
 have hd:k/2^i.toNat<64:=Nat.lt_of_le_of_lt (Nat.div_le_self _ _) hk;have hb:=(bits_nat .i64 63 (by decide) (fun n h0 h1=>by rw[IntKind.wrap_i64];omega) (k/2^i.toNat) 1 (by omega) (by decide)).1;rw[e];have h1:((1:Nat):Int)=1:=rfl;rw[h1] at hb;rw[hb,Nat.and_one_is_mod,Nat.testBit_eq_decide_div_mod_eq];exact decide_eq_decide.2 (by omega)
theorem Cu{k:Nat}(h:k<64):∃ m:Nat,(2:Int)^k=(m:Int)∧m<18446744073709551616:=
 ⟨2^k,by simp,Nat.pow_lt_pow_right (by decide) h⟩
theorem wm(i:Int):∀ k,uN (fG i k)
 | 0=>mL
 | k+1=>by
  unfold fG;split
  ·exact iT _ _ _
  ·exact wm i k
theorem CN(i:Int)(adw:∀ k:Nat,k<64→jG i k=k.testBit i.toNat):∀ k,k≤64→∀ r,ib (fG i k) r=(decide (r<k)&&r.testBit i.toNat)
 | 0,_,r=>by unfold fG;rw[iB];simp
 | k+1,hk,r=>by
  have ih:=CN i adw k (by omega) r;have hb:=adw k (by omega)
  have hp:IntKind.u64.wrap (1*2^((k:Int)).toNat)=(2:Int)^k:=by
   rw[Dj,Int.toNat_natCast,Int.one_mul];obtain⟨m,e,hm⟩:=Cu (by omega:k<64);rw[e];omega
  have hw:uN ((2:Int)^k):=by
   obtain⟨m,e,hm⟩:=Cu (by omega:k<64);unfold uN;rw[e];omega
  unfold fG;rw[hb,hp];split
  ·rename_i hc;rw[tO .or (wm i k) hw,ih,Sz];by_cases e:k=r
   ·subst e;simp[hc]
   ·have:decide (r<k+1)=decide (r<k):=decide_eq_decide.2 (by omega);simp[e,this]
  ·rename_i hc;rw[ih];by_cases e:r=k
   ·subst e;simp[show r.testBit i.toNat=false by simpa using hc]
   ·have:decide (r<k+1)=decide (r<k):=decide_eq_decide.2 (by omega);rw[this]
theorem WG(u i:Int):uN (xB u i):=iT _ _ _
theorem V4{n:Nat}(hn:n≤5)(i:Int)(r:Nat):ib (xB (aY n) i) r=(decide (r<2^n)&&r.testBit i.toNat):=by
 have h6:=nt6 hn;unfold xB;rw[tO .and (wm i 64) (Mi hn),CN i (fun k hk=>LG hk) 64 (Nat.le_refl _),MX];by_cases h:r<2^n
 ·simp[h,show r<64 by omega]
 ·simp[h]
theorem aav{u op x y:Int}:uN (BX u op x y):=by
 unfold BX;split
 ·exact iT _ _ _
 ·split
  ·exact iT _ _ _
  ·split<;>exact iT _ _ _
theorem Dt{n:Nat}(hn:n≤5):∀ e:aA,uN (cM (aY n) n e)∧∀ r,ib (cM (aY n) n e) r=(decide (r<2^n)&&Lr n r e):=by
 refine aA.ind fun e ih=>?_
 have hlen:∀ l:List aA,(mN (aY n) n l).length=l.length:=fun l=>by induction l with
  | nil=>rw[mN];rfl
  | cons k l h=>rw[mN,List.length_cons,h,List.length_cons]
 have adu:∀ (r:Nat) (l:List aA),(UF n r l).length=l.length:=fun r l=>by induction l with
  | nil=>rw[UF];rfl
  | cons k l h=>rw[UF,List.length_cons,h,List.length_cons]
 have hget:∀ (l:List aA),(∀ k∈l,uN (cM (aY n) n k)∧∀ r,ib (cM (aY n) n k) r=(decide (r<2^n)&&Lr n r k))→∀ i,uN ((mN (aY n) n l).getD i 0)∧∀ r,ib ((mN (aY n) n l).getD i 0) r=(decide (r<2^n)&&(UF n r l).getD i false):=by
  intro l
  induction l with
  | nil=>intro _ i;rw[mN];exact⟨mL,fun r=>by rw[UF];simp[iB]⟩
  | cons k l h=>
   intro H i;rw[mN]
   cases i with
   | zero=>exact⟨(H k (by simp)).1,fun r=>by rw[UF];exact(H k (by simp)).2 r⟩
   | succ i=>
    have:=h (fun k hk=>H k (by simp[hk])) i;exact⟨this.1,fun r=>by rw[UF];exact this.2 r⟩
 have h0:=hget e.kids ih 0;have h1:=hget e.kids ih 1;rw[sI];unfold JK;constructor
 ·split
  ·exact mL
  ·split
   ·exact WG _ _
   ·split
    ·exact Kv _ _
    ·exact aav
 ·intro r;rw[Ef];unfold Ww;rw[hlen,adu];split
  ·rw[iB];simp
  ·split
   ·exact V4 hn e.a r
   ·split
    ·rw[Ai hn h0.1,h0.2];by_cases hr:r<2^n<;>simp[hr]
    ·unfold BX;split
     ·rw[tO .and h0.1 h1.1,h0.2,h1.2];by_cases hr:r<2^n<;>simp[hr]
     ·split
      ·rw[tO .or h0.1 h1.1,h0.2,h1.2];by_cases hr:r<2^n<;>simp[hr]
      ·split
       ·rw[show bits .and .u64 (bits .xor .u64 18446744073709551615 (bits .xor .u64 ((mN (aY n) n e.kids).getD 0 0) ((mN (aY n) n e.kids).getD 1 0))) (aY n)=notM (aY n) (bits .xor .u64 ((mN (aY n) n e.kids).getD 0 0) ((mN (aY n) n e.kids).getD 1 0)) from rfl,Ai hn (iT _ _ _),tO .xor h0.1 h1.1,h0.2,h1.2];by_cases hr:r<2^n<;>simp[hr]
       ·rw[tO .xor h0.1 h1.1,h0.2,h1.2];by_cases hr:r<2^n<;>simp[hr]
def Xn(n:Nat)(conds:List aA)(k:Int)(r:Nat):Bool:=
 if 0<k∧k≤conds.length then (match conds[(k-1).toNat]? with|some e=>Lr n r e|none=>false)
 else if k<0∧0-(conds.length:Int)≤k then !(match conds[(0-k-1).toNat]? with|some e=>Lr n r e|none=>false)
 else true
theorem wD{n:Nat}(hn:n≤5)(conds:List aA)(k:Int):uN (dM (aY n) n conds k)∧∀ r,ib (dM (aY n) n conds k) r=(decide (r<2^n)&&Xn n conds k r):=by
 unfold dM Xn;by_cases h1:0<k∧k≤conds.length
 ·rw[if_pos h1]
  cases h:conds[(k-1).toNat]? with
  | some e=>exact⟨(Dt hn e).1,fun r=>by rw[if_pos h1];exact(Dt hn e).2 r⟩
  | none=>exact⟨mL,fun r=>by rw[if_pos h1,iB];exact(Bool.and_false _).symm⟩
 ·rw[if_neg h1];by_cases h2:k<0∧0-(conds.length:Int)≤k
  ·rw[if_pos h2];refine⟨Kv _ _,fun r=>?_⟩;rw[if_neg h1,if_pos h2]
   cases h:conds[(0-k-1).toNat]? with
   | some e=>
    show ib (notM (aY n) (cM (aY n) n e)) r=(decide (r<2^n)&&!Lr n r e);rw[Ai hn (Dt hn e).1,(Dt hn e).2];by_cases hr:r<2^n<;>simp[hr]
   | none=>
    show ib (notM (aY n) 0) r=(decide (r<2^n)&&!false);rw[Ai hn mL,iB]
  ·rw[if_neg h2];refine⟨Kv _ _,fun r=>?_⟩;rw[if_neg h1,if_neg h2,Ai hn mL,iB];simp
def D4(T C:Nat)(r:ak)(p:Nat×Nat):Nat:=(((r.kind-1).toNat*T+p.1)*T+p.2)*C+r.cls.toNat
def vE(at_:Nat)(v:Int)(out:List Int):List Int:=out.set at_ (bits .or .u32 (out.getD at_ 0) v)
def oB(T C:Nat)(r:ak)(out:List Int)(l:List (Nat×Nat)):List Int:=l.foldl (fun o p=>vE (D4 T C r p) r.perms o) out
def fN(T C:Nat)(on:ak→Bool)(out:List Int)(l:List ak):List Int:=l.foldl (fun o r=>if on r=true then oB T C r o r.pairs else o) out
structure RV (T C:Nat) (r:ak):Prop where
 kind:1≤r.kind∧r.kind≤4
 cls:0≤r.cls∧r.cls<C
 perms:yp r.perms
 pairs:∀ p∈r.pairs,p.1<T∧p.2<T
theorem GH(i:Nat)(v:Int)(o:List Int):(vE i v o).length=o.length:=List.length_set ..
theorem tF(T C:Nat)(r:ak):∀ (l:List (Nat×Nat)) (o:List Int),(oB T C r o l).length=o.length
 | [],_=>rfl
 | p::l,o=>by
  show(oB T C r (vE (D4 T C r p) r.perms o) l).length=_;rw[tF T C r l,GH]
theorem Aq(T C:Nat)(on:ak→Bool):∀ (l:List ak) (o:List Int),(fN T C on o l).length=o.length
 | [],_=>rfl
 | r::l,o=>by
  show(fN T C on (if on r=true then oB T C r o r.pairs else o) l).length=_;rw[Aq T C on l];split
  ·exact tF ..
  ·rfl
theorem Vv{i:Nat}{v:Int}{o:List Int}(hv:yp v)(ho:∀ x∈o,yp x)(hi:i<o.length):(∀ x∈vE i v o,yp x)∧∀ j k,ib ((vE i v o).getD j 0) k=(ib (o.getD j 0) k||(decide (i=j)&&ib v k)):=by
 have hg:yp (o.getD i 0):=by rw[atu,as7 hi];exact ho _ (List.getElem_mem hi)
 constructor
 ·intro x hx;rcases List.mem_or_eq_of_mem_set hx with hx|rfl
  ·exact ho x hx
  ·exact F5 _ _ _
 ·intro j k;by_cases e:i=j
  ·subst e;rw[show(vE i v o).getD i 0=bits .or .u32 (o.getD i 0) v by unfold vE;rw[atu,List.getElem?_set_self hi];rfl,D6 .or hg hv];simp
  ·rw[show(vE i v o).getD j 0=o.getD j 0 by unfold vE;rw[atu,List.getElem?_set_ne e,← atu]];simp[e]
theorem ac0{T C:Nat}{r:ak}(h:RV T C r){p:Nat×Nat}(hp:p∈r.pairs):D4 T C r p<4*T*T*C:=by
 obtain⟨h1,h2⟩:=h.pairs p hp;have hk:(r.kind-1).toNat≤3:=by have:=h.kind;omega
 have hc:r.cls.toNat<C:=by have:=h.cls;omega
 unfold D4;generalize (r.kind-1).toNat=K at hk ⊢;generalize r.cls.toNat=c at hc ⊢
 have e1:K*T+p.1+1≤4*T:=by
  have:K*T≤3*T:=atj T hk;omega
 have e2:(K*T+p.1)*T+p.2+1≤4*T*T:=by
  have:=atj T e1;rw[Nat.add_mul,Nat.one_mul] at this;omega
 have e3:=atj C e2;rw[Nat.add_mul,Nat.one_mul] at e3;omega
theorem Sk{T C K c s t K' c' s' t':Nat}(hc:c<C)(hc':c'<C)(hs:s<T)(hs':s'<T)(ht:t<T)(ht':t'<T)(h:((K*T+s)*T+t)*C+c=((K'*T+s')*T+t')*C+c'):K=K'∧s=s'∧t=t'∧c=c':=by
 have key:∀ {x y a b m:Nat},a<m→b<m→x*m+a=y*m+b→x=y∧a=b:=by
  intro x y a b m ha hb e;have e1:(x*m+a)/m=x:=by rw[Nat.mul_comm,Nat.mul_add_div (by omega),Nat.div_eq_of_lt ha];omega
  have e2:(y*m+b)/m=y:=by rw[Nat.mul_comm,Nat.mul_add_div (by omega),Nat.div_eq_of_lt hb];omega
  have hx:x=y:=by rw[← e1,e,e2]
  subst hx;exact⟨rfl,by omega⟩
 obtain⟨h1,h2⟩:=key hc hc' h;obtain⟨h3,h4⟩:=key ht ht' h1;obtain⟨h5,h6⟩:=key hs hs' h3;exact⟨h5,h6,h4,h2⟩
theorem MG{T C:Nat}{r:ak}(hv:yp r.perms):∀ (l:List (Nat×Nat)) (o:List Int),(∀ x∈o,yp x)→(∀ p∈l,D4 T C r p<o.length)→(∀ x∈oB T C r o l,yp x)∧∀ j k,ib ((oB T C r o l).getD j 0) k=(ib (o.getD j 0) k||(l.any fun p=>decide (D4 T C r p=j))&&ib r.perms k)
 | [],o,ho,_=>⟨ho,fun j k=>by show ib (o.getD j 0) k=_;simp⟩
 | p::l,o,ho,hl=>by
  obtain⟨h1,h2⟩:=Vv hv ho (hl p (by simp));obtain⟨h3,h4⟩:=MG hv l (vE (D4 T C r p) r.perms o) h1 (fun q hq=>by rw[GH];exact hl q (by simp[hq]));refine⟨h3,fun j k=>?_⟩;show ib ((oB T C r (vE (D4 T C r p) r.perms o) l).getD j 0) k=_;rw[h4,h2,List.any_cons];cases ib (o.getD j 0) k<;>cases decide (D4 T C r p=j)<;>cases ib r.perms k<;>simp
theorem vW{T C:Nat}{on:ak→Bool}:∀ (l:List ak) (o:List Int),(∀ r∈l,RV T C r)→(∀ x∈o,yp x)→o.length=4*T*T*C→(∀ x∈fN T C on o l,yp x)∧∀ j k,ib ((fN T C on o l).getD j 0) k=(ib (o.getD j 0) k||l.any fun r=>(on r&&r.pairs.any fun p=>decide (D4 T C r p=j))&&ib r.perms k)
 | [],o,_,ho,_=>⟨ho,fun j k=>by show ib (o.getD j 0) k=_;simp⟩
 | r::l,o,hl,ho,hn=>by
  have hr:=hl r (by simp);have hl':∀ r∈l,RV T C r:=fun q hq=>hl q (by simp[hq])
  cases e:on r with
  | false=>
   obtain⟨h3,h4⟩:=vW l o hl' ho hn;have e':fN T C on o (r::l)=fN T C on o l:=by show fN T C on (if on r=true then _ else o) l=_;rw[e];rfl
   rw[e'];refine⟨h3,fun j k=>?_⟩;rw[h4,List.any_cons,e];simp
  | true=>
   obtain⟨h1,h2⟩:=MG (T:=T) (C:=C) hr.perms r.pairs o ho (fun p hp=>by rw[hn];exact ac0 hr hp);obtain⟨h3,h4⟩:=vW (on:=on) l (oB T C r o r.pairs) hl' h1 (by rw[tF];exact hn);have e':fN T C on o (r::l)=fN T C on (oB T C r o r.pairs) l:=by show fN T C on (if on r=true then _ else o) l=_;rw[e];rfl
   rw[e'];refine⟨h3,fun j k=>?_⟩;rw[h4,h2,List.any_cons,e];simp[Bool.or_assoc]
def dH(T C:Nat)(on:ak→Bool)(l:List ak):List Int:=fN T C on (List.replicate (4*T*T*C) 0) l
theorem gu(T C:Nat)(on:ak→Bool)(l:List ak):(dH T C on l).length=4*T*T*C:=by unfold dH;rw[Aq,List.length_replicate]
theorem Vs(n j:Nat):(List.replicate n (0:Int)).getD j 0=0:=by
 rw[atu,List.getElem?_replicate];split<;>rfl
theorem qC{T C:Nat}{on:ak→Bool}{l:List ak}(hl:∀ r∈l,RV T C r):(∀ x∈dH T C on l,yp x)∧∀ j k,ib ((dH T C on l).getD j 0) k=l.any fun r=>(on r&&r.pairs.any fun p=>decide (D4 T C r p=j))&&ib r.perms k:=by
 obtain⟨h1,h2⟩:=vW (on:=on) l (List.replicate (4*T*T*C) 0) hl (fun x hx=>by rw[(List.mem_replicate.1 hx).2];exact⟨Int.le_refl _,by decide⟩) List.length_replicate;refine⟨h1,fun j k=>?_⟩;unfold dH;rw[h2,Vs,iB,Bool.false_or]
theorem vX{T C:Nat}{on on':ak→Bool}{l l':List ak}(hl:∀ r∈l,RV T C r)(hl':∀ r∈l',RV T C r):dH T C on l=dH T C on' l' ↔
 ∀ (kind cls:Int) (s t k:Nat),s<256→t<256→((∃ r∈l,on r=true∧r.kind=kind∧r.cls=cls∧ib r.perms k=true∧ld r s t=true)↔∃ r∈l',on' r=true∧r.kind=kind∧r.cls=cls∧ib r.perms k=true∧ld r s t=true):=by
 obtain⟨a1,a2⟩:=qC (on:=on) hl;obtain⟨b1,b2⟩:=qC (on:=on') hl'
 have look:∀ {on:ak→Bool} {l:List ak},(∀ r∈l,RV T C r)→∀ {x:ak} {s t:Nat},RV T C x→s<256→t<256→s<T→t<T→∀ k,((l.any fun r=>(on r&&r.pairs.any fun p=>decide (D4 T C r p=D4 T C x (s,t)))&&ib r.perms k)=true↔∃ r∈l,on r=true∧r.kind=x.kind∧r.cls=x.cls∧ib r.perms k=true∧ld r s t=true):=by
  intro on l hl x s t hx hs ht hsT htT k;rw[List.any_eq_true];constructor
  ·rintro⟨r,hr,h⟩;simp only[att,List.any_eq_true,decide_eq_true_iff] at h;obtain⟨⟨h1,p,hp,h2⟩,h3⟩:=h;have hv:=hl r hr;obtain⟨g1,g2⟩:=hv.pairs p hp;have c1:=hv.cls;have c2:=hx.cls;have k1:=hv.kind;have k2:=hx.kind;obtain⟨e1,e2,e3,e4⟩:=Sk (by omega) (by omega) g1 hsT g2 htT h2;refine⟨r,hr,h1,by omega,by omega,h3,?_⟩;rw[kM hs ht];have:p=(s,t):=Prod.ext e2 e3
   rwa [← this]
  ·rintro⟨r,hr,h1,h2,h3,h4,h5⟩;refine⟨r,hr,?_⟩;rw[h1,h4,Bool.true_and,Bool.and_true,List.any_eq_true];exact⟨(s,t),(kM hs ht).1 h5,decide_eq_true (by unfold D4;rw[h2,h3])⟩
 constructor
 ·intro H kind cls s t k hs ht
  have one:∀ {on on':ak→Bool} {l l':List ak},(∀ r∈l,RV T C r)→(∀ r∈l',RV T C r)→dH T C on l=dH T C on' l'→(∃ r∈l,on r=true∧r.kind=kind∧r.cls=cls∧ib r.perms k=true∧ld r s t=true)→∃ r∈l',on' r=true∧r.kind=kind∧r.cls=cls∧ib r.perms k=true∧ld r s t=true:=by
   rintro on on' l l' hl hl' H ⟨r,hr,h1,rfl,rfl,h4,h5⟩;have hv:=hl r hr;obtain⟨g1,g2⟩:=hv.pairs _ ((kM hs ht).1 h5);refine(look hl' hv hs ht g1 g2 k).1 ?_;rw[← (qC hl').2,← H,(qC hl).2];exact(look hl hv hs ht g1 g2 k).2 ⟨r,hr,h1,rfl,rfl,h4,h5⟩
  exact⟨one hl hl' H,one hl' hl H.symm⟩
 ·intro H;refine List.ext_getElem? fun j=>?_
  have el:∀ {o:List Int} {j:Nat},j<o.length→o[j]?=some (o.getD j 0):=fun hj=>by rw[atu,as7 hj];rfl
  by_cases hj:j<4*T*T*C
  ·rw[el (by rw[gu];exact hj),el (by rw[gu];exact hj)];congr 1;have m1:yp ((dH T C on l).getD j 0):=a1 _ (atb (el (by rw[gu];exact hj)));have m2:yp ((dH T C on' l').getD j 0):=b1 _ (atb (el (by rw[gu];exact hj)));refine KY m1.1 m2.1 fun k=>?_
   rw[a2,b2]
   have one:∀ {on on':ak→Bool} {l l':List ak},(∀ r∈l,RV T C r)→(∀ r∈l',RV T C r) →
    (∀ (kind cls:Int) (s t k:Nat),s<256→t<256→(∃ r∈l,on r=true∧r.kind=kind∧r.cls=cls∧ib r.perms k=true∧ld r s t=true)→∃ r∈l',on' r=true∧r.kind=kind∧r.cls=cls∧ib r.perms k=true∧ld r s t=true) →
    (l.any fun r=>(on r&&r.pairs.any fun p=>decide (D4 T C r p=j))&&ib r.perms k)=true→(l'.any fun r=>(on' r&&r.pairs.any fun p=>decide (D4 T C r p=j))&&ib r.perms k)=true:=by
    intro on on' l l' hl hl' H h;obtain⟨r,hr,h⟩:=List.any_eq_true.1 h;simp only[att,List.any_eq_true,decide_eq_true_iff] at h;obtain⟨⟨h1,p,hp,rfl⟩,h3⟩:=h;have hv:=hl r hr;obtain⟨g1,g2⟩:=hv.pairs p hp;obtain⟨q1,q2⟩:=vH hp;exact(look hl' hv q1 q2 g1 g2 k).2 (H _ _ _ _ _ q1 q2 ⟨r,hr,h1,rfl,rfl,h3,(kM q1 q2).2 hp⟩)
   rw[Bool.eq_iff_iff];exact⟨one hl hl' fun kind cls s t k hs ht=>(H kind cls s t k hs ht).1,one hl' hl fun kind cls s t k hs ht=>(H kind cls s t k hs ht).2⟩
  ·rw[List.getElem?_eq_none (by rw[gu];omega),List.getElem?_eq_none (by rw[gu];omega)]
def Xh(nB:Nat)(conds:List aA)(l:List ak):List (ak×Int):=l.map fun y=>(y,dM (aY nB) nB conds (Ed y))
theorem RB{nB:Nat}(hn:nB≤5){conds:List aA}{l:List ak}(hl:∀ r∈l,yp r.perms):Um (Xh nB conds l):=by
 constructor
 ·intro y hy;obtain⟨r,hr,rfl⟩:=atl.1 hy;exact hl r hr
 ·intro y hy;obtain⟨r,hr,rfl⟩:=atl.1 hy;exact(wD hn _ _).1
theorem pH{nB:Nat}(hn:nB≤5){conds:List aA}{l:List ak}(h4:∀ r∈l,r.kind=4→r.cond=0){kind cls:Int}{s t k n:Nat}:Gv (Xh nB conds l) kind cls s t k n↔n<2^nB∧∃ r∈l,Xn nB conds r.cond n=true∧r.kind=kind∧r.cls=cls∧ib r.perms k=true∧ld r s t=true:=by
 have hg:∀ r∈l,Ed r=r.cond:=fun r hr=>by
  unfold Ed;split
  ·rename_i h;exact(h4 r hr h).symm
  ·rfl
 constructor
 ·rintro⟨y,hy,h1,h2,h3,h5,h6⟩;obtain⟨r,hr,rfl⟩:=atl.1 hy;rw[(wD hn _ _).2,hg r hr,att,decide_eq_true_iff] at h6;exact⟨h6.1,r,hr,h6.2,h1,h2,h3,h5⟩
 ·rintro⟨hn2,r,hr,h0,h1,h2,h3,h5⟩;exact⟨_,atl.2 ⟨r,hr,rfl⟩,h1,h2,h3,h5,by rw[(wD hn _ _).2,hg r hr,h0,decide_eq_true hn2];rfl⟩
theorem R6{T C nB:Nat}(hn:nB≤5){ca cb:List aA}{la lb:List ak}(ha:∀ r∈la,RV T C r)(hb:∀ r∈lb,RV T C r)(ha4:∀ r∈la,r.kind=4→r.cond=0)(hb4:∀ r∈lb,r.kind=4→r.cond=0):
 (∀ n,n<2^nB→dH T C (fun r=>Xn nB ca r.cond n) la=dH T C (fun r=>Xn nB cb r.cond n) lb)↔(qI (Xh nB ca la) (Xh nB cb lb)=true∧qI (Xh nB cb lb) (Xh nB ca la)=true):=by
 have oa:=RB hn (conds:=ca) fun r hr=>(ha r hr).perms
 have ob:=RB hn (conds:=cb) fun r hr=>(hb r hr).perms
 rw[MW oa ob,MW ob oa];constructor
 ·intro H
  exact⟨fun kind cls s t k n hs ht h=>by
   rw[pH hn ha4] at h;rw[pH hn hb4]
   exact⟨h.1,((vX ha hb).1 (H n h.1) kind cls s t k hs ht).1 h.2⟩,fun kind cls s t k n hs ht h=>by
   rw[pH hn hb4] at h;rw[pH hn ha4];exact⟨h.1,((vX ha hb).1 (H n h.1) kind cls s t k hs ht).2 h.2⟩⟩
 ·rintro⟨H1,H2⟩ n hn2;refine(vX ha hb).2 fun kind cls s t k hs ht=>⟨fun h=>?_,fun h=>?_⟩
  ·have:=H1 kind cls s t k n hs ht ((pH hn ha4).2 ⟨hn2,h⟩);exact((pH hn hb4).1 this).2
  ·have:=H2 kind cls s t k n hs ht ((pH hn hb4).2 ⟨hn2,h⟩);exact((pH hn ha4).1 this).2
def kf{α:Type}(l:List α)(o:List Nat)(m:Nat):List α:=(List.range l.length).filterMap fun k=>if (o.contains k||decide (k=m))=true then none else l[k]?
def jL(l:List (ak×Int)):Nat→List Nat
 | 0=>[]
 | m+1=>match l[m]? with
  | some x=>if ji x (kf l (jL l m) m)=true then jL l m++[m] else jL l m
  | none=>jL l m
theorem tC(l:List (ak×Int)):∀ m,∀ k∈jL l m,k<m
 | 0,k,h=>by cases h
 | m+1,k,h=>by
  unfold jL at h;split at h
  ·split at h
   ·rcases List.mem_append.1 h with h|h
    ·have:=tC l m k h;omega
    ·rw[ati.1 h];omega
   ·have:=tC l m k h;omega
  ·have:=tC l m k h;omega
theorem KF{α:Type}{l:List α}{o:List Nat}{m:Nat}{y:α}:y∈kf l o m↔∃ k,k∉o∧k≠m∧l[k]?=some y:=by
 unfold kf;rw[List.mem_filterMap];constructor
 ·rintro⟨k,hk,h⟩;split at h
  ·cases h
  ·rename_i hc;simp only[Bool.or_eq_true,List.contains_eq_mem,decide_eq_true_iff,not_or] at hc;exact⟨k,by simpa using hc.1,hc.2,h⟩
 ·rintro⟨k,h1,h2,h3⟩;refine⟨k,List.mem_range.2 (ata.1 h3).1,?_⟩;rw[if_neg (by simp[h1,h2])];exact h3
def Xx{α:Type}(l:List α)(o:List Nat):List α:=(List.range l.length).filterMap fun k=>if o.contains k=true then none else l[k]?
theorem mem_left{α:Type}{l:List α}{o:List Nat}{y:α}:y∈Xx l o↔∃ k,k∉o∧l[k]?=some y:=by
 unfold Xx;rw[List.mem_filterMap];constructor
 ·rintro⟨k,hk,h⟩;split at h
  ·cases h
  ·rename_i hc;exact⟨k,by simpa using hc,h⟩
 ·rintro⟨k,h1,h3⟩;refine⟨k,List.mem_range.2 (ata.1 h3).1,?_⟩;rw[if_neg (by simpa using h1)];exact h3
def nZ(a b:List (ak×Int)):Prop:=∀ (kind cls:Int) (s t k r:Nat),s<256→t<256→(Gv a kind cls s t k r↔Gv b kind cls s t k r)
theorem Um.sub{l l':List (ak×Int)}(h:Um l)(hs:∀ y∈l',y∈l):Um l':=⟨fun y hy=>h.perms y (hs y hy),fun y hy=>h.Cd y (hs y hy)⟩
theorem Ko{α:Type}{l:List α}{o:List Nat}{m:Nat}:∀ y∈kf l o m,y∈l:=fun y hy=>by
 obtain⟨k,-,-,h⟩:=KF.1 hy;exact atb h
theorem nZ.refl(a:List (ak×Int)):nZ a a:=fun _ _ _ _ _ _ _ _=>Iff.rfl
theorem nZ.trans{a b c:List (ak×Int)}(h:nZ a b)(h':nZ b c):nZ a c:=fun _ _ _ _ _ _ hs ht=>(h _ _ _ _ _ _ hs ht).trans (h' _ _ _ _ _ _ hs ht)
theorem nZ.symm{a b:List (ak×Int)}(h:nZ a b):nZ b a:=fun _ _ _ _ _ _ hs ht=>(h _ _ _ _ _ _ hs ht).symm
def fS(w:World)(v:Value)(s:List Bool):Prop:=SliceAt w v 1 s.length (s.map Value.bool)
theorem fS.keep{w w':World}{v:Value}{s:List Bool}(h:fS w v s)(hb:as5 w.heap.size w w'):fS w' v s:=SliceAt.keep h hb
theorem yY{w:World}{B:Nat}{v:Value}{s:List Bool}{n:Nat}{xs:List Value}(h:w.ownsRow B 4 1 v n xs)(hn:n=s.length)(hx:xs=s.map Value.bool):fS w v s:=by
 subst hn hx;exact SliceAt.bM h fun u hu=>by obtain⟨b,-,rfl⟩:=atl.1 hu;rfl
def WJ(s:List Bool)(n:Int):Bool:=decide (0≤n)&&(s[n.toNat]?).getD false
theorem IV(w0:World)(v:Value)(s:List Bool)(n:Int)(h:fS w0 v s):Calls Tryz.prog 276 #[v,.int .i64 n] w0 fun r w'=>r=.returned (.bool (WJ s n))∧as5 w0.heap.size w0 w':=by
 obtain⟨la,lk,rfl,hk,hm,hcell⟩:=SliceAt.form h (by decide);by_cases hin:0≤n∧n<s.length
 ·obtain⟨i,rfl⟩:∃ i:Nat,n=i:=⟨n.toNat,by omega⟩;have hi:i<s.length:=by omega
  obtain⟨b,off,rfl,hc⟩:=hcell i hi;refine fL [] (fn:=Tryz.f276) Tryz.func276 rfl Tryz.ntmps276 rfl (ia (an (fun _=>⟨rfl,rfl,hi⟩) (lc (x:=.bool s[i]) (an (fun _=>hc 0 (.bool s[i]) (by simp[hi])) fun M=>⟨?_,M.below⟩))));simp[kR,WJ,hi]
 ·refine fL [] (fn:=Tryz.f276) Tryz.func276 rfl Tryz.ntmps276 rfl (ia (b:=0) (off:=0) (i:=0) (an (fun h=>by simp at h;omega) (lc (x:=.bool false) (an (fun h=>by simp at h;omega) fun M=>⟨?_,M.below⟩))))
  have:WJ s n=false:=by
   unfold WJ;by_cases h0:0≤n
   ·rw[List.getElem?_eq_none (by omega)];simp
   ·simp[h0]
  simp[kR,this]
def BP(n:Nat)(s:List Bool):List Bool:=(List.range n).map fun(i:Nat)=>WJ s (i:Int)
theorem PV(w0:World)(c0 c1 c2 c3 c4 c5 c6 c7 c8 c9 aW aP aO aU aT aS aR v:Value)(p:aG)(s:List Bool)(hp:aL w0 c0 c1 c2 c3 c4 c5 c6 c7 c8 c9 aW aP aO aU aT aS aR p)(hs:fS w0 v s)(hb:p.bools.length≤1000):
 Calls Tryz.prog 294 #[.agg #[c0,c1,c2,c3,c4,c5,c6,c7,c8,c9,aW,aP,aO,aU,aT,aS,aR],v] w0 fun r w'=>∃ u,r=.returned u∧(w'.ownsRow w0.heap.size 4 1 u p.bools.length ((BP p.bools.length s).map Value.bool)∧as5 w0.heap.size w0 w'):=by
 obtain⟨gh,f_,rfl,-⟩:=SliceAt.form hp.bools (by decide)
 refine fL [] (fn:=Tryz.f294) Tryz.func294 rfl Tryz.ntmps294 rfl fun g w1 M1=>lq (ι:=Nat×Value) (fun(m,u)=>[(5,u),(6,.int .i64 (m:Int))]) (fun(m,u)=>[⟨u,4,1,m,(BP m s).map Value.bool⟩]) (fun(m,u) _=>m≤p.bools.length) (fun(m,u)=>p.bools.length-m) (0,.slice none 0 0)
  (an ⟨⟨rfl,rfl,trivial⟩,fun M=>⟨M.bX 4 1,as9 _⟩⟩ ?_)
 rintro⟨m,u⟩ w M hm;refine lb 0 (an rfl (an (fun h=>?_) fun h M=>?_))
 ·simp only[decide_eq_true_eq] at h;refine cl (an (IV w _ s m (hs.keep M.below)) fun w2 M=>fun g2 w3 M=>ap 0 id rfl (M.slice 0 rfl rfl rfl (by simp[maxLen])) ⟨by unfold maxLen;omega,by omega⟩ fun v2 w4 M=>an (by omega) (bk (m+1,v2) ⟨rfl,rfl,trivial⟩ (fun M=>⟨(M.only (.cons _ (.refl _)) (.refl _)).cast rfl (by simp[BP,List.range_succ]),by omega⟩) (by simp;omega)))
 ·simp only[decide_eq_false_iff_not] at h;obtain rfl:m=p.bools.length:=by omega
  exact⟨_,rfl,M.r 0 rfl,M.below⟩
def kQ(s:List Bool)(op a:Int)(l:List Bool):Bool:=
 if op=1 then WJ s a else if l.length=0 then false else if op=2 then !(l.getD 0 false) else if op=3 then l.getD 0 false&&l.getD 1 false else
  if op=4 then l.getD 0 false||l.getD 1 false else if op=6 then l.getD 0 false == l.getD 1 false else !(l.getD 0 false == l.getD 1 false)
mutual
def gS(s:List Bool):aA→Bool
 | .node op a _ _ _ _ kids=>kQ s op a (oM s kids)
def oM(s:List Bool):List aA→List Bool
 | []=>[]
 | k::l=>gS s k::oM s l
end
theorem mO(s:List Bool)(e:aA):gS s e=kQ s e.op e.a (oM s e.kids):=by cases e;rw[gS];rfl
theorem mM(s:List Bool):∀ l,oM s l=l.map (gS s)
 | []=>by rw[oM];rfl
 | k::l=>by rw[oM,mM s l];rfl
theorem F7:∀ e:aA,∀ (w0:World) (cs:List Value) (v:Value) (s:List Bool),bB w0 cs e→fS w0 v s→Calls Tryz.prog 239 #[.agg cs.toArray,v] w0 fun r w'=>r=.returned (.bool (gS s e))∧as5 w0.heap.size w0 w':=by
 refine aA.ind fun e ih=>?_
 intro w0 cs v s h hs;obtain⟨nv,kv,rfl,Nb,hk⟩:=h.open;obtain⟨ka,kc,rfl,hc,yT,hcell⟩:=hk.form (by decide);refine fL [] (fn:=Tryz.f239) Tryz.func239 rfl Tryz.ntmps239 rfl fun g w1 M1=>lb 0 (an rfl (an (fun h1=>lb 0 (an rfl (cl (an (IV _ _ s e.a (hs.keep M1.below)) fun w2 M=>fun M=>⟨?_,M.below⟩)))) fun h1=>lb 0 (an rfl (an (fun h2 M=>⟨?_,M.below⟩) fun h2=>?_))))
 ·simp only[decide_eq_true_eq] at h1;rw[mO,kQ,if_pos h1];rfl
 ·simp only[decide_eq_true_eq,decide_eq_false_iff_not] at h1 h2;rw[mO,kQ,if_neg h1,mM,if_pos (by rw[atm];omega)];rfl
 simp only[decide_eq_false_iff_not] at h1 h2;obtain⟨y0,hy0⟩:∃ y,e.kids[0]?=some y:=⟨_,as7 (by omega)⟩;obtain⟨b0,o0,x0,hka,he0,-,hr0⟩:=hcell 0 y0 hy0;obtain⟨nv0,kv0,rfl,-⟩:=he0.open
 obtain⟨y1,vK,G9,H1⟩:∃ y1 vK G9,1<e.kids.length→e.kids[1]?=some y1∧bB w0 [.int .i64 y1.op,.int .i64 y1.a,.int .i64 y1.rel,.int .i64 y1.b,vK,.int .u64 y1.set.a,.int .u64 y1.set.b,.int .u64 y1.set.c,.int .u64 y1.set.d,G9] y1 ∧
  ∀ (j:Nat) (u:Value),[Value.int .i64 y1.op,.int .i64 y1.a,.int .i64 y1.rel,.int .i64 y1.b,vK,.int .u64 y1.set.a,.int .u64 y1.set.b,.int .u64 y1.set.c,.int .u64 y1.set.d,G9][j]?=some u→w0.cell? ⟨b0,o0+1*10+j,none⟩=some u:=by
  by_cases h3:1<e.kids.length
  ·obtain⟨y1,hy1⟩:∃ y,e.kids[1]?=some y:=⟨_,as7 h3⟩;obtain⟨b1,o1,x1,adv,D_,-,hr1⟩:=hcell 1 y1 hy1;obtain⟨vK,G9,rfl,-⟩:=D_.open;rw[hka] at adv;cases adv;exact⟨y1,vK,G9,fun _=>⟨hy1,D_,hr1⟩⟩
  ·exact⟨y0,nv0,kv0,fun h=>absurd h h3⟩
 have hl0:(oM s e.kids).getD 0 false=gS s y0:=by rw[mM];simp[hy0]
 have hl1:(oM s e.kids).getD 1 false=(decide (1<(e.kids.length:Int))&&gS s y1):=by
  rw[mM];by_cases h3:1<e.kids.length
  ·have hd:decide (1<(e.kids.length:Int))=true:=by simp;omega
   rw[hd,atu,atn,(H1 h3).1];rfl
  ·have hd:decide (1<(e.kids.length:Int))=false:=by simp;omega
   rw[hd,atu,atn,List.getElem?_eq_none (Nat.le_of_not_lt h3)];rfl
 have hV:gS s e=if e.op=2 then !(gS s y0) else if e.op=3 then gS s y0&&(decide (1<(e.kids.length:Int))&&gS s y1) else
  if e.op=4 then gS s y0||(decide (1<(e.kids.length:Int))&&gS s y1) else if e.op=6 then gS s y0 == (decide (1<(e.kids.length:Int))&&gS s y1) else !(gS s y0 == (decide (1<(e.kids.length:Int))&&gS s y1)):=by
  rw[mO,kQ,if_neg h1,hl0,hl1,if_neg (by rw[mM,atm];omega)]
 clear hl0 hl1;refine lb 0 (an rfl (ia (i:=0) (an ⟨hka,rfl,by omega⟩ (lc (an (dJ M1.below hr0) (cl (an (ih y0 (atb hy0) _ _ _ s (bB.keep M1.below he0) (hs.keep M1.below)) fun w2 M2=>lb 0 (an rfl ?_))))))));have Pw:decide (1<(e.kids.length:Int))=true→1<e.kids.length:=fun h=>by have:=of_decide_eq_true h;omega
 refine lb 0 (an (fun _=>rfl) (ia (i:=1) (an (fun h3=>⟨hka,rfl,Pw h3⟩) (lc (an (fun h3=>dJ M2.below (H1 (Pw h3)).2.2) (cl (an (fun h3=>ih y1 (atb (H1 (Pw h3)).1) _ _ _ s (bB.keep M2.below (H1 (Pw h3)).2.1) (hs.keep M2.below)) fun w3 M3=>lb 0 (an rfl ?_))))))));rw[hV];clear hV H1;refine an (fun h2 M=>⟨?_,M.below⟩) fun h2=>lb 0 (an rfl (an (fun h3 M=>⟨?_,M.below⟩) fun h3=>lb 0 (an rfl (an (fun h4 M=>⟨?_,M.below⟩) fun h4=>lb 0 (an rfl (an (fun h5 M=>⟨?_,M.below⟩) fun h5 M=>⟨?_,M.below⟩))))))
 all_goals simp_all [kR]
theorem TX(w0:World)(c0 c1 c2 c3 c4 c5 c6 c7 c8 c9 aW aP aO aU aT aS aR v:Value)(p:aG)(s:List Bool)(hp:aL w0 c0 c1 c2 c3 c4 c5 c6 c7 c8 c9 aW aP aO aU aT aS aR p)(hs:fS w0 v s)(hb:p.bools.length≤1000):
 Calls Tryz.prog 294 #[.agg #[c0,c1,c2,c3,c4,c5,c6,c7,c8,c9,aW,aP,aO,aU,aT,aS,aR],v] w0 fun r w'=>∃ u,r=.returned u∧(fS w' u (BP p.bools.length s)∧as5 w0.heap.size w0 w'):=
 (PV w0 c0 c1 c2 c3 c4 c5 c6 c7 c8 c9 aW aP aO aU aT aS aR v p s hp hs hb).mono fun _ _ ⟨u,h1,h2,h3⟩=>⟨u,h1,yY h2 (by simp[BP]) rfl,h3⟩
theorem vR(s:List Bool):eN (fun u w=>fS w u s):=fun _ _ _ h hb=>h.keep hb
def j8(n:Nat)(conds:List aA)(s:List Bool):List Bool:=conds.map (gS (BP n s))
theorem Ds(w0:World)(c0 c1 c2 c3 c4 c5 c6 c7 c8 c9 aW aP aO aU aT aS aR v:Value)(p:aG)(s:List Bool)(hp:aL w0 c0 c1 c2 c3 c4 c5 c6 c7 c8 c9 aW aP aO aU aT aS aR p)(hs:fS w0 v s)(hb:p.bools.length≤1000)(hc:p.conds.length≤1000):
 Calls Tryz.prog 265 #[.agg #[c0,c1,c2,c3,c4,c5,c6,c7,c8,c9,aW,aP,aO,aU,aT,aS,aR],v] w0 fun r w'=>∃ u,r=.returned u∧(w'.ownsRow w0.heap.size 4 1 u p.conds.length ((j8 p.bools.length p.conds s).map Value.bool)∧as5 w0.heap.size w0 w'):=by
 obtain⟨la8,lk8,rfl,-,-,Eb⟩:=aC.form hp.conds (by decide)
 refine fL [] (fn:=Tryz.f265) Tryz.func265 rfl Tryz.ntmps265 rfl fun g w1 M1=>lq (ι:=Nat×Value) (fun(m,u)=>[(5,u),(6,.int .i64 (m:Int))]) (fun(m,u)=>[⟨u,4,1,m,(j8 p.bools.length (p.conds.take m) s).map Value.bool⟩]) (fun(m,u) _=>m≤p.conds.length) (fun(m,u)=>p.conds.length-m) (0,.slice none 0 0)
  (an ⟨⟨rfl,rfl,trivial⟩,fun M=>⟨M.bX 4 1,as9 _⟩⟩ ?_)
 rintro⟨m,u⟩ w M hm;refine lb 0 (an rfl (an (fun h=>?_) fun h M=>?_))
 ·simp only[decide_eq_true_eq] at h;obtain⟨y,hy⟩:∃ y,p.conds[m]?=some y:=⟨_,as7 (by omega)⟩;obtain⟨b0,o0,x0,rfl,he,-,hr⟩:=Eb m y hy;obtain⟨nv0,kv0,rfl,-⟩:=he.open;refine dr (by kernel_rfl)<|lb 0<|an rfl<|ia<|an ⟨rfl,rfl,by omega⟩<|lc<|an (dJ M.below hr)<|lb 0<|an rfl<|cr (fun u w=>fS w u (BP p.bools.length s))<|an (vR _)<|an (fun w' hb' M'=>TX _ _ _ _ _ _ _ _ _ _ _ _ _ _ _ _ _ _ _ p s (hp.keep M'.below) (hs.keep M'.below) hb)<|cu<|an (fun u _ w' hb' M' hR=>F7 y _ _ _ _ (bB.keep M'.below he) hR) ?_;refine bl fun g2 w2 hb2 M=>ap 0 id rfl (M.slice 0 rfl rfl rfl (by simp[maxLen])) ⟨by unfold maxLen;omega,by omega⟩ fun v2 w4 M=>an (by omega) (bk (m+1,v2) ⟨rfl,rfl,trivial⟩ (fun M=>⟨(M.only (.cons _ (.refl _)) (.refl _)).cast rfl (by simp[j8,List.take_add_one,hy]),by omega⟩) (by simp;omega))
 ·simp only[decide_eq_false_iff_not] at h;obtain rfl:m=p.conds.length:=by omega
  exact⟨_,rfl,by have h1:=M.r 0 rfl;simp only[atk] at h1;exact h1,M.below⟩
def kU(n:Nat)(conds:List aA)(s:List Bool)(k:Int):Bool:=
 if 0<k∧k≤conds.length then ((j8 n conds s)[(k-1).toNat]?).getD false else if k<0∧0-(conds.length:Int)≤k then !((j8 n conds s)[(0-k-1).toNat]?).getD false else decide (k=0)
theorem uy(w0:World)(c0 c1 c2 c3 c4 c5 c6 c7 c8 c9 aW aP aO aU aT aS aR v:Value)(p:aG)(s:List Bool)(k:Int)(hp:aL w0 c0 c1 c2 c3 c4 c5 c6 c7 c8 c9 aW aP aO aU aT aS aR p)(hs:fS w0 v s)(hb:p.bools.length≤1000)(hc:p.conds.length≤1000)(hk:jq k):
 Calls Tryz.prog 211 #[.agg #[c0,c1,c2,c3,c4,c5,c6,c7,c8,c9,aW,aP,aO,aU,aT,aS,aR],v,.int .i64 k] w0 fun r w'=>r=.returned (.bool (kU p.bools.length p.conds s k))∧as5 w0.heap.size w0 w':=by
 have hk1:=hk.1;have hk2:=hk.2;refine fL [] (fn:=Tryz.f211) Tryz.func211 rfl Tryz.ntmps211 rfl fun g w1 M1=>lb 0 (an rfl (cw M1 (Ds _ _ _ _ _ _ _ _ _ _ _ _ _ _ _ _ _ _ _ p s (hp.keep M1.below) (hs.keep M1.below) hb hc) fun u w2 M2=>?_))
 have hrow:=M2.r 0 rfl;have hu:fS w2 u (j8 p.bools.length p.conds s):=yY hrow (by simp[j8]) rfl;obtain⟨la,lk,rfl,-,-,hcell⟩:=SliceAt.form hu (by decide);have hlen:(j8 p.bools.length p.conds s).length=p.conds.length:=by simp[j8]
 rw[hlen] at hcell;have hL:((j8 p.bools.length p.conds s).map Value.bool).length=p.conds.length:=by simp[hlen]
 refine an (fun h=>?_) fun h=>?_
 ·simp only[att,decide_eq_true_eq,hlen] at h;obtain⟨b,off,rfl,hc'⟩:=hcell (k-1).toNat (by omega);have hlt:(k-1).toNat<(j8 p.bools.length p.conds s).length:=by rw[hlen];omega
  refine an (by omega)<|ia (i:=(k-1).toNat)<|an ⟨rfl,by omega,by omega⟩<|lc (x:=.bool (j8 p.bools.length p.conds s)[(k-1).toNat])<|an (hc' 0 _ (by simp)) fun M=>⟨?_,M.below⟩
  unfold kU;rw[if_pos h,as7 hlt];rfl
 ·refine an (by omega)<|an (fun h2=>?_) fun h2 M=>⟨?_,M.below⟩
  ·simp only[att,decide_eq_true_eq,hlen] at h2;simp only[Bool.and_eq_false_iff,decide_eq_false_iff_not,hlen] at h;obtain⟨b,off,rfl,hc'⟩:=hcell (0-k-1).toNat (by omega);have hlt:(0-k-1).toNat<(j8 p.bools.length p.conds s).length:=by rw[hlen];omega
   refine an (by omega)<|an (by omega)<|ia (i:=(0-k-1).toNat)<|an ⟨rfl,by omega,by omega⟩<|lc (x:=.bool (j8 p.bools.length p.conds s)[(0-k-1).toNat])<|an (hc' 0 _ (by simp)) fun M=>⟨?_,M.below⟩
   unfold kU;rw[if_neg (by omega),if_pos h2,as7 hlt];rfl
  ·simp only[Bool.and_eq_false_iff,decide_eq_false_iff_not,hlen] at h h2;unfold kU;rw[if_neg (by omega),if_neg (by omega)];rfl
theorem aap{P:Program}{a:Act}{w:World}{o:Oper}{ss tt:TypeId}{x:Operand}{m:Nat}(ho:o.op=.convert ss tt x)(hx:a.eval x=.int .i64 (m:Int))(hs:P.underlying ss=some (.int .i64))(ht:P.underlying tt=some (.int .u64))(hm:m<18446744073709551616):(execOp a.eval o).run P w=.ok (.value (.int .u64 (m:Int))) w:=by
 have hw:IntKind.u64.wrap (m:Int)=(m:Int):=by simp only[IntKind.wrap,IntKind.bits,IntKind.signed];simp;omega
 unfold execOp;have sZ:∀ {t:TypeId} {d:TypeDesc},P.underlying t=some d→(underlying t).run P w=.ok d w:=fun h=>run_underlying h w
 simp[ho,hx,convert,Sem.run_bind,Sem.run_pure,sZ hs,sZ ht,Conv.intToInt,hw]
theorem WM(q:Nat):IntKind.i64.wrap (((BitVec.ofInt 64 (q:Int))&&&BitVec.ofInt 64 1).toNat:Int)=((q%2:Nat):Int):=by
 have h:((BitVec.ofInt 64 (q:Int))&&&BitVec.ofInt 64 1).toNat=q%2:=by
  rw[BitVec.toNat_and,BitVec.ofInt_natCast,BitVec.toNat_ofNat];show q%2^64&&&1=_;rw[Nat.and_one_is_mod];omega
 rw[h];have:q%2<2:=Nat.mod_lt _ (by decide);simp only[IntKind.wrap,IntKind.bits,IntKind.signed];simp;omega
def rJ(n r:Nat):List Bool:=(List.range n).map fun i=>r.testBit i
theorem zR(w0:World)(c0 c1 c2 c3 c4 c5 c6 c7 c8 c9 aW aP aO aU aT aS aR:Value)(p:aG)(r:Nat)(hp:aL w0 c0 c1 c2 c3 c4 c5 c6 c7 c8 c9 aW aP aO aU aT aS aR p)(hb:p.bools.length≤60):
 Calls Tryz.prog 134 #[.agg #[c0,c1,c2,c3,c4,c5,c6,c7,c8,c9,aW,aP,aO,aU,aT,aS,aR],.int .i64 (r:Int)] w0 fun x w'=>∃ u,x=.returned u∧(w'.ownsRow w0.heap.size 4 1 u p.bools.length ((rJ p.bools.length r).map Value.bool)∧as5 w0.heap.size w0 w'):=by
 obtain⟨gh,f_,rfl,-⟩:=SliceAt.form hp.bools (by decide)
 refine fL [] (fn:=Tryz.f134) Tryz.func134 rfl Tryz.ntmps134 rfl fun g w1 M1=>lq (ι:=Nat×Value) (fun(m,u)=>[(5,u),(6,.int .i64 (m:Int))]) (fun(m,u)=>[⟨u,4,1,m,(rJ m r).map Value.bool⟩]) (fun(m,u) _=>m≤p.bools.length) (fun(m,u)=>p.bools.length-m) (0,.slice none 0 0)
  (an ⟨⟨rfl,rfl,trivial⟩,fun M=>⟨M.bX 4 1,as9 _⟩⟩ ?_)
 rintro⟨m,u⟩ w M hm;refine lb 0 (an rfl (an (fun h=>?_) fun h M=>?_))
 ·simp only[decide_eq_true_eq] at h;have hq:((r:Int)/2^m)=((r/2^m:Nat):Int):=by simp
  refine ei<|an (fun a w o ho hv=>aap ho (qN hv) u3 afz (by omega))<|ei (x:=.int .i64 ((r/2^m:Nat):Int))<|an (fun a w o ho hv=>?_)<|ei<|an (WM _) fun g2 w3 M=>ap 0 id rfl (M.slice 0 rfl rfl rfl (by simp[maxLen])) ⟨by unfold maxLen;omega,by omega⟩ fun v2 w4 M=>an (by omega) (bk (m+1,v2) ⟨rfl,rfl,trivial⟩ (fun M=>⟨(M.only (.cons _ (.refl _)) (.refl _)).cast rfl (by
   have:decide ((((r/2^m)%2:Nat):Int)=1)=r.testBit m:=by
    rw[Nat.testBit_eq_decide_div_mod_eq];exact decide_eq_decide.2 (by omega)
   simp only[rJ,List.range_succ,atp,List.map_cons,List.map_nil,this]),by omega⟩) (by simp;omega))
  have:=TP (P:=Tryz.prog) (w:=w) ho (qN hv) (yx hv) (by omega) (by simp[IntKind.bits];omega);rw[this,← hq];rfl
 ·simp only[decide_eq_false_iff_not] at h;obtain rfl:m=p.bools.length:=by omega
  exact⟨_,rfl,M.r 0 rfl,M.below⟩
theorem J6(w0:World)(v v':Value)(s s':List Bool)(h:fS w0 v s)(h':fS w0 v' s'):Calls Tryz.prog 136 #[v,v'] w0 fun r w'=>r=.returned (.bool (decide (s=s')))∧as5 w0.heap.size w0 w':=by
 obtain⟨la,lk,rfl,-,yT,hcell⟩:=SliceAt.form h (by decide);obtain⟨la',lk',rfl,-,-,Ap⟩:=SliceAt.form h' (by decide);refine fL [] (fn:=Tryz.f136) Tryz.func136 rfl Tryz.ntmps136 rfl<|an (fun h M=>⟨?_,M.below⟩) fun h=>lr (ι:=Nat) (fun m=>[(5,.int .i64 (m:Int))]) (fun m _=>m≤s.length∧s.take m=s'.take m) (fun m=>s.length-m) 0 (an ⟨⟨rfl,trivial⟩,fun M=>⟨M,as9 _,rfl⟩⟩ ?_)
 ·have:s≠s':=fun e=>by rw[e] at h;simp at h
  rw[decide_eq_false this];rfl
 have hll:s.length=s'.length:=Int.ofNat_inj.1 (by simpa using h);rintro m w M ⟨hm,ht⟩;refine an (fun h2=>?_) fun h2 M=>⟨?_,M.below⟩
 ·simp only[decide_eq_true_eq] at h2;obtain⟨b,off,rfl,hc⟩:=hcell m (by omega);obtain⟨b',off',rfl,hc'⟩:=Ap m (by omega);have hlt:m<s.length:=by omega
  have hlt':m<s'.length:=by omega
  refine dr (by kernel_rfl)<|ia<|an ⟨rfl,rfl,hlt⟩<|lc (x:=.bool s[m])<|an (as8 M.below (hc 0 _ (by simp[hlt])))<|ia<|an ⟨rfl,rfl,hlt'⟩<|lc (x:=.bool s'[m])<|an (as8 M.below (hc' 0 _ (by simp[hlt']))) fun w2 hb2 M=>an (fun h3 M=>⟨?_,M.below⟩) fun h3=>an (by omega) (bk (m+1) ⟨rfl,trivial⟩ (fun M=>⟨M,by omega,?_⟩) (by dsimp only;omega))
  ·have:s≠s':=fun e=>by subst e;simp at h3
   rw[decide_eq_false this];rfl
  ·rw[List.take_add_one,List.take_add_one,ht,as7 hlt,as7 hlt'];have:s[m]=s'[m]:=by simpa using h3
   rw[this]
 ·simp only[decide_eq_false_iff_not] at h2;have:s=s':=by rw[← atk (l:=s),← atk (l:=s'),← hll,← show m=s.length by omega];exact ht
  rw[decide_eq_true this];rfl
theorem bg.elt{α:Type}{f:α→List Value}{B:Nat}{w0 w:World}{bs:List Bx}{rs:List Rw}(M:bg B w0 w bs rs)(i:Nat){g n c:Nat}{e k:Nat}{l:List α}{m:Nat}{y:α}(hr:rs[i]?=some ⟨.slice (some ⟨g,0,none⟩) n c,e,k,n,l.flatMap f⟩)(hf:∀ x,(f x).length=k)(hy:l[m]?=some y):
 ∀ j u,(f y)[j]?=some u→w.cell? ⟨g,0+m*k+j,none⟩=some u:=fun j u hu=>by
 have h:=World.ownsRow.cells (M.r i hr) (g:=g) rfl (m*k+j) u (by
  show(l.flatMap f)[m*k+j]?=some u;rw[gN hf hy j (hf y▸(ata.1 hu).1)];exact hu)
 rw[Addr.add_mid] at h;simpa[Nat.add_assoc] using h
theorem bg.own{B:Nat}{w0 w:World}{bs:List Bx}{rs:List Rw}(M:bg B w0 w bs rs)(i:Nat){v:Value}{e k n:Nat}{xs:List Value}(hr:rs[i]?=some ⟨v,e,k,n,xs⟩)(hn:0<n):∃ g c,v=.slice (some ⟨g,0,none⟩) n c:=by
 obtain⟨g,c,-,h,-⟩:=tH (M.r i hr) hn;exact⟨g,c,h⟩
def nE(x:Int):List Value:=[.int .u32 x]
theorem Sl{K T C s t c:Nat}(hK:K≤3)(hT:T≤256)(hC:C≤256)(hs:s<T)(ht:t<T)(hc:c<C):K*T≤768∧K*T+s<4*T∧(K*T+s)*T≤262144∧(K*T+s)*T+t<4*T*T∧((K*T+s)*T+t)*C≤67108864∧((K*T+s)*T+t)*C+c<4*T*T*C:=by
 have h1:K*T≤3*256:=Nat.mul_le_mul hK hT;have h1':K*T≤3*T:=atj _ hK;have h2:K*T+s<4*T:=by omega
 have h3:(K*T+s)*T≤(4*256)*256:=Nat.mul_le_mul (by omega) hT
 have h4:(K*T+s)*T+t<4*T*T:=by
  have:=atj T (show K*T+s+1≤4*T by omega);rw[Nat.succ_mul] at this;omega
 have h4':(K*T+s)*T+t<262144:=by
  have:4*T*T≤(4*256)*256:=Nat.mul_le_mul (Nat.mul_le_mul_left _ hT) hT;omega
 have h5:((K*T+s)*T+t)*C≤262144*256:=Nat.mul_le_mul (by omega) hC;refine⟨by omega,h2,by omega,h4,by omega,?_⟩;have:=atj C (show(K*T+s)*T+t+1≤4*T*T by omega);rw[Nat.succ_mul] at this;omega
theorem Vf{xs:List Int}{j:Nat}{v:Int}(hj:j<xs.length):(xs.flatMap nE).take (j*1)++bh (.int .u32 v)++(xs.flatMap nE).drop (j*1+1)=(xs.set j v).flatMap nE:=by
 have h:∀ l:List Int,l.flatMap nE=l.map (Value.int .u32):=fun l=>by induction l with
  | nil=>rfl
  | cons x r ih=>rw[List.flatMap_cons,ih];rfl
 rw[h,h,Nat.mul_one,List.map_set,List.set_eq_take_append_cons_drop,if_pos (by simpa using hj)];simp[bh]
theorem bg.shape{B:Nat}{w0 w:World}{bs:List Bx}{rs:List Rw}(M:bg B w0 w bs rs)(i:Nat){v:Value}{e k n:Nat}{xs:List Value}(hr:rs[i]?=some ⟨v,e,k,n,xs⟩):∃ a c,v=.slice a n c∧n≤9223372036854775807:=by
 obtain⟨a,c,h,-,h2⟩:=fI (M.r i hr);exact⟨a,c,h,h2⟩
theorem DM(w:World)(r:ak)(hr:r.Ok):
 Calls Tryz.prog 212 #[.agg #[.int .i64 r.kind,.int .u64 r.src.a,.int .u64 r.src.b,.int .u64 r.src.c,.int .u64 r.src.d,.int .u64 r.tgt.a,.int .u64 r.tgt.b,.int .u64 r.tgt.c,.int .u64 r.tgt.d,.bool r.self,.int .i64 r.cls,.int .u32 r.perms,.int .i64 r.cond]] w fun e w'=>∃ v,e=.returned v∧(w'.ownsRow w.heap.size 111 2 v r.pairs.length (gZ r.pairs)∧Below w.heap.size w w'):=
 GF w r hr
theorem Ib(w0:World)(c0 c1 c2 c3 c4 c5 c6 c7 c8 c9 aW aP aO aU aT aS aR v:Value)(p:aG)(s:List Bool)(hp:aL w0 c0 c1 c2 c3 c4 c5 c6 c7 c8 c9 aW aP aO aU aT aS aR p)(hs:fS w0 v s)(hb:p.bools.length≤1000)(hc:p.conds.length≤1000)(hT:p.types.length≤256)(hC:p.classes.length≤256)
 (hR:∀ r∈p.rules,RV p.types.length p.classes.length r∧r.Dc) :
 Calls Tryz.prog 133 #[.agg #[c0,c1,c2,c3,c4,c5,c6,c7,c8,c9,aW,aP,aO,aU,aT,aS,aR],v] w0 fun x w'=>∃ u,x=.returned u∧(w'.ownsRow w0.heap.size 50 1 u (4*p.types.length*p.types.length*p.classes.length) ((dH p.types.length p.classes.length (fun r=>kU p.bools.length p.conds s r.cond) p.rules).flatMap nE)∧as5 w0.heap.size w0 w'):=by
 obtain⟨la0,lk0,rfl,-⟩:=aC.form hp.classes (by decide);obtain⟨Jc,Jb,rfl,-⟩:=aC.form hp.types (by decide);obtain⟨Sh,O3,rfl,-,hm9,-⟩:=SliceAt.form hp.rules (by decide);generalize hTd:p.types.length=T at *;generalize hCd:p.classes.length=C at *
 have hN1:4*T*T*C≤67108864:=by
  have h1:4*T*T≤(4*256)*256:=Nat.mul_le_mul (Nat.mul_le_mul_left _ hT) hT;have h2:4*T*T*C≤((4*256)*256)*256:=Nat.mul_le_mul h1 hC;omega
 have ZK:4*T*T≤262144:=Nat.mul_le_mul (Nat.mul_le_mul_left _ hT) hT;refine fL [] (fn:=Tryz.f133) Tryz.func133 rfl Tryz.ntmps133 rfl fun g w1 M1=>dr (by kernel_rfl)<|lb 0<|an rfl<|lb 0<|an rfl ?_
 refine fun w2 hb2 M2=>?_
 have e1:(4*(T:Int))*(T:Int)=((4*T*T:Nat):Int):=by simp
 have e2:(4*(T:Int))*(T:Int)*(C:Int)=((4*T*T*C:Nat):Int):=by simp
 refine an (by omega)<|an (by omega)<|an (by omega)<|mz M2 afA ac5 afm rfl e2 ⟨by omega,by unfold maxLen;omega⟩ fun g2 w3 M3=>?_
 refine lq (ι:=Nat) (fun m=>[(8,.int .i64 (m:Int))]) (fun m=>[⟨.slice (some ⟨g2,0,none⟩) (4*T*T*C) (4*T*T*C),50,1,4*T*T*C,(dH T C (fun r=>kU p.bools.length p.conds s r.cond) (p.rules.take m)).flatMap nE⟩]) (fun m _=>m≤p.rules.length) (fun m=>p.rules.length-m) 0
  (an ⟨⟨rfl,trivial⟩,fun M=>⟨M.cast rfl ?_,as9 _⟩⟩ ?_)
 ·have:∀ n:Nat,List.replicate n (Value.int .u32 0)=(List.replicate n (0:Int)).flatMap nE:=fun n=>by induction n with
   | zero=>rfl
   | succ n ih=>rw[List.replicate_succ,List.replicate_succ,List.flatMap_cons,← ih];rfl
  exact congrArg (fun x=>[(⟨_,50,1,_,x⟩:Rw)]) (this _)
 intro m w M hm;refine lb 0<|an rfl<|an (fun h=>?_) fun h M=>?_
 ·simp only[decide_eq_true_eq] at h;obtain⟨y,hy⟩:∃ y,p.rules[m]?=some y:=⟨_,as7 (by omega)⟩;obtain⟨hRV,hyk⟩:=hR y (atb hy);obtain⟨b0,o0,rfl,hcell⟩:=SliceAt.elt hp.rules (f:=ak.cells) (fun _=>rfl) (by decide) hy (by omega)
  have hstep:∀ out,fN T C (fun r=>kU p.bools.length p.conds s r.cond) out (p.rules.take (m+1))=if kU p.bools.length p.conds s y.cond=true then oB T C y (fN T C (fun r=>kU p.bools.length p.conds s r.cond) out (p.rules.take m)) y.pairs else fN T C (fun r=>kU p.bools.length p.conds s r.cond) out (p.rules.take m):=fun out=>by
   unfold fN;rw[List.take_add_one,hy];simp
  refine lb 0<|an rfl<|ia<|an ⟨rfl,rfl,by omega⟩<|lc<|an (dJ M.below hcell)<|ei<|an oy fun g3 w4 M=>lb 0<|an ⟨rfl,rfl⟩ fun w5 M=>?_
  refine lb 1<|an rfl<|lb 0<|an rfl<|cl<|an (uy _ _ _ _ _ _ _ _ _ _ _ _ _ _ _ _ _ _ _ p s y.cond (hp.keep M.below) (hs.keep M.below) hb hc hyk.cond) fun w6 M=>an (fun hoff=>?_) fun hon=>?_
  ·refine an (by omega)<|bk (m+1) ⟨rfl,trivial⟩ (fun M=>⟨(M.only (.cons _ (.refl _)) (.refl _)).cast rfl ?_,by omega⟩) (by dsimp only;omega);refine congrArg (fun x=>[(⟨_,50,1,_,List.flatMap nE x⟩:Rw)]) ?_;unfold dH;rw[hstep,if_neg (by simpa using hoff)]
  ·have agM:kU p.bools.length p.conds s y.cond=true:=by simpa using hon
   obtain⟨K,hK⟩:∃ K:Nat,y.kind=(K:Int)+1:=⟨(y.kind-1).toNat,by have:=hRV.kind;omega⟩;obtain⟨c,hcl⟩:∃ c:Nat,y.cls=(c:Int):=⟨y.cls.toNat,by have:=hRV.cls;omega⟩;have fJ:K≤3:=by have:=hRV.kind;omega
   have hcC:c<C:=by have:=hRV.cls;omega
   refine lb 0<|an rfl<|cw M (DM _ y ⟨hyk.src,hyk.tgt⟩) fun u w7 M=>?_
   refine lq (ι:=Nat) (fun k=>[(11,.int .i64 (k:Int))]) (fun k=>[⟨u,111,2,y.pairs.length,gZ y.pairs⟩,⟨.slice (some ⟨g2,0,none⟩) (4*T*T*C) (4*T*T*C),50,1,4*T*T*C,(oB T C y (dH T C (fun r=>kU p.bools.length p.conds s r.cond) (p.rules.take m)) (y.pairs.take k)).flatMap nE⟩]) (fun k _=>k≤y.pairs.length) (fun k=>y.pairs.length-k) 0
    (an ⟨⟨rfl,trivial⟩,fun M=>⟨M,as9 _⟩⟩ ?_)
   intro k w M hk;obtain⟨ua,uc,rfl,yT⟩:=M.shape 0 rfl;refine an (fun h2=>?_) fun h2=>?_
   ·simp only[decide_eq_true_eq] at h2;obtain⟨q,hq⟩:∃ q,y.pairs[k]?=some q:=⟨_,as7 (by omega)⟩;obtain⟨hq1,Na⟩:=hRV.pairs q (atb hq);obtain⟨gp,cp,hup⟩:=M.own 0 rfl (by omega);cases hup;have hcp:=M.elt 0 (f:=GN) (l:=y.pairs) rfl (fun _=>rfl) hq;obtain⟨x1,x2,x3,x4,x5,x6⟩:=Sl fJ hT hC hq1 Na hcC;have i1:y.kind-1=(K:Int):=by omega
    have i2:(y.kind-1)*(T:Int)=((K*T:Nat):Int):=by rw[i1];simp
    have i3:(y.kind-1)*(T:Int)+(q.1:Int)=((K*T+q.1:Nat):Int):=by rw[i2];simp
    have i4:((y.kind-1)*(T:Int)+(q.1:Int))*(T:Int)=(((K*T+q.1)*T:Nat):Int):=by rw[i3];simp
    have i5:((y.kind-1)*(T:Int)+(q.1:Int))*(T:Int)+(q.2:Int)=(((K*T+q.1)*T+q.2:Nat):Int):=by rw[i4];simp
    have i6:(((y.kind-1)*(T:Int)+(q.1:Int))*(T:Int)+(q.2:Int))*(C:Int)=((((K*T+q.1)*T+q.2)*C:Nat):Int):=by rw[i5];simp
    have i7:(((y.kind-1)*(T:Int)+(q.1:Int))*(T:Int)+(q.2:Int))*(C:Int)+y.cls=((((K*T+q.1)*T+q.2)*C+c:Nat):Int):=by rw[i6,hcl];simp
    have hix:D4 T C y q=((K*T+q.1)*T+q.2)*C+c:=by unfold D4;rw[hcl,i1];simp
    refine dr (by kernel_rfl)<|lb 0<|an rfl<|an (by omega)<|an (by omega)<|ia<|an ⟨rfl,rfl,by omega⟩<|ei (x:=0)<|an ⟨rfl,by decide⟩<|lc<|an (hcp 0 _ rfl)<|an (by omega)<|an (by omega)<|ia<|an ⟨rfl,rfl,by omega⟩<|ei (x:=1)<|an ⟨rfl,by decide⟩<|lc<|an (hcp 1 _ rfl)<|an (by omega)<|an (by omega)<|lb 0<|an rfl<|an (by omega) fun w8 hb8 M=>?_
    have hol:(oB T C y (dH T C (fun r=>kU p.bools.length p.conds s r.cond) (p.rules.take m)) (y.pairs.take k)).length=4*T*T*C:=by rw[tF,gu]
    obtain⟨vo,hvo⟩:∃ vo,(oB T C y (dH T C (fun r=>kU p.bools.length p.conds s r.cond) (p.rules.take m)) (y.pairs.take k))[((K*T+q.1)*T+q.2)*C+c]?=some vo:=⟨_,as7 (by rw[hol];exact x6)⟩;have hco:=M.elt 1 (f:=nE) rfl (fun _=>rfl) hvo;refine dr (by kernel_rfl)<|ia<|an ⟨rfl,i7,x6⟩<|lc<|an (hco 0 _ rfl)<|lb 0<|an rfl<|ei<|an rfl<|ia<|an ⟨rfl,i7,x6⟩ fun w9 hb9 M=>sr 1 _ ⟨rfl,Nat.zero_add _,x6⟩ rfl fun xR M=>an (by omega)<|bk (k+1) ⟨rfl,trivial⟩ (fun M=>⟨M.cast rfl ?_,by omega⟩) (by dsimp only;omega)
    refine congrArg (fun x=>[(⟨_,111,2,_,_⟩:Rw),⟨_,50,1,_,x⟩]) ?_
    have hput:oB T C y (dH T C (fun r=>kU p.bools.length p.conds s r.cond) (p.rules.take m)) (y.pairs.take (k+1))=(oB T C y (dH T C (fun r=>kU p.bools.length p.conds s r.cond) (p.rules.take m)) (y.pairs.take k)).set (((K*T+q.1)*T+q.2)*C+c) (bits .or .u32 vo y.perms):=by
     have e9:y.pairs.take (k+1)=y.pairs.take k++[q]:=by rw[List.take_add_one,hq];rfl
     have hs1:oB T C y (dH T C (fun r=>kU p.bools.length p.conds s r.cond) (p.rules.take m)) (y.pairs.take k++[q])=vE (D4 T C y q) y.perms (oB T C y (dH T C (fun r=>kU p.bools.length p.conds s r.cond) (p.rules.take m)) (y.pairs.take k)):=by
      unfold oB;rw[List.foldl_append];rfl
     rw[e9,hs1,vE,hix,atu,hvo];rfl
    rw[hput,← Vf (by rw[hol];exact x6),Nat.zero_add];rfl
   ·simp only[decide_eq_false_iff_not] at h2;obtain rfl:k=y.pairs.length:=by omega
    refine an (by omega)<|bk (m+1) ⟨rfl,trivial⟩ (fun M=>⟨(M.only (.cons _ (.refl _)) (.cons _ (.refl _))).cast rfl ?_,by omega⟩) (by dsimp only;omega);refine congrArg (fun x=>[(⟨_,50,1,_,List.flatMap nE x⟩:Rw)]) ?_;unfold dH;rw[hstep,if_pos agM,atk]
 ·simp only[decide_eq_false_iff_not] at h;obtain rfl:m=p.rules.length:=by omega
  exact⟨_,rfl,by have h1:=M.r 0 rfl;simp only[atk] at h1;exact h1,M.below⟩
end Go.Proofs.YtdcofoaihmongaaGreat

import Derived.BigQuiet
import Derived.ChangeKeysEq
import Derived.DeepKeys4
import Derived.Laws.Entries
import Derived.Laws.MakeOwn
import Derived.Laws.StructEq
import Derived.Shelf.SlSortCmp.Insertion
import Derived.Sort.Grow
import Derived.Sort.LotA
import Derived.WideKeyMaps
import Derived.WideKeyPair
import Derived.Test.YtdcofoaihmongaaGreatS0
open Array renaming getD_eq_getD_getElem?→av_
open Bool renaming and_eq_true→av4
open Go renaming cell_later→avN,wpList_nil→av2
open Go.Lib renaming hid→avM
open Go.RowKit renaming Below→avX
open Go.Sem renaming run_bind→avQ
open List renaming length_append→avO,mem_map→avP,getElem?_eq_getElem→avR,mem_cons→avS,mem_cons_of_mem→avT,mem_cons_self→avV,mem_of_getElem?→avW,getElem?_eq_some_iff→avZ,getElem?_map→av0,mem_singleton→av1,all_eq_true→av3,length_take→av5,length_map→av8,getElem?_append_left→av9
open Nat renaming le_trans→avY,mul_le_mul_right→av6,eq_of_beq_eq_true→av7
open Option.some renaming inj→avU
set_option maxRecDepth 100000
set_option maxHeartbeats 8000000
namespace Go.Proofs.YtdcofoaihmongaaGreat
open Go Go.RowKit
theorem AR{j:Nat}(h:j<64):IntKind.u64.wrap (2^j)=((2^j:Nat):Int):=by
 have h1:=wK h;unfold zV at h1;rw[show(2:Int)^j=((2^j:Nat):Int) by simp,IntKind.wrap_u64];generalize 2^j=y at h1 ⊢;omega
theorem U7{x j:Nat}(hx:zV x)(h:j<64):bits .or .u64 (x:Int) ((2:Int)^j)=((x|||2^j:Nat):Int):=by
 rw[show(2:Int)^j=((2^j:Nat):Int) by simp];exact bits_or_u64_nat x (2^j) hx (wK h)
theorem Hs(w:World)(m:Nat)(hm:m<256):Calls Tryz.prog 64 #[.int .i64 m] w fun e w'=>e=.returned (.int .u64 ((2^(m%64):Nat):Int))∧w=w':=by
 go_enter Tryz.func64,Tryz.ntmps64
 go_wp2
 go_ret
 exact⟨dG (AR (Nat.mod_lt _ (by decide))),rfl⟩
theorem EB(w:World)(n:Int)(hn:¬ 0≤n):Calls Tryz.prog 206 #[.int .i64 n] w fun e w'=>e=.returned (.bool false)∧w=w':=by
 go_enter Tryz.func206,Tryz.ntmps206
 go_wp2
 go_ret
 exact⟨rfl,rfl⟩
theorem EC(w:World)(n:Int)(h0:0≤n)(hn:¬ n<256):Calls Tryz.prog 206 #[.int .i64 n] w fun e w'=>e=.returned (.bool false)∧w=w':=by
 go_enter Tryz.func206,Tryz.ntmps206
 go_wp2
 go_ret
 exact⟨rfl,rfl⟩
theorem Ck(w:World)(n:Int)(h0:0≤n)(hn:n<256):Calls Tryz.prog 206 #[.int .i64 n] w fun e w'=>e=.returned (.bool true)∧w=w':=by
 go_enter Tryz.func206,Tryz.ntmps206
 go_wp2
 go_ret
 exact⟨rfl,rfl⟩
theorem dh(w:World)(o:Obj)(cs:Array Value)(t:TypeId):Whole ((w.alloc o).alloc (.cells cs t)) (w.heap.size+1) t cs:=by
 have:=Whole.new (w.alloc o) t cs;simpa using this
theorem bp(cs:Array Value)(l:List Value)(h:cs.size=l.length):splice cs 0 l=l.toArray:=by
 apply Array.toList_inj.1;rw[jQ _ _ _ (by omega)];simp[List.drop_of_length_le (show cs.toList.length≤l.length by simp[h])]
theorem Fq:(Tryz.prog.info? 52).map (·.size)=some 1:=by kernel_rfl
theorem cO:(Tryz.prog.info? 54).map (·.size)=some 4:=by kernel_rfl
theorem sV(s:ay){i:Nat}(hi:i<4)(x:Nat):(#[.int .u64 (s.put i x).a,.int .u64 (s.put i x).b,.int .u64 (s.put i x).c,.int .u64 (s.put i x).d]:Array Value)=splice #[.int .u64 s.a,.int .u64 s.b,.int .u64 s.c,.int .u64 s.d] i [.int .u64 (x:Int)]:=by
 rcases four hi with rfl|rfl|rfl|rfl<;>rfl
theorem acZ(w:World)(s:ay)(hs:s.Ok)(m:Nat)(hm:m<256):
 Calls Tryz.prog 191 #[.agg #[.int .u64 s.a,.int .u64 s.b,.int .u64 s.c,.int .u64 s.d],.int .i64 m] w fun e w'=>e=.returned (.bool (s.mem m))∧Below w.heap.size w w':=by
 have k:=(Whole.new w 54 #[.int .u64 s.a,.int .u64 s.b,.int .u64 s.c,.int .u64 s.d]).cell (m/64);rw[show(#[.int .u64 s.a,.int .u64 s.b,.int .u64 s.c,.int .u64 s.d]:Array Value)[m/64]?=some (.int .u64 (s.word (m/64))) by rw[← Array.getElem?_toList];exact s.vG (by omega)] at k;obtain⟨x,hx⟩:∃ x,x=s.word (m/64):=⟨_,rfl⟩;rw[← hx] at k;have HX:=avM hx;have HUX:=avM (show zV x by rw[hx];exact ay.iJ hs _);clear hx;have h4:m/64<4:=by omega
 have hm':(m:Int)<256:=by omega
 have hmem:Hid (s.mem (m:Int)=x.testBit (m%64)):=by
  unfold Hid ay.mem ay.has;rw[HX.out];simp;omega
 go_enter Tryz.func191,Tryz.ntmps191
 go_wp2
 go_ret
 exact⟨aH ((Yk HUX.out).trans hmem.out.symm),(Below.refl _ w).alloc (Nat.le_refl _) _⟩
theorem Wa(w:World)(s:ay)(n:Int)(hn:n<0):
 Calls Tryz.prog 191 #[.agg #[.int .u64 s.a,.int .u64 s.b,.int .u64 s.c,.int .u64 s.d],.int .i64 n] w fun e w'=>e=.returned (.bool false)∧Below w.heap.size w w':=by
 have hn1:¬ 0≤n:=by omega
 go_enter Tryz.func191,Tryz.ntmps191
 go_wp2
 go_ret
 exact⟨rfl,(Below.refl _ w).alloc (Nat.le_refl _) _⟩
theorem V_(w:World)(s:ay)(n:Int)(hn:256≤n):
 Calls Tryz.prog 191 #[.agg #[.int .u64 s.a,.int .u64 s.b,.int .u64 s.c,.int .u64 s.d],.int .i64 n] w fun e w'=>e=.returned (.bool false)∧Below w.heap.size w w':=by
 have hn0:0≤n:=by omega
 have hn1:¬ n<256:=by omega
 go_enter Tryz.func191,Tryz.ntmps191
 go_wp2
 go_ret
 exact⟨rfl,(Below.refl _ w).alloc (Nat.le_refl _) _⟩
theorem gT(w:World)(s:ay)(hs:s.Ok)(n:Int):
 Calls Tryz.prog 191 #[.agg #[.int .u64 s.a,.int .u64 s.b,.int .u64 s.c,.int .u64 s.d],.int .i64 n] w fun e w'=>e=.returned (.bool (s.mem n))∧Below w.heap.size w w':=by
 by_cases h:0≤n∧n<256
 ·obtain⟨m,rfl⟩:∃ m:Nat,n=m:=⟨n.toNat,by omega⟩;exact acZ w s hs m (by omega)
 ·rw[show s.mem n=false by unfold ay.mem;simp[h]];by_cases h0:n<0
  ·exact Wa w s n h0
  ·exact V_ w s n (by omega)
theorem Yv(w:World)(s:ay)(hs:s.Ok)(m:Nat)(hm:m<256):
 Calls Tryz.prog 18 #[.agg #[.int .u64 s.a,.int .u64 s.b,.int .u64 s.c,.int .u64 s.d],.int .i64 m] w fun e w'=>e=.returned (.bool (s.mem m))∧Below w.heap.size w w':=by
 have k:=(Whole.new w 54 #[.int .u64 s.a,.int .u64 s.b,.int .u64 s.c,.int .u64 s.d]).cell (m/64);rw[show(#[.int .u64 s.a,.int .u64 s.b,.int .u64 s.c,.int .u64 s.d]:Array Value)[m/64]?=some (.int .u64 (s.word (m/64))) by rw[← Array.getElem?_toList];exact s.vG (by omega)] at k;obtain⟨x,hx⟩:∃ x,x=s.word (m/64):=⟨_,rfl⟩;rw[← hx] at k;have HX:=avM hx;have HUX:=avM (show zV x by rw[hx];exact ay.iJ hs _);clear hx;have h4:m/64<4:=by omega
 have hm':(m:Int)<256:=by omega
 have hmem:Hid (s.mem (m:Int)=x.testBit (m%64)):=by
  unfold Hid ay.mem ay.has;rw[HX.out];simp;omega
 obtain⟨wo,bP⟩:∃ wo,wo=w.alloc (.cells #[.int .u64 s.a,.int .u64 s.b,.int .u64 s.c,.int .u64 s.d] 54):=⟨_,rfl⟩;rw[← bP] at k;have fG:=avM (show Below w.heap.size w wo by rw[bP];exact(Below.refl _ w).alloc (Nat.le_refl _) _)
 go_enter Tryz.func18,Tryz.ntmps18
 go_wp2_with fail
 rw[← bP];clear bP;refine dP (fun w w'=>Below w.heap.size w w') [some 5,some 6,some 7,some 8,some 9,some 10,some 11,some 12,some 13,some 14,some 15,some 16,some 17,some 18,some 19,some 20] [bI (.int .i64 m),bI (.bool true),bI (.bool true),bI (.int .i64 m),bI (.bool true),bI (.bool true),bI (.bool true),bI (.int .i64 m),bI (.int .i64 ((m/64:Nat):Int)),bI (.pointer (some ⟨w.heap.size,m/64,none⟩)),bI (.int .u64 x),bI (.int .i64 m),bI (.int .u64 ((2^(m%64):Nat):Int)),bI (.int .u64 (bits .and .u64 (x:Int) ((2^(m%64):Nat):Int))),bI (.bool (bits .and .u64 (x:Int) ((2^(m%64):Nat):Int) != 0)),bI (.bool (bits .and .u64 (x:Int) ((2^(m%64):Nat):Int) != 0))] (fun _ w'=>Below wo.heap.size wo w') 16 (by kernel_rfl) (by kernel_rfl) (by kernel_rfl) rfl (by decide) rfl rfl ((Below.refl _ _).drew) ⟨ak _,ak _,ak _,ak _,ak _,ak _,ak _,ak _,ak _,ak _,ak _,ak _,ak _,ak _,ak _,ak _,trivial⟩ ⟨(fun _=>aq _),(fun _=>aq _),(fun _=>aq _),(fun _=>aq _),(fun _=>aq _),(fun _=>aq _),(fun _=>aq _),(fun _=>aq _),(fun _=>aq _),(fun _=>aq _),(fun _=>aq _),(fun _=>aq _),(fun _=>aq _),(fun _=>aq _),(fun _=>aq _),(fun _=>aq _),trivial⟩ ⟨?_,?_,?_,?_,?_,?_,?_,?_,?_,?_,?_,?_,?_,?_,?_,?_,?_⟩
 ·intro L a wx Q' hL hi H F hK
  try dsimp only at hi
  have h1:a.tmps[1]?=some (.int .i64 m):=F 1 rfl;have HI:=avM hi;clear H F hi hL
  go_wp2_with fail
  exact hK _ _ (Below.refl _ _) HI.out rfl
 ·intro L a wx Q' hL hi H F hK
  try dsimp only at hi
  obtain⟨_,h5,rfl⟩:=H 0 ⟨.data,by simp,rfl⟩ _ rfl;replace h5:=h5 _ rfl;have HI:=avM hi;clear H F hi hL
  go_wp2_with fail
  exact hK _ _ (Below.refl _ _) HI.out rfl
 ·intro L a wx Q' hL hi H F hK
  try dsimp only at hi
  obtain⟨_,h6,rfl⟩:=H 1 ⟨.data,by simp,rfl⟩ _ rfl;replace h6:=h6 _ rfl;have HI:=avM hi;clear H F hi hL
  go_wp2_with fail
  exact hK _ _ (Below.refl _ _) HI.out rfl
 ·intro L a wx Q' hL hi H F hK
  try dsimp only at hi
  obtain⟨_,h7,rfl⟩:=H 2 ⟨.guard,by simp,rfl⟩ _ rfl;replace h7:=h7 _ rfl;have h1:a.tmps[1]?=some (.int .i64 m):=F 1 rfl;have HI:=avM hi;clear H F hi hL
  go_wp2_with fail
  exact hK _ _ (Below.refl _ _) HI.out rfl
 ·intro L a wx Q' hL hi H F hK
  try dsimp only at hi
  obtain⟨_,h8,rfl⟩:=H 3 ⟨.data,by simp,rfl⟩ _ rfl;replace h8:=h8 _ rfl;obtain⟨_,h7,rfl⟩:=H 2 ⟨.guard,by simp,rfl⟩ _ rfl;replace h7:=h7 _ rfl;have HI:=avM hi;clear H F hi hL
  go_wp2_with fail
  exact hK _ _ (Below.refl _ _) HI.out rfl
 ·intro L a wx Q' hL hi H F hK
  try dsimp only at hi
  obtain⟨_,h7,rfl⟩:=H 2 ⟨.data,by simp,rfl⟩ _ rfl;replace h7:=h7 _ rfl;obtain⟨_,h9,rfl⟩:=H 4 ⟨.data,by simp,rfl⟩ _ rfl;replace h9:=h9 _ rfl;have HI:=avM hi;clear H F hi hL
  go_wp2_with fail
  exact hK _ _ (Below.refl _ _) HI.out rfl
 ·intro L a wx Q' hL hi H F hK
  try dsimp only at hi
  obtain⟨_,Le,rfl⟩:=H 5 ⟨.data,by simp,rfl⟩ _ rfl;replace Le:=Le _ rfl;have HI:=avM hi;clear H F hi hL
  go_wp2_with fail
  exact hK _ _ (Below.refl _ _) HI.out rfl
 ·intro L a wx Q' hL hi H F hK
  try dsimp only at hi
  obtain⟨_,nF,rfl⟩:=H 6 ⟨.guard,by simp,rfl⟩ _ rfl;replace nF:=nF _ rfl;have h1:a.tmps[1]?=some (.int .i64 m):=F 1 rfl;have HI:=avM hi;clear H F hi hL
  go_wp2_with fail
  exact hK _ _ (Below.refl _ _) HI.out rfl
 ·intro L a wx Q' hL hi H F hK
  try dsimp only at hi
  obtain⟨_,h12,rfl⟩:=H 7 ⟨.data,by simp,rfl⟩ _ rfl;replace h12:=h12 _ rfl;obtain⟨_,nF,rfl⟩:=H 6 ⟨.guard,by simp,rfl⟩ _ rfl;replace nF:=nF _ rfl;have HI:=avM hi;clear H F hi hL
  go_wp2_with fail
  exact hK _ _ (Below.refl _ _) HI.out rfl
 ·intro L a wx Q' hL hi H F hK
  try dsimp only at hi
  obtain⟨_,EH,rfl⟩:=H 8 ⟨.data,by simp,rfl⟩ _ rfl;replace EH:=EH _ rfl;obtain⟨_,nF,rfl⟩:=H 6 ⟨.guard,by simp,rfl⟩ _ rfl;replace nF:=nF _ rfl;have h2:a.tmps[2]?=some (.pointer (some ⟨w.heap.size,0,none⟩)):=F 2 rfl;have HI:=avM hi;clear H F hi hL
  go_wp2_with fail
  exact hK _ _ (Below.refl _ _) HI.out rfl
 ·intro L a wx Q' hL hi H F hK
  try dsimp only at hi
  obtain⟨_,F4,rfl⟩:=H 9 ⟨.data,by simp,rfl⟩ _ rfl;replace F4:=F4 _ rfl;obtain⟨_,nF,rfl⟩:=H 6 ⟨.guard,by simp,rfl⟩ _ rfl;replace nF:=nF _ rfl;have HI:=avM hi;clear H F hi hL;have kk:wx.cell? ⟨w.heap.size,m/64,none⟩=some (.int .u64 x):=avN HI.out k
  go_wp2_with fail
  exact hK _ _ (Below.refl _ _) HI.out rfl
 ·intro L a wx Q' hL hi H F hK
  try dsimp only at hi
  obtain⟨_,nF,rfl⟩:=H 6 ⟨.guard,by simp,rfl⟩ _ rfl;replace nF:=nF _ rfl;have h1:a.tmps[1]?=some (.int .i64 m):=F 1 rfl;have HI:=avM hi;clear H F hi hL
  go_wp2_with fail
  exact hK _ _ (Below.refl _ _) HI.out rfl
 ·intro L a wx Q' hL hi H F hK
  try dsimp only at hi
  obtain⟨_,Cv,rfl⟩:=H 11 ⟨.data,by simp,rfl⟩ _ rfl;replace Cv:=Cv _ rfl;obtain⟨_,nF,rfl⟩:=H 6 ⟨.guard,by simp,rfl⟩ _ rfl;replace nF:=nF _ rfl;have HI:=avM hi;clear H F hi hL
  go_wp2_with (go_at_call 64;go_must (refine(Hs _ m hm).mono ?_;rintro e w1 ⟨rfl,rfl⟩))
  exact hK _ _ (Below.refl _ _) HI.out rfl
 ·intro L a wx Q' hL hi H F hK
  try dsimp only at hi
  obtain⟨_,Cw,rfl⟩:=H 10 ⟨.data,by simp,rfl⟩ _ rfl;replace Cw:=Cw _ rfl;obtain⟨_,NI,rfl⟩:=H 12 ⟨.data,by simp,rfl⟩ _ rfl;replace NI:=NI _ rfl;obtain⟨_,nF,rfl⟩:=H 6 ⟨.guard,by simp,rfl⟩ _ rfl;replace nF:=nF _ rfl;have HI:=avM hi;clear H F hi hL
  go_wp2_with fail
  exact hK _ _ (Below.refl _ _) HI.out rfl
 ·intro L a wx Q' hL hi H F hK
  try dsimp only at hi
  obtain⟨_,NH,rfl⟩:=H 13 ⟨.data,by simp,rfl⟩ _ rfl;replace NH:=NH _ rfl;obtain⟨_,nF,rfl⟩:=H 6 ⟨.guard,by simp,rfl⟩ _ rfl;replace nF:=nF _ rfl;have HI:=avM hi;clear H F hi hL
  go_wp2_with fail
  exact hK _ _ (Below.refl _ _) HI.out rfl
 ·intro L a wx Q' hL hi H F hK
  try dsimp only at hi
  obtain⟨_,nF,rfl⟩:=H 6 ⟨.data,by simp,rfl⟩ _ rfl;replace nF:=nF _ rfl;obtain⟨_,h19,rfl⟩:=H 14 ⟨.data,by simp,rfl⟩ _ rfl;replace h19:=h19 _ rfl;have HI:=avM hi;clear H F hi hL
  go_wp2_with fail
  exact hK _ _ (Below.refl _ _) HI.out rfl
 ·intro a wx hl L hi hL Q' hK
  try dsimp only at hi
  have HB:=avM hi;clear hi hL;obtain⟨_,rfl,_,rfl,_,rfl,_,rfl,_,rfl,_,rfl,_,rfl,_,rfl,_,rfl,_,rfl,_,rfl,_,rfl,_,rfl,_,rfl,_,rfl,_,rfl,rfl⟩:=hl;simp only[List.setIfInBounds_toArray,List.set_cons_zero,List.set_cons_succ]
  go_wp2_with fail
  go_ret
  exact⟨aH ((ZU HUX.out (Nat.mod_lt _ (by decide))).trans hmem.out.symm),fG.out.trans (HB.out.mono fG.out.size)⟩
theorem Rc(w:World)(s:ay)(n:Int)(hn:n<0):
 Calls Tryz.prog 18 #[.agg #[.int .u64 s.a,.int .u64 s.b,.int .u64 s.c,.int .u64 s.d],.int .i64 n] w fun e w'=>e=.returned (.bool false)∧Below w.heap.size w w':=by
 obtain⟨k,rfl⟩:∃ k:Nat,n=Int.negSucc k:=⟨(-n-1).toNat,by omega⟩
 go_enter Tryz.func18,Tryz.ntmps18
 go_wp2
 go_quiet (fail)
 go_wp2
 go_ret
 exact⟨rfl,below_drewN ((Below.refl _ w).alloc (Nat.le_refl _) _) _⟩
theorem Rb(w:World)(s:ay)(n:Int)(hn:256≤n):
 Calls Tryz.prog 18 #[.agg #[.int .u64 s.a,.int .u64 s.b,.int .u64 s.c,.int .u64 s.d],.int .i64 n] w fun e w'=>e=.returned (.bool false)∧Below w.heap.size w w':=by
 obtain⟨k,rfl⟩:∃ k:Nat,n=(k:Int):=⟨n.toNat,by omega⟩;have hd:¬ (k:Int)<256:=by omega
 have hd2:decide ((k:Int)<256)=false:=by simp[hd]
 go_enter Tryz.func18,Tryz.ntmps18
 go_wp2
 go_quiet (fail)
 go_wp2
 go_ret
 exact⟨rfl,below_drewN ((Below.refl _ w).alloc (Nat.le_refl _) _) _⟩
theorem uI(w:World)(s:ay)(hs:s.Ok)(n:Int):
 Calls Tryz.prog 18 #[.agg #[.int .u64 s.a,.int .u64 s.b,.int .u64 s.c,.int .u64 s.d],.int .i64 n] w fun e w'=>e=.returned (.bool (s.mem n))∧Below w.heap.size w w':=by
 by_cases h:0≤n∧n<256
 ·obtain⟨m,rfl⟩:∃ m:Nat,n=m:=⟨n.toNat,by omega⟩;exact Yv w s hs m (by omega)
 ·rw[show s.mem n=false by unfold ay.mem;simp[h]];by_cases h0:n<0
  ·exact Rc w s n h0
  ·exact Rb w s n (by omega)
theorem XY(w:World)(s:ay)(hs:s.Ok)(m:Nat)(hm:m<256):
 Calls Tryz.prog 124 #[.agg #[.int .u64 s.a,.int .u64 s.b,.int .u64 s.c,.int .u64 s.d],.int .i64 m] w fun e w'=>e=.returned (.agg #[.int .u64 (s.add m).a,.int .u64 (s.add m).b,.int .u64 (s.add m).c,.int .u64 (s.add m).d])∧Below w.heap.size w w':=by
 obtain⟨wo,bP⟩:∃ wo,wo=(w.alloc (.cells #[.int .u64 s.a,.int .u64 s.b,.int .u64 s.c,.int .u64 s.d] 54)).alloc (.cells #[.int .u64 0,.int .u64 0,.int .u64 0,.int .u64 0] 54):=⟨_,rfl⟩;have EY:=avM (show Whole wo w.heap.size 54 #[.int .u64 s.a,.int .u64 s.b,.int .u64 s.c,.int .u64 s.d] by rw[bP];exact(Whole.new w 54 #[.int .u64 s.a,.int .u64 s.b,.int .u64 s.c,.int .u64 s.d]).alloc _);have Ds:=avM (show Whole wo (w.heap.size+1) 54 #[.int .u64 0,.int .u64 0,.int .u64 0,.int .u64 0] by rw[bP];exact dh w _ #[.int .u64 0,.int .u64 0,.int .u64 0,.int .u64 0] _);have fG:=avM (show Below w.heap.size w wo by rw[bP];exact((Below.refl _ w).alloc (Nat.le_refl _) _).alloc (by simp) _)
 have k:wo.cell? ⟨w.heap.size,m/64,none⟩=some (.int .u64 (s.word (m/64))):=by
  have h:=EY.out.cell (m/64)
  rwa [show(#[.int .u64 s.a,.int .u64 s.b,.int .u64 s.c,.int .u64 s.d]:Array Value)[m/64]?=some (.int .u64 (s.word (m/64))) by rw[← Array.getElem?_toList];exact s.vG (by omega)] at h
 obtain⟨x,hx⟩:∃ x,x=s.word (m/64):=⟨_,rfl⟩;rw[← hx] at k;have HX:=avM hx;have HOX:=avM (U7 (x:=x) (j:=m%64) (by rw[hx];exact ay.iJ hs _) (Nat.mod_lt _ (by decide)));have HOY:=avM (bits_or_u64_nat x (2^(m%64)) (by rw[hx];exact ay.iJ hs _) (wK (Nat.mod_lt _ (by decide))));have htw:IntKind.u64.wrap (2^(m%64))=((2^(m%64):Nat):Int):=AR (Nat.mod_lt _ (by decide));clear hx;have h4:m/64<4:=by omega
 have hm':(m:Int)<256:=by omega
 go_enter Tryz.func124,Tryz.ntmps124
 go_upto_region 1 with(fail)
 rw[← bP];clear bP
 go_wp2_with (go_at_call 206;go_must (refine(Ck _ (m:Int) (by omega) (by omega)).mono ?_;rintro e w' ⟨rfl,rfl⟩))
 refine dP (fun w w'=>Below w.heap.size w w') [some 7,some 8,some 9,some 10,some 11,some 12,some 13,some 14,some 15] [bI (.int .i64 m),bI (.int .i64 ((m/64:Nat):Int)),bI (.pointer (some ⟨w.heap.size,m/64,none⟩)),bI (.int .u64 x),bI (.int .i64 m),bI (.int .i64 ((m%64:Nat):Int)),bI (.int .u64 ((2^(m%64):Nat):Int)),bI (.int .u64 ((x|||2^(m%64):Nat):Int)),bI (.pointer (some ⟨w.heap.size,m/64,none⟩))] (fun _ w'=>Below wo.heap.size wo w') 9 (by kernel_rfl) (by kernel_rfl) (by kernel_rfl) rfl (by decide) rfl rfl ((Below.refl _ _).drew) ⟨ak _,ak _,ak _,ak _,ak _,ak _,ak _,ak _,ak _,trivial⟩ ⟨(fun _=>aq _),(fun _=>aq _),(fun _=>aq _),(fun _=>aq _),(fun _=>aq _),(fun _=>aq _),(fun _=>aq _),(fun _=>aq _),(fun _=>aq _),trivial⟩ ⟨?_,?_,?_,?_,?_,?_,?_,?_,?_,?_⟩
 ·intro L a wx Q' hL hi H F hK
  try dsimp only at hi
  have h1:a.tmps[1]?=some (.int .i64 m):=F 1 rfl;have HI:=avM hi;clear H F hi hL
  go_wp2_with fail
  exact hK _ _ (Below.refl _ _) HI.out rfl
 ·intro L a wx Q' hL hi H F hK
  try dsimp only at hi
  obtain⟨_,h7,rfl⟩:=H 0 ⟨.data,by simp,rfl⟩ _ rfl;replace h7:=h7 _ rfl;have HI:=avM hi;clear H F hi hL
  go_wp2_with fail
  exact hK _ _ (Below.refl _ _) HI.out rfl
 ·intro L a wx Q' hL hi H F hK
  try dsimp only at hi
  obtain⟨_,h8,rfl⟩:=H 1 ⟨.data,by simp,rfl⟩ _ rfl;replace h8:=h8 _ rfl;have h2:a.tmps[2]?=some (.pointer (some ⟨w.heap.size,0,none⟩)):=F 2 rfl;have HI:=avM hi;clear H F hi hL
  go_wp2_with fail
  exact hK _ _ (Below.refl _ _) HI.out rfl
 ·intro L a wx Q' hL hi H F hK
  try dsimp only at hi
  obtain⟨_,h9,rfl⟩:=H 2 ⟨.data,by simp,rfl⟩ _ rfl;replace h9:=h9 _ rfl;have HI:=avM hi;clear H F hi hL;have kk:wx.cell? ⟨w.heap.size,m/64,none⟩=some (.int .u64 x):=avN HI.out k
  go_wp2_with fail
  exact hK _ _ (Below.refl _ _) HI.out rfl
 ·intro L a wx Q' hL hi H F hK
  try dsimp only at hi
  have h1:a.tmps[1]?=some (.int .i64 m):=F 1 rfl;have HI:=avM hi;clear H F hi hL
  go_wp2_with fail
  exact hK _ _ (Below.refl _ _) HI.out rfl
 ·intro L a wx Q' hL hi H F hK
  try dsimp only at hi
  obtain⟨_,nF,rfl⟩:=H 4 ⟨.data,by simp,rfl⟩ _ rfl;replace nF:=nF _ rfl;have HI:=avM hi;clear H F hi hL
  go_wp2_with fail
  exact hK _ _ (Below.refl _ _) HI.out rfl
 ·intro L a wx Q' hL hi H F hK
  try dsimp only at hi
  obtain⟨_,h12,rfl⟩:=H 5 ⟨.data,by simp,rfl⟩ _ rfl;replace h12:=h12 _ rfl;have HI:=avM hi;clear H F hi hL
  go_wp2_with fail
  exact hK _ _ (Below.refl _ _) HI.out rfl
 ·intro L a wx Q' hL hi H F hK
  try dsimp only at hi
  obtain⟨_,Le,rfl⟩:=H 3 ⟨.data,by simp,rfl⟩ _ rfl;replace Le:=Le _ rfl;obtain⟨_,EH,rfl⟩:=H 6 ⟨.data,by simp,rfl⟩ _ rfl;replace EH:=EH _ rfl;have HI:=avM hi;clear H F hi hL
  go_wp2_with fail
  exact hK _ _ (Below.refl _ _) HI.out (by first|exact congrArg (Value.int IntKind.u64) HOX.out.symm|exact congrArg (Value.int IntKind.u64) HOY.out.symm)
 ·intro L a wx Q' hL hi H F hK
  try dsimp only at hi
  obtain⟨_,h8,rfl⟩:=H 1 ⟨.data,by simp,rfl⟩ _ rfl;replace h8:=h8 _ rfl;have h2:a.tmps[2]?=some (.pointer (some ⟨w.heap.size,0,none⟩)):=F 2 rfl;have HI:=avM hi;clear H F hi hL
  go_wp2_with fail
  exact hK _ _ (Below.refl _ _) HI.out rfl
 ·intro a wx hl L hi hL Q' hK
  try dsimp only at hi
  have HB:=avM hi;clear hi hL;obtain⟨_,rfl,_,rfl,_,rfl,_,rfl,_,rfl,_,rfl,_,rfl,_,rfl,_,rfl,rfl⟩:=hl;simp only[List.setIfInBounds_toArray,List.set_cons_zero,List.set_cons_succ];have HSX:=avM (Whole.under HB.out EY.out EY.out.lt);have HRX:=avM (Whole.under HB.out Ds.out Ds.out.lt);clear EY Ds k;obtain⟨t,ht⟩:∃ t,t=s.add m:=⟨_,rfl⟩;have HT:=avM ht;clear ht
  go_wp2_with (first|(refine aG rfl 52 _ _ rfl (w.heap.size) (m/64) (.int .u64 ((x|||2^(m%64):Nat):Int)) rfl rfl 54 _ HSX.out (by simp[Value.cells];omega) Fq rfl ?_;intro w1 S1 W1;have HS1:=avM S1;have HW1:=avM (show Whole w1 w.heap.size 54 #[.int .u64 t.a,.int .u64 t.b,.int .u64 t.c,.int .u64 t.d] by rw[HT.out];unfold ay.add;rw[← HX.out];rw[show #[.int .u64 (s.put (m/64) (x|||2^(m%64))).a,.int .u64 (s.put (m/64) (x|||2^(m%64))).b,.int .u64 (s.put (m/64) (x|||2^(m%64))).c,.int .u64 (s.put (m/64) (x|||2^(m%64))).d]=splice #[.int .u64 s.a,.int .u64 s.b,.int .u64 s.c,.int .u64 s.d] (m/64) [.int .u64 ((x|||2^(m%64):Nat):Int)] from sV s (by omega) _];exact W1);clear S1 W1)|(refine wpList_load_row rfl 54 _ rfl (w.heap.size) rfl 54 _ (0,0) _ HW1.out Tryz.underlying54 rfl cO ?_)|(refine aG rfl 54 _ _ rfl (w.heap.size+1) 0 (.agg #[.int .u64 t.a,.int .u64 t.b,.int .u64 t.c,.int .u64 t.d]) rfl rfl 54 _ (HS1.out.whole HRX.out (by omega)) (by simp[Value.cells]) cO rfl ?_;intro w2 S2 W2;rw[bp _ _ (by rfl)] at W2;have q7:=avM S2;have HW2:=avM (show Whole w2 (w.heap.size+1) 54 #[.int .u64 t.a,.int .u64 t.b,.int .u64 t.c,.int .u64 t.d] from W2);clear S2 W2))
  have e0:w2.cell? ⟨w.heap.size+1,0,none⟩=some (.int .u64 t.a):=HW2.out.cell 0;have e1:w2.cell? ⟨w.heap.size+1,1,none⟩=some (.int .u64 t.b):=HW2.out.cell 1;have e2:w2.cell? ⟨w.heap.size+1,2,none⟩=some (.int .u64 t.c):=HW2.out.cell 2;have e3:w2.cell? ⟨w.heap.size+1,3,none⟩=some (.int .u64 t.d):=HW2.out.cell 3;refine bodyPost_ret (v:=.agg #[.int .u64 t.a,.int .u64 t.b,.int .u64 t.c,.int .u64 t.d]) ?_ rfl ⟨by rw[HT.out],((fG.out.trans (HB.out.mono fG.out.size)).trans (HS1.out.below (Nat.le_refl _))).trans (q7.out.below (by omega))⟩;simp[results,Tryz.results124,go_sem,e0,e1,e2,e3]
theorem Qy(w:World)(s:ay)(n:Int)(hn:n<0):
 Calls Tryz.prog 124 #[.agg #[.int .u64 s.a,.int .u64 s.b,.int .u64 s.c,.int .u64 s.d],.int .i64 n] w fun e w'=>e=.returned (.agg #[.int .u64 s.a,.int .u64 s.b,.int .u64 s.c,.int .u64 s.d])∧Below w.heap.size w w':=by
 have hn1:¬ 0≤n:=by omega
 obtain⟨wo,bP⟩:∃ wo,wo=(w.alloc (.cells #[.int .u64 s.a,.int .u64 s.b,.int .u64 s.c,.int .u64 s.d] 54)).alloc (.cells #[.int .u64 0,.int .u64 0,.int .u64 0,.int .u64 0] 54):=⟨_,rfl⟩;have EY:=avM (show Whole wo w.heap.size 54 #[.int .u64 s.a,.int .u64 s.b,.int .u64 s.c,.int .u64 s.d] by rw[bP];exact(Whole.new w 54 #[.int .u64 s.a,.int .u64 s.b,.int .u64 s.c,.int .u64 s.d]).alloc _);have Ds:=avM (show Whole wo (w.heap.size+1) 54 #[.int .u64 0,.int .u64 0,.int .u64 0,.int .u64 0] by rw[bP];exact dh w _ #[.int .u64 0,.int .u64 0,.int .u64 0,.int .u64 0] _);have fG:=avM (show Below w.heap.size w wo by rw[bP];exact((Below.refl _ w).alloc (Nat.le_refl _) _).alloc (by simp) _)
 go_enter Tryz.func124,Tryz.ntmps124
 go_upto_region 1 with(fail)
 rw[← bP];clear bP
 go_wp2_with (first|(go_at_call 206;go_must (refine(EB _ n hn1).mono ?_;rintro e w' ⟨rfl,rfl⟩))|(refine wpList_load_row rfl 54 _ rfl (w.heap.size) rfl 54 _ (0,0) _ (EY.out) Tryz.underlying54 rfl cO ?_)|(refine aG rfl 54 _ _ rfl (w.heap.size+1) 0 (.agg #[.int .u64 s.a,.int .u64 s.b,.int .u64 s.c,.int .u64 s.d]) rfl rfl 54 _ Ds.out (by simp[Value.cells]) cO rfl ?_;intro w2 S2 W2;rw[bp _ _ (by rfl)] at W2;have q7:=avM S2;have HW2:=avM (show Whole w2 (w.heap.size+1) 54 #[.int .u64 s.a,.int .u64 s.b,.int .u64 s.c,.int .u64 s.d] from W2);clear S2 W2))
 have e0:w2.cell? ⟨w.heap.size+1,0,none⟩=some (.int .u64 s.a):=HW2.out.cell 0;have e1:w2.cell? ⟨w.heap.size+1,1,none⟩=some (.int .u64 s.b):=HW2.out.cell 1;have e2:w2.cell? ⟨w.heap.size+1,2,none⟩=some (.int .u64 s.c):=HW2.out.cell 2;have e3:w2.cell? ⟨w.heap.size+1,3,none⟩=some (.int .u64 s.d):=HW2.out.cell 3;refine bodyPost_ret (v:=.agg #[.int .u64 s.a,.int .u64 s.b,.int .u64 s.c,.int .u64 s.d]) ?_ rfl ⟨rfl,fG.out.trans (q7.out.below (by omega))⟩;simp[results,Tryz.results124,go_sem,e0,e1,e2,e3]
theorem Qx(w:World)(s:ay)(n:Int)(hn:256≤n):
 Calls Tryz.prog 124 #[.agg #[.int .u64 s.a,.int .u64 s.b,.int .u64 s.c,.int .u64 s.d],.int .i64 n] w fun e w'=>e=.returned (.agg #[.int .u64 s.a,.int .u64 s.b,.int .u64 s.c,.int .u64 s.d])∧Below w.heap.size w w':=by
 have hn0:0≤n:=by omega
 have hn1:¬ n<256:=by omega
 obtain⟨wo,bP⟩:∃ wo,wo=(w.alloc (.cells #[.int .u64 s.a,.int .u64 s.b,.int .u64 s.c,.int .u64 s.d] 54)).alloc (.cells #[.int .u64 0,.int .u64 0,.int .u64 0,.int .u64 0] 54):=⟨_,rfl⟩;have EY:=avM (show Whole wo w.heap.size 54 #[.int .u64 s.a,.int .u64 s.b,.int .u64 s.c,.int .u64 s.d] by rw[bP];exact(Whole.new w 54 #[.int .u64 s.a,.int .u64 s.b,.int .u64 s.c,.int .u64 s.d]).alloc _);have Ds:=avM (show Whole wo (w.heap.size+1) 54 #[.int .u64 0,.int .u64 0,.int .u64 0,.int .u64 0] by rw[bP];exact dh w _ #[.int .u64 0,.int .u64 0,.int .u64 0,.int .u64 0] _);have fG:=avM (show Below w.heap.size w wo by rw[bP];exact((Below.refl _ w).alloc (Nat.le_refl _) _).alloc (by simp) _)
 go_enter Tryz.func124,Tryz.ntmps124
 go_upto_region 1 with(fail)
 rw[← bP];clear bP
 go_wp2_with (first|(go_at_call 206;go_must (refine(EC _ n hn0 hn1).mono ?_;rintro e w' ⟨rfl,rfl⟩))|(refine wpList_load_row rfl 54 _ rfl (w.heap.size) rfl 54 _ (0,0) _ (EY.out) Tryz.underlying54 rfl cO ?_)|(refine aG rfl 54 _ _ rfl (w.heap.size+1) 0 (.agg #[.int .u64 s.a,.int .u64 s.b,.int .u64 s.c,.int .u64 s.d]) rfl rfl 54 _ Ds.out (by simp[Value.cells]) cO rfl ?_;intro w2 S2 W2;rw[bp _ _ (by rfl)] at W2;have q7:=avM S2;have HW2:=avM (show Whole w2 (w.heap.size+1) 54 #[.int .u64 s.a,.int .u64 s.b,.int .u64 s.c,.int .u64 s.d] from W2);clear S2 W2))
 have e0:w2.cell? ⟨w.heap.size+1,0,none⟩=some (.int .u64 s.a):=HW2.out.cell 0;have e1:w2.cell? ⟨w.heap.size+1,1,none⟩=some (.int .u64 s.b):=HW2.out.cell 1;have e2:w2.cell? ⟨w.heap.size+1,2,none⟩=some (.int .u64 s.c):=HW2.out.cell 2;have e3:w2.cell? ⟨w.heap.size+1,3,none⟩=some (.int .u64 s.d):=HW2.out.cell 3;refine bodyPost_ret (v:=.agg #[.int .u64 s.a,.int .u64 s.b,.int .u64 s.c,.int .u64 s.d]) ?_ rfl ⟨rfl,fG.out.trans (q7.out.below (by omega))⟩;simp[results,Tryz.results124,go_sem,e0,e1,e2,e3]
theorem IL(w:World)(s:ay)(hs:s.Ok)(n:Int):
 Calls Tryz.prog 124 #[.agg #[.int .u64 s.a,.int .u64 s.b,.int .u64 s.c,.int .u64 s.d],.int .i64 n] w fun e w'=>e=.returned (.agg #[.int .u64 (s.with n).a,.int .u64 (s.with n).b,.int .u64 (s.with n).c,.int .u64 (s.with n).d])∧Below w.heap.size w w':=by
 unfold ay.with
 by_cases h:0≤n∧n<256
 ·obtain⟨m,rfl⟩:∃ m:Nat,n=m:=⟨n.toNat,by omega⟩;rw[if_pos h];exact XY w s hs m (by omega)
 ·rw[if_neg h];by_cases h0:n<0
  ·exact Qy w s n h0
  ·exact Qx w s n (by omega)
theorem UJ(w:World)(s:ay)(hs:s.Ok)(m:Nat)(hm:m<256):
 Calls Tryz.prog 130 #[.agg #[.int .u64 s.a,.int .u64 s.b,.int .u64 s.c,.int .u64 s.d],.int .i64 m] w fun e w'=>e=.returned (.agg #[.int .u64 (s.add m).a,.int .u64 (s.add m).b,.int .u64 (s.add m).c,.int .u64 (s.add m).d])∧Below w.heap.size w w':=by
 obtain⟨wo,bP⟩:∃ wo,wo=(w.alloc (.cells #[.int .u64 s.a,.int .u64 s.b,.int .u64 s.c,.int .u64 s.d] 54)).alloc (.cells #[.int .u64 0,.int .u64 0,.int .u64 0,.int .u64 0] 54):=⟨_,rfl⟩;have EY:=avM (show Whole wo w.heap.size 54 #[.int .u64 s.a,.int .u64 s.b,.int .u64 s.c,.int .u64 s.d] by rw[bP];exact(Whole.new w 54 #[.int .u64 s.a,.int .u64 s.b,.int .u64 s.c,.int .u64 s.d]).alloc _);have Ds:=avM (show Whole wo (w.heap.size+1) 54 #[.int .u64 0,.int .u64 0,.int .u64 0,.int .u64 0] by rw[bP];exact dh w _ #[.int .u64 0,.int .u64 0,.int .u64 0,.int .u64 0] _);have fG:=avM (show Below w.heap.size w wo by rw[bP];exact((Below.refl _ w).alloc (Nat.le_refl _) _).alloc (by simp) _)
 have k:wo.cell? ⟨w.heap.size,m/64,none⟩=some (.int .u64 (s.word (m/64))):=by
  have h:=EY.out.cell (m/64)
  rwa [show(#[.int .u64 s.a,.int .u64 s.b,.int .u64 s.c,.int .u64 s.d]:Array Value)[m/64]?=some (.int .u64 (s.word (m/64))) by rw[← Array.getElem?_toList];exact s.vG (by omega)] at h
 obtain⟨x,hx⟩:∃ x,x=s.word (m/64):=⟨_,rfl⟩;rw[← hx] at k;have HX:=avM hx;have HOX:=avM (U7 (x:=x) (j:=m%64) (by rw[hx];exact ay.iJ hs _) (Nat.mod_lt _ (by decide)));have HOY:=avM (bits_or_u64_nat x (2^(m%64)) (by rw[hx];exact ay.iJ hs _) (wK (Nat.mod_lt _ (by decide))));have htw:IntKind.u64.wrap (2^(m%64))=((2^(m%64):Nat):Int):=AR (Nat.mod_lt _ (by decide));clear hx;have h4:m/64<4:=by omega
 have hm':(m:Int)<256:=by omega
 go_enter Tryz.func130,Tryz.ntmps130
 go_upto_region 1 with(fail)
 rw[← bP];clear bP
 go_wp2_with (go_at_call 206;go_must (refine(Ck _ (m:Int) (by omega) (by omega)).mono ?_;rintro e w' ⟨rfl,rfl⟩))
 refine dP (fun w w'=>Below w.heap.size w w') [some 11,some 12,some 13,some 14,some 15,some 16,some 17,some 18,some 19,some 20] [bI (.int .i64 m),bI (.int .i64 ((m/64:Nat):Int)),bI (.int .i64 m),bI (.int .i64 ((m/64:Nat):Int)),bI (.pointer (some ⟨w.heap.size,m/64,none⟩)),bI (.int .u64 x),bI (.int .i64 m),bI (.int .u64 ((2^(m%64):Nat):Int)),bI (.int .u64 ((x|||2^(m%64):Nat):Int)),bI (.pointer (some ⟨w.heap.size,m/64,none⟩))] (fun _ w'=>Below wo.heap.size wo w') 10 (by kernel_rfl) (by kernel_rfl) (by kernel_rfl) rfl (by decide) rfl rfl ((Below.refl _ _).drew) ⟨ak _,ak _,ak _,ak _,ak _,ak _,ak _,ak _,ak _,ak _,trivial⟩ ⟨(fun _=>aq _),(fun _=>aq _),(fun _=>aq _),(fun _=>aq _),(fun _=>aq _),(fun _=>aq _),(fun _=>aq _),(fun _=>aq _),(fun _=>aq _),(fun _=>aq _),trivial⟩ ⟨?_,?_,?_,?_,?_,?_,?_,?_,?_,?_,?_⟩
 ·intro L a wx Q' hL hi H F hK
  try dsimp only at hi
  have h1:a.tmps[1]?=some (.int .i64 m):=F 1 rfl;have HI:=avM hi;clear H F hi hL
  go_wp2_with fail
  exact hK _ _ (Below.refl _ _) HI.out rfl
 ·intro L a wx Q' hL hi H F hK
  try dsimp only at hi
  obtain⟨_,nF,rfl⟩:=H 0 ⟨.data,by simp,rfl⟩ _ rfl;replace nF:=nF _ rfl;have HI:=avM hi;clear H F hi hL
  go_wp2_with fail
  exact hK _ _ (Below.refl _ _) HI.out rfl
 ·intro L a wx Q' hL hi H F hK
  try dsimp only at hi
  have h1:a.tmps[1]?=some (.int .i64 m):=F 1 rfl;have HI:=avM hi;clear H F hi hL
  go_wp2_with fail
  exact hK _ _ (Below.refl _ _) HI.out rfl
 ·intro L a wx Q' hL hi H F hK
  try dsimp only at hi
  obtain⟨_,EH,rfl⟩:=H 2 ⟨.data,by simp,rfl⟩ _ rfl;replace EH:=EH _ rfl;have HI:=avM hi;clear H F hi hL
  go_wp2_with fail
  exact hK _ _ (Below.refl _ _) HI.out rfl
 ·intro L a wx Q' hL hi H F hK
  try dsimp only at hi
  obtain⟨_,F4,rfl⟩:=H 3 ⟨.data,by simp,rfl⟩ _ rfl;replace F4:=F4 _ rfl;have h2:a.tmps[2]?=some (.pointer (some ⟨w.heap.size,0,none⟩)):=F 2 rfl;have HI:=avM hi;clear H F hi hL
  go_wp2_with fail
  exact hK _ _ (Below.refl _ _) HI.out rfl
 ·intro L a wx Q' hL hi H F hK
  try dsimp only at hi
  obtain⟨_,Cw,rfl⟩:=H 4 ⟨.data,by simp,rfl⟩ _ rfl;replace Cw:=Cw _ rfl;have HI:=avM hi;clear H F hi hL;have kk:wx.cell? ⟨w.heap.size,m/64,none⟩=some (.int .u64 x):=avN HI.out k
  go_wp2_with fail
  exact hK _ _ (Below.refl _ _) HI.out rfl
 ·intro L a wx Q' hL hi H F hK
  try dsimp only at hi
  have h1:a.tmps[1]?=some (.int .i64 m):=F 1 rfl;have HI:=avM hi;clear H F hi hL
  go_wp2_with fail
  exact hK _ _ (Below.refl _ _) HI.out rfl
 ·intro L a wx Q' hL hi H F hK
  try dsimp only at hi
  obtain⟨_,NI,rfl⟩:=H 6 ⟨.data,by simp,rfl⟩ _ rfl;replace NI:=NI _ rfl;have HI:=avM hi;clear H F hi hL
  go_wp2_with (go_at_call 64;go_must (refine(Hs _ m hm).mono ?_;rintro e w1 ⟨rfl,rfl⟩))
  exact hK _ _ (Below.refl _ _) HI.out rfl
 ·intro L a wx Q' hL hi H F hK
  try dsimp only at hi
  obtain⟨_,Cv,rfl⟩:=H 5 ⟨.data,by simp,rfl⟩ _ rfl;replace Cv:=Cv _ rfl;obtain⟨_,NH,rfl⟩:=H 7 ⟨.data,by simp,rfl⟩ _ rfl;replace NH:=NH _ rfl;have HI:=avM hi;clear H F hi hL
  go_wp2_with fail
  exact hK _ _ (Below.refl _ _) HI.out (by first|exact congrArg (Value.int IntKind.u64) HOX.out.symm|exact congrArg (Value.int IntKind.u64) HOY.out.symm)
 ·intro L a wx Q' hL hi H F hK
  try dsimp only at hi
  obtain⟨_,h12,rfl⟩:=H 1 ⟨.data,by simp,rfl⟩ _ rfl;replace h12:=h12 _ rfl;have h2:a.tmps[2]?=some (.pointer (some ⟨w.heap.size,0,none⟩)):=F 2 rfl;have HI:=avM hi;clear H F hi hL
  go_wp2_with fail
  exact hK _ _ (Below.refl _ _) HI.out rfl
 ·intro a wx hl L hi hL Q' hK
  try dsimp only at hi
  have HB:=avM hi;clear hi hL;obtain⟨_,rfl,_,rfl,_,rfl,_,rfl,_,rfl,_,rfl,_,rfl,_,rfl,_,rfl,_,rfl,rfl⟩:=hl;simp only[List.setIfInBounds_toArray,List.set_cons_zero,List.set_cons_succ];have HSX:=avM (Whole.under HB.out EY.out EY.out.lt);have HRX:=avM (Whole.under HB.out Ds.out Ds.out.lt);clear EY Ds k;obtain⟨t,ht⟩:∃ t,t=s.add m:=⟨_,rfl⟩;have HT:=avM ht;clear ht
  go_wp2_with (first|(refine aG rfl 52 _ _ rfl (w.heap.size) (m/64) (.int .u64 ((x|||2^(m%64):Nat):Int)) rfl rfl 54 _ HSX.out (by simp[Value.cells];omega) Fq rfl ?_;intro w1 S1 W1;have HS1:=avM S1;have HW1:=avM (show Whole w1 w.heap.size 54 #[.int .u64 t.a,.int .u64 t.b,.int .u64 t.c,.int .u64 t.d] by rw[HT.out];unfold ay.add;rw[← HX.out];rw[show #[.int .u64 (s.put (m/64) (x|||2^(m%64))).a,.int .u64 (s.put (m/64) (x|||2^(m%64))).b,.int .u64 (s.put (m/64) (x|||2^(m%64))).c,.int .u64 (s.put (m/64) (x|||2^(m%64))).d]=splice #[.int .u64 s.a,.int .u64 s.b,.int .u64 s.c,.int .u64 s.d] (m/64) [.int .u64 ((x|||2^(m%64):Nat):Int)] from sV s (by omega) _];exact W1);clear S1 W1)|(refine wpList_load_row rfl 54 _ rfl (w.heap.size) rfl 54 _ (0,0) _ HW1.out Tryz.underlying54 rfl cO ?_)|(refine aG rfl 54 _ _ rfl (w.heap.size+1) 0 (.agg #[.int .u64 t.a,.int .u64 t.b,.int .u64 t.c,.int .u64 t.d]) rfl rfl 54 _ (HS1.out.whole HRX.out (by omega)) (by simp[Value.cells]) cO rfl ?_;intro w2 S2 W2;rw[bp _ _ (by rfl)] at W2;have q7:=avM S2;have HW2:=avM (show Whole w2 (w.heap.size+1) 54 #[.int .u64 t.a,.int .u64 t.b,.int .u64 t.c,.int .u64 t.d] from W2);clear S2 W2))
  have e0:w2.cell? ⟨w.heap.size+1,0,none⟩=some (.int .u64 t.a):=HW2.out.cell 0;have e1:w2.cell? ⟨w.heap.size+1,1,none⟩=some (.int .u64 t.b):=HW2.out.cell 1;have e2:w2.cell? ⟨w.heap.size+1,2,none⟩=some (.int .u64 t.c):=HW2.out.cell 2;have e3:w2.cell? ⟨w.heap.size+1,3,none⟩=some (.int .u64 t.d):=HW2.out.cell 3;refine bodyPost_ret (v:=.agg #[.int .u64 t.a,.int .u64 t.b,.int .u64 t.c,.int .u64 t.d]) ?_ rfl ⟨by rw[HT.out],((fG.out.trans (HB.out.mono fG.out.size)).trans (HS1.out.below (Nat.le_refl _))).trans (q7.out.below (by omega))⟩;simp[results,Tryz.results130,go_sem,e0,e1,e2,e3]
theorem Mf(w:World)(s:ay)(n:Int)(hn:n<0):
 Calls Tryz.prog 130 #[.agg #[.int .u64 s.a,.int .u64 s.b,.int .u64 s.c,.int .u64 s.d],.int .i64 n] w fun e w'=>e=.returned (.agg #[.int .u64 s.a,.int .u64 s.b,.int .u64 s.c,.int .u64 s.d])∧Below w.heap.size w w':=by
 have hn1:¬ 0≤n:=by omega
 obtain⟨wo,bP⟩:∃ wo,wo=(w.alloc (.cells #[.int .u64 s.a,.int .u64 s.b,.int .u64 s.c,.int .u64 s.d] 54)).alloc (.cells #[.int .u64 0,.int .u64 0,.int .u64 0,.int .u64 0] 54):=⟨_,rfl⟩;have EY:=avM (show Whole wo w.heap.size 54 #[.int .u64 s.a,.int .u64 s.b,.int .u64 s.c,.int .u64 s.d] by rw[bP];exact(Whole.new w 54 #[.int .u64 s.a,.int .u64 s.b,.int .u64 s.c,.int .u64 s.d]).alloc _);have Ds:=avM (show Whole wo (w.heap.size+1) 54 #[.int .u64 0,.int .u64 0,.int .u64 0,.int .u64 0] by rw[bP];exact dh w _ #[.int .u64 0,.int .u64 0,.int .u64 0,.int .u64 0] _);have fG:=avM (show Below w.heap.size w wo by rw[bP];exact((Below.refl _ w).alloc (Nat.le_refl _) _).alloc (by simp) _)
 go_enter Tryz.func130,Tryz.ntmps130
 go_upto_region 1 with(fail)
 rw[← bP];clear bP
 go_wp2_with (first|(go_at_call 206;go_must (refine(EB _ n hn1).mono ?_;rintro e w' ⟨rfl,rfl⟩))|(refine wpList_load_row rfl 54 _ rfl (w.heap.size) rfl 54 _ (0,0) _ (EY.out) Tryz.underlying54 rfl cO ?_)|(refine aG rfl 54 _ _ rfl (w.heap.size+1) 0 (.agg #[.int .u64 s.a,.int .u64 s.b,.int .u64 s.c,.int .u64 s.d]) rfl rfl 54 _ Ds.out (by simp[Value.cells]) cO rfl ?_;intro w2 S2 W2;rw[bp _ _ (by rfl)] at W2;have q7:=avM S2;have HW2:=avM (show Whole w2 (w.heap.size+1) 54 #[.int .u64 s.a,.int .u64 s.b,.int .u64 s.c,.int .u64 s.d] from W2);clear S2 W2))
 have e0:w2.cell? ⟨w.heap.size+1,0,none⟩=some (.int .u64 s.a):=HW2.out.cell 0;have e1:w2.cell? ⟨w.heap.size+1,1,none⟩=some (.int .u64 s.b):=HW2.out.cell 1;have e2:w2.cell? ⟨w.heap.size+1,2,none⟩=some (.int .u64 s.c):=HW2.out.cell 2;have e3:w2.cell? ⟨w.heap.size+1,3,none⟩=some (.int .u64 s.d):=HW2.out.cell 3;refine bodyPost_ret (v:=.agg #[.int .u64 s.a,.int .u64 s.b,.int .u64 s.c,.int .u64 s.d]) ?_ rfl ⟨rfl,fG.out.trans (q7.out.below (by omega))⟩;simp[results,Tryz.results130,go_sem,e0,e1,e2,e3]
theorem Me(w:World)(s:ay)(n:Int)(hn:256≤n):
 Calls Tryz.prog 130 #[.agg #[.int .u64 s.a,.int .u64 s.b,.int .u64 s.c,.int .u64 s.d],.int .i64 n] w fun e w'=>e=.returned (.agg #[.int .u64 s.a,.int .u64 s.b,.int .u64 s.c,.int .u64 s.d])∧Below w.heap.size w w':=by
 have hn0:0≤n:=by omega
 have hn1:¬ n<256:=by omega
 obtain⟨wo,bP⟩:∃ wo,wo=(w.alloc (.cells #[.int .u64 s.a,.int .u64 s.b,.int .u64 s.c,.int .u64 s.d] 54)).alloc (.cells #[.int .u64 0,.int .u64 0,.int .u64 0,.int .u64 0] 54):=⟨_,rfl⟩;have EY:=avM (show Whole wo w.heap.size 54 #[.int .u64 s.a,.int .u64 s.b,.int .u64 s.c,.int .u64 s.d] by rw[bP];exact(Whole.new w 54 #[.int .u64 s.a,.int .u64 s.b,.int .u64 s.c,.int .u64 s.d]).alloc _);have Ds:=avM (show Whole wo (w.heap.size+1) 54 #[.int .u64 0,.int .u64 0,.int .u64 0,.int .u64 0] by rw[bP];exact dh w _ #[.int .u64 0,.int .u64 0,.int .u64 0,.int .u64 0] _);have fG:=avM (show Below w.heap.size w wo by rw[bP];exact((Below.refl _ w).alloc (Nat.le_refl _) _).alloc (by simp) _)
 go_enter Tryz.func130,Tryz.ntmps130
 go_upto_region 1 with(fail)
 rw[← bP];clear bP
 go_wp2_with (first|(go_at_call 206;go_must (refine(EC _ n hn0 hn1).mono ?_;rintro e w' ⟨rfl,rfl⟩))|(refine wpList_load_row rfl 54 _ rfl (w.heap.size) rfl 54 _ (0,0) _ (EY.out) Tryz.underlying54 rfl cO ?_)|(refine aG rfl 54 _ _ rfl (w.heap.size+1) 0 (.agg #[.int .u64 s.a,.int .u64 s.b,.int .u64 s.c,.int .u64 s.d]) rfl rfl 54 _ Ds.out (by simp[Value.cells]) cO rfl ?_;intro w2 S2 W2;rw[bp _ _ (by rfl)] at W2;have q7:=avM S2;have HW2:=avM (show Whole w2 (w.heap.size+1) 54 #[.int .u64 s.a,.int .u64 s.b,.int .u64 s.c,.int .u64 s.d] from W2);clear S2 W2))
 have e0:w2.cell? ⟨w.heap.size+1,0,none⟩=some (.int .u64 s.a):=HW2.out.cell 0;have e1:w2.cell? ⟨w.heap.size+1,1,none⟩=some (.int .u64 s.b):=HW2.out.cell 1;have e2:w2.cell? ⟨w.heap.size+1,2,none⟩=some (.int .u64 s.c):=HW2.out.cell 2;have e3:w2.cell? ⟨w.heap.size+1,3,none⟩=some (.int .u64 s.d):=HW2.out.cell 3;refine bodyPost_ret (v:=.agg #[.int .u64 s.a,.int .u64 s.b,.int .u64 s.c,.int .u64 s.d]) ?_ rfl ⟨rfl,fG.out.trans (q7.out.below (by omega))⟩;simp[results,Tryz.results130,go_sem,e0,e1,e2,e3]
theorem Ee(w:World)(s:ay)(hs:s.Ok)(n:Int):
 Calls Tryz.prog 130 #[.agg #[.int .u64 s.a,.int .u64 s.b,.int .u64 s.c,.int .u64 s.d],.int .i64 n] w fun e w'=>e=.returned (.agg #[.int .u64 (s.with n).a,.int .u64 (s.with n).b,.int .u64 (s.with n).c,.int .u64 (s.with n).d])∧Below w.heap.size w w':=by
 unfold ay.with
 by_cases h:0≤n∧n<256
 ·obtain⟨m,rfl⟩:∃ m:Nat,n=m:=⟨n.toNat,by omega⟩;rw[if_pos h];exact UJ w s hs m (by omega)
 ·rw[if_neg h];by_cases h0:n<0
  ·exact Mf w s n h0
  ·exact Me w s n (by omega)
def ints(l:List Nat):List Value:=l.map fun n:Nat=>.int .i64 (n:Int)
theorem VJ(a b:List Nat):ints (a++b)=ints a++ints b:=List.map_append
def cA(s:ay)(k:Nat):List Nat:=(List.range k).filter s.has
def elems(s:ay):List Nat:=cA s 256
theorem dY(s:ay)(k:Nat):(cA s k).length≤k:=by
 have:=List.length_filter_le s.has (List.range k);simpa[cA] using this
theorem qO{s:ay}{k:Nat}(h:s.has k=true):cA s (k+1)=cA s k++[k]:=by
 simp[cA,List.range_succ,List.filter_append,h]
theorem tR{s:ay}{k:Nat}(h:s.has k=false):cA s (k+1)=cA s k:=by
 simp[cA,List.range_succ,List.filter_append,h]
theorem ay.rG(s:ay){k:Nat}(h:k<256):s.mem (k:Int)=s.has k:=by
 unfold ay.mem;simp;omega
theorem info3:iw (Tryz.prog.info? 3) 1 8=true:=by kernel_rfl
theorem cell_one_new(w:World)(v:Value)(t:TypeId):∀ j u,([v]:List Value)[j]?=some u→(w.alloc (.cells #[v] t)).cell? ((⟨w.heap.size,0,none⟩:Addr).add j)=some u:=fun j u hj=>by
 rw[Addr.add_lit,Nat.zero_add];exact((Whole.new w t #[v]).cell j).trans (by simpa using hj)
theorem ot(w:World)(s:ay)(hs:s.Ok):
 Calls Tryz.prog 123 #[.agg #[.int .u64 s.a,.int .u64 s.b,.int .u64 s.c,.int .u64 s.d]] w fun e w'=>∃ v,e=.returned v∧w'.ownsRow w.heap.size 3 1 v (elems s).length (ints (elems s))∧Below w.heap.size w w':=by
 obtain⟨i0,z,hi,hz0,hz1,hz2,hzs⟩:=kG info3;have HS:=avM hs;clear hs;have HW0:=avM (Whole.new w 54 #[.int .u64 s.a,.int .u64 s.b,.int .u64 s.c,.int .u64 s.d])
 go_enter Tryz.func123,Tryz.ntmps123
 go_wp2_with fail
 go_loopw [3,5] (fun u i wr=>∃ k:Nat,k≤256∧i=.int .i64 k∧wr.ownsRow w.heap.size 3 1 u (cA s k).length (ints (cA s k))∧Below w.heap.size w wr∧Whole wr w.heap.size 54 #[.int .u64 s.a,.int .u64 s.b,.int .u64 s.c,.int .u64 s.d]) (fun _ i _=>256-(intOf i).toNat)
 case atStart=>exact⟨0,Nat.zero_le _,rfl,by simpa[cA,ints] using World.ownsRow_nil _ _ _ _,(Below.refl _ w).alloc (Nat.le_refl _) _,HW0.out⟩
 case round=>
  clear HW0;obtain⟨k,hk,rfl,hown,hb,hW⟩:=hrel;have HO:=avM hown;have HB:=avM hb;have HWr:=avM hW;clear hown hb hW;have hlen:=dY s k;by_cases hlt:k<256
  ·have hkk:(k:Int)<256:=by omega
   have amj:True:=trivial;by_cases hh:s.has k=true
   ·have HH:=avM hh;clear hh
    go_wp2_with (first|(refine wpList_load_row rfl 54 _ rfl (w.heap.size) rfl 54 _ (0,0) _ HWr.out Tryz.underlying54 rfl cO ?_)|(go_at_call 191;go_must (refine(show Calls Tryz.prog 191 _ _ (fun e w'=>e=.returned (.bool true)∧Below wr.heap.size wr w') from by have h:=gT wr s HS.out (k:Int);rw[ay.rG s hlt,HH.out] at h;exact h).mono ?_;rintro e w1 ⟨rfl,hb1⟩;have jy:=avM hb1;clear hb1))|(at_builtin;refine wpList_append_own _ rfl _ _ 64 rfl w.heap.size 3 i0 z 1 8 Tryz.underlying64 hi hz0 hz1 hz2 hzs (by decide) _ _ _ rfl ((gu jy.out HO.out (Nat.le_refl _)).alloc _) ⟨w1.heap.size,0,none⟩ 1 1 [.int .i64 (k:Int)] rfl rfl (cell_one_new _ _ _) ?c2 ?c3 ?c4 ?c5 ?_))
    case c2=>simp[Value.oneCell']
    case c3=>unfold maxLen;omega
    case c4=>omega
    case c5=>have:=HB.out.size;have:=jy.out.size;simp;omega
    intro v' w2 hown' hgrow hnil;have HO1:=avM (gu jy.out HO.out (Nat.le_refl _));have hb2:Below w.heap.size w w2:=((HB.out.trans (jy.out.mono HB.out.size)).alloc (by have:=HB.out.size;have:=jy.out.size;omega) _).grown hgrow (by have:=HB.out.size;have:=jy.out.size;simp;omega) (fun q hq=>by have:=(HO1.out.lt q hq).1;omega);have HWn:=avM (((Whole.under jy.out HWr.out HWr.out.lt).alloc (.cells #[.int .i64 (k:Int)] 3)).grown hgrow (fun e=>j9 HO1.out (Whole.under jy.out HWr.out HWr.out.lt) (by decide) e.symm));have HN:=avM hown';have nL:=avM hb2;clear hgrow hnil hown' hb2
    go_wp2
    go_roundw
    case rel=>exact⟨k+1,by omega,by go_num,by rw[qO HH.out,avO,VJ];exact HN.out,nL.out,HWn.out⟩
    case measure=>simp[intOf];omega
   ·have HH:=avM (Bool.eq_false_iff.2 hh);clear hh
    go_wp2_with (first|(refine wpList_load_row rfl 54 _ rfl (w.heap.size) rfl 54 _ (0,0) _ HWr.out Tryz.underlying54 rfl cO ?_)|(go_at_call 191;go_must (refine(show Calls Tryz.prog 191 _ _ (fun e w'=>e=.returned (.bool false)∧Below wr.heap.size wr w') from by have h:=gT wr s HS.out (k:Int);rw[ay.rG s hlt,HH.out] at h;exact h).mono ?_;rintro e w1 ⟨rfl,hb1⟩;have jy:=avM hb1;clear hb1)))
    go_roundw
    case rel=>exact⟨k+1,by omega,by go_num,by rw[tR HH.out];exact gu jy.out HO.out (Nat.le_refl _),HB.out.trans (jy.out.mono HB.out.size),Whole.under jy.out HWr.out HWr.out.lt⟩
    case measure=>simp[intOf];omega
  ·obtain rfl:k=256:=by omega
   go_wp2_with fail
   go_ret
   exact⟨_,rfl,HO.out,HB.out⟩
structure aj where
 kind:Int
 src:ay
 tgt:ay
 self:Bool
 cls:Int
 perms:Int
 cond:Int
structure aj.Ok (r:aj):Prop where
 src:r.src.Ok
 tgt:r.tgt.Ok
def aj.cells(r:aj):List Value:=[.int .i64 r.kind,.int .u64 r.src.a,.int .u64 r.src.b,.int .u64 r.src.c,.int .u64 r.src.d,.int .u64 r.tgt.a,.int .u64 r.tgt.b,.int .u64 r.tgt.c,.int .u64 r.tgt.d,.bool r.self,.int .i64 r.cls,.int .u32 r.perms,.int .i64 r.cond]
def aj.tgts(r:aj)(s:Nat):ay:=if r.self then r.tgt.with s else r.tgt
def aj.bZ(r:aj)(l:List Nat):List (Nat×Nat):=l.flatMap fun s=>(elems (r.tgts s)).map fun t=>(s,t)
def aj.pairs(r:aj):List (Nat×Nat):=r.bZ (elems r.src)
def yQ(p:Nat×Nat):List Value:=[.int .i64 (p.1:Int),.int .i64 (p.2:Int)]
def eE(l:List (Nat×Nat)):List Value:=l.flatMap yQ
theorem lP(a b:List (Nat×Nat)):eE (a++b)=eE a++eE b:=List.flatMap_append
theorem uW(a:List Nat):∀ u∈ints a,u.oneCell'=true:=by
 intro u hu;obtain⟨p,-,rfl⟩:=avP.1 hu;rfl
theorem Rk{w:World}{b b':Nat}{e e':TypeId}{k k' n n':Nat}{v v':Value}{xs xs':List Value}(h:w.ownsRow b e k v n xs)(h':w.ownsRow b' e' k' v' n' xs')(hne:e≠e'):v.ownBlock=none∨v.ownBlock≠v'.ownBlock:=by
 rcases h.2 with⟨rfl,_⟩|⟨g,cap,cur,rfl,_,hg,_⟩
 ·exact .inl rfl
 ·refine .inr fun e1=>j9 h' (g:=g) (t:=e) (cs:=cur) hg (fun e2=>hne e2.symm) ?_
  rw[← e1];rfl
theorem Em{w w':World}{b b':Nat}{e e':TypeId}{k k' n n':Nat}{v v':Value}{xs xs':List Value}(h:w.ownsRow b e k v n xs)(h':w.ownsRow b' e' k' v' n' xs')(hne:e≠e')(hg:w.grownBy w' v'.ownBlock):w'.ownsRow b e k v n xs:=
 h.kept hg (Rk h h' hne)
theorem jD{w:World}{b:Nat}{e:TypeId}{k n:Nat}{v:Value}{xs:List Value}(h:w.ownsRow b e k v n xs)(o:Obj):(w.alloc o).ownsRow b e k v n xs:=gu ((Below.refl _ w).alloc (Nat.le_refl _) o) h (Nat.le_refl _)
def InR(w:World)(r:aj)(a1:Option Addr)(c1 n1:Nat)(a2:Option Addr)(c2 n2:Nat)(l2:List Nat)(P:List (Nat×Nat))(u:Value)(wr:World):Prop:=
 wr.ownsRow w.heap.size 111 2 u P.length (eE P)∧wr.ownsRow w.heap.size 3 1 (.slice a1 n1 c1) n1 (ints (elems r.src))∧wr.ownsRow w.heap.size 3 1 (.slice a2 n2 c2) n2 (ints l2)∧Below w.heap.size w wr∧Whole wr w.heap.size 56 #[.int .i64 r.kind,.int .u64 r.src.a,.int .u64 r.src.b,.int .u64 r.src.c,.int .u64 r.src.d,.int .u64 r.tgt.a,.int .u64 r.tgt.b,.int .u64 r.tgt.c,.int .u64 r.tgt.d,.bool r.self,.int .i64 r.cls,.int .u32 r.perms,.int .i64 r.cond]
def Oe(w:World)(r:aj)(a1:Option Addr)(c1 n1:Nat)(P:List (Nat×Nat))(u:Value)(wr:World):Prop:=
 wr.ownsRow w.heap.size 111 2 u P.length (eE P)∧wr.ownsRow w.heap.size 3 1 (.slice a1 n1 c1) n1 (ints (elems r.src))∧Below w.heap.size w wr∧Whole wr w.heap.size 56 #[.int .i64 r.kind,.int .u64 r.src.a,.int .u64 r.src.b,.int .u64 r.src.c,.int .u64 r.src.d,.int .u64 r.tgt.a,.int .u64 r.tgt.b,.int .u64 r.tgt.c,.int .u64 r.tgt.d,.bool r.self,.int .i64 r.cls,.int .u32 r.perms,.int .i64 r.cond]
theorem Oe.keep{w wr w':World}{r:aj}{a1:Option Addr}{c1 n1:Nat}{P:List (Nat×Nat)}{u:Value}(h:Oe w r a1 c1 n1 P u wr)(hb:Below wr.heap.size wr w'):Oe w r a1 c1 n1 P u w':=
 ⟨gu hb h.1 (Nat.le_refl _),gu hb h.2.1 (Nat.le_refl _),h.2.2.1.trans (hb.mono h.2.2.1.size),Whole.under hb h.2.2.2 h.2.2.2.lt⟩
theorem mQ(r:aj)(l:List Nat):(r.bZ l).length≤l.length*256:=by
 induction l with
 | nil=>simp[aj.bZ]
 | cons s l ih=>
  have h1:=dY (r.tgts s) 256;have e:(r.bZ (s::l)).length=(elems (r.tgts s)).length+(r.bZ l).length:=by simp[aj.bZ]
  rw[e,List.length_cons,Nat.add_mul];unfold elems;omega
theorem kS(r:aj)(l:List Nat)(s:Nat):r.bZ (l++[s])=r.bZ l++(elems (r.tgts s)).map fun t=>(s,t):=by simp[aj.bZ]
theorem InR.more{w wr w2:World}{r:aj}{a1 a2:Option Addr}{c1 n1 c2 n2:Nat}{l2:List Nat}{P:List (Nat×Nat)}{u v':Value}{s y:Nat}(h:InR w r a1 c1 n1 a2 c2 n2 l2 P u wr)
 (hown:w2.ownsRow w.heap.size 111 2 v' (P.length+1) (eE P++yQ (s,y))) (hg:(wr.alloc (.cells #[.int .i64 (s:Int),.int .i64 (y:Int)] 111)).grownBy w2 u.ownBlock):InR w r a1 c1 n1 a2 c2 n2 l2 (P++[(s,y)]) v' w2:=by
 obtain⟨h1,h2,h3,h4,h5⟩:=h;have ho:=jD h1 (.cells #[.int .i64 (s:Int),.int .i64 (y:Int)] 111);refine⟨?_,Em (jD h2 _) ho (by decide) hg,Em (jD h3 _) ho (by decide) hg,(h4.alloc h4.size _).grown hg (by have:=h4.size;simp;omega) (fun q hq=>by have:=(h1.lt q hq).1;omega),(h5.alloc _).grown hg (fun e=>j9 h1 h5 (by decide) e.symm)⟩;rw[avO,lP];exact hown
def Ti(w:World)(r:aj)(P:List (Nat×Nat))(u:Value)(wr:World):Prop:=
 wr.ownsRow w.heap.size 111 2 u P.length (eE P)∧Below w.heap.size w wr∧Whole wr w.heap.size 56 #[.int .i64 r.kind,.int .u64 r.src.a,.int .u64 r.src.b,.int .u64 r.src.c,.int .u64 r.src.d,.int .u64 r.tgt.a,.int .u64 r.tgt.b,.int .u64 r.tgt.c,.int .u64 r.tgt.d,.bool r.self,.int .i64 r.cls,.int .u32 r.perms,.int .i64 r.cond]
theorem Ti.keep{w wr w':World}{r:aj}{P:List (Nat×Nat)}{u:Value}(h:Ti w r P u wr)(hb:Below wr.heap.size wr w'):Ti w r P u w':=
 ⟨gu hb h.1 (Nat.le_refl _),h.2.1.trans (hb.mono h.2.1.size),Whole.under hb h.2.2 h.2.2.lt⟩
theorem Ti.more{w wr w2:World}{r:aj}{P:List (Nat×Nat)}{u v':Value}{s y:Nat}(h:Ti w r P u wr)
 (hown:w2.ownsRow w.heap.size 111 2 v' (P.length+1) (eE P++yQ (s,y))) (hg:(wr.alloc (.cells #[.int .i64 (s:Int),.int .i64 (y:Int)] 111)).grownBy w2 u.ownBlock):Ti w r (P++[(s,y)]) v' w2:=by
 obtain⟨h1,h4,h5⟩:=h;refine⟨?_,(h4.alloc h4.size _).grown hg (by have:=h4.size;simp;omega) (fun q hq=>by have:=(h1.lt q hq).1;omega),(h5.alloc _).grown hg (fun e=>j9 h1 h5 (by decide) e.symm)⟩;rw[avO,lP];exact hown
end Go.Proofs.YtdcofoaihmongaaGreat
namespace Go.Proofs.YtdcofoaihmongaaGreat
open Go Go.RowKit Go.WideMaps
structure aS where
 src:Int
 tgt:Int
 cls:Int
 cond:Int
 allow:Int
 bq:Int
 dont:Int
deriving DecidableEq
def aS.cells(x:aS):List Value:=[.int .i64 x.src,.int .i64 x.tgt,.int .i64 x.cls,.int .i64 x.cond,.int .u32 x.allow,.int .u32 x.bq,.int .u32 x.dont]
theorem acv:iw (Tryz.prog.info? 52) 1 8=true:=by kernel_rfl
theorem agP:Tryz.prog.cellsOf 52=1:=by kernel_rfl
theorem eqw(d:Nat)(a b:Int)(w:World):(Op.equalIn (d+1) 52 (.int .u64 a) (.int .u64 b)).run Tryz.prog w=.ok (decide (a=b)) w:=by
 by_cases h:a=b<;>simp[Op.equalIn,run_underlying Tryz.underlying52,h]
theorem agB(a b:Int)(w:World):(Op.equalIn 9999 52 (.int .u64 a) (.int .u64 b)).run Tryz.prog w=.ok (decide (a=b)) w:=eqw 9998 a b w
theorem adp(x0 x1 x2 x3 y0 y1 y2 y3:Int)(w:World):(Op.equalIn 10000 54 (.agg #[.int .u64 x0,.int .u64 x1,.int .u64 x2,.int .u64 x3]) (.agg #[.int .u64 y0,.int .u64 y1,.int .u64 y2,.int .u64 y3])).run Tryz.prog w=.ok (decide (x0=y0∧x1=y1∧x2=y2∧x3=y3)) w:=by
 obtain⟨i0,z,hi,_⟩:=kG acv;rw[show(10000:Nat)=9999+1 from rfl,run_equalIn_array w 9999 _ _ Tryz.underlying54 hi,agP];have p0:∀ x0 x1 x2 x3:Int,(part 52 #[.int .u64 x0,.int .u64 x1,.int .u64 x2,.int .u64 x3] (0*1)).run Tryz.prog w=.ok (.int .u64 x0) w:=fun x0 x1 x2 x3=>by kernel_rfl
 have p1:∀ x0 x1 x2 x3:Int,(part 52 #[.int .u64 x0,.int .u64 x1,.int .u64 x2,.int .u64 x3] (1*1)).run Tryz.prog w=.ok (.int .u64 x1) w:=fun x0 x1 x2 x3=>by kernel_rfl
 have p2:∀ x0 x1 x2 x3:Int,(part 52 #[.int .u64 x0,.int .u64 x1,.int .u64 x2,.int .u64 x3] (2*1)).run Tryz.prog w=.ok (.int .u64 x2) w:=fun x0 x1 x2 x3=>by kernel_rfl
 have p3:∀ x0 x1 x2 x3:Int,(part 52 #[.int .u64 x0,.int .u64 x1,.int .u64 x2,.int .u64 x3] (3*1)).run Tryz.prog w=.ok (.int .u64 x3) w:=fun x0 x1 x2 x3=>by kernel_rfl
 rw[show List.range 4=[0,1,2,3] from rfl];simp only[Op.eqItems,avQ,p0,Result.andThen_ok,agB];by_cases h0:x0=y0<;>by_cases h1:x1=y1<;>by_cases h2:x2=y2<;>by_cases h3:x3=y3<;>simp[h0,h1,h2,h3,avQ,p1,p2,p3,agB]
theorem cM{xs ys:Array Value}{W:World}{d:Nat}:∀ (fs:List Field) (rs:List Bool),fs.length=rs.length→(fs.all fun f=>f.name != "_")=true→(∀ (i:Nat) (f:Field) (r:Bool),fs[i]?=some f→rs[i]?=some r→∃ x y,(part f.type xs f.offset).run Tryz.prog W=.ok x W∧(part f.type ys f.offset).run Tryz.prog W=.ok y W∧(Op.equalIn d f.type x y).run Tryz.prog W=.ok r W)→(Op.eqFields d xs ys fs).run Tryz.prog W=.ok (rs.all id) W
 | [],[],_,_,_=>rfl
 | f::fs,r::rs,hl,hn,h=>by
  obtain⟨x,y,h1,h2,h3⟩:=h 0 f r rfl rfl;have ih:=cM fs rs (by simpa using hl) (by simp at hn;simpa using hn.2) fun i g s hg hs=>h (i+1) g s (by simpa using hg) (by simpa using hs)
  unfold Op.eqFields;have hne:f.name≠ "_":=by simp at hn;exact hn.1
  rw[if_pos hne];simp only[avQ,h1,h2,h3,Result.andThen_ok]
  cases r with
  | false=>simp
  | true=>simpa using ih
 | [],_::_,h,_,_=>by simp at h
 | _::_,[],h,_,_=>by simp at h
end Go.Proofs.YtdcofoaihmongaaGreat
namespace Go.Proofs.YtdcofoaihmongaaGreat
open Go Go.RowKit
def gX(a b:Int):Int:=if a<b then -1 else if b<a then 1 else 0
theorem SK{a b:Int}:gX a b=0↔a=b:=by
 unfold gX;split
 ·constructor<;>intro h<;>omega
 ·split
  ·constructor<;>intro h<;>omega
  ·constructor<;>intro h<;>omega
theorem vD{a b:Int}:gX a b<0↔a<b:=by
 unfold gX;split
 ·constructor<;>intro h<;>omega
 ·split
  ·constructor<;>intro h<;>omega
  ·constructor<;>intro h<;>omega
def YG:List Int→Int
 | []=>0
 | x::l=>if x=0 then YG l else x
def iH(x:Int):Value:=.int .i64 x
def iz(w w':World):Prop:=∃ q os,w'=Sort.grow (w.drewN q) os
theorem iz.refl(w:World):iz w w:=⟨0,#[],by rw[Sort.grow_empty];rfl⟩
theorem iz.drewN{w w':World}(h:iz w w')(n:Nat):iz w (w'.drewN n):=by
 obtain⟨q,os,rfl⟩:=h;exact⟨q+n,os,by simp[Sort.grow,World.drewN,Nat.add_assoc]⟩
theorem iz.drew{w w':World}(h:iz w w'):iz w w'.drew:=h.drewN 1
theorem iz.alloc{w w':World}(h:iz w w')(o:Obj):iz w (w'.alloc o):=by
 obtain⟨q,os,rfl⟩:=h;exact⟨q,os++#[o],by rw[Sort.alloc_eq_grow,Sort.grow_grow]⟩
theorem iz.trans{a b c:World}(h:iz a b)(k:iz b c):iz a c:=by
 obtain⟨q,os,rfl⟩:=k;obtain⟨q',os',h'⟩:=h.drewN q;exact⟨q',os'++os,by rw[h',Sort.grow_grow]⟩
theorem iz.below{w w':World}(h:iz w w'):Below w.heap.size w w':=by
 obtain⟨q,os,rfl⟩:=h;refine⟨rfl,rfl,rfl,by simp[Sort.grow,World.drewN],fun k hk=>?_⟩;show(w.heap++os)[k]?=w.heap[k]?;exact Array.getElem?_append_left hk
def gY(x y:aS):Int:=YG [gX x.src y.src,gX x.tgt y.tgt,gX x.cls y.cls,gX x.cond y.cond]
def ay.least(s:ay):Int:=match (elems s).head? with
 | some n=>(n:Int)
 | none=>-1
def ofs(l:List Int):ay:=l.foldl ay.with ay.zero
theorem zW:ay.zero.Ok:=by constructor<;>(show(0:Nat)<18446744073709551616;decide)
theorem Kf:∀ (l:List Int) {s:ay},s.Ok→(l.foldl ay.with s).Ok
 | [],_,h=>h
 | x::l,_,h=>Kf l (ay.zX h x)
theorem U_(w:World)(v:Value)(l:List Int)(h:SliceAt w v 1 l.length (l.map iH)):Calls Tryz.prog 66 #[v] w fun e w'=>e=.returned (.agg #[.int .u64 (ofs l).a,.int .u64 (ofs l).b,.int .u64 (ofs l).c,.int .u64 (ofs l).d])∧Below w.heap.size w w':=by
 obtain⟨a,c,rfl,hac,xI,HA⟩:=h.form (by decide);have H1:=avM HA;clear HA h;obtain⟨N,hN⟩:∃ N,N=l.length:=⟨_,rfl⟩;rw[← hN] at H1 hac xI ⊢;have HN:=avM hN;clear hN;have Ds:=avM (show Whole ((w.alloc (.cells #[.int .u64 0,.int .u64 0,.int .u64 0,.int .u64 0] 54)).alloc (.cells #[.int .u64 0,.int .u64 0,.int .u64 0,.int .u64 0] 54)) w.heap.size 54 #[.int .u64 0,.int .u64 0,.int .u64 0,.int .u64 0] from(Whole.new w 54 #[.int .u64 0,.int .u64 0,.int .u64 0,.int .u64 0]).alloc _);have EY:=avM (show Whole ((w.alloc (.cells #[.int .u64 0,.int .u64 0,.int .u64 0,.int .u64 0] 54)).alloc (.cells #[.int .u64 0,.int .u64 0,.int .u64 0,.int .u64 0] 54)) (w.heap.size+1) 54 #[.int .u64 0,.int .u64 0,.int .u64 0,.int .u64 0] from dh w _ #[.int .u64 0,.int .u64 0,.int .u64 0,.int .u64 0] _)
 go_enter Tryz.func66,Tryz.ntmps66
 go_wp2_with (refine aG rfl 54 _ _ rfl (w.heap.size+1) 0 (.agg #[.int .u64 0,.int .u64 0,.int .u64 0,.int .u64 0]) rfl rfl 54 _ EY.out (by simp[Value.cells]) cO rfl ?_;intro w2 S2 W2;rw[bp _ _ (by rfl)] at W2;have q7:=avM S2;have HW2:=avM (show Whole w2 (w.heap.size+1) 54 #[.int .u64 0,.int .u64 0,.int .u64 0,.int .u64 0] from W2);clear S2 W2 EY)
 have HR2:=avM (q7.out.whole Ds.out (by omega));have nL:=avM (show Below w.heap.size w w2 from(((Below.refl _ w).alloc (Nat.le_refl _) _).alloc (by simp) _).trans (q7.out.below (by omega)));clear Ds q7
 go_loopw [4] (fun i wr=>∃ (n:Nat) (s:ay),n≤N∧i=.int .i64 n∧s=(l.take n).foldl ay.with ay.zero∧Whole wr w.heap.size 54 #[.int .u64 0,.int .u64 0,.int .u64 0,.int .u64 0]∧Whole wr (w.heap.size+1) 54 #[.int .u64 s.a,.int .u64 s.b,.int .u64 s.c,.int .u64 s.d]∧Below w.heap.size w wr) (fun i _=>N-(intOf i).toNat)
 case atStart=>exact⟨0,ay.zero,Nat.zero_le _,rfl,rfl,HR2.out,HW2.out,nL.out⟩
 case round=>
  clear HR2 HW2 nL;obtain⟨n,s,hn,rfl,hse,hR,hS,hb⟩:=hrel;have HSE:=avM hse;have Qo:=avM hR;have jy:=avM hS;have XR:=avM hb;have HS:=avM (show s.Ok by rw[hse];exact Kf _ zW);clear hse hR hS hb;by_cases hlt:n<N
  ·obtain⟨b,off,rfl,hc⟩:=H1.out n hlt;obtain⟨y,hy⟩:∃ y,l[n]?=some y:=⟨_,avR (by have:=HN.out;omega)⟩
   have c0:wr.cell? ⟨b,off+n,none⟩=some (.int .i64 y):=by
    have h:=avN XR.out (hc 0 (.int .i64 y) (by simp[hy,iH]))
    rwa [Nat.mul_one] at h
   have HY:=avM hy;obtain⟨t,ht⟩:∃ t,s.with y=t:=⟨_,rfl⟩;have HT:=avM ht;clear hy hc ht
   go_wp2_with fail
   refine dP (fun w w'=>Below w.heap.size w w') [some 12,some 13,some 14,some 15,some 16,some 17] [bI (.agg #[.int .u64 s.a,.int .u64 s.b,.int .u64 s.c,.int .u64 s.d]),bI (.slice (some ⟨b,off,none⟩) N c),bI (.int .i64 n),bI (.pointer (some ⟨b,off+n,none⟩)),bI (.int .i64 y),bI (.agg #[.int .u64 t.a,.int .u64 t.b,.int .u64 t.c,.int .u64 t.d])] (fun _ w'=>Below wr.heap.size wr w') 6 (by kernel_rfl) (by kernel_rfl) (by kernel_rfl) rfl (by decide) rfl rfl ((Below.refl _ _).drew) ⟨ak _,ak _,ak _,ak _,ak _,ak _,trivial⟩ ⟨(fun _=>aq _),(fun _=>aq _),(fun _=>aq _),(fun _=>aq _),(fun _=>aq _),(fun _=>aq _),trivial⟩ ⟨?_,?_,?_,?_,?_,?_,?_⟩
   ·intro L a wx Q' hL hi H F hK
    try dsimp only at hi
    have h3:a.tmps[3]?=some (.pointer (some ⟨w.heap.size+1,0,none⟩)):=F 3 rfl;have HI:=avM hi;clear H F hi hL;have RS:wx.cell? ⟨w.heap.size+1,0,none⟩=some (.int .u64 s.a):=(Whole.under HI.out jy.out (Whole.lt jy.out)).cell 0;have kq1:wx.cell? ⟨w.heap.size+1,1,none⟩=some (.int .u64 s.b):=(Whole.under HI.out jy.out (Whole.lt jy.out)).cell 1;have kq2:wx.cell? ⟨w.heap.size+1,2,none⟩=some (.int .u64 s.c):=(Whole.under HI.out jy.out (Whole.lt jy.out)).cell 2;have kq3:wx.cell? ⟨w.heap.size+1,3,none⟩=some (.int .u64 s.d):=(Whole.under HI.out jy.out (Whole.lt jy.out)).cell 3
    go_wp2_with fail
    exact hK _ _ (Below.refl _ _) HI.out rfl
   ·intro L a wx Q' hL hi H F hK
    try dsimp only at hi
    have h0:a.tmps[0]?=some (.slice (some ⟨b,off,none⟩) N c):=F 0 rfl;have HI:=avM hi;clear H F hi hL
    go_wp2_with fail
    exact hK _ _ (Below.refl _ _) HI.out rfl
   ·intro L a wx Q' hL hi H F hK
    try dsimp only at hi
    have h4:a.tmps[4]?=some (.int .i64 n):=F 4 rfl;have HI:=avM hi;clear H F hi hL
    go_wp2_with fail
    exact hK _ _ (Below.refl _ _) HI.out rfl
   ·intro L a wx Q' hL hi H F hK
    try dsimp only at hi
    obtain⟨_,EH,rfl⟩:=H 1 ⟨.data,by simp,rfl⟩ _ rfl;replace EH:=EH _ rfl;obtain⟨_,F4,rfl⟩:=H 2 ⟨.data,by simp,rfl⟩ _ rfl;replace F4:=F4 _ rfl;have HI:=avM hi;clear H F hi hL
    go_wp2_with fail
    exact hK _ _ (Below.refl _ _) HI.out rfl
   ·intro L a wx Q' hL hi H F hK
    try dsimp only at hi
    obtain⟨_,Cw,rfl⟩:=H 3 ⟨.data,by simp,rfl⟩ _ rfl;replace Cw:=Cw _ rfl;have HI:=avM hi;clear H F hi hL;have kk:wx.cell? ⟨b,off+n,none⟩=some (.int .i64 y):=avN HI.out c0
    go_wp2_with fail
    exact hK _ _ (Below.refl _ _) HI.out rfl
   ·intro L a wx Q' hL hi H F hK
    try dsimp only at hi
    obtain⟨_,h12,rfl⟩:=H 0 ⟨.data,by simp,rfl⟩ _ rfl;replace h12:=h12 _ rfl;obtain⟨_,Cv,rfl⟩:=H 4 ⟨.data,by simp,rfl⟩ _ rfl;replace Cv:=Cv _ rfl;have HI:=avM hi;clear H F hi hL
    go_wp2_with (go_at_call 130;go_must (refine(Ee wx s HS.out y).mono ?_;rintro e w1 ⟨rfl,hb1⟩;rw[HT.out]))
    exact hK _ _ hb1 (HI.out.trans (hb1.mono HI.out.size)) rfl
   ·intro a wx hl L hi hL Q' hK
    try dsimp only at hi
    have HB:=avM hi;clear hi hL;obtain⟨_,rfl,_,rfl,_,rfl,_,rfl,_,rfl,_,rfl,rfl⟩:=hl;simp only[List.setIfInBounds_toArray,List.set_cons_zero,List.set_cons_succ];have HX:=avM (Whole.under HB.out jy.out jy.out.lt);have HR:=avM (Whole.under HB.out Qo.out Qo.out.lt);have Li:=avM (XR.out.trans (HB.out.mono XR.out.size));clear HB Qo jy XR c0
    go_wp2_with (refine aG rfl 54 _ _ rfl (w.heap.size+1) 0 (.agg #[.int .u64 t.a,.int .u64 t.b,.int .u64 t.c,.int .u64 t.d]) rfl rfl 54 _ HX.out (by simp[Value.cells]) cO rfl ?_;intro w2 S2 W2;rw[bp _ _ (by rfl)] at W2;have q7:=avM S2;have HW2:=avM (show Whole w2 (w.heap.size+1) 54 #[.int .u64 t.a,.int .u64 t.b,.int .u64 t.c,.int .u64 t.d] from W2);clear S2 W2 HX)
    go_roundw
    case rel=>exact⟨n+1,t,by omega,by go_num,by rw[bn HY.out,List.foldl_append,← HSE.out];exact HT.out.symm,q7.out.whole HR.out (by omega),HW2.out,Li.out.trans (q7.out.below (by omega))⟩
    case measure=>simp[intOf];omega
  ·obtain rfl:n=N:=by omega
   go_wp2_with (first|(refine wpList_load_row rfl 54 _ rfl (w.heap.size+1) rfl 54 _ (0,0) _ jy.out Tryz.underlying54 rfl cO ?_)|(refine aG rfl 54 _ _ rfl (w.heap.size) 0 (.agg #[.int .u64 s.a,.int .u64 s.b,.int .u64 s.c,.int .u64 s.d]) rfl rfl 54 _ Qo.out (by simp[Value.cells]) cO rfl ?_;intro w3 S3 W3;rw[bp _ _ (by rfl)] at W3;have HS3:=avM S3;have HW3:=avM (show Whole w3 w.heap.size 54 #[.int .u64 s.a,.int .u64 s.b,.int .u64 s.c,.int .u64 s.d] from W3);clear S3 W3))
   have e0:w3.cell? ⟨w.heap.size,0,none⟩=some (.int .u64 s.a):=HW3.out.cell 0;have e1:w3.cell? ⟨w.heap.size,1,none⟩=some (.int .u64 s.b):=HW3.out.cell 1;have e2:w3.cell? ⟨w.heap.size,2,none⟩=some (.int .u64 s.c):=HW3.out.cell 2;have e3:w3.cell? ⟨w.heap.size,3,none⟩=some (.int .u64 s.d):=HW3.out.cell 3
   have hs:s=ofs l:=by
    have h:=HSE.out;rw[List.take_of_length_le (by rw[HN.out];exact Nat.le_refl _)] at h;exact h
   refine bodyPost_ret (v:=.agg #[.int .u64 s.a,.int .u64 s.b,.int .u64 s.c,.int .u64 s.d]) ?_ rfl ⟨by rw[hs],XR.out.trans (HS3.out.below (Nat.le_refl _))⟩;simp[results,Tryz.results66,go_sem,e0,e1,e2,e3]
structure bh where
 allow:Int
 bq:Int
 dont:Int
deriving DecidableEq
def bh.or(u v:bh):bh:=⟨bits .or .u32 u.allow v.allow,bits .or .u32 u.bq v.bq,bits .or .u32 u.dont v.dont⟩
def gh(k p:Int):bh:=if k=1 then ⟨p,0,0⟩ else if k=2 then ⟨0,p,0⟩ else if k=3 then ⟨0,0,p⟩ else ⟨0,0,0⟩
def aS.vec(x:aS)(k:Int):Int:=if k=1 then x.allow else if k=2 then x.bq else x.dont
end Go.Proofs.YtdcofoaihmongaaGreat
namespace Go.Proofs.YtdcofoaihmongaaGreat
open Go Go.RowKit Go.WideMaps
theorem Vy:laidOutB Tryz.prog=true:=by kernel_rfl
theorem afj:KeyLaw Tryz.prog 113:=deep_law_laid Vy (m:=5) (by decide) (of_decide_eq_true (by kernel_rfl)) (by kernel_rfl) (by kernel_rfl)
theorem Ao:Maps.Keyed Tryz.prog 113:=Maps.Keyed.of_law afj
end Go.Proofs.YtdcofoaihmongaaGreat
namespace Go.Proofs.YtdcofoaihmongaaGreat
open Go Go.WideMaps Go.RowKit
theorem sizeT:∃ m,Tryz.prog.types.size=m+1:=⟨Tryz.prog.types.size-1,by have:0<Tryz.prog.types.size:=of_decide_eq_true (by kernel_rfl);omega⟩
theorem aiO(m:Nat){a:Int}(wa:(Lit.int .i64 a).wf=true):Tryz.prog.keyLits (m+1) 3 [.int .i64 a]=some [.int .i64 a]:=by
 unfold Program.keyLits;simp[Tryz.underlying3,wa]
theorem afs{a b c d:Int}(wa:(Lit.int .i64 a).wf=true)(wb:(Lit.int .i64 b).wf=true)(wc:(Lit.int .i64 c).wf=true)(wd:(Lit.int .i64 d).wf=true):
 ∃ l,keyOf Tryz.prog 113 (.agg #[.int .i64 a,.int .i64 b,.int .i64 c,.int .i64 d])=some l:=by
 obtain⟨m,hm⟩:=sizeT;have hu:Tryz.prog.underlying 113=some (.struct (Tryz.prog.fieldsOf 113)):=by kernel_rfl
 have hk:Tryz.prog.keyType 113=true:=by kernel_rfl
 have hc:Tryz.prog.cellsOf 113=4:=by kernel_rfl
 have hc3:Tryz.prog.cellsOf 3=1:=by kernel_rfl
 have hf:(Tryz.prog.fieldsOf 113).toList.map (fun f=>(f.type,f.offset))=[(3,0),(3,1),(3,2),(3,3)]:=by kernel_rfl
 have hn:(Tryz.prog.fieldsOf 113).all (fun f=>f.name != "_")=true:=by kernel_rfl
 have hform:(Value.agg #[.int .i64 a,.int .i64 b,.int .i64 c,.int .i64 d]).formed Tryz.prog 113=true:=by kernel_rfl
 unfold keyOf;simp only[hu];rw[if_pos (by rw[hk,hform];rfl),hm];unfold Program.keyLits;simp only[hu,Value.cells];rw[if_pos ⟨by rw[hc];rfl,hn⟩];generalize (Tryz.prog.fieldsOf 113).toList=fs at hf
 obtain⟨f0,f1,f2,f3,rfl⟩:∃ f0 f1 f2 f3,fs=[f0,f1,f2,f3]:=by
  rcases fs with _|⟨f0,_|⟨f1,_|⟨f2,_|⟨f3,_|⟨f4,r⟩⟩⟩⟩⟩
  ·simp at hf
  ·simp at hf
  ·simp at hf
  ·simp at hf
  ·exact⟨_,_,_,_,rfl⟩
  ·simp at hf
 simp only[List.map_cons,List.map_nil,List.cons.injEq,Prod.mk.injEq,and_true] at hf;obtain⟨⟨t0,o0⟩,⟨t1,o1⟩,⟨t2,o2⟩,⟨t3,o3⟩⟩:=hf;obtain⟨m',rfl⟩:∃ m',m=m'+1:=⟨m-1,by have h:1<Tryz.prog.types.size:=of_decide_eq_true (by kernel_rfl);omega⟩;simp[List.mapM_cons,t0,o0,t1,o1,t2,o2,t3,o3,hc3,aiO,wa,wb,wc,wd]
end Go.Proofs.YtdcofoaihmongaaGreat
namespace Go.Proofs.YtdcofoaihmongaaGreat
open Go Go.Sort
instance:Inhabited aS:=⟨⟨0,0,0,0,0,0,0⟩⟩
theorem rH(x y:aS):ltOf gY x y=decide (x.src<y.src∨x.src=y.src∧(x.tgt<y.tgt∨x.tgt=y.tgt∧(x.cls<y.cls∨x.cls=y.cls∧x.cond<y.cond))):=by
 unfold ltOf gY;simp only[YG,SK];by_cases h0:x.src=y.src
 ·by_cases h1:x.tgt=y.tgt
  ·by_cases h2:x.cls=y.cls
   ·by_cases h3:x.cond=y.cond
    ·simp[h0,h1,h2,h3]
    ·simp[h0,h1,h2,h3,vD]
   ·simp[h0,h1,h2,vD]
  ·simp[h0,h1,vD]
 ·simp[h0,vD]
theorem sU:SWO (ltOf gY) where
 irrefl x:=by rw[rH];simp
 trans x y z h1 h2:=by rw[rH] at *;simp at *;omega
 ntrans x y z h1 h2:=by rw[rH] at *;simp at *;omega
theorem Bl{α:Type}(lt:α→α→Prop)(hi:∀ x,¬ lt x x)(ht:∀ x y z,lt x y→lt y z→lt x z):∀ {a b:List α},a.Pairwise lt→b.Pairwise lt→(∀ x,x∈a↔x∈b)→a=b
 | [],[],_,_,_=>rfl
 | [],y::b,_,_,h=>by have:=(h y).2 (by simp);cases this
 | x::a,[],_,_,h=>by have:=(h x).1 (by simp);cases this
 | x::a,y::b,ha,hb,h=>by
  have ha':=List.pairwise_cons.1 ha;have hb':=List.pairwise_cons.1 hb
  have hxy:x=y:=by
   rcases avS.1 ((h x).1 (by simp)) with e|e
   ·exact e
   ·rcases avS.1 ((h y).2 (by simp)) with e'|e'
    ·exact e'.symm
    ·exact absurd (ht _ _ _ (ha'.1 _ e') (hb'.1 _ e)) (hi _)
  subst hxy;congr 1;refine Bl lt hi ht ha'.2 hb'.2 fun z=>⟨fun hz=>?_,fun hz=>?_⟩
  ·rcases avS.1 ((h z).1 (avT _ hz)) with e|e
   ·subst e;exact absurd (ha'.1 _ hz) (hi _)
   ·exact e
  ·rcases avS.1 ((h z).2 (avT _ hz)) with e|e
   ·subst e;exact absurd (hb'.1 _ hz) (hi _)
   ·exact e
structure bO where
 src:Int
 tgt:Int
 cls:Int
 cond:Int
deriving DecidableEq
def aS.key(e:aS):bO:=⟨e.src,e.tgt,e.cls,e.cond⟩
def aS.X0(e:aS):bh:=⟨e.allow,e.bq,e.dont⟩
def bh.zero:bh:=⟨0,0,0⟩
instance:DecidableEq bh:=fun a b=>decidable_of_iff (a.allow=b.allow∧a.bq=b.bq∧a.dont=b.dont) (by cases a;cases b;simp)
def mkE(k:bO)(v:bh):aS:=⟨k.src,k.tgt,k.cls,k.cond,v.allow,v.bq,v.dont⟩
def iX(a:Int):Prop:=-9223372036854775808≤a∧a<9223372036854775808
def Qk(a:Int):Prop:=0≤a∧a<4294967296
structure bO.Ok (k:bO):Prop where
 src:iX k.src
 tgt:iX k.tgt
 cls:iX k.cls
 cond:iX k.cond
structure bh.Ok (v:bh):Prop where
 allow:Qk v.allow
 bq:Qk v.bq
 dont:Qk v.dont
def Tp(x y:aS):Prop:=ltOf gY x y=true
theorem Tp.irrefl(x:aS):¬ Tp x x:=by unfold Tp;rw[sU.irrefl];simp
theorem Tp.trans(x y z:aS):Tp x y→Tp y z→Tp x z:=sU.trans x y z
structure Canon (f:bO→bh) (l:List aS):Prop where
 ord:l.Pairwise Tp
 mem:∀ e,e∈l↔e.X0=f e.key∧f e.key≠bh.zero
theorem Canon.uniq{f:bO→bh}{a b:List aS}(ha:Canon f a)(hb:Canon f b):a=b:=
 Bl Tp Tp.irrefl Tp.trans ha.ord hb.ord fun x=>(ha.mem x).trans (hb.mem x).symm
def gB(p:bO×bh):Value×Value:=(.agg #[.int .i64 p.1.src,.int .i64 p.1.tgt,.int .i64 p.1.cls,.int .i64 p.1.cond],.agg #[.int .u32 p.2.allow,.int .u32 p.2.bq,.int .u32 p.2.dont])
def nz(p:bO×bh):Bool:=decide (p.2≠bh.zero)
def mL(E:List (bO×bh)):List aS:=(E.filter nz).map fun p=>mkE p.1 p.2
def Fg(f:bO→bh)(k:bO)(v:bh):bO→bh:=fun x=>if x=k then (f k).or v else f x
def accum(l:List (bO×bh)):bO→bh:=l.foldl (fun f p=>Fg f p.1 p.2) fun _=>bh.zero
theorem Dd(l:List (bO×bh))(p:bO×bh):accum (l++[p])=Fg (accum l) p.1 p.2:=by simp[accum,List.foldl_append]
theorem ET:accum []=fun _=>bh.zero:=rfl
theorem wrap32(n:Int):IntKind.u32.wrap n=n%4294967296:=by simp[IntKind.wrap,IntKind.signed,IntKind.bits]
theorem BG(a b:Int):bits .or .u32 a b=((BitVec.ofInt 32 a|||BitVec.ofInt 32 b).toNat:Int):=by
 show IntKind.u32.wrap ((BitVec.ofInt 32 a|||BitVec.ofInt 32 b).toNat:Int)=_;have h:=(BitVec.ofInt 32 a|||BitVec.ofInt 32 b).isLt;rw[wrap32];omega
theorem ME(a b:Int):Qk (bits .or .u32 a b):=by
 rw[BG];have h:=(BitVec.ofInt 32 a|||BitVec.ofInt 32 b).isLt;exact⟨by omega,by omega⟩
theorem abm(a b:Int):BitVec.ofInt 32 (bits .or .u32 a b)=BitVec.ofInt 32 a|||BitVec.ofInt 32 b:=by rw[BG,BitVec.ofInt_natCast,BitVec.ofNat_toNat];simp
theorem ZN{a:Int}(h:Qk a):((BitVec.ofInt 32 a).toNat:Int)=a:=by
 obtain⟨n,rfl⟩:∃ n:Nat,a=n:=⟨a.toNat,by have:=h.1;omega⟩;rw[BitVec.ofInt_natCast,BitVec.toNat_ofNat,Nat.mod_eq_of_lt (by have:=h.2;omega)]
theorem wY(a b:Int):bits .or .u32 a b=bits .or .u32 b a:=by rw[BG,BG,BitVec.or_comm]
theorem MF(a b c:Int):bits .or .u32 (bits .or .u32 a b) c=bits .or .u32 a (bits .or .u32 b c):=by rw[BG,BG a (bits .or .u32 b c),abm,abm,BitVec.or_assoc]
theorem wX{a:Int}(h:Qk a):bits .or .u32 a 0=a:=by rw[BG,show BitVec.ofInt 32 0=0#32 from rfl,BitVec.or_zero,ZN h]
theorem bh.Eo(u v:bh):(u.or v).Ok:=⟨ME _ _,ME _ _,ME _ _⟩
theorem bh.or_comm(u v:bh):u.or v=v.or u:=by simp only[bh.or,wY u.allow,wY u.bq,wY u.dont]
theorem bh.or_assoc(u v x:bh):(u.or v).or x=u.or (v.or x):=by simp only[bh.or,MF]
theorem bh.or_zero{u:bh}(h:u.Ok):u.or bh.zero=u:=by simp only[bh.or,bh.zero,wX h.allow,wX h.bq,wX h.dont]
theorem bh.zW:bh.zero.Ok:=by constructor<;>exact⟨by decide,by decide⟩
end Go.Proofs.YtdcofoaihmongaaGreat
namespace Go.Proofs.YtdcofoaihmongaaGreat
open Go Go.RowKit Go.Sort Go.WideMaps
def tL(k:bO):Value:=.agg #[.int .i64 k.src,.int .i64 k.tgt,.int .i64 k.cls,.int .i64 k.cond]
def IU(v:bh):Value:=.agg #[.int .u32 v.allow,.int .u32 v.bq,.int .u32 v.dont]
theorem JO{a b:bO}(h:tL a=tL b):a=b:=by
 cases a;cases b;simpa[tL] using h
theorem Cp{a:Int}(h:iX a):(Lit.int .i64 a).wf=true:=by
 have h1:(-9223372036854775808≤a∧a<9223372036854775808):=h;simp[Lit.wf,IntKind.min,IntKind.max,IntKind.signed,IntKind.bits];omega
theorem VB{k:bO}(h:k.Ok):∃ l,keyOf Tryz.prog 113 (tL k)=some l:=afs (Cp h.src) (Cp h.tgt) (Cp h.cls) (Cp h.cond)
theorem aby(w:World):(zeroValue 107).run Tryz.prog w=.ok (IU bh.zero) w:=by kernel_rfl
structure jr (w:World) (mb n:Nat) (f:bO→bh):Prop where
 ex:∃ D:List (bO×bh),aV w Tryz.prog 113 mb (D.map gB)∧(∀ p∈D,p.2=f p.1∧p.1.Ok∧p.2.Ok)∧(∀ k,f k≠bh.zero→k∈D.map Prod.fst)∧D.length≤n
theorem jr.lt{w:World}{mb n:Nat}{f:bO→bh}(h:jr w mb n f):mb<w.heap.size:=by
 obtain⟨D,h1,_⟩:=h.ex;exact h1.lt
theorem jr.kept{w w':World}{mb n:Nat}{f:bO→bh}(h:jr w mb n f)(hb:w'.heap[mb]?=w.heap[mb]?):jr w' mb n f:=by
 obtain⟨D,h1,h2⟩:=h.ex;exact⟨D,h1.kept hb,h2⟩
theorem jr.made(w:World):jr (w.alloc (.map #[] 0)) w.heap.size 0 (fun _=>bh.zero):=
 ⟨[],aV.made w _ _,by simp,by simp,Nat.le_refl _⟩
theorem jr.val{w:World}{mb n:Nat}{f:bO→bh}(h:jr w mb n f)(k:bO):(f k).Ok:=by
 obtain⟨D,h1,h2,h3,h4⟩:=h.ex;by_cases hz:f k=bh.zero
 ·rw[hz];exact bh.zW
 ·obtain⟨p,hp,rfl⟩:=avP.1 (h3 _ hz);have:=h2 p hp;rw[← this.1];exact this.2.2
theorem jr.look{w:World}{mb n:Nat}{f:bO→bh}(h:jr w mb n f){k:bO}(hk:k.Ok):(Instr.lookup 105 (.map (some mb)) (tL k) false).run Tryz.prog w=.ok (IU (f k)) w:=by
 obtain⟨D,h1,h2,h3,h4⟩:=h.ex;obtain⟨l,hl⟩:=VB hk;by_cases hm:k∈D.map Prod.fst
 ·obtain⟨p,hp,rfl⟩:=avP.1 hm;have:=h1.rI false Ao Tryz.underlying105 hl (val:=IU p.2) (avP.2 ⟨p,hp,rfl⟩);rw[← (h2 p hp).1];exact this
 ·have hz:f k=bh.zero:=Classical.byContradiction fun h=>hm (h3 k h)
  rw[hz];refine h1.om false Ao Tryz.underlying105 (aby w) hl ?_;intro p hp e;obtain⟨q,hq,rfl⟩:=avP.1 hp;exact hm (avP.2 ⟨q,hq,JO e⟩)
theorem U2{D:List (bO×bh)}{p:bO×bh}(h:p∈D):∃ R,D.Perm (p::R):=by
 obtain⟨s,t,rfl⟩:=List.append_of_mem h;exact⟨s++t,List.perm_middle⟩
theorem jr.put{w:World}{mb n:Nat}{f:bO→bh}(h:jr w mb n f){k:bO}(hk:k.Ok){v:bh}(hv:v.Ok):
 ∃ w',(Instr.mapUpdate 105 (.map (some mb)) (tL k) (IU v)).run Tryz.prog w=.ok () w'∧(jr w' mb (n+1) (fun x=>if x=k then v else f x)∧w.grownBy w' (some mb)∧w'.heap.size=w.heap.size):=by
 obtain⟨D,h1,h2,h3,h4⟩:=h.ex;obtain⟨l,hl⟩:=VB hk;by_cases hm:k∈D.map Prod.fst
 ·obtain⟨p,hp,rfl⟩:=avP.1 hm;obtain⟨R,hR⟩:=U2 hp
  have hnd:(D.map Prod.fst).Nodup:=by
   have:=h1.keys;rw[List.map_map] at this;have e:(Prod.fst∘gB)=tL∘Prod.fst:=rfl;rw[e,← List.map_map] at this;exact List.Pairwise.of_map tL (fun a b hab e=>hab (congrArg tL e)) this
  have afO:=((hR.map Prod.fst).nodup_iff.1 hnd);simp only[List.map_cons,List.nodup_cons] at afO;obtain⟨w',hw,hM,hg,hs⟩:=h1.Pc (key:=tL p.1) (val:=IU v) (old:=IU p.2) (R:=R.map gB) Ao Tryz.underlying105 hl (by simpa[gB,tL,IU] using hR.map gB);refine⟨w',hw,⟨(p.1,v)::R,hM,?_,?_,?_⟩,hg,hs⟩
  ·intro q hq;rcases avS.1 hq with rfl|hq
   ·exact⟨by simp,hk,hv⟩
   ·have hne:q.1≠p.1:=fun e=>afO.1 (e▸avP.2 ⟨q,hq,rfl⟩)
    simp only[if_neg hne];exact h2 q (hR.mem_iff.2 (avT _ hq))
  ·intro x hx;by_cases hxk:x=p.1
   ·subst hxk;simp
   ·simp only[if_neg hxk] at hx;have:=(hR.map Prod.fst).mem_iff.1 (h3 x hx);simpa using this
  ·have:=hR.length_eq;simp at this ⊢;omega
 ·obtain⟨w',hw,hM,hg,hs⟩:=h1.Pf (key:=tL k) (val:=IU v) Ao Tryz.underlying105 hl (by
   intro p hp e;obtain⟨q,hq,rfl⟩:=avP.1 hp;exact hm (avP.2 ⟨q,hq,JO e⟩))
  refine⟨w',hw,⟨(k,v)::D,hM,?_,?_,by simp;omega⟩,hg,hs⟩
  ·intro q hq;rcases avS.1 hq with rfl|hq
   ·exact⟨by simp,hk,hv⟩
   ·have hne:q.1≠k:=fun e=>hm (e▸avP.2 ⟨q,hq,rfl⟩)
    simp only[if_neg hne];exact h2 q hq
  ·intro x hx;by_cases hxk:x=k
   ·subst hxk;simp
   ·simp only[if_neg hxk] at hx;exact avT _ (h3 x hx)
def aS.Ok(e:aS):Prop:=e.key.Ok∧e.X0.Ok
theorem jr.nodup{D:List (bO×bh)}{w:World}{mb:Nat}(h1:aV w Tryz.prog 113 mb (D.map gB)):(D.map Prod.fst).Nodup:=by
 have:=h1.keys;rw[List.map_map] at this;have e:(Prod.fst∘gB)=tL∘Prod.fst:=rfl;rw[e,← List.map_map] at this;exact List.Pairwise.of_map tL (fun a b hab e=>hab (congrArg tL e)) this
end Go.Proofs.YtdcofoaihmongaaGreat
namespace Go.Proofs.YtdcofoaihmongaaGreat
open Go Go.RowKit Go.WideMaps
def ival(p:Int×Value):Value×Value:=(.int .i64 p.1,p.2)
def eF(L:List (Int×Value)):Array Value:=kg (L.map ival)
def jU:List (Int×Value)→Int→Option Value
 | [],_=>none
 | p::r,k=>if p.1=k then some p.2 else jU r k
def gW(L:List (Int×Value))(k:Int):List (Int×Value):=L.filter fun p=>decide (p.1≠k)
theorem FU(L:List (Int×Value))(k j:Int):jU (gW L k) j=if j=k then none else jU L j:=by
 induction L with
 | nil=>simp[gW,jU]
 | cons p r ih=>
  unfold gW at *;rw[List.filter_cons];by_cases h:p.1=k
  ·rw[if_neg (by simp[h]),ih];by_cases hj:j=k
   ·simp[hj]
   ·rw[if_neg hj,if_neg hj,jU,if_neg (fun e=>hj (by rw[← e,h]))]
  ·rw[if_pos (by simp[h]),jU,jU,ih];by_cases hj:p.1=j
   ·rw[if_pos hj,if_neg (fun e=>h (hj.trans e)),if_pos hj]
   ·rw[if_neg hj,if_neg hj]
theorem Al(L:List (Int×Value))(k j:Int)(v:Value):jU ((k,v)::gW L k) j=if j=k then some v else jU L j:=by
 rw[jU,FU];by_cases h:j=k
 ·subst h;simp
 ·rw[if_neg (fun e=>h e.symm),if_neg h,if_neg h]
theorem YU{L:List (Int×Value)}{k:Int}{v:Value}(h:jU L k=some v):(k,v)∈L:=by
 induction L with
 | nil=>cases h
 | cons p r ih=>
  rw[jU] at h;split at h
  ·rename_i e;obtain rfl:=avU h;subst e;exact avV ..
  ·exact avT _ (ih h)
theorem B0{L:List (Int×Value)}{k:Int}(h:jU L k=none):∀ p∈L,p.1≠k:=by
 induction L with
 | nil=>simp
 | cons p r ih=>
  rw[jU] at h;split at h
  ·cases h
  ·rename_i hne;intro q hq;rcases avS.1 hq with rfl|hq
   ·exact hne
   ·exact ih h q hq
theorem Sz{L:List (Int×Value)}{k:Int}(h:jU L k=none):gW L k=L:=List.filter_eq_self.2 fun p hp=>by simpa using B0 h p hp
theorem xY{L:List (Int×Value)}{k:Int}{v:Value}(hn:(L.map Prod.fst).Nodup)(h:jU L k=some v):L.Perm ((k,v)::gW L k):=by
 induction L with
 | nil=>cases h
 | cons p r ih=>
  simp only[List.map_cons,List.nodup_cons] at hn;rw[jU] at h;unfold gW at *;rw[List.filter_cons];split at h
  ·rename_i e;obtain rfl:=avU h;subst e;rw[if_neg (by simp)]
   have:(r.filter fun q=>decide (q.1≠p.1))=r:=List.filter_eq_self.2 fun q hq=>by
    have:q.1≠p.1:=fun e=>hn.1 (e▸avP.2 ⟨q,hq,rfl⟩)
    simpa using this
   rw[this]
  ·rename_i hne;rw[if_pos (by simpa using hne)];exact((ih hn.2 h).cons p).trans (List.Perm.swap ..)
theorem uU:∀ {D E:List (Value×Value)},kg D=kg E→D=E
 | [],[],_=>rfl
 | [],_::_,h=>by simp[kg] at h
 | _::_,[],h=>by simp[kg] at h
 | (a,b)::D,(c,d)::E,h=>by
  have h':a=c∧b=d∧D.flatMap (fun p=>[p.1,p.2])=E.flatMap (fun p=>[p.1,p.2]):=by simpa[kg] using h
  obtain⟨rfl,rfl,h3⟩:=h';rw[uU (D:=D) (E:=E) (by unfold kg;rw[h3])]
theorem xH:Maps.Keyed Tryz.prog 3:=Maps.int_keyed Tryz.underlying3
theorem Y5{n:Int}(h:iX n):∃ l,keyOf Tryz.prog 3 (.int .i64 n)=some l:=by
 unfold keyOf;simp[Tryz.underlying3,mapKey,Cp h]
section
variable {B:Nat} {w0 w w':World} {bs:List Bx} {rs:List Rw} {mb:Nat} {L:List (Int×Value)}
theorem aW.map(M:aW B w0 w bs rs)(i:Nat)(h:bs[i]?=some (mb,9003,eF L)):aV w Tryz.prog 3 mb (L.map ival):=by
 rcases M.box _ (avW h) with⟨h0,_⟩|⟨_,D,h1,h2⟩
 ·have h0:Nat.blt 9003 9000=true:=h0;exact absurd h0 (by decide)
 ·have h2:aV w Tryz.prog ((9003:Nat)-9000) mb D:=h2;rw[show(9003:Nat)-9000=3 by decide] at h2;rw[show L.map ival=D from uU h1];exact h2
theorem mU{w:World}{mb:Nat}{L:List (Int×Value)}(h:aV w Tryz.prog 3 mb (L.map ival)):vT w (mb,9003,eF L):=by
 refine .inr ⟨by show Nat.blt 9003 9000=false;decide,L.map ival,rfl,?_⟩;show aV w Tryz.prog ((9003:Nat)-9000) mb (L.map ival);rw[show(9003:Nat)-9000=3 by decide];exact h
theorem aW.MP(M:aW B w0 w bs rs)(hb:avX w.heap.size w w'){b:Bx}(h:vT w' b)(hg:w.heap.size≤b.1):aW B w0 w' (b::bs) rs:=by
 have M':=M.keep hb;refine⟨M'.below,M'.le,M'.old,?_,?_,?_,M'.row,?_,M.vX⟩
 ·intro c hc;rcases avS.1 hc with rfl|hc
  ·exact h
  ·exact M'.box c hc
 ·intro c hc;rcases avS.1 hc with rfl|hc
  ·exact avY M.big hg
  ·exact M.lo c hc
 ·rw[List.map_cons,List.nodup_cons];refine⟨fun h=>?_,M.nd⟩;obtain⟨c,hc,e⟩:=avP.1 h;have:=(M.box c hc).lt;omega
 ·intro r hr c hc;rcases avS.1 hc with rfl|hc
  ·intro e;have:=((M.row r hr).lt _ e).2;omega
  ·exact M.far r hr c hc
theorem gM{w:World}{g mb:Nat}{t k:TypeId}{cs:Array Value}{P:Program}{D:List (Value×Value)}(h:Whole w g t cs)(m:aV w P k mb D):g≠mb:=fun e=>by
 subst e;obtain⟨es,clock,hb,_⟩:=m;have h:w.heap[g]?=some (.cells cs t (0,0)):=h;rw[hb] at h;cases h
theorem aW.FP(M:aW B w0 w bs rs)(hb:avX w.heap.size w w'){b1 b2:Bx}(h1:vT w' b1)(g1:w.heap.size≤b1.1)(h2:vT w' b2)(g2:w.heap.size≤b2.1)(hne:b1.1≠b2.1):aW B w0 w' (b1::b2::bs) rs:=by
 have M':=M.MP hb h2 g2;refine⟨M'.below,M'.le,M'.old,?_,?_,?_,M'.row,?_,M.vX⟩
 ·intro c hc;rcases avS.1 hc with rfl|hc
  ·exact h1
  ·exact M'.box c hc
 ·intro c hc;rcases avS.1 hc with rfl|hc
  ·exact avY M.big g1
  ·exact M'.lo c hc
 ·rw[List.map_cons,List.nodup_cons];refine⟨fun h=>?_,M'.nd⟩;obtain⟨c,hc,e⟩:=avP.1 h;rcases avS.1 hc with rfl|hc
  ·exact hne e.symm
  ·have:=(M.box c hc).lt;omega
 ·intro r hr c hc;rcases avS.1 hc with rfl|hc
  ·intro e;have:=((M.row r hr).lt _ e).2;omega
  ·exact M'.far r hr c hc
theorem aW.turn(M:aW B w0 w bs rs)(i:Nat){b b':Bx}(h:bs[i]?=some b)(e:b'.1=b.1)(hg:w.grownBy w' (some b.1))(h':vT w' b')(hm2:∀ g cs,Whole w g 52 cs→g≠b.1):aW B w0 w' (bs.set i b') rs:=by
 have hi:=(avZ.1 h).1;have hm:=avW h
 have hmap:(bs.set i b').map (·.1)=bs.map (·.1):=by
  refine List.ext_getElem? fun j=>?_
  rw[av0,av0,List.getElem?_set];by_cases ej:i=j
  ·subst ej;simp[hi,(avZ.1 h).2,e]
  ·simp[ej]
 have V5:∀ c∈bs.set i b',∃ c'∈bs,c'.1=c.1:=fun c hc=>by
  rcases List.mem_or_eq_of_mem_set hc with hc|rfl
  ·exact⟨c,hc,rfl⟩
  ·exact⟨_,hm,e.symm⟩
 have hS:=St.grown (X:=[b.1]) hg (av1.2 rfl);refine⟨M.below.trans (hS.below M.big fun k hk=>by rw[av1.1 hk];exact M.lo _ hm),M.le,fun g cs h2=>hS.whole (M.old g cs h2) fun hx=>hm2 g cs (M.old g cs h2) (av1.1 hx),?_,?_,by rw[hmap];exact M.nd,?_,?_,M.vX⟩
 ·intro c hc;obtain⟨j,hj⟩:=List.getElem?_of_mem hc;rw[List.getElem?_set] at hj;by_cases ej:i=j
  ·subst ej;rw[if_pos rfl,if_pos hi] at hj;obtain rfl:=avU hj;exact h'
  ·rw[if_neg ej] at hj;have hb:=M.box c (avW hj);refine hb.kept (hS.block _ hb.lt fun hx=>ej ?_);have e2:c.1=b.1:=av1.1 hx;have h1:(bs.map (·.1))[i]?=some b.1:=by rw[av0,h];rfl
   have h2:(bs.map (·.1))[j]?=some b.1:=by rw[av0,hj];simp[e2]
   exact lT M.nd h1 h2
 ·intro c hc;obtain⟨c',hc',ec⟩:=V5 c hc;rw[← ec];exact M.lo c' hc'
 ·intro r hr;exact hS.own (M.row r hr) fun q hq=>by rw[av1.1 hq];exact M.far r hr _ hm
 ·intro r hr c hc;obtain⟨c',hc',ec⟩:=V5 c hc;rw[← ec];exact M.far r hr c' hc'
theorem aV.MN{w:World}{mb:Nat}{L:List (Int×Value)}(h:aV w Tryz.prog 3 mb (L.map ival)):(L.map Prod.fst).Nodup:=by
 have hk:=h.keys;rw[List.map_map] at hk;have e:(Prod.fst∘ival)=(fun n:Int=>Value.int .i64 n)∘Prod.fst:=rfl;rw[e,← List.map_map] at hk;exact(List.pairwise_map.1 hk).imp fun h e=>h (by rw[e])
section
variable {t e:TypeId} (ht:Tryz.prog.underlying t=some (.map 3 e))
include ht
theorem aV.Vr{z:Value}(hz:(zeroValue e).run Tryz.prog w=.ok z w)(hM:aV w Tryz.prog 3 mb (L.map ival)){k:Int}(hk:iX k)(c:Bool):
 (Instr.lookup t (.map (some mb)) (.int .i64 k) c).run Tryz.prog w=.ok (if c then .tuple #[(jU L k).getD z,.bool (jU L k).isSome] else (jU L k).getD z) w:=by
 obtain⟨l,hl⟩:=Y5 hk
 cases hf:jU L k with
 | some v=>exact hM.rI c xH ht hl (avP.2 ⟨(k,v),YU hf,rfl⟩)
 | none=>
  refine hM.om c xH ht hz hl fun p hp e=>?_
  obtain⟨q,hq,rfl⟩:=avP.1 hp;exact B0 hf q hq (by simpa[ival] using e)
theorem aW.look{z:Value}(hz:(zeroValue e).run Tryz.prog w=.ok z w)(M:aW B w0 w bs rs)(i:Nat)(h:bs[i]?=some (mb,9003,eF L)){k:Int}(hk:iX k)(c:Bool):
 (Instr.lookup t (.map (some mb)) (.int .i64 k) c).run Tryz.prog w=.ok (if c then .tuple #[(jU L k).getD z,.bool (jU L k).isSome] else (jU L k).getD z) w:=aV.Vr ht hz (M.map i h) hk c
theorem aV.UZ(hM:aV w Tryz.prog 3 mb (L.map ival)){k:Int}(hk:iX k)(v:Value):
 ∃ w',(Instr.mapUpdate t (.map (some mb)) (.int .i64 k) v).run Tryz.prog w=.ok () w'∧(aV w' Tryz.prog 3 mb (((k,v)::gW L k).map ival)∧w.grownBy w' (some mb)):=by
 obtain⟨l,hl⟩:=Y5 hk
 cases hf:jU L k with
 | some u=>
  obtain⟨w',hw,NC,hg,-⟩:=hM.Pc (key:=.int .i64 k) (val:=v) (old:=u) (R:=(gW L k).map ival) xH ht hl ((xY hM.MN hf).map ival);exact⟨w',hw,NC,hg⟩
 | none=>
  obtain⟨w',hw,NC,hg,-⟩:=hM.Pf (key:=.int .i64 k) (val:=v) xH ht hl fun p hp e=>by
   obtain⟨q,hq,rfl⟩:=avP.1 hp;exact B0 hf q hq (by simpa[ival] using e)
  refine⟨w',hw,?_,hg⟩;rw[Sz hf];exact NC
theorem aW.aff(M:aW B w0 w bs rs)(i:Nat)(h:bs[i]?=some (mb,9003,eF L)){k:Int}(hk:iX k)(v:Value):
 ∃ w',(Instr.mapUpdate t (.map (some mb)) (.int .i64 k) v).run Tryz.prog w=.ok () w'∧aW B w0 w' (bs.set i (mb,9003,eF ((k,v)::gW L k))) rs:=by
 obtain⟨w',hw,NC,hg⟩:=aV.UZ ht (M.map i h) hk v;exact⟨w',hw,M.turn i h rfl hg (mU NC) fun g cs h2=>gM h2 (M.map i h)⟩
theorem aW.aiK{ty:TypeId}(M:aW B w0 w bs rs)(i:Nat)(h:bs[i]?=some (mb,9003,eF L)){k:Int}(hk:iX k)(hin:(jU L k).isSome=true):
 ∃ w',(Builtin.delete_ #[t,3] ty #[.map (some mb),.int .i64 k]).run Tryz.prog w=.ok (.tuple #[]) w'∧aW B w0 w' (bs.set i (mb,9003,eF (gW L k))) rs:=by
 have hM:=M.map i h;obtain⟨l,hl⟩:=Y5 hk;obtain⟨u,hf⟩:=Option.isSome_iff_exists.1 hin;obtain⟨w',hw,NC,hg,-⟩:=hM.del (ty:=ty) (key:=.int .i64 k) (old:=u) (R:=(gW L k).map ival) xH ht hl ((xY hM.MN hf).map ival);exact⟨w',hw,M.turn i h rfl hg (mU NC) fun g cs h2=>gM h2 (M.map i h)⟩
end
end
end Go.Proofs.YtdcofoaihmongaaGreat
namespace Go.Proofs.YtdcofoaihmongaaGreat
open Go Go.RowKit
section
variable {P:Program} {a:Act} {w:World} {o:Oper} {x y:Operand} {ty yt:TypeId} {k yk:IntKind} {m n:Int}
theorem mX(ho:o.op=.binOp .shl ty x y yt)(hx:a.eval x=.int k m)(hy:a.eval y=.int yk n)(h0:0≤n)(h1:n≤k.bits):(execOp a.eval o).run P w=.ok (.value (.int k (k.wrap (m*2^n.toNat)))) w:=by
 unfold execOp;simp[ho,hx,hy,eqGuard,binOp,shift_shl k yk m n h0 h1]
theorem W8(ho:o.op=.binOp .shr ty x y yt)(hx:a.eval x=.int k m)(hy:a.eval y=.int yk n)(h0:0≤n)(h1:n≤k.bits):(execOp a.eval o).run P w=.ok (.value (.int k (m/2^n.toNat))) w:=by
 unfold execOp;simp[ho,hx,hy,eqGuard,binOp,shift_shr k yk m n h0 h1]
theorem PW(ho:o.op=.binOp .quo ty x y yt)(hx:a.eval x=.int k m)(hy:a.eval y=.int k n)(h0:n≠0):(execOp a.eval o).run P w=.ok (.value (.int k (k.wrap (m.tdiv n)))) w:=by
 unfold execOp;simp[ho,hx,hy,eqGuard,binOp,Op.intDiv,h0]
theorem PZ(ho:o.op=.unOp .xor ty x)(hx:a.eval x=.int .u64 m):(execOp a.eval o).run P w=.ok (.value (.int .u64 (bits .xor .u64 18446744073709551615 m))) w:=by
 unfold execOp;simp[ho,hx];rfl
theorem adE{t u:TypeId}(ho:o.op=.call { callee:=.builtin .min,args:=#[x,y],argTypes:=#[t,u] })(hx:a.eval x=.int k m)(hy:a.eval y=.int yk n):(execOp a.eval o).run P w=.ok (.value (.int k (if n<m then n else m))) w:=by
 unfold execOp;simp[ho,hx,hy,resolve,invoke,builtin,Builtin.min_,Builtin.min2,List.foldlM]
theorem CQ{t u:TypeId}(ho:o.op=.call { callee:=.builtin .max,args:=#[x,y],argTypes:=#[t,u] })(hx:a.eval x=.int k m)(hy:a.eval y=.int yk n):(execOp a.eval o).run P w=.ok (.value (.int k (if m<n then n else m))) w:=by
 unfold execOp;simp[ho,hx,hy,resolve,invoke,builtin,Builtin.max_,Builtin.max2,List.foldlM]
theorem Gp{f:FuncId}{x:Operand}{xs:Array Operand}{ts:Array TypeId}{fn:Func}{c:Code}{first cap args:Array Value}(ho:o.op=.call { callee:=.value x,args:=xs,argTypes:=ts })(hx:a.eval x=.func (.func f) first cap)(hf:P.funcs[f]?=some fn) (hn:(fn.name == "runtime.NumGoroutine")=false) (hb:fn.body=some c)
 (ha:first++xs.map a.eval++cap=args):(execOp a.eval o).run P w=.ok (.enter f args) w:=by
 have h0:fn.body.isNone=false:=by rw[hb];rfl
 unfold execOp;simp only[ho,resolve,hx,Deferred.ofValue,invoke,callFunc,avQ,Sem.run_pure,Result.andThen_ok,run_program,hf,hn,h0];rw[← ha];simp
theorem Kq{t e:TypeId}{i:TypeInfo}{z:Value}{c:Nat}{cs:Array Value}(ho:o.op=.makeSlice t x y)(hx:a.eval x=.int k (c:Int))(hy:a.eval y=.int yk (c:Int))(ht:P.underlying t=some (.slice e))(hi:P.info? e=some i)(hz:i.zero=some z)
 (hcs:madeCells z.cells (c*i.size)=cs) (hb:i.bytes*c≤281474976710656) (h63:c≤maxLen) :
 (execOp a.eval o).run P w=.ok (.value (.slice (some ⟨w.heap.size,0,none⟩) c c)) (w.alloc (.cells cs e)):=by
 have hb':(i.bytes:Int)*(c:Int)≤281474976710656:=by
  have h:((i.bytes*c:Nat):Int)≤281474976710656:=by omega
  rwa [Int.natCast_mul] at h
 have h63':(c:Int)≤9223372036854775807:=by
  have h:=h63;simp[maxLen] at h;omega
 have hr:=run_make (P:=P) w t e i z ht hi hz k yk (c:Int) (c:Int) (by omega) (Int.le_refl _) hb' h63';simp only[Int.toNat_natCast] at hr;unfold execOp;simp[ho,hx,hy,hr,hcs]
theorem U8(z:Value):madeCells #[z] (1*1)=#[z]:=by
 unfold madeCells;refine Array.ext (by simp) fun i h1 h2=>?_
 have hi:i=0:=by simp at h2;omega
 subst hi;simp
theorem Aw{t e:TypeId}{z:Value}{b:Nat}(ho:o.op=.makeSlice t x y)(hx:a.eval x=.int k 1)(hy:a.eval y=.int yk 1)(ht:P.underlying t=some (.slice e))(hi:iw (P.info? e) 1 b=true)(hz:(P.info? e).bind (·.zero)=some z)(h1:z.cells=#[z])(hb:b≤281474976710656):
 (execOp a.eval o).run P w=.ok (.value (.slice (some ⟨w.heap.size,0,none⟩) 1 1)) (w.alloc (.cells #[z] e)):=by
 obtain⟨i,z',hi',hz0,hz1,hz2,hzs⟩:=kG hi;rw[hi'] at hz;simp only[Option.bind_some] at hz;have h2:=Kq (P:=P) (w:=w) (c:=1) (z:=z) (cs:=#[z]) ho hx hy ht hi' hz (by rw[hz1,h1];exact U8 z) (by rw[hz2];omega) (by simp[maxLen]);exact h2
end
section
variable {P:Program} {ops:Array Oper} {Q:Exit→Act→World→Prop} {rest:List Oper} {a:Act} {w:World} {o:Oper}
theorem kmu(hg:o.guard=none)(hd:o.dst=none){m x v:Operand}{t:TypeId}(hop:o.op=.mapUpdate t m x v){mv key val:Value}(hm:a.eval m=mv)(hx:a.eval x=key)(hv:a.eval v=val)
 {Post:World→Prop} (hrun:∃ w',(Instr.mapUpdate t mv key val).run P w=.ok () w'∧Post w') (next:∀ w',Post w'→wpList P ops Q rest a w'):wpList P ops Q (o::rest) a w:=
 AU w hg m x v t hop mv key val hm hx hv Post hrun fun w' h=>by
  have:a.put o.dst undef=a:=by rw[hd];rfl
  rw[this];exact next w' h
end
def H_(wb:World):Good:=fun v u=>∃ b,v=.map (some b)∧aV u Tryz.prog 3 b []∧wb.heap.size≤b
theorem RP(wb:World):eC (H_ wb):=fun _ _ _ ⟨b,e,h,k⟩ hb=>⟨b,e,h.kept (hb.block _ h.lt),k⟩
theorem dmk{ops:Array Oper}{Q':Exit→Act→World→Prop}{a:Act}{w wb:World}{o:Oper}{d N:Nat}{t k e:TypeId}(hw:Region.wanted o (yielded ops a.tmps)=true)(ho:o.op=.makeMap t none)(_:Tryz.prog.underlying t=some (.map k e))(hd:o.dst=some d)(hf:Fr a N)(hN:Nat.blt d N=true)(hi:avX wb.heap.size wb w)
 (hK:∀ v a' w',avX w.heap.size w w'→H_ wb v w'→Put a (o.dst.getD 0) v a'→Q' .normal a' w'):wpList Tryz.prog ops Q' [o] a w:=by
 have hr:(execOp a.eval o).run Tryz.prog w=.ok (.value (.map (some w.heap.size))) (w.alloc (.map #[] 0)):=by
  unfold execOp;simp[ho,Instr.makeMap]
 refine wpList_step fun K hK'=>?_
 rw[if_pos hw];unfold Oper.wp;rw[hr,Oper.upon_value];refine hK' _ _ (av2 (hK _ _ _ ((Below.refl _ w).alloc (Nat.le_refl _) _) ⟨_,rfl,aV.made w _ _,hi.size⟩ ?_));rw[hd];exact qy hf (by simpa using hN)
def La(wb:World)(cs:Array Value):Good:=fun v u=>∃ b,v=.agg (cs.push (.map (some b)))∧aV u Tryz.prog 3 b []∧wb.heap.size≤b
theorem JN(wb:World)(cs:Array Value):eC (La wb cs):=fun _ _ _ ⟨b,e,h,k⟩ hb=>⟨b,e,h.kept (hb.block _ h.lt),k⟩
def Dl(wb:World)(t:TypeId)(cs:Array Value):Good:=fun v u=>∃ g b,v=.pointer (some ⟨g,0,none⟩)∧Whole u g t (cs.push (.map (some b)))∧aV u Tryz.prog 3 b []∧wb.heap.size≤g∧wb.heap.size≤b
theorem yV(wb:World)(t:TypeId)(cs:Array Value):eC (Dl wb t cs):=fun _ _ _ ⟨g,b,e,hw,h,k⟩ hb=>⟨g,b,e,Whole.under hb hw hw.lt,h.kept (hb.block _ h.lt),k⟩
theorem kmk{P:Program}{ops:Array Oper}{Q:Exit→Act→World→Prop}{rest:List Oper}{a:Act}{B:Nat}{w w0:World}{o:Oper}{d N:Nat}{l:Slots}{bs:List Bx}{rs:List Rw}{t:TypeId}(hw:Region.wanted o (yielded ops a.tmps)=true)(ho:o.op=.makeMap t none)(hd:o.dst=some d)(F:Fs a N l)(hN:Nat.blt d N=true)(M:aW B w0 w bs rs)
 (next:∀ mb a' w',Fs a' N ((d,.map (some mb))::l)→aW B w0 w' ((mb,9003,eF [])::bs) rs→wpList P ops Q rest a' w'):wpList P ops Q (o::rest) a w:=by
 have hr:(execOp a.eval o).run P w=.ok (.value (.map (some w.heap.size))) (w.alloc (.map #[] 0)):=by
  unfold execOp;simp[ho,Instr.makeMap]
 refine wpList_step fun K hK'=>?_
 rw[if_pos hw];unfold Oper.wp;rw[hr,Oper.upon_value,hd];exact hK' _ _ (next w.heap.size _ _ (F.put (qy F.fr (by simpa using hN))) (M.MP ((Below.refl _ w).alloc (Nat.le_refl _) _) (b:=(w.heap.size,9003,eF [])) (mU (aV.made w _ _)) (Nat.le_refl _)))
section
variable {ops:Array Oper} {Q:Exit→Act→World→Prop} {rest:List Oper} {a:Act} {B:Nat} {w w0:World} {o:Oper} {d N:Nat} {l:Slots} {bs:List Bx} {rs:List Rw} {mb:Nat} {L:List (Int×Value)}
theorem Gn{t e:TypeId}{m x:Operand}{z:Value}{k:Int}(ht:Tryz.prog.underlying t=some (.map 3 e))(hz:(zeroValue e).run Tryz.prog w=.ok z w)(M:aW B w0 w bs rs)(i:Nat)(h:bs[i]?=some (mb,9003,eF L))(ho:o.op=.lookup t m x true)(hm:a.eval m=.map (some mb))(hx:a.eval x=.int .i64 k)(hk:iX k):
 (execOp a.eval o).run Tryz.prog w=.ok (.value (.tuple #[(jU L k).getD z,.bool (jU L k).isSome])) w:=by
 have hl:=M.look ht hz i h hk true;unfold execOp;simp[ho,hm,hx,hl]
theorem ZH{t e:TypeId}{m x:Operand}{z:Value}{k:Int}(ht:Tryz.prog.underlying t=some (.map 3 e))(hz:(zeroValue e).run Tryz.prog w=.ok z w)(M:aW B w0 w bs rs)(i:Nat)(h:bs[i]?=some (mb,9003,eF L))(ho:o.op=.lookup t m x false)(hm:a.eval m=.map (some mb))(hx:a.eval x=.int .i64 k)(hk:iX k):
 (execOp a.eval o).run Tryz.prog w=.ok (.value ((jU L k).getD z)) w:=by
 have hl:=M.look ht hz i h hk false;unfold execOp;simp[ho,hm,hx,hl]
theorem vh{t e:TypeId}{m x:Operand}{z:Value}{k:Int}(ht:Tryz.prog.underlying t=some (.map 3 e))(hz:(zeroValue e).run Tryz.prog w=.ok z w)(hM:aV w Tryz.prog 3 mb (L.map ival))(ho:o.op=.lookup t m x true)(hm:a.eval m=.map (some mb))(hx:a.eval x=.int .i64 k)(hk:iX k):
 (execOp a.eval o).run Tryz.prog w=.ok (.value (.tuple #[(jU L k).getD z,.bool (jU L k).isSome])) w:=by
 have hl:=aV.Vr ht hz hM hk true;unfold execOp;simp[ho,hm,hx,hl]
theorem kmp(hg:o.guard=none)(hd:o.dst=none){t e:TypeId}{m x y:Operand}{v:Value}{k:Int}(ho:o.op=.mapUpdate t m x y)(ht:Tryz.prog.underlying t=some (.map 3 e))(hm:a.eval m=.map (some mb))(hx:a.eval x=.int .i64 k)(hy:a.eval y=v)(hk:iX k)(M:aW B w0 w bs rs)(i:Nat)(h:bs[i]?=some (mb,9003,eF L))
 (next:∀ w',aW B w0 w' (bs.set i (mb,9003,eF ((k,v)::gW L k))) rs→wpList Tryz.prog ops Q rest a w'):wpList Tryz.prog ops Q (o::rest) a w:=
 kmu hg hd ho hm hx hy (M.aff ht i h hk v) next
end
def tJK(p:Pa)(t c b:Bool)(f:Bool→Prop):Prop:=match p with
 | []=>(match b with|true=>f c|false=>f (!c))
 | _::_=>(match b with|true=>f (t&&c)|false=>f (t&&!c))
theorem abP{p:Pa}{t c b:Bool}{f:Bool→Prop}(h:tJK p t c b f):f (tJ p t c b):=by
 cases p<;>cases b<;>exact h
def gK(m:List fW)(g:Option (Nat×Bool))(f:Pa→Bool→Prop):Prop:=match g with
 | none=>f [] true
 | some (j,b)=>lkJ j (fun p t v=>match v with|.bool c=>tJK p t c b (f ((j,b)::p))|_=>False) m
def dK(N:Nat)(m:List fW)(dst:Option Nat)(f:Nat→Prop):Prop:=match dst with
 | some d=>bif Nat.blt d N then bif jI d m then f d else False else False
 | none=>False
def TK(π:Pa)(p:Prop):Prop:=match π with
 | []=>p
 | _::_=>False
def bg(v:Value):List Value:=match v with
 | .agg cs=>cs.toList
 | v=>[v]
theorem lH(v:Value):v.cells.toList=bg v:=by cases v<;>rfl
def SM(v:Value)(f:Array Value→Prop):Prop:=match v with
 | .agg cs=>f cs
 | .bool b=>f #[.bool b]
 | .int k n=>f #[.int k n]
 | .string s=>f #[.string s]
 | .pointer a=>f #[.pointer a]
 | .slice a n c=>f #[.slice a n c]
 | .map r=>f #[.map r]
 | .func a b c=>f #[.func a b c]
 | .nilFunc=>f #[.nilFunc]
 | .iface t v=>f #[.iface t v]
 | .nilIface=>f #[.nilIface]
 | _=>False
theorem vH{v:Value}{f:Array Value→Prop}(h:SM v f):f v.cells:=by
 cases v<;>first|exact h|exact h.elim
def ldK(π:Pa)(t:Bool)(bs:List Bx)(w:World)(D:TD)(g off:Nat)(k:Value→Prop):Prop:=
 bif D.one' then
  (∃ i,tE bs i fun b=>match b with|(b,T,cs)=>bif Nat.blt T 9000 then ob π t (b=g) (tE cs.toList off k) else False)∨(∃ v,ob π t (w.cell? ⟨g,off,none⟩=some v) (k v))
 else
  (∃ i,tE bs i fun b=>match b with|(b,T,cs)=>bif Nat.blt T 9000 then ob π t (b=g) (Kv off cs.toList fun r=>I7 (jc D) r fun l=>k (.agg l.toArray)) else False) ∨
   (∃ cs:List Value,ob π t (∀ j u,cs[j]?=some u→w.cell? ⟨g,off+j,none⟩=some u) (qD cs (jc D) (k (.agg cs.toArray))))
def stK(B:Nat)(w0:World)(bs:List Bx)(D:TD)(g off:Nat)(v:Value)(k:List Bx→Prop):Prop:=
 ∃ i,tE bs i fun b=>match b with|(b,T,cs)=>bif Nat.blt T 9000 then bif Nat.beq T 52 then
  ((b=g∧(bg v).all (·.oneCell')=true)∧w0.heap.size≤B)∧qD (bg v) (jc D) (Jc cs.toList off (bg v) fun cs'=>Bo bs i (b,T,cs'.toArray) k)
  else (b=g∧(bg v).all (·.oneCell')=true)∧qD (bg v) (jc D) (Jc cs.toList off (bg v) fun cs'=>Bo bs i (b,T,cs'.toArray) k) else False
def stR(B:Nat)(w0:World)(rs:List Rw)(D:TD)(g off:Nat)(v:Value)(k:List Rw→Prop):Prop:=
 ∃ i j e n cap xs,(rs[i]?=some ⟨.slice (some ⟨g,0,none⟩) n cap,e,jc D,n,xs⟩∧off=j*jc D∧j<n)∧(bg v).all (·.oneCell')=true∧(Nat.beq e 52=false∨w0.heap.size≤B) ∧
  qD (bg v) (jc D) (Bo rs i ⟨.slice (some ⟨g,0,none⟩) n cap,e,jc D,n,xs.take off++bg v++xs.drop (off+jc D)⟩ k)
def apO(B:Nat)(w0:World)(bs:List Bx)(rs:List Rw)(w:World)(u v:Value)(e kk P8:Nat)(k:Value→List Bx→List Rw→World→Prop):Prop:=
 ∃ SS Q8 i nn xs mm news,(aW B w0 w bs rs→aW B w0 w SS Q8)∧Q8[i]?=some ⟨v,e,kk,nn,xs⟩∧SliceAt w u kk mm news∧(nn+mm≤maxLen∧(nn+mm)*P8≤140737488355328)∧(Nat.beq e 52=false∨w0.heap.size≤B) ∧
  ∀ v' w',Bo Q8 i ⟨v',e,kk,nn+mm,xs++news⟩ fun rs'=>aW B w0 w' SS rs'→k v' SS rs' w'
def tu:Nat→List (Nat×Operand)→Bool
 | _,[]=>true
 | i,(j,_)::r=>bif Nat.beq i j then tu (i+1) r else false
def ZM(kk:Nat):List Value→(List Value→Prop)→Prop
 | [],f=>f []
 | v::r,f=>SM v fun cs=>qD cs.toList kk (ZM kk r fun l=>rW cs.toList l f)
section
variable (B:Nat) (w0:World) (N:Nat) (l:Slots) (o:Oper) (n:Nat) (m:List fW) (bs:List Bx) (rs:List Rw) (w:World) (k:List fW→List Bx→List Rw→World→Prop)
def FB:Prop:=Pb l m [] (iF o.op) fun vs=>match o.dst with
 | some d=>bif Nat.blt d N then bif jI d m then
  ∃ R:Value→World→Prop,(∀ (a:Act) (o':Oper),o'.op=o.op→o'.type=o.type→vZ a (iF o.op) vs→∃ v w',(execOp a.eval o').run Tryz.prog w=.ok (.value v) w'∧R v w') ∧
   ∀ v w',R v w'→∃ bs' rs',aW B w0 w' bs' rs'∧k (⟨d,n,[],true,v⟩::m) bs' rs' w'
  else False else False
 | none=>∃ R:World→Prop,(∀ (a:Act) (o':Oper),o'.op=o.op→o'.type=o.type→vZ a (iF o.op) vs→∃ w',(execOp a.eval o').run Tryz.prog w=.ok .skip w'∧R w') ∧
  ∀ w',R w'→∃ bs' rs',aW B w0 w' bs' rs'∧k m bs' rs' w'
def cK(π:Pa)(t:Bool)(f:FuncId)(vs:List Value):Prop:=bif jw f TQ then False else bif Nat.blt f NF then dK N m o.dst fun d=>(∃ v,ob π t (Calls Tryz.prog f vs.toArray w fun e w'=>e=.returned v∧avX w.heap.size w w') (∀ w',aW B w0 w' bs rs→k (⟨d,n,π,t,v⟩::m) bs rs w')) ∨
 (match π with
 | []=>∃ R:Value→World→Prop,(Calls Tryz.prog f vs.toArray w fun e w'=>∃ v,e=.returned v∧R v w')∧∀ v w',R v w'→∃ bs' rs',aW B w0 w' bs' rs'∧k (⟨d,n,[],true,v⟩::m) bs' rs' w'
 | π=>∃ R:Value→World→Prop,(t=true→Calls Tryz.prog f vs.toArray w fun e w'=>∃ v,e=.returned v∧R v w')∧(t=false→∃ v,R v w)∧∀ v w',R v w'→∃ bs' rs',aW B w0 w' bs' rs'∧k (⟨d,n,π,t,v⟩::m) bs' rs' w')
 else False
def apK(π:Pa)(c:Call):Prop:=TK π (match c.args.toList with
 | [s,x]=>(match c.argTypes.toList with
  | [ty,ty']=>bif Nat.beq ty ty' then dK N m o.dst fun d=>qx l m π s fun v=>qx l m π x fun u=>DB ty (fun D=>match D with
   | .sl e kk P8=>bif Nat.blt 0 kk then apO B w0 bs rs w u v e kk P8 (fun v'=>k (⟨d,n,[],true,v'⟩::m)) else False
   | _=>False) TT else False
  | _=>False)
 | _=>False)
def O2:Prop:=gK m o.guard fun π t=>match o.op with
 | .load ty x=>dK N m o.dst fun d=>qx l m π x fun u=>FJ u (Au π t fun v=>k (⟨d,n,π,t,v⟩::m) bs rs w) fun g off=>DB ty (fun D=>ldK π t bs w D g off fun v=>k (⟨d,n,π,t,v⟩::m) bs rs w) TT
 | .store ty x y=>TK π (match o.dst with
  | none=>(qx l m π x fun u=>qx l m π y fun v=>FJ u False fun g off=>DB ty (fun D=>stK B w0 bs D g off v fun bs'=>∀ w',aW B w0 w' bs' rs→k m bs' rs w') TT) ∨
   (qx l m π x fun u=>qx l m π y fun v=>FJ u False fun g off=>DB ty (fun D=>stR B w0 rs D g off v fun rs'=>∀ w',aW B w0 w' bs rs'→k m bs rs' w') TT)∨FB B w0 N l o n m w k
  | some _=>False)
 | .alloc ty=>TK π (dK N m o.dst fun d=>∃ z,(Tryz.prog.info? ty).bind (·.zero)=some z∧bif Nat.blt ty 9000 then SM z fun cs=>∀ g w',aW B w0 w' ((g,ty,cs)::bs) rs→k (⟨d,n,[],true,.pointer (some ⟨g,0,none⟩)⟩::m) ((g,ty,cs)::bs) rs w' else False)
 | .box ty x=>TK π (dK N m o.dst fun d=>qx l m π x fun u=>bif Nat.blt ty 9000 then SM u fun cs=>∀ g w',aW B w0 w' ((g,ty,cs)::bs) rs→k (⟨d,n,[],true,.pointer (some ⟨g,0,none⟩)⟩::m) ((g,ty,cs)::bs) rs w' else False)
 | .buildSlice ty len parts=>TK π (dK N m o.dst fun d=>DB ty (fun D=>match D with
  | .sl e kk _=>bif tu 0 parts.toList then qD parts.toList len (bif Nat.blt 0 (len*kk) then bif Nat.ble (len*kk) 16777216 then bif Nat.blt e 9000 then Pb l m π (parts.toList.map (·.2)) fun vs=>ZM kk vs fun cs=>∀ g w',aW B w0 w' ((g,e,cs.toArray)::bs) rs→k (⟨d,n,[],true,.slice (some ⟨g,0,none⟩) len len⟩::m) ((g,e,cs.toArray)::bs) rs w'
   else False else False else bif Nat.beq len 0 then bif Nat.blt e 9000 then ∀ g w',aW B w0 w' ((g,e,#[])::bs) rs→k (⟨d,n,[],true,.slice (some ⟨g,0,none⟩) 0 0⟩::m) ((g,e,#[])::bs) rs w' else False else False) else False
  | _=>False) TT)
 | .call c=>(match c.callee with
  | .value (.func f)=>Pb l m π c.args.toList fun vs=>cK B w0 N o n m bs rs w k π t f vs
  | .value y=>qx l m π y fun u=>(match u with
   | .func (.func f) first cap=>Pb l m π c.args.toList fun vs=>rW first.toList vs fun xs=>rW xs cap.toList fun ys=>cK B w0 N o n m bs rs w k π t f ys
   | _=>False)
  | .builtin .append=>apK B w0 N l o n m bs rs w k π c
  | .builtin .len=>dK N m o.dst fun d=>pop l m π t (fun v=>k (⟨d,n,π,t,v⟩::m) bs rs w) (.call c)
  | _=>TK π (FB B w0 N l o n m w k))
 | .insert _ _ _ _|.makeMap _ _|.makeChan _ _|.makeSlice _ _ _|.mapUpdate _ _ _ _|.mapEntry _ _ _|.entryStore _ _ _ _|.range _ _|.next _ _|.entry _|.typeAssert _ _ _ _|.panic _|.lookup _ _ _ _|.slice _ _ _ _ _=>TK π (FB B w0 N l o n m w k)
 | op=>dK N m o.dst fun d=>pop l m π t (fun v=>k (⟨d,n,π,t,v⟩::m) bs rs w) op
end
def isN(o:Option Value):Bool:=match o with
 | none=>true
 | some _=>false
def oV:List fW→Slots→(Slots→Prop)→Prop
 | [],l,f=>f l
 | ⟨s,_,p,t,v⟩::r,l,f=>match p with
  | []=>oV r l fun l'=>f ((s,v)::l')
  | _::_=>bif isN (look s l) then oV r l f else oV r l fun l'=>f ((s,gd t v)::l')
theorem mW:∀ {m:List fW} {l:Slots} {f:Slots→Prop},oV m l f→∃ l',f l'∧∀ q v,look q l'=some v→(∃ e∈m,e.s=q∧((e.p=[]∧v=e.v)∨v=gd e.t e.v))∨(look q l=some v∧∀ e∈m,e.s≠q)
 | [],l,_,h=>⟨l,h,fun _ _ h=>.inr ⟨h,by simp⟩⟩
 | ⟨s,j,p,t,v⟩::r,l,f,h=>by
  have key:∀ (v':Value),((p=[]∧v'=v)∨v'=gd t v)→(∃ l',f ((s,v')::l')∧∀ q v,look q l'=some v→(∃ e∈r,e.s=q∧((e.p=[]∧v=e.v)∨v=gd e.t e.v))∨(look q l=some v∧∀ e∈r,e.s≠q)) →
   ∃ l',f l'∧∀ q u,look q l'=some u→(∃ e∈(⟨s,j,p,t,v⟩:fW)::r,e.s=q∧((e.p=[]∧u=e.v)∨u=gd e.t e.v))∨(look q l=some u∧∀ e∈(⟨s,j,p,t,v⟩:fW)::r,e.s≠q):=by
   rintro v' hv ⟨l',h1,h2⟩;refine⟨_,h1,fun q u hq=>?_⟩;rw[bG] at hq
   cases e:q == s with
   | true=>
    rw[e] at hq;have e1:v'=u:=avU hq;subst e1;exact .inl ⟨_,avV ..,(by simpa using e:q=s).symm,hv⟩
   | false=>
    rw[e] at hq;rcases h2 q u hq with⟨e',h3,h4⟩|⟨h3,h4⟩
    ·exact .inl ⟨e',avT _ h3,h4⟩
    ·refine .inr ⟨h3,fun e' he'=>?_⟩;rcases avS.1 he' with rfl|he'
     ·exact fun h=>(by simpa using e:q≠s) h.symm
     ·exact h4 e' he'
  cases p with
  | nil=>exact key v (.inl ⟨rfl,rfl⟩) (mW (f:=fun l'=>f ((s,v)::l')) h)
  | cons x p=>
   have h:bif isN (look s l) then oV r l f else oV r l fun l'=>f ((s,gd t v)::l'):=h
   cases hn:isN (look s l) with
   | false=>
    rw[hn] at h;exact key _ (.inr rfl) (mW (f:=fun l'=>f ((s,gd t v)::l')) h)
   | true=>
    rw[hn] at h
    have hnone:look s l=none:=by
     cases hl:look s l with
     | none=>rfl
     | some u=>rw[hl] at hn;cases hn
    obtain⟨l',h1,h2⟩:=mW h;refine⟨l',h1,fun q u hq=>?_⟩;rcases h2 q u hq with⟨e',h3,h4⟩|⟨h3,h4⟩
    ·exact .inl ⟨e',avT _ h3,h4⟩
    ·refine .inr ⟨h3,fun e' he'=>?_⟩;rcases avS.1 he' with rfl|he'
     ·intro hs;have hs:s=q:=hs;rw[← hs,hnone] at h3;cases h3
     ·exact h4 e' he'
def vc(B:Nat)(w0:World)(N:Nat)(l:Slots):List Oper→Nat→List fW→List Bx→List Rw→World→(Slots→List Bx→List Rw→World→Prop)→Prop
 | [],_,m,bs,rs,w,K=>oV m l fun l'=>K l' bs rs w
 | o::r,n,m,bs,rs,w,K=>O2 B w0 N l o n m bs rs w fun m' bs' rs' w'=>vc B w0 N l r (n+1) m' bs' rs' w' K
structure Inv (ops:Array Oper) (a:Act) (N:Nat) (l:Slots) (m:List fW) (n:Nat):Prop where
 fr:Fr a N
 L:jv m n
 dst:∀ e∈m,(ops[e.j]?).bind (·.dst)=some e.s
 at_:∀ e∈m,At a e.s (gd e.t e.v)
 base:∀ q v,(∀ e∈m,e.s≠q)→look q l=some v→At a q v
section
variable {ops:Array Oper} {a a':Act} {N:Nat} {l:Slots} {m:List fW} {n:Nat} {o:Oper}
theorem Inv.start(F:Fs a N l):Inv ops a N l [] 0:=⟨F.fr,.nil 0,by simp,by simp,fun q v _ h=>F.at_ q v h⟩
theorem Inv.E(I:Inv ops a N l m n){x:Operand}{π:Pa}{v:Value}(h:EV l m π x v)(hc:∀ y∈π,Cond m y):a.eval x=v:=by
 cases x with
 | tmp q=>
  rcases h with⟨e,he,rfl,rfl,hs⟩|⟨h1,h2⟩
  ·have ht:e.t=true:=(I.L.tv e he).2 fun y hy=>hc y (z8 hs y hy)
   exact((I.at_ e he).on ht).ev
  ·exact(I.base q v h1 h2).ev
 | const u=>exact h
 | global=>exact h.elim
 | func f=>exact h
theorem Inv.put(I:Inv ops a N l m n)(ho:ops[n]?=some o){d:Nat}(hd:o.dst=some d)(hfr:jI d m=true){π:Pa}(hp:∀ x∈π,∃ e∈m,e.j=x.1){t:Bool}(ht:t=true↔∀ x∈π,Cond m x){v:Value}(p:Put a d (gd t v) a'):Inv ops a' N l (⟨d,n,π,t,v⟩::m) (n+1):=by
 have hne:=Sj hfr;refine⟨p.fr I.fr,I.L.put hp ht,?_,?_,?_⟩
 ·intro e he;rcases avS.1 he with rfl|he
  ·simp[ho,hd]
  ·exact I.dst e he
 ·intro e he;rcases avS.1 he with rfl|he
  ·exact p.now
  ·exact p.old (by simpa using hne e he) (I.at_ e he)
 ·intro q u hq hl;exact p.old (by have:=hq _ (avV ..);simp only at this;simpa using fun e=>this e.symm) (I.base q u (fun e he=>hq e (avT _ he)) hl)
theorem Inv.next(I:Inv ops a N l m n):Inv ops a N l m (n+1):=⟨I.fr,I.L.mono (Nat.le_succ n),I.dst,I.at_,I.base⟩
theorem Inv.fsK(I:Inv ops a N l m n){f:Slots→Prop}(h:oV m l f):∃ l',f l'∧Fs a N l':=by
 obtain⟨l',h1,h2⟩:=mW h;refine⟨l',h1,I.fr,fun q v hq=>?_⟩;rcases h2 q v hq with⟨e,he,rfl,h3⟩|⟨h3,h4⟩
 ·rcases h3 with⟨hp,rfl⟩|rfl
  ·exact(I.at_ e he).on ((I.L.tv e he).2 (by rw[hp];simp))
  ·exact I.at_ e he
 ·exact I.base q v h4 h3
theorem PL(hL:jv m n){g:Option (Nat×Bool)}{f:Pa→Bool→Prop}(h:gK m g f):∃ π t,f π t∧(∀ x∈π,∃ e∈m,e.j=x.1)∧(t=true↔∀ x∈π,Cond m x)∧(π=[]→t=true) ∧
 ((g=none∧t=true)∨∃ e∈m,∃ b c,g=some (e.j,b)∧e.v=.bool c∧(t=true↔e.t=true∧c=b)):=by
 unfold gK at h;split at h
 ·exact⟨_,_,h,by simp,by simp,fun _=>rfl,.inl ⟨rfl,rfl⟩⟩
 ·rename_i j b;obtain⟨e,he,rfl,h⟩:=acn h;split at h
  ·rename_i c hv;have h:=abP h;obtain⟨h1,h2,h3⟩:=hL.guard he hv (b:=b);exact⟨_,_,h,h1,h2,fun h=>(by cases h),.inr ⟨e,he,b,c,rfl,hv,h3⟩⟩
  ·exact h.elim
theorem ru{t:Bool}(hg:(o.guard=none∧t=true)∨∃ e∈m,∃ b c,o.guard=some (e.j,b)∧e.v=.bool c∧(t=true↔e.t=true∧c=b))
 (hd:∀ e∈m,(∃ b,o.guard=some (e.j,b))→(ops[e.j]?).bind (·.dst)=some e.s∧At a e.s (gd e.t e.v)):Region.wanted o (yielded ops a.tmps)=t:=by
 rcases hg with⟨h1,rfl⟩|⟨e,he,b,c,hg,hv,h3⟩
 ·exact j_ h1
 ·obtain⟨hds,hat⟩:=hd e he ⟨b,hg⟩;rw[hv] at hat
  cases t with
  | true=>
   obtain⟨h4,rfl⟩:=h3.1 rfl;exact Jy hg hds (hat.on h4)
  | false=>
   cases h4:e.t with
   | false=>
    rw[h4] at hat
    exact Rq hg hds hat
   | true=>
    have hne:¬ c=b:=fun e2=>by
     have:=h3.2 ⟨h4,e2⟩;cases this
    exact Er hg hds (hat.on h4) (by cases c<;>cases b<;>simp_all)
theorem agw(I:Inv ops a N l m n){f:Pa→Bool→Prop}(h:gK m o.guard f):∃ π t,f π t∧(∀ x∈π,∃ e∈m,e.j=x.1)∧(t=true↔∀ x∈π,Cond m x)∧Region.wanted o (yielded ops a.tmps)=t∧(π=[]→t=true):=by
 obtain⟨π,t,h1,h2,h3,h4,h5⟩:=PL I.L h;exact⟨π,t,h1,h2,h3,ru h5 fun e he _=>⟨I.dst e he,I.at_ e he⟩,h4⟩
theorem iG{dst:Option Nat}{f:Nat→Prop}(h:dK N m dst f):∃ d,dst=some d∧Nat.blt d N=true∧jI d m=true∧f d:=by
 unfold dK at h;split at h
 ·rename_i d
  cases h1:Nat.blt d N with
  | false=>rw[h1] at h;exact h.elim
  | true=>
   rw[h1] at h
   cases h2:jI d m with
   | false=>rw[h2] at h;exact h.elim
   | true=>rw[h2] at h;exact⟨d,rfl,h1,h2,h⟩
 ·exact h.elim
theorem ny{π:Pa}{p:Prop}(h:TK π p):π=[]∧p:=by
 unfold TK at h;split at h
 ·exact⟨rfl,h⟩
 ·exact h.elim
theorem bH{b:Bool}{p:Prop}(h:bif b then p else False):b=true∧p:=by
 cases b with
 | true=>exact⟨rfl,h⟩
 | false=>exact h.elim
end
section
variable {ops:Array Oper} {a:Act} {N:Nat} {l:Slots} {m:List fW} {n:Nat} {o:Oper} {B:Nat} {w0 w:World} {bs:List Bx} {rs:List Rw} {k:List fW→List Bx→List Rw→World→Prop} {rest:List Oper} {Q:Exit→Act→World→Prop} {π:Pa} {t:Bool} {d:Nat} {v:Value}
theorem ah9(hw:Region.wanted o (yielded ops a.tmps)=t)(hr:t=true→(execOp a.eval o).run Tryz.prog w=.ok (.value v) w)(hd:o.dst=some d)(hf:Fr a N)(hN:Nat.blt d N=true)(next:∀ a',Put a d (gd t v) a'→wpList Tryz.prog ops Q rest a' w):wpList Tryz.prog ops Q (o::rest) a w:=by
 cases t with
 | true=>exact oG hw (hr rfl) hd hf (by simpa using hN) next
 | false=>exact AX hw hd hf (by simpa using hN) next
theorem vf{a:Act}:∀ {xs:List Operand} {vs:List Value},vZ a xs vs→xs.map a.eval=vs
 | _,_,.nil=>rfl
 | _,_,.cons h r=>by rw[List.map_cons,vf r];exact congrArg (·::_) h
theorem jJ{a:Act}{xs:Array Operand}{vs:List Value}(h:vZ a xs.toList vs):xs.map a.eval=vs.toArray:=by
 apply Array.toList_inj.1;rw[Array.toList_map];exact vf h
theorem Inv.evs(I:Inv ops a N l m n){xs:List Operand}{vs:List Value}(h:Dn (EV l m π) xs vs)(hc:∀ y∈π,Cond m y):vZ a xs vs:=xV h hc fun _ _ _ _ h hc=>I.E h hc
theorem BK{f:FuncId}(h1:Nat.blt f NF=true)(h2:jw f TQ=false):Ag Tryz.prog f=true:=by
 have:=av3.1 ag0 f (by simpa using h1);rw[h2,Bool.or_false] at this;exact this
theorem Jz{f:FuncId}(hf:Ag Tryz.prog f=true){x:Operand}{xs:Array Operand}{ts:Array TypeId}{first cap args:Array Value}(ho:o.op=.call { callee:=.value x,args:=xs,argTypes:=ts })(hx:a.eval x=.func (.func f) first cap)(ha:first++xs.map a.eval++cap=args):(execOp a.eval o).run Tryz.prog w=.ok (.enter f args) w:=by
 unfold Ag at hf;split at hf
 ·rename_i fn hfn;rw[av4,Bool.not_eq_true'] at hf;obtain⟨c,hc⟩:=Option.isSome_iff_exists.1 hf.2;exact Gp ho hx hfn hf.1 hc ha
 ·cases hf
theorem abl(I:Inv ops a N l m n)(M:aW B w0 w bs rs)(ho:ops[n]?=some o)(hp:∀ x∈π,∃ e∈m,e.j=x.1)(ht:t=true↔∀ x∈π,Cond m x)(hw:Region.wanted o (yielded ops a.tmps)=t)(h0:π=[]→t=true){f:FuncId}{vs:List Value}
 (h:cK B w0 N o n m bs rs w k π t f vs) (hrun:t=true→Ag Tryz.prog f=true→(execOp a.eval o).run Tryz.prog w=.ok (.enter f vs.toArray) w)
 (next:∀ a' m' bs' rs' w',Inv ops a' N l m' (n+1)→aW B w0 w' bs' rs'→k m' bs' rs' w'→wpList Tryz.prog ops Q rest a' w'):wpList Tryz.prog ops Q (o::rest) a w:=by
 unfold cK at h
 cases hm:jw f TQ with
 | true=>rw[hm] at h;exact h.elim
 | false=>
  rw[hm] at h;obtain⟨hb,h⟩:=bH h;obtain⟨d,hd,hN,hfr,h⟩:=iG h;have hok:=BK hb hm;rcases h with⟨v,h⟩|h
  ·obtain⟨h1,h2⟩:=h_ h
   cases t with
   | true=>
    refine kN hw (hrun rfl hok) (yd (h1 rfl)) hd I.fr (by simpa using hN) fun u a' w' h3 p=>?_
    obtain⟨rfl,h3⟩:=h3;exact next a' _ _ _ _ (I.put ho hd hfr hp ht p) (M.keep h3) (h2 w' (M.keep h3))
   | false=>exact AX hw hd I.fr (by simpa using hN) fun a' p=>next a' _ _ _ _ (I.put ho hd hfr hp ht p) M (h2 w M)
  ·split at h
   ·obtain⟨R,h1,h2⟩:=h;obtain rfl:=h0 rfl;refine kN hw (hrun rfl hok) h1 hd I.fr (by simpa using hN) fun u a' w' h3 p=>?_
    obtain⟨bs',rs',M',h4⟩:=h2 u w' h3;exact next a' _ _ _ _ (I.put (t:=true) (v:=u) ho hd hfr (by simp) (by simp) p) M' h4
   ·obtain⟨R,h1,h2,h5⟩:=h
    cases t with
    | true=>
     refine kN hw (hrun rfl hok) (h1 rfl) hd I.fr (by simpa using hN) fun u a' w' h3 p=>?_
     obtain⟨bs',rs',M',h4⟩:=h5 u w' h3;exact next a' _ _ _ _ (I.put (t:=true) (v:=u) ho hd hfr hp ht p) M' h4
    | false=>
     obtain⟨v,hv⟩:=h2 rfl;obtain⟨bs',rs',M',h4⟩:=h5 v w hv;exact AX hw hd I.fr (by simpa using hN) fun a' p=>next a' _ _ _ _ (I.put (t:=false) (v:=v) ho hd hfr hp ht p) M' h4
theorem XE(I:Inv ops a N l m n)(ho:ops[n]?=some o)(hw:Region.wanted o (yielded ops a.tmps)=true)(h:FB B w0 N l o n m w k)
 (next:∀ a' m' bs' rs' w',Inv ops a' N l m' (n+1)→aW B w0 w' bs' rs'→k m' bs' rs' w'→wpList Tryz.prog ops Q rest a' w'):wpList Tryz.prog ops Q (o::rest) a w:=by
 obtain⟨vs,h1,h⟩:=kF h;have oF:=I.evs h1 (by simp);split at h
 ·rename_i d hd;obtain⟨hN,h⟩:=bH h;obtain⟨hfr,R,h2,h3⟩:=bH h;obtain⟨v,w',h4,h5⟩:=h2 a o rfl rfl oF;obtain⟨bs',rs',M',h6⟩:=h3 v w' h5;exact oG hw h4 hd I.fr (by simpa using hN) fun a' p=>next a' _ _ _ _ (I.put (t:=true) (v:=v) ho hd hfr (by simp) (by simp) p) M' h6
 ·rename_i hd;obtain⟨R,h2,h3⟩:=h;obtain⟨w',h4,h5⟩:=h2 a o rfl rfl oF;obtain⟨bs',rs',M',h6⟩:=h3 w' h5;exact XW hw h4 hd (next a _ _ _ _ I.next M' h6)
theorem Vu{D:TD}{g off:Nat}{kk:Value→Prop}(M:aW B w0 w bs rs)(h:ldK π t bs w D g off kk){ty:TypeId}(hD:jB Tryz.prog ty D=true):∃ v,kk v∧(t=true→∀ w',avX w.heap.size w w'→∀ (a:Act) (o:Oper) (x:Operand),o.op=.load ty x→a.eval x=.pointer (some ⟨g,off,none⟩)→(execOp a.eval o).run Tryz.prog w'=.ok (.value v) w'):=by
 unfold ldK at h
 cases h1:D.one' with
 | true=>
  rw[h1] at h;obtain⟨dd,hu,hd⟩:=Uw hD h1;rcases h with⟨i,h⟩|⟨v,h⟩
  ·obtain⟨⟨b,T,cs⟩,hb,h⟩:=gL h;obtain⟨hT,h⟩:=bH h;obtain⟨h2,h3⟩:=h_ h;obtain⟨v,h4,h5⟩:=gL h3;refine⟨v,h5,fun bE w' hb' a o x ho hx=>?_⟩;obtain rfl:=h2 bE;exact b_ ho hx hu (by cases dd<;>first|rfl|cases hd) (((M.keep hb').b i hb hT).cell off▸by simpa using h4)
  ·obtain⟨h2,h3⟩:=h_ h;exact⟨v,h3,fun bE w' hb' a o x ho hx=>b_ ho hx hu (by cases dd<;>first|rfl|cases hd) (avN hb' (h2 bE))⟩
 | false=>
  rw[h1] at h;obtain⟨dd,hu,hd,hs⟩:=z7 hD h1;rcases h with⟨i,h⟩|⟨cs,h⟩
  ·obtain⟨⟨b,T,cs⟩,hb,h⟩:=gL h;obtain⟨hT,h⟩:=bH h;obtain⟨h2,h3⟩:=h_ h;obtain⟨h4,h5⟩:=Ku h3;obtain⟨h6,h7⟩:=I6 h5;refine⟨_,h7,fun bE w' hb' a o x ho hx=>?_⟩;obtain rfl:=h2 bE;refine gV _ ho hx hu (by cases dd<;>first|rfl|cases hd) (hs.trans ?_) (AZ ((M.keep hb').b i hb hT) ?_)
   ·rw[av5,Nat.min_eq_left h6]
   ·rw[av5,Nat.min_eq_left h6]
  ·obtain⟨h2,h3⟩:=h_ h;obtain⟨h4,h5⟩:=iK h3;exact⟨_,h5,fun bE w' hb' a o x ho hx=>gV cs ho hx hu (by cases dd<;>first|rfl|cases hd) (hs.trans (by rw[h4])) fun j u hu=>avN hb' (h2 bE j u hu)⟩
theorem YD{w':World}{B e n cap kk off j g:Nat}{xs l:List Value}{cur:Array Value}(hg:B≤g)(hnc:n≤cap)(hcm:cap≤maxLen)(hcs:cur.size=cap*kk)(ht:cur.toList.take (n*kk)=xs)(hoff:off=j*kk)(hj:j<n)(hl:l.length=kk)
 (h':Whole w' g e (splice cur off l)):w'.ownsRow B e kk (.slice (some ⟨g,0,none⟩) n cap) n (xs.take off++l++xs.drop (off+kk)):=by
 have h1:off+kk≤n*kk:=by rw[hoff,← Nat.succ_mul];exact av6 _ hj
 have h2:n*kk≤cap*kk:=av6 _ hnc;have hx:xs.length=n*kk:=by rw[← ht,av5,Array.length_toList,hcs];omega
 refine⟨by simp[hx,hl];omega,.inr ⟨g,cap,_,rfl,hg,h',hnc,hcm,by rw[yK,hcs],?_⟩⟩;rw[jQ _ _ _ (by rw[hcs,hl];omega),hl,← ht];have hlen:(cur.toList.take off++l).length=off+kk:=by rw[avO,av5,Array.length_toList,hl,hcs];omega
 rw[List.take_append,List.take_of_length_le (by rw[hlen];omega),hlen,List.take_take,Nat.min_eq_left (by omega),List.drop_take]
theorem abS{D:TD}{g off:Nat}{kk:List Rw→Prop}(M:aW B w0 w bs rs)(h:stR B w0 rs D g off v kk){ty:TypeId}(hD:jB Tryz.prog ty D=true)(hw:Region.wanted o (yielded ops a.tmps)=true){x y:Operand}(ho:o.op=.store ty x y)(hx:a.eval x=.pointer (some ⟨g,off,none⟩))(hy:a.eval y=v)(hd:o.dst=none)
 (next:∀ rs' w',aW B w0 w' bs rs'→kk rs'→wpList Tryz.prog ops Q rest a w'):wpList Tryz.prog ops Q (o::rest) a w:=by
 obtain⟨i,j,e,n,cap,xs,⟨hi,hoff,hj⟩,h1,hW,h⟩:=h;obtain⟨h2,h3⟩:=iK h;have h4:=Aa h3;obtain⟨g',cap',cur,hv,hg,hH,hn,hm,hs,ht⟩:=qz (M.r i hi) (Nat.zero_lt_of_lt hj);injection hv with e1 e2 e3;injection e1 with e1;injection e1 with e1;subst e1 e3
 have hfit:off+(bg v).length≤cur.size:=by
  have h5:off+jc D≤n*jc D:=by rw[hoff,← Nat.succ_mul];exact av6 _ hj
  rw[h2,hs];exact avY h5 (av6 _ hn)
 exact pX hw ho hx hy hH (lH v) hfit ((z6 hD).trans (by rw[h2])) h1 rfl hd fun w' s h'=>next _ w' (M.grow i hi (YD hg hn hm hs ht hoff hj h2 h') s.grown (.inl rfl) hW) h4
theorem abT{D:TD}{g off:Nat}{kk:List Bx→Prop}(M:aW B w0 w bs rs)(h:stK B w0 bs D g off v kk){ty:TypeId}(hD:jB Tryz.prog ty D=true)(hw:Region.wanted o (yielded ops a.tmps)=true){x y:Operand}(ho:o.op=.store ty x y)(hx:a.eval x=.pointer (some ⟨g,off,none⟩))(hy:a.eval y=v)(hd:o.dst=none)
 (next:∀ bs' w',aW B w0 w' bs' rs→kk bs'→wpList Tryz.prog ops Q rest a w'):wpList Tryz.prog ops Q (o::rest) a w:=by
 obtain⟨i,h⟩:=h;obtain⟨⟨b,T,cs⟩,hb,h⟩:=gL h;obtain⟨hT,h⟩:=bH h
 have key:(b=g∧(bg v).all (·.oneCell')=true)→(Nat.beq T 52=false∨w0.heap.size≤B)→qD (bg v) (jc D) (Jc cs.toList off (bg v) fun cs'=>Bo bs i (b,T,cs'.toArray) kk)→wpList Tryz.prog ops Q (o::rest) a w:=by
  rintro⟨rfl,h1⟩ hW h;obtain⟨h2,h3⟩:=iK h;obtain⟨h4,h5⟩:=Yh h3;have h6:=Aa h5;rw[Array.length_toList] at h4
  have hsp:splice cs off (bg v)=(cs.toList.take off++bg v++cs.toList.drop (off+(bg v).length)).toArray:=by
   apply Array.toList_inj.1;rw[jQ _ _ _ h4]
  refine pX hw ho hx hy (M.b i hb hT) (lH v) h4 ((z6 hD).trans (by rw[h2])) h1 hsp hd fun w' s h'=>next _ w' (M.sto i hb s h' hT hW) h6
 cases hq:Nat.beq T 52 with
 | true=>
  rw[hq] at h;obtain⟨⟨h1,h2⟩,h3⟩:=h;exact key h1 (.inr h2) h3
 | false=>
  rw[hq] at h;exact key h.1 (.inl hq) h.2
end
theorem AQ(off:Nat):∀ (l:List Value) (j:Nat) (cs:Array Value),(l.zipIdx j).foldl (fun cs (c,j)=>cs.setIfInBounds (off+j) c) cs=splice cs (off+j) l
 | [],_,_=>rfl
 | v::r,j,cs=>by
  rw[List.zipIdx_cons,List.foldl_cons,AQ off r (j+1)];rfl
def CO:Nat→List Value→List (Nat×Value)
 | _,[]=>[]
 | i,v::r=>(i,v)::CO (i+1) r
theorem Bj(cs:Array Value):∀ (o:Nat) (l r:List Value),splice (splice cs o l) (o+l.length) r=splice cs o (l++r)
 | _,[],_=>rfl
 | o,v::l,r=>by
  show splice (splice (cs.setIfInBounds o v) (o+1) l) (o+(l.length+1)) r=splice (cs.setIfInBounds o v) (o+1) (l++r);rw[← Bj _ (o+1) l r];congr 1;omega
theorem Ki(k:Nat):∀ (vs:List Value) (i:Nat) (cells:Array Value),(∀ v∈vs,v.cells.size=k)→(i+vs.length)*k≤cells.size →
 Instr.fill (fun i=>some (i*k,k)) cells (CO i vs)=some (splice cells (i*k) (vs.flatMap fun v=>v.cells.toList))
 | [],_,_,_,_=>rfl
 | v::r,i,cells,h,hs=>by
  have hv:=h v (avV ..)
  have hk:i*k+k≤cells.size:=by
   refine avY ?_ hs;rw[← Nat.succ_mul];exact av6 _ (by simp)
  have hst:v.cells.zipIdx.foldl (fun cs (c,j)=>cs.setIfInBounds (i*k+j) c) cells=splice cells (i*k) v.cells.toList:=by
   rw[← Array.foldl_toList,Array.toList_zipIdx];exact AQ (i*k) v.cells.toList 0 cells
  show(if v.cells.size≠k||i*k+v.cells.size>cells.size then none else Instr.fill (fun i=>some (i*k,k)) (v.cells.zipIdx.foldl (fun cs (c,j)=>cs.setIfInBounds (i*k+j) c) cells) (CO (i+1) r))=_
  rw[hst,if_neg (by rw[hv];simp;omega),Ki k r (i+1) _ (fun u hu=>h u (avT _ hu)) (by
   rw[yK];refine avY (Nat.le_of_eq ?_) hs;congr 1;simp only[List.length_cons];omega)]
  rw[List.flatMap_cons,← Bj];have:(i+1)*k=i*k+v.cells.toList.length:=by rw[Nat.succ_mul,Array.length_toList,hv]
  rw[this]
theorem Hp{kk:Nat}:∀ {vs:List Value} {f:List Value→Prop},ZM kk vs f→f (vs.flatMap fun v=>v.cells.toList)∧∀ v∈vs,v.cells.size=kk
 | [],_,h=>⟨h,by simp⟩
 | v::r,f,h=>by
  have h1:=vH h;obtain⟨h2,h3⟩:=iK h1;obtain⟨h4,h5⟩:=Hp h3;refine⟨by rw[List.flatMap_cons];exact iL h4,fun u hu=>?_⟩;rcases avS.1 hu with rfl|hu
  ·simpa using h2
  ·exact h5 u hu
theorem Ej{a:Act}:∀ {i:Nat} {ps:List (Nat×Operand)} {vs:List Value},tu i ps=true→vZ a (ps.map (·.2)) vs→ps.map (fun(i,x)=>(i,a.eval x))=CO i vs
 | _,[],_,_,h=>by cases h;rfl
 | i,(j,x)::r,vs,hp,h=>by
  cases h with
  | cons h1 h2=>
   unfold tu at hp
   cases hb:Nat.beq i j with
   | false=>rw[hb] at hp;cases hp
   | true=>
    rw[hb] at hp;rw[List.map_cons,Ej hp h2,← av7 hb];simp only[CO,h1]
theorem ZB{a:Act}{xs:List Operand}{vs:List Value}(h:vZ a xs vs):vs.length=xs.length:=by
 rw[← vf h,av8]
section
variable {ops:Array Oper} {a:Act} {N:Nat} {l:Slots} {m:List fW} {n:Nat} {o:Oper} {B:Nat} {w0 w:World} {bs:List Bx} {rs:List Rw} {k:List fW→List Bx→List Rw→World→Prop} {rest:List Oper} {Q:Exit→Act→World→Prop}
theorem rB{ty len e kk P8:Nat}{parts:Array (Nat×Operand)}(ho:o.op=.buildSlice ty len parts)(hD:jB Tryz.prog ty (.sl e kk P8)=true)(hp:tu 0 parts.toList=true)(hl:parts.toList.length=len)(h0:0<len*kk)(h1:len*kk≤2^24)
 {vs:List Value} (oF:vZ a (parts.toList.map (·.2)) vs) (hc:∀ v∈vs,v.cells.size=kk) :
 (execOp a.eval o).run Tryz.prog w=.ok (.value (.slice (some ⟨w.heap.size,0,none⟩) len len)) (w.alloc (.cells (vs.flatMap fun v=>v.cells.toList).toArray e)):=by
 obtain⟨hu,hi⟩:=D9 hD;obtain⟨ti,z,i1,i2,i3,i4,i5⟩:=kG hi;have hvl:vs.length=len:=by rw[ZB oF,av8,hl]
 have hcl:(vs.flatMap fun v=>v.cells.toList).length=len*kk:=by
  rw[← hvl];clear oF hvl
  induction vs with
  | nil=>simp
  | cons v r ih=>
   rw[List.flatMap_cons,avO,ih (fun u hu=>hc u (avT _ hu)),Array.length_toList,hc v (avV ..),List.length_cons,Nat.succ_mul,Nat.add_comm]
 refine oZ (z:=z) (pv:=(CO 0 vs).toArray) ho hu (Cl hi) (by rw[i1];exact i2) h1 h0 ?_ ?_
 ·apply Array.toList_inj.1;rw[Array.toList_map];exact Ej hp oF
 ·have hsz:((Array.range (len*kk)).map (z.cells[·%z.cells.size]!)).size=len*kk:=by simp
  show Instr.fill _ _ (CO 0 vs)=_;rw[Ki kk vs 0 _ hc (by rw[hsz,Nat.zero_add,hvl];exact Nat.le_refl _),Nat.zero_mul,jA _ _ (by rw[hsz,hcl])]
theorem Mh{ty e kk P8:Nat}(ho:o.op=.buildSlice ty 0 #[])(hD:jB Tryz.prog ty (.sl e kk P8)=true):
 (execOp a.eval o).run Tryz.prog w=.ok (.value (.slice (some ⟨w.heap.size,0,none⟩) 0 0)) (w.alloc (.cells #[] e)):=by
 obtain⟨hu,hi⟩:=D9 hD;obtain⟨ti,z,i1,-⟩:=kG hi
 have h:(Instr.buildSlice ty 0 #[]).run Tryz.prog w=.ok (.slice (some ⟨w.heap.size,0,none⟩) 0 0) (w.alloc (.cells #[] e)):=by
  simp[Instr.buildSlice,run_underlying hu,sizeOf,typeInfo,i1,newRow,Instr.fill];exact congrArg (fun x=>w.alloc (Obj.cells x e)) (Array.eq_empty_of_size_eq_zero (by simp))
 unfold execOp;simp only[ho,avQ,Array.map_empty,h,Result.andThen_ok,Sem.run_pure]
theorem z_(I:Inv ops a N l m n)(M:aW B w0 w bs rs)(ho:ops[n]?=some o)(h:O2 B w0 N l o n m bs rs w k)
 (next:∀ a' m' bs' rs' w',Inv ops a' N l m' (n+1)→aW B w0 w' bs' rs'→k m' bs' rs' w'→wpList Tryz.prog ops Q rest a' w'):wpList Tryz.prog ops Q (o::rest) a w:=by
 obtain⟨π,t,h,hp,ht,hw,h0⟩:=agw I h
 have hval:∀ {d:Nat} {v:Value},o.dst=some d→Nat.blt d N=true→jI d m=true→(t=true→(execOp a.eval o).run Tryz.prog w=.ok (.value v) w)→k (⟨d,n,π,t,v⟩::m) bs rs w→wpList Tryz.prog ops Q (o::rest) a w:=
  fun hd hN hfr hr hk=>ah9 hw hr hd I.fr hN fun a' p=>next a' _ _ _ _ (I.put ho hd hfr hp ht p) M hk
 have VY:∀ {op:Op} {d:Nat},o.op=op→o.dst=some d→Nat.blt d N=true→jI d m=true→pop l m π t (fun v=>k (⟨d,n,π,t,v⟩::m) bs rs w) op→wpList Tryz.prog ops Q (o::rest) a w:=fun hop hd hN hfr h=>by
  obtain⟨v,h1,h2⟩:=Mu I.L ht h;exact hval hd hN hfr (fun bE=>h2 a w o hop (fun x _ π' v h hc=>I.E h hc) bE) h1
 have hnew:∀ {d:Nat} {f:Nat→Value} {ty:TypeId} {cs:Array Value},π=[]→Nat.blt ty 9000=true→(execOp a.eval o).run Tryz.prog w=.ok (.value (f w.heap.size)) (w.alloc (.cells cs ty))→o.dst=some d→Nat.blt d N=true→jI d m=true →
  (∀ g w',aW B w0 w' ((g,ty,cs)::bs) rs→k (⟨d,n,[],true,f g⟩::m) ((g,ty,cs)::bs) rs w')→wpList Tryz.prog ops Q (o::rest) a w:=fun hπ hty hr hd hN hfr hk=>
  AY (hw.trans (h0 hπ)) hr hd I.fr (by simpa using hN) fun g a' w' nn p=>next a' _ _ _ _ (I.put (t:=true) ho hd hfr (by simp) (by simp) p) (M.new nn hty) (hk g w' (M.new nn hty))
 split at h
 ·rename_i ty x hop;obtain⟨d,hd,hN,hfr,h⟩:=iG h;obtain⟨u,h1,h⟩:=ct h;rcases oL h with⟨g,off,rfl,hq⟩|h
  case inr=>
   obtain⟨h2,h3⟩:=Wy h;exact hval hd hN hfr (fun bE=>(h2 bE).elim) h3
  obtain⟨D,hD,h⟩:=j5 hq;obtain⟨v,h2,h3⟩:=Vu M h hD;exact hval hd hN hfr (fun bE=>h3 bE w (Below.refl _ _) a o x hop (I.E h1 (ht.1 bE))) h2
 ·rename_i ty x y hop;obtain⟨rfl,h⟩:=ny h;obtain rfl:=h0 rfl;split at h
  ·rename_i hd;rcases h with h|h|h
   ·obtain⟨u,h1,h⟩:=ct h;obtain⟨v,h2,h⟩:=ct h;rcases oL h with⟨g,off,rfl,hq⟩|h
    case inr=>exact h.elim
    obtain⟨D,hD,h⟩:=j5 hq;exact abT M h hD hw hop (I.E h1 (by simp)) (I.E h2 (by simp)) hd fun bs' w' M' h=>next a _ _ _ _ I.next M' (h w' M')
   ·obtain⟨u,h1,h⟩:=ct h;obtain⟨v,h2,h⟩:=ct h;rcases oL h with⟨g,off,rfl,hq⟩|h
    case inr=>exact h.elim
    obtain⟨D,hD,h⟩:=j5 hq;exact abS M h hD hw hop (I.E h1 (by simp)) (I.E h2 (by simp)) hd fun rs' w' M' h=>next a _ _ _ _ I.next M' (h w' M')
   ·exact XE I ho hw h next
  ·exact h.elim
 ·rename_i ty hop;obtain⟨hπ,h⟩:=ny h;obtain⟨d,hd,hN,hfr,z,hz,h⟩:=iG h;obtain⟨hty,h⟩:=bH h;exact hnew (f:=fun n=>.pointer (some ⟨n,0,none⟩)) hπ hty (vn hop hz) hd hN hfr (vH h)
 ·rename_i ty x hop;obtain⟨hπ,h⟩:=ny h;subst hπ;obtain⟨d,hd,hN,hfr,h⟩:=iG h;obtain⟨u,h1,h⟩:=ct h;obtain⟨hty,h⟩:=bH h;exact hnew (f:=fun n=>.pointer (some ⟨n,0,none⟩)) rfl hty (P0 hop (I.E h1 (by simp))) hd hN hfr (vH h)
 ·rename_i ty len parts hop;obtain⟨hπ,h⟩:=ny h;subst hπ;obtain⟨d,hd,hN,hfr,h⟩:=iG h;obtain⟨D,hD,h⟩:=j5 h;split at h
  ·obtain⟨hps,h⟩:=bH h;obtain⟨hl,hz⟩:=iK h
   cases b0:Nat.blt 0 (len*_) with
   | false=>
    rw[b0,cond_false] at hz;obtain⟨e0,hz⟩:=bH hz;obtain⟨b2,hy⟩:=bH hz;obtain rfl:len=0:=av7 e0;obtain rfl:parts=#[]:=by apply Array.toList_inj.1;exact List.eq_nil_of_length_eq_zero hl
    exact hnew (f:=fun n=>.slice (some ⟨n,0,none⟩) 0 0) rfl b2 (Mh hop hD) hd hN hfr hy
   | true=>
    rw[b0] at hz;obtain⟨b1,hz⟩:=bH hz;obtain⟨b2,hz⟩:=bH hz;obtain⟨vs,h1,hz⟩:=kF hz;obtain⟨h2,h3⟩:=Hp hz;exact hnew (f:=fun n=>.slice (some ⟨n,0,none⟩) len len) rfl b2 (rB hop hD hps hl (by simpa using b0) (by simpa using b1) (I.evs h1 (by simp)) h3) hd hN hfr h2
  ·exact h.elim
 ·rename_i c hop;split at h
  ·rename_i f qF;obtain⟨vs,h1,h⟩:=kF h;refine abl I M ho hp ht hw h0 h (fun bE hok=>?_) next
   have e3:c={ callee:=.value (.func f),args:=c.args,argTypes:=c.argTypes }:=by cases c;simp only at qF;rw[qF]
   exact rE hok (hop.trans (congrArg Op.call e3)) (jJ (I.evs h1 (ht.1 bE)))
  ·rename_i y hy qF;obtain⟨u,h1,h⟩:=ct h;split at h
   ·rename_i f first cap
    obtain⟨vs,h2,h⟩:=kF h;have h:=iL (iL h);refine abl I M ho hp ht hw h0 h (fun bE hok=>?_) next
    have e3:c={ callee:=.value y,args:=c.args,argTypes:=c.argTypes }:=by cases c;simp only at qF;rw[qF]
    refine Jz hok (hop.trans (congrArg Op.call e3)) (I.E h1 (ht.1 bE)) ?_;rw[jJ (I.evs h2 (ht.1 bE))];apply Array.toList_inj.1;simp
   ·exact h.elim
  ·rename_i qF;obtain⟨rfl,h⟩:=ny h;obtain rfl:=h0 rfl;split at h
   ·rename_i s x hargs;split at h
    ·rename_i ty ty' aja;obtain⟨hty,hq⟩:=bH h;obtain rfl:=av7 hty;obtain⟨d,hd,hN,hfr,h⟩:=iG hq;obtain⟨v,h1,h⟩:=ct h;obtain⟨u,h2,h⟩:=ct h;obtain⟨D,hD,h⟩:=j5 h;split at h
     ·rename_i e kk P8;obtain⟨hkk,SS,Q8,i,nn,xs,mm,news,hM,hri,hsl,h63,hW,h⟩:=bH h;have e1:c.args=#[s,x]:=Array.toList_inj.1 hargs;have e2:c.argTypes=#[ty,ty]:=Array.toList_inj.1 aja;have e3:c={ callee:=.builtin .append,args:=#[s,x],argTypes:=#[ty,ty] }:=by cases c;simp only at qF e1 e2;rw[qF,e1,e2]
      obtain⟨hu,hi⟩:=D9 hD;exact kpP hw (hop.trans (congrArg Op.call e3)) hu hi hkk (hM M) i hri (I.E h1 (by simp)) (I.E h2 (by simp)) hsl h63 hd I.fr hN (fun v' a' w' p M'=>next a' _ _ _ _ (I.put (t:=true) (v:=v') ho hd hfr (by simp) (by simp) p) M' (Aa (h v' w') M')) hW
     ·exact h.elim
    ·exact h.elim
   ·exact h.elim
  ·obtain⟨d,hd,hN,hfr,h⟩:=iG h;exact VY hop hd hN hfr h
  ·obtain⟨rfl,h⟩:=ny h;obtain rfl:=h0 rfl;exact XE I ho hw h next
 all_goals first
  | (obtain⟨rfl,h⟩:=ny h
     obtain rfl:=h0 rfl;exact XE I ho hw h next)
  | (obtain⟨d,hd,hN,hfr,h⟩:=iG h
     exact VY rfl hd hN hfr h)
theorem aak{K:Slots→List Bx→List Rw→World→Prop}:∀ {L:List Oper} {n:Nat} {a:Act} {m:List fW} {bs:List Bx} {rs:List Rw} {w:World},(∀ i o,L[i]?=some o→ops[n+i]?=some o)→Inv ops a N l m n→aW B w0 w bs rs→vc B w0 N l L n m bs rs w K →
 (∀ a l' bs' rs' w',Fs a N l'→aW B w0 w' bs' rs'→K l' bs' rs' w'→Q .normal a w')→wpList Tryz.prog ops Q L a w
 | [],_,_,_,_,_,_,_,I,M,h,next=>by
  obtain⟨l',h1,F⟩:=I.fsK h;exact av2 (next _ _ _ _ _ F M h1)
 | o::r,n,_,_,_,_,_,rO,I,M,h,next=>by
  refine z_ I M (by simpa using rO 0 o rfl) h fun a' m' bs' rs' w' I' M' h'=>?_
  exact aak (fun i o hi=>by have:=rO (i+1) o (by simpa using hi);rwa [show n+1+i=n+(i+1) by omega]) I' M' h' next
theorem Fb{K:Slots→List Bx→List Rw→World→Prop}{C:Act→World→Prop}:∀ {L:List Oper} {n:Nat} {a:Act} {m:List fW} {bs:List Bx} {rs:List Rw} {w:World},(∀ i o,L[i]?=some o→ops[n+i]?=some o)→Inv ops a N l m n→aW B w0 w bs rs→vc B w0 N l L n m bs rs w K →
 (∀ a l' bs' rs' w',Fs a N l'→aW B w0 w' bs' rs'→K l' bs' rs' w'→C a w')→dw Tryz.prog ops C L a w
 | [],_,_,_,_,_,_,_,I,M,h,next=>by
  obtain⟨l',h1,F⟩:=I.fsK h;exact next _ _ _ _ _ F M h1
 | o::r,n,_,_,_,_,_,rO,I,M,h,next=>by
  intro Q' hQ;refine z_ I M (by simpa using rO 0 o rfl) h fun a' m' bs' rs' w' I' M' h'=>?_
  exact av2 (hQ _ _ (Fb (fun i o hi=>by have:=rO (i+1) o (by simpa using hi);rwa [show n+1+i=n+(i+1) by omega]) I' M' h' next))
end
def blk:Value→Option Nat
 | .pointer (some p)=>some p.block
 | .slice (some p) _ _=>some p.block
 | _=>none
def agZ(w:World)(v:Value):Prop:=∀ b,blk v=some b→w.heap.size≤b
def Far(v u:Value):Prop:=∀ b,blk v=some b→blk u≠some b
theorem Far.symm{v u:Value}(h:Far v u):Far u v:=fun b hb hv=>h b hv hb
section
variable {Q':Exit→Act→World→Prop} {a:Act} {w:World} {g:Good} {s:Nat} {p:Prop}
theorem pa(hP:∀ v a' w',avX w.heap.size w w'→g v w'→(p→agZ w v)→Put a s v a'→Q' .normal a' w'):∀ v a' w',avX w.heap.size w w'→(fun v u=>g v u∧agZ w v:Good) v w'→Put a s v a'→Q' .normal a' w':=fun v a' w' h1 h2 h3=>hP v a' w' h1 h2.1 (fun _=>h2.2) h3
end
def afo(o:Oper):Nat:=match o.op with
 | .assign _=>3
 | .move _|.pick _ _ _|.nilCheck _|.load _ _|.binOp _ _ _ _ _|.unOp _ _ _|.fieldAddr _ _ _|.indexAddr _ _ _|.index _ _ _|.extract _ _|.convert _ _ _|.makeFunc _ _ _|.build _ _|.field _ _ _|.buildSlice _ _ _|.slice _ _ _ _ _=>0
 | .alloc _|.box _ _=>1
 | .call c=>(match c.callee with|.value _=>0|.builtin .len=>0|.builtin .min=>0|.builtin .max=>0|_=>2)
 | _=>2
def mS(d:Nat):List Operand→Bool
 | []=>false
 | .tmp q::r=>bif Nat.beq d q then true else mS d r
 | _::r=>mS d r
def aas(o:Oper):List (List Operand)→Bool
 | []=>false
 | x::r=>(match o.dst with|some d=>bif mS d x then true else aas o r|none=>false)
def dkN:Bool→List (List Operand)→List Oper→Nat
 | _,_,[]=>0
 | u,seen,o::r=>match afo o with
  | 0=>dkN u (iF o.op::seen) r+1
  | 1=>(match u with|true=>0|false=>dkN true (iF o.op::seen) r+1)
  | 3=>bif aas o seen then 0 else dkN u (iF o.op::seen) r+1
  | _=>0
def iC(k:Nat)(L:List Oper):List Nat:=(L.take k).filterMap (·.dst)
def adJ(slots:List Nat)(o:Oper):Operand→Bool
 | .tmp q=>!slots.contains q||o.after.toList.any fun e=>Region.binds .any e&&(slots[e.on]? == some q)
 | _=>true
def Gs(slots:List Nat)(o:Oper):Bool:=(iF o.op).all (adJ slots o)&&(match o.guard with
 | none=>true
 | some (j,_)=>o.after.toList.any fun e=>Region.binds .any e&&(e.on == j))
def agK(N:Nat)(L:List Oper)(k:Nat):Bool:=
 ordered 0 L&&(wL k L&&((L.take k).all (fun o=>o.dst.isSome)&&((L.take k).all (Gs (iC k L))&&((iC k L).all (fun s=>decide (s<N))&&decide (iC k L).Nodup))))
def Wz(ds:List Nat):Slots→(Slots→Prop)→Prop
 | [],f=>f []
 | (s,v)::r,f=>bif jw s ds then Wz ds r f else Wz ds r fun l=>f ((s,v)::l)
theorem oh{x:Nat}{l:List Nat}:jw x l=true↔x∈l:=by
 induction l with
 | nil=>simp[jw]
 | cons y r ih=>
  unfold jw
  cases h:Nat.beq x y with
  | true=>simp[av7 h]
  | false=>
   have hne:x≠y:=fun e=>by rw[e,Nat.beq_refl] at h;cases h
   simp[ih,hne]
theorem Cy{ds:List Nat}:∀ {l:Slots} {f:Slots→Prop},Wz ds l f→∃ l',f l'∧∀ q,look q l'=bif jw q ds then none else look q l
 | [],f,h=>⟨[],h,fun q=>by cases jw q ds<;>rfl⟩
 | (s,v)::r,f,h=>by
  unfold Wz at h
  cases hm:jw s ds with
  | true=>
   rw[hm] at h;obtain⟨l',h1,h2⟩:=Cy h;refine⟨l',h1,fun q=>?_⟩;rw[h2,bG]
   cases hq:jw q ds with
   | true=>rfl
   | false=>
    have:(q == s)=false:=by
     cases e:q == s with
     | false=>rfl
     | true=>have e':q=s:=by simpa using e
             rw[e',hm] at hq;cases hq
    rw[this];rfl
  | false=>
   rw[hm] at h;obtain⟨l',h1,h2⟩:=Cy h;refine⟨_,h1,fun q=>?_⟩;rw[bG,bG,h2]
   cases e:q == s with
   | false=>rfl
   | true=>
    have e':q=s:=by simpa using e
    rw[e',hm];rfl
structure AlD where
 d:Nat
 j:Nat
 ty:TypeId
 cs:Array Value
 sl:Option Nat
structure kY where
 d:Nat
 j:Nat
 R:Value→World→Prop
def alV(s:Option Nat)(g:Nat):Value:=match s with
 | none=>.pointer (some ⟨g,0,none⟩)
 | some len=>.slice (some ⟨g,0,none⟩) len len
section
variable (B:Nat) (w0:World) (N:Nat) (l:Slots) (bs:List Bx) (rs:List Rw) (w:World) (K:Slots→List Bx→List Rw→World→Prop)
def cD(o:Oper)(n:Nat)(m:List fW)(π:Pa)(t:Bool)(f:FuncId)(vs:List Value)(k:fW→Prop):Prop:=bif jw f TQ then False else bif Nat.blt f NF then dK N m o.dst fun d=>∃ v,ob π t (∀ w',avX w.heap.size w w'→aW B w0 w' bs rs→Calls Tryz.prog f vs.toArray w' fun e w''=>e=.returned v∧avX w'.heap.size w' w'') (k ⟨d,n,π,t,v⟩)
 else False
def gR(π:Pa)(t:Bool)(R:Value→World→Prop):Value→World→Prop:=match π with
 | []=>R
 | _::_=>fun v w=>t=true→R v w
def cRl(o:Oper)(n:Nat)(m:List fW)(π:Pa)(t:Bool)(f:FuncId)(vs:List Value)(k:kY→Prop):Prop:=bif jw f TQ then False else bif Nat.blt f NF then dK N m o.dst fun d=>∃ R:Value→World→Prop,eC R∧ob π t (∀ w',avX w.heap.size w w'→aW B w0 w' bs rs→Calls Tryz.prog f vs.toArray w' fun e w''=>∃ v,e=.returned v∧(R v w''∧avX w'.heap.size w' w'')) (k ⟨d,n,gR π t R⟩)
 else False
def adR(R:World→Prop)(P:Option (World→Prop)):Option (World→Prop):=match P with
 | none=>some R
 | some P=>some fun w=>R w∧P w
def RY(P:Option (World→Prop))(w:World)(q:Prop):Prop:=match P with
 | none=>q
 | some P=>P w→q
def Mp(xs:List Operand):List kY→List fW→Option (World→Prop)→(List fW→Option (World→Prop)→Prop)→Prop
 | [],m,P,f=>f m P
 | ⟨d,j,R⟩::r,m,P,f=>bif mS d xs then ∀ u,Mp xs r (⟨d,j,[],true,u⟩::m) (adR (R u) P) f else Mp xs r m P f
def Mq(xs:List Operand):List kY→(List kY→Prop)→Prop
 | [],f=>f []
 | ⟨d,j,R⟩::r,f=>bif mS d xs then Mq xs r f else Mq xs r fun r'=>f (⟨d,j,R⟩::r')
def UW(xs:List Operand):List kY→Bool
 | []=>false
 | A::r=>bif mS A.d xs then true else UW xs r
def cU(o:Oper)(n:Nat)(m:List fW)(π:Pa)(t:Bool)(f:FuncId)(xs:List Operand)(rel:List kY)(k:fW→List kY→Prop):Prop:=bif jw f TQ then False else bif Nat.blt f NF then bif UW xs rel then dK N m o.dst fun d=>∃ v,Mp xs rel m none (fun m' P=>Pb l m' π xs fun vs=>(t=true→∀ w',avX w.heap.size w w'→aW B w0 w' bs rs→RY P w' (Calls Tryz.prog f vs.toArray w' fun e w''=>e=.returned v∧avX w'.heap.size w' w'')))∧Mq xs rel fun r=>k ⟨d,n,π,t,v⟩ r
 else False else False
def cV(o:Oper)(n:Nat)(m:List fW)(π:Pa)(t:Bool)(f:FuncId)(xs:List Operand)(rel:List kY)(k:List kY→Prop):Prop:=bif jw f TQ then False else bif Nat.blt f NF then bif UW xs rel then dK N m o.dst fun d=>∃ R':Value→World→Prop,eC R'∧Mp xs rel m none (fun m' P=>Pb l m' π xs fun vs=>(t=true→∀ w',avX w.heap.size w w'→aW B w0 w' bs rs→RY P w' (Calls Tryz.prog f vs.toArray w' fun e w''=>∃ v,e=.returned v∧(R' v w''∧avX w'.heap.size w' w''))))∧Mq xs rel fun r=>k (⟨d,n,gR π t R'⟩::r)
 else False else False
def obI(π:Pa)(t:Bool)(p:Prop):Prop:=match π with
 | []=>p
 | _::_=>t=true→p
theorem ab7{π:Pa}{t:Bool}{p:Prop}(h:obI π t p)(ht:t=true):p:=by
 cases π with
 | nil=>exact h
 | cons=>exact h ht
def fD(o:Oper)(n:Nat)(m:List fW)(π:Pa)(t:Bool)(rel:List kY)(k:List kY→Prop):Prop:=dK N m o.dst fun d=>∃ R':Value→World→Prop,eC R'∧Mp (iF o.op) rel m none (fun m' P=>Pb l m' π (iF o.op) fun vs=>obI π t (∀ (w1:World) (a:Act) (o':Oper),avX w.heap.size w w1→aW B w0 w1 bs rs→RY P w1 (o'.op=o.op→vZ a (iF o.op) vs →
  ∃ v w2,(execOp a.eval o').run Tryz.prog w1=.ok (.value v) w2∧R' v w2∧avX w1.heap.size w1 w2)))∧Mq (iF o.op) rel fun r=>k (⟨d,n,gR π t R'⟩::r)
def alN(a:Option AlD)(p:Prop):Prop:=match a with
 | none=>p
 | some _=>False
abbrev XD:=List Oper→Nat→List fW→Option AlD→List kY→Bool→Prop
def ab0:List kY→List fW→Option (World→Prop)→(List fW→Option (World→Prop)→Prop)→Prop
 | [],m,P,f=>f m P
 | ⟨d,j,R⟩::r,m,P,f=>bif jI d m then ∀ u,ab0 r (⟨d,j,[],true,u⟩::m) (adR (R u) P) f else False
def vF:XD:=fun L n m al rel _=>ab0 rel m none fun m' P=>match al with
 | none=>∀ w',RY P w' (avX w.heap.size w w'→aW B w0 w' bs rs→vc B w0 N l L n m' bs rs w' K)
 | some ⟨d,j,ty,cs,s⟩=>bif jI d m' then ∀ g w',RY P w' (avX w.heap.size w w'→aW B w0 w' ((g,ty,cs)::bs) rs→vc B w0 N l L n (⟨d,j,[],true,alV s g⟩::m') ((g,ty,cs)::bs) rs w' K) else False
section
variable (F:XD)
def vd:Nat→List Oper→Nat→List fW→Option AlD→List kY→Bool→Prop
 | 0,L,n,m,al,rel,us=>F L n m al rel us
 | _+1,[],_,_,_,_,_=>False
 | k+1,o::r,n,m,al,rel,us=>gK m o.guard fun π t=>match o.op with
  | .load ty x=>dK N m o.dst fun d=>qx l m π x fun u=>FJ u (Au π t fun v=>vd k r (n+1) (⟨d,n,π,t,v⟩::m) al rel us) fun g off=>DB ty (fun D=>ldK π t bs w D g off fun v=>vd k r (n+1) (⟨d,n,π,t,v⟩::m) al rel us) TT
  | .alloc ty=>TK π (alN al (dK N m o.dst fun d=>∃ z,(Tryz.prog.info? ty).bind (·.zero)=some z∧bif Nat.blt ty 9000 then SM z fun cs=>vd k r (n+1) m (some ⟨d,n,ty,cs,none⟩) rel us else False))
  | .box ty x=>TK π (alN al (dK N m o.dst fun d=>qx l m π x fun u=>bif Nat.blt ty 9000 then SM u fun cs=>vd k r (n+1) m (some ⟨d,n,ty,cs,none⟩) rel us else False))
  | .buildSlice ty len parts=>(TK π (alN al (dK N m o.dst fun d=>DB ty (fun D=>match D with
   | .sl e kk _=>bif tu 0 parts.toList then qD parts.toList len (bif Nat.blt 0 (len*kk) then bif Nat.ble (len*kk) 16777216 then bif Nat.blt e 9000 then Pb l m π (parts.toList.map (·.2)) fun vs=>ZM kk vs fun cs=>vd k r (n+1) m (some ⟨d,n,e,cs.toArray,some len⟩) rel us
    else False else False else False) else False
   | _=>False) TT))∨fD B w0 N l bs rs w o n m π t rel (fun rel=>vd k r (n+1) m al rel true))
  | .call c=>(match c.callee with
   | .value (.func f)=>(Pb l m π c.args.toList fun vs=>cD B w0 N bs rs w o n m π t f vs fun e=>vd k r (n+1) (e::m) al rel us) ∨
    cU B w0 N l bs rs w o n m π t f c.args.toList rel (fun e rel=>vd k r (n+1) (e::m) al rel us) ∨
    (Pb l m π c.args.toList fun vs=>cRl B w0 N bs rs w o n m π t f vs fun A=>vd k r (n+1) m al (A::rel) true) ∨
    cV B w0 N l bs rs w o n m π t f c.args.toList rel (fun rel=>vd k r (n+1) m al rel true)
   | .value y=>qx l m π y fun u=>(match u with
    | .func (.func f) first cap=>Pb l m π c.args.toList fun vs=>rW first.toList vs fun xs=>rW xs cap.toList fun ys=>cD B w0 N bs rs w o n m π t f ys fun e=>vd k r (n+1) (e::m) al rel us
    | _=>False)
   | _=>dK N m o.dst fun d=>pop l m π t (fun v=>vd k r (n+1) (⟨d,n,π,t,v⟩::m) al rel us) (.call c))
  | op=>bif UW (iF op) rel then fD B w0 N l bs rs w o n m π t rel (fun rel=>vd k r (n+1) m al rel true) else dK N m o.dst fun d=>pop l m π t (fun v=>vd k r (n+1) (⟨d,n,π,t,v⟩::m) al rel us) op
end
end
structure Ic (slots:List Nat) (gp:List Good) (m:List fW) (n:Nat):Prop where
 L:jv m n
 len:gp.length=n
 at_:∀ e∈m,slots[e.j]?=some e.s∧gp[e.j]?=some (bI (gd e.t e.v))
theorem Ic.put{slots:List Nat}{gp:List Good}{m:List fW}{n:Nat}(D:Ic slots gp m n){d:Nat}(hs:slots[n]?=some d){π:Pa}(hp:∀ x∈π,∃ e∈m,e.j=x.1){t:Bool}(ht:t=true↔∀ x∈π,Cond m x){v:Value}:Ic slots (gp++[bI (gd t v)]) (⟨d,n,π,t,v⟩::m) (n+1):=by
 refine⟨D.L.put hp ht,by simp[D.len],fun e he=>?_⟩;rcases avS.1 he with rfl|he
 ·exact⟨hs,by simp[← D.len]⟩
 ·obtain⟨h1,h2⟩:=D.at_ e he;exact⟨h1,by rw[av9 (avZ.1 h2).1];exact h2⟩
theorem Ic.skip{slots:List Nat}{gp:List Good}{m:List fW}{n:Nat}(D:Ic slots gp m n)(g:Good):Ic slots (gp++[g]) m (n+1):=
 ⟨D.L.mono (Nat.le_succ n),by simp[D.len],fun e he=>⟨(D.at_ e he).1,by rw[av9 (avZ.1 (D.at_ e he).2).1];exact(D.at_ e he).2⟩⟩
theorem qA{d:Nat}:∀ {xs:List Operand},mS d xs=true→Operand.tmp d∈xs
 | .tmp q::r,h=>by
  unfold mS at h
  cases hb:Nat.beq d q with
  | true=>rw[av7 hb];exact avV ..
  | false=>rw[hb] at h;exact avT _ (qA h)
 | .const _::r,h=>avT _ (qA h)
 | .global _::r,h=>avT _ (qA h)
 | .func _::r,h=>avT _ (qA h)
theorem Gr{slots:List Nat}{o:Oper}(kr:Gs slots o=true)(hnd:slots.Nodup){j d:Nat}(hj:slots[j]?=some d)(hx:Operand.tmp d∈iF o.op):∃ gr,(⟨j,gr⟩:Edge)∈o.after.toList∧Region.binds .any ⟨j,gr⟩=true:=by
 unfold Gs at kr;rw[av4,av3] at kr;have h3:=kr.1 _ hx;simp only[adJ] at h3;have h5:slots.contains d=true:=by simpa using avW hj
 rw[h5,Bool.not_true,Bool.false_or,List.any_eq_true] at h3;obtain⟨ed,h6,h7⟩:=h3;rw[av4,beq_iff_eq] at h7;have h8:ed.on=j:=lT hnd h7.2 hj;obtain⟨on,gr⟩:=ed;simp only at h8;subst h8;exact⟨gr,h6,h7.1⟩
theorem ZA{l:Slots}{m:List fW}{π:Pa}{a:Act}{xs:List Operand}{vs:List Value}(h:Dn (EV l m π) xs vs)(E:∀ x∈xs,∀ v,EV l m π x v→a.eval x=v):vZ a xs vs:=by
 induction h with
 | nil=>exact .nil
 | cons h1 _ ih=>exact .cons (E _ (avV ..) _ h1) (ih fun x hx=>E x (avT _ hx))
theorem Kw{slots:List Nat}{gp G':List Good}{m:List fW}{n:Nat}(D:Ic slots gp m n)(hnd:slots.Nodup){ops:Array Oper}(rO:∀ (i:Nat) (s:Nat),slots[i]?=some s→(ops[i]?).bind (fun o=>o.dst)=some s){o:Oper}(kr:Gs slots o=true){l:Slots}(hl:∀ q v,look q l=some v→slots.contains q=false){a a0:Act}{N:Nat}(F0:Fs a0 N l){w:World}
 (za:∀ k,(∃ gr,(⟨k,gr⟩:Edge)∈o.after.toList∧Region.binds .any ⟨k,gr⟩=true)→∀ s g,slots[k]?=some s→(gp++G')[k]?=some g→∃ v,At a s v∧g v w)
 (hrest:∀ j u,slots.contains j=false→At a0 j u→At a j u) :
 (∀ x∈iF o.op,∀ π' v,EV l m π' x v→(∀ y∈π',Cond m y)→a.eval x=v) ∧
 ∀ e∈m,(∃ b,o.guard=some (e.j,b))→(ops[e.j]?).bind (·.dst)=some e.s∧At a e.s (gd e.t e.v):=by
 unfold Gs at kr;rw[av4,av3] at kr
 have hat:∀ e∈m,(∃ gr,(⟨e.j,gr⟩:Edge)∈o.after.toList∧Region.binds .any ⟨e.j,gr⟩=true)→At a e.s (gd e.t e.v):=fun e he hk=>by
  obtain⟨h1,h2⟩:=D.at_ e he;obtain⟨v,h3,rfl⟩:=za _ hk _ _ h1 (by rw[av9 (avZ.1 h2).1];exact h2);exact h3
 constructor
 ·intro x hx π' v PB hc
  cases x with
  | tmp q=>
   rcases PB with⟨e,he,rfl,rfl,hs⟩|⟨h1,h2⟩
   ·have ht:e.t=true:=(D.L.tv e he).2 fun y hy=>hc y (z8 hs y hy)
    refine((hat e he ?_).on ht).ev;have h3:=kr.1 _ hx;simp only[adJ] at h3;obtain⟨h4,-⟩:=D.at_ e he;have h5:slots.contains e.s=true:=by simpa using avW h4
    rw[h5,Bool.not_true,Bool.false_or,List.any_eq_true] at h3;obtain⟨ed,h6,h7⟩:=h3;rw[av4,beq_iff_eq] at h7;have h8:ed.on=e.j:=lT hnd h7.2 h4;obtain⟨on,gr⟩:=ed;simp only at h8;subst h8;exact⟨gr,h6,h7.1⟩
   ·exact(hrest q v (hl q v h2) (F0.at_ q v h2)).ev
  | const u=>exact PB
  | global=>exact PB.elim
  | func f=>exact PB
 ·rintro e he ⟨b,hg⟩;refine⟨rO _ _ (D.at_ e he).1,hat e he ?_⟩;have h3:=kr.2;rw[hg] at h3;simp only[List.any_eq_true,av4,beq_iff_eq] at h3;obtain⟨⟨on,gr⟩,h6,h7,h8⟩:=h3;simp only at h8;subst h8;exact⟨gr,h6,h7⟩
structure Fin (slots:List Nat) (G:List Good) (m:List fW) (al:Option AlD) (rel:List kY) (us:Bool) (n:Nat) (w:World):Prop where
 D:Ic slots G m n
 al_:∀ A,al=some A→slots[A.j]?=some A.d∧G[A.j]?=some (Made w (alV A.sl) A.ty A.cs)∧Nat.blt A.ty 9000=true∧A.j<n∧∀ e∈m,e.j≠A.j
 cov:al=none→us=false→∀ i,i<n→∃ e∈m,e.j=i
 Mn:∀ A∈rel,slots[A.j]?=some A.d∧G[A.j]?=some A.R∧A.j<n∧(∀ e∈m,e.j≠A.j)∧∀ C,al=some C→C.j≠A.j
 vX:(rel.map (·.j)).Nodup
section
variable {slots:List Nat} {gp:List Good} {m:List fW} {al:Option AlD} {rel rel':List kY} {us:Bool} {n:Nat} {w:World}
theorem Fin.sub(F:Fin slots gp m al rel us n w)(h:rel'.Sublist rel):Fin slots gp m al rel' us n w:=⟨F.D,F.al_,F.cov,fun A hA=>F.Mn A (h.subset hA),(h.map _).nodup F.vX⟩
theorem C9{g g':Good}{j:Nat}(h:gp[j]?=some g):(gp++[g'])[j]?=some g:=by rw[av9 (avZ.1 h).1];exact h
theorem Fin.put(F:Fin slots gp m al rel us n w){g:Good}{e0:fW}(h0:e0.j=n)(D:Ic slots (gp++[g]) (e0::m) (n+1)):Fin slots (gp++[g]) (e0::m) al rel us (n+1) w:=by
 refine⟨D,fun A hA=>?_,fun ha hr i hi=>?_,fun A hA=>?_,F.vX⟩
 ·obtain⟨c1,c2,c3,c4,c5⟩:=F.al_ A hA;refine⟨c1,C9 c2,c3,by omega,fun e he=>?_⟩;rcases avS.1 he with rfl|he
  ·omega
  ·exact c5 e he
 ·by_cases h:i=n
  ·exact⟨e0,avV ..,h0.trans h.symm⟩
  ·obtain⟨e,h1,h2⟩:=F.cov ha hr i (by omega);exact⟨e,avT _ h1,h2⟩
 ·obtain⟨c1,c2,c4,c5,c6⟩:=F.Mn A hA;refine⟨c1,C9 c2,by omega,fun e he=>?_,c6⟩;rcases avS.1 he with rfl|he
  ·omega
  ·exact c5 e he
theorem Fin.akT(F:Fin slots gp m al rel us n w){d:Nat}{R:Value→World→Prop}(hs:slots[n]?=some d):Fin slots (gp++[R]) m al (⟨d,n,R⟩::rel) true (n+1) w:=by
 refine⟨F.D.skip _,fun A hA=>?_,(fun _ h=>by cases h),fun A hA=>?_,?_⟩
 ·obtain⟨c1,c2,c3,c4,c5⟩:=F.al_ A hA;exact⟨c1,C9 c2,c3,by omega,c5⟩
 ·rcases avS.1 hA with rfl|hA
  ·refine⟨hs,by simp[← F.D.len],Nat.lt_succ_self n,fun e he=>?_,fun C hC=>?_⟩
   ·have:=F.D.L.lt e he;simp only;omega
   ·have:=(F.al_ C hC).2.2.2.1;simp only;omega
  ·obtain⟨c1,c2,c4,c5,c6⟩:=F.Mn A hA;exact⟨c1,C9 c2,by omega,c5,c6⟩
 ·rw[List.map_cons,List.nodup_cons];refine⟨fun h=>?_,F.vX⟩;obtain⟨A,hA,e⟩:=avP.1 h;have:=(F.Mn A hA).2.2.1;simp only at e;omega
theorem Fin.akU(F:Fin slots gp m none rel us n w){d:Nat}{ty:TypeId}{cs:Array Value}{s:Option Nat}(hs:slots[n]?=some d)(hty:Nat.blt ty 9000=true):Fin slots (gp++[Made w (alV s) ty cs]) m (some ⟨d,n,ty,cs,s⟩) rel us (n+1) w:=by
 refine⟨F.D.skip _,fun A hA=>?_,(fun h=>by cases h),fun A hA=>?_,F.vX⟩
 ·obtain rfl:=avU hA;refine⟨hs,by simp[← F.D.len],hty,Nat.lt_succ_self n,fun e he=>?_⟩;have:=F.D.L.lt e he;simp only;omega
 ·obtain⟨c1,c2,c4,c5,c6⟩:=F.Mn A hA;refine⟨c1,C9 c2,by omega,c5,fun C hC=>?_⟩;obtain rfl:=avU hC;simp only;omega
theorem uL{xs:List Operand}:∀ {rel:List kY} {f:List kY→Prop},Mq xs rel f→∃ rel',f rel'∧rel'.Sublist rel
 | [],_,h=>⟨[],h,.slnil⟩
 | ⟨d,j,R⟩::r,f,h=>by
  unfold Mq at h
  cases hb:mS d xs with
  | true=>
   rw[hb] at h;obtain⟨r',h1,h2⟩:=uL h;exact⟨r',h1,h2.cons _⟩
  | false=>
   rw[hb] at h;obtain⟨r',h1,h2⟩:=uL (f:=fun r'=>f (⟨d,j,R⟩::r')) h;exact⟨_,h1,h2.cons_cons _⟩
theorem uK{xs:List Operand}{a:Act}{w1:World}{f:List fW→Option (World→Prop)→Prop}:∀ {rel:List kY} {m:List fW} {P:Option (World→Prop)},(∀ p,P=some p→p w1)→(∀ A∈rel,mS A.d xs=true→∃ u,At a A.d u∧A.R u w1)→Mp xs rel m P f →
 ∃ m' P',f m' P'∧(∀ p,P'=some p→p w1)∧(∀ e∈m',e∈m∨At a e.s e.v)∧∀ e∈m,e∈m'
 | [],m,P,hP,_,h=>⟨m,P,h,hP,fun e he=>.inl he,fun _ he=>he⟩
 | ⟨d,j,R⟩::r,m,P,hP,hr,h=>by
  unfold Mp at h
  cases hb:mS d xs with
  | false=>
   rw[hb] at h;exact uK hP (fun A hA=>hr A (avT _ hA)) h
  | true=>
   rw[hb] at h;obtain⟨u,h1,h2⟩:=hr _ (avV ..) hb
   have hP':∀ p,adR (R u) P=some p→p w1:=fun p hp=>by
    cases P with
    | none=>obtain rfl:=avU hp;exact h2
    | some q=>obtain rfl:=avU hp;exact⟨h2,hP q rfl⟩
   obtain⟨m',P',k1,k2,k3,k4⟩:=uK hP' (fun A hA=>hr A (avT _ hA)) (h u);refine⟨m',P',k1,k2,fun e he=>?_,fun e he=>k4 e (avT _ he)⟩;rcases k3 e he with h|h
   ·rcases avS.1 h with rfl|h
    ·exact .inr h1
    ·exact .inl h
   ·exact .inr h
theorem uZ{P:Option (World→Prop)}{w:World}{q:Prop}(h:RY P w q)(hP:∀ p,P=some p→p w):q:=by
 cases P with
 | none=>exact h
 | some p=>exact h (hP p rfl)
theorem agv{π:Pa}{t:Bool}{R:Value→World→Prop}{v:Value}{w:World}(h:R v w):gR π t R v w:=by
 cases π with
 | nil=>exact h
 | cons=>exact fun _=>h
theorem adj{π:Pa}{R:Value→World→Prop}{v:Value}{w:World}(h:π≠[]):gR π false R v w:=by
 cases π with
 | nil=>exact absurd rfl h
 | cons=>exact fun h=>by cases h
theorem Vx{π:Pa}{t:Bool}{R:Value→World→Prop}(h:eC R):eC (gR π t R):=by
 cases π with
 | nil=>exact h
 | cons=>exact fun v w w' h1 hb ht=>h v w w' (h1 ht) hb
end
section
variable {N:Nat} {l:Slots} {B:Nat} {w0 w:World} {bs:List Bx} {rs:List Rw} {F:XD} {slots:List Nat} {ops:Array Oper} {a0:Act}
def Res(N:Nat)(l:Slots)(B:Nat)(w0 w:World)(bs:List Bx)(rs:List Rw)(F:XD)(slots:List Nat)(ops:Array Oper)(a0:Act)(gp:List Good)(L:List Oper)(k n:Nat):Prop:=
 ∃ G' m' al' rel' us',kB (gp++G')∧G'.length=k∧lI Tryz.prog ops slots (gp++G') (avX w.heap.size w) a0 N (L.take k) G'∧Fin slots (gp++G') m' al' rel' us' (n+k) w∧vd B w0 N l bs rs w F 0 (L.drop k) (n+k) m' al' rel' us'
theorem aaj(M:aW B w0 w bs rs)(hnd:slots.Nodup)(rO:∀ (i s:Nat),slots[i]?=some s→(ops[i]?).bind (fun o=>o.dst)=some s)(hl:∀ q v,look q l=some v→slots.contains q=false)(F0:Fs a0 N l):
 ∀ {k:Nat} {L:List Oper} {n:Nat} {m:List fW} {al:Option AlD} {rel:List kY} {us:Bool} {gp:List Good},vd B w0 N l bs rs w F k L n m al rel us→Fin slots gp m al rel us n w→(∀ i o,(L.take k)[i]?=some o→Gs slots o=true∧slots[n+i]?=o.dst)→k≤L.length→kB gp →
  Res N l B w0 w bs rs F slots ops a0 gp L k n:=by
 intro k
 induction k with
 | zero=>intro L n m al rel us gp h hF _ _ hla;exact⟨[],m,al,rel,us,by simpa using hla,rfl,trivial,by simpa using hF,h⟩
 | succ k ih=>
  intro L n m al rel us gp h hF kr hkl hla
  cases L with
  | nil=>simp at hkl
  | cons o r=>
   have ajL:k≤r.length:=by simpa using hkl
   have hd0:=kr 0 o (by simp)
   have af4:∀ i o,(r.take k)[i]?=some o→Gs slots o=true∧slots[n+1+i]?=o.dst:=fun i o' hi=>by
    have:=kr (i+1) o' (by simpa using hi)
    rwa [show n+1+i=n+(i+1) by omega]
   have one:∀ (g:Good) (m1:List fW) (al1:Option AlD) (uM:List kY) (us1:Bool),eC g→Fin slots (gp++[g]) m1 al1 uM us1 (n+1) w→vd B w0 N l bs rs w F k r (n+1) m1 al1 uM us1 →
    (∀ (a:Act) (w1:World) (Q':Exit→Act→World→Prop),Fr a N→avX w.heap.size w w1 →
     (∀ x∈iF o.op,∀ π' v,EV l m π' x v→(∀ y∈π',Cond m y)→a.eval x=v)→(∀ e∈m,(∃ b,o.guard=some (e.j,b))→(ops[e.j]?).bind (·.dst)=some e.s∧At a e.s (gd e.t e.v)) →
     (∀ A∈rel,mS A.d (iF o.op)=true→∃ u,At a A.d u∧A.R u w1) →
     (∀ v a' w',avX w1.heap.size w1 w'→g v w'→Put a (o.dst.getD 0) v a'→Q' .normal a' w')→wpList Tryz.prog ops Q' [o] a w1) →
    Res N l B w0 w bs rs F slots ops a0 gp (o::r) (k+1) n:=by
    intro g m1 al1 uM us1 hg hF1 h1 hst
    have ajJ:kB (gp++[g]):=by
     clear ih h hF hF1 h1 hst
     induction gp with
     | nil=>exact⟨hg,trivial⟩
     | cons x r ih=>exact⟨hla.1,ih hla.2⟩
    obtain⟨G',m',al',rel',us',k1,k2,k3,k4,k5⟩:=ih h1 hF1 af4 ajL ajJ;refine⟨g::G',m',al',rel',us',by simpa using k1,by simp[k2],⟨?_,by simpa using k3⟩,by simpa[show n+(k+1)=n+1+k by omega] using k4,by simpa[show n+(k+1)=n+1+k by omega] using k5⟩;intro a w1 Q' hf hb za hrest hK;obtain⟨E,hgu⟩:=Kw hF.D hnd rO hd0.1 hl F0 (G':=g::G') za hrest;refine hst a w1 Q' hf hb E hgu (fun A hA hop=>?_) hK;obtain⟨c1,c2,c4,c5,-⟩:=hF.Mn A hA;refine za A.j ?_ _ _ c1 (by rw[av9 (avZ.1 c2).1];exact c2);exact Gr hd0.1 hnd c1 (qA hop)
   obtain⟨π,t,h,hp,ht,h0,hgd⟩:=PL hF.D.L h;have VW:∀ {d:Nat},o.dst=some d→slots[n]?=some d:=fun hd=>by have:=hd0.2;rw[hd] at this;simpa using this
   have off:∀ {d:Nat} {a:Act} {w1:World} {g:Good} {Q':Exit→Act→World→Prop},Region.wanted o (yielded ops a.tmps)=false→o.dst=some d→Nat.blt d N=true→Fr a N→g undef w1→(∀ v a' w',avX w1.heap.size w1 w'→g v w'→Put a (o.dst.getD 0) v a'→Q' .normal a' w')→wpList Tryz.prog ops Q' [o] a w1:=
    fun hw hd hN hf hg hK=>AX hw hd hf (by simpa using hN) fun a' p=>av2 (hK undef a' _ (Below.refl _ _) hg (by rw[hd];exact p))
   have val:∀ {d:Nat} {v:Value} {uM:List kY},uM.Sublist rel→o.dst=some d→Nat.blt d N=true→vd B w0 N l bs rs w F k r (n+1) (⟨d,n,π,t,v⟩::m) al uM us →
    (t=true→∀ (a:Act) (w1:World) (Q':Exit→Act→World→Prop),Fr a N→avX w.heap.size w w1→Region.wanted o (yielded ops a.tmps)=true→(∀ x∈iF o.op,∀ π' v,EV l m π' x v→(∀ y∈π',Cond m y)→a.eval x=v) →
     (∀ A∈rel,mS A.d (iF o.op)=true→∃ u,At a A.d u∧A.R u w1)→(∀ v' a' w',avX w1.heap.size w1 w'→bI v v' w'→Put a (o.dst.getD 0) v' a'→Q' .normal a' w')→wpList Tryz.prog ops Q' [o] a w1) →
    Res N l B w0 w bs rs F slots ops a0 gp (o::r) (k+1) n:=by
    intro d v uM hsub hd hN h1 hr;refine one (bI (gd t v)) _ _ _ _ (ak _) ((hF.sub hsub).put rfl (hF.D.put (VW hd) hp ht)) h1 fun a w1 Q' hf hb E hgu hrel hK=>?_
    have hw:=ru hgd hgu
    cases t with
    | true=>exact hr rfl a w1 Q' hf hb hw E hrel hK
    | false=>exact off hw hd hN hf rfl hK
   have VY:∀ {op:Op} {d:Nat},o.op=op→o.dst=some d→Nat.blt d N=true→pop l m π t (fun v=>vd B w0 N l bs rs w F k r (n+1) (⟨d,n,π,t,v⟩::m) al rel us) op→Res N l B w0 w bs rs F slots ops a0 gp (o::r) (k+1) n:=fun hop hd hN h=>by
    obtain⟨v,h1,h2⟩:=Mu hF.D.L ht h;exact val (.refl _) hd hN h1 fun bE a w1 Q' hf hb hw E _ hK=>dv hw (h2 a w1 o hop (hop▸E) bE) hd hf hN hK rfl
   have new:∀ {d:Nat} {ty:TypeId} {cs:Array Value} {s:Option Nat},π=[]→al=none→o.dst=some d→Nat.blt d N=true→Nat.blt ty 9000=true→vd B w0 N l bs rs w F k r (n+1) m (some ⟨d,n,ty,cs,s⟩) rel us →
    (∀ (a:Act) (w1:World),(∀ x∈iF o.op,∀ π' v,EV l m π' x v→(∀ y∈π',Cond m y)→a.eval x=v)→(execOp a.eval o).run Tryz.prog w1=.ok (.value (alV s w1.heap.size)) (w1.alloc (.cells cs ty))) →
    Res N l B w0 w bs rs F slots ops a0 gp (o::r) (k+1) n:=by
    intro d ty cs s hπ hal hd hN hty h1 hr;subst hal;refine one (Made w (alV s) ty cs) _ _ _ _ (Nb _ _ _ _) (hF.akU (VW hd) hty) h1 fun a w1 Q' hf hb E hgu _ hK=>?_
    have hw:=(ru hgd hgu).trans (h0 hπ);exact dn (f:=alV s) hw (hr a w1 E) hd hf hN hK fun b w' nn=>Vq hb b w' nn
   have abh:∀ {f:FuncId} {vs:List Value},cD B w0 N bs rs w o n m π t f vs (fun e=>vd B w0 N l bs rs w F k r (n+1) (e::m) al rel us) →
    (t=true→Ag Tryz.prog f=true→∀ (a:Act) (w1:World),(∀ x∈iF o.op,∀ π' v,EV l m π' x v→(∀ y∈π',Cond m y)→a.eval x=v)→(execOp a.eval o).run Tryz.prog w1=.ok (.enter f vs.toArray) w1) →
    Res N l B w0 w bs rs F slots ops a0 gp (o::r) (k+1) n:=by
    intro f vs h hr;unfold cD at h
    cases hm:jw f TQ with
    | true=>rw[hm] at h;exact h.elim
    | false=>
     rw[hm] at h;obtain⟨hb,h⟩:=bH h;obtain⟨d,hd,hN,hfr,v,h⟩:=iG h;obtain⟨h1,h2⟩:=h_ h;have hok:=BK hb hm;exact val (.refl _) hd hN h2 fun bE a w1 Q' hf hb hw E _ hK=>dc hw (hr bE hok a w1 E) (h1 bE w1 hb (M.keep hb)) hd hf hN hK fun _=>rfl
   have newR:∀ {d:Nat} {R':Value→World→Prop} {uM:List kY},uM.Sublist rel→o.dst=some d→Nat.blt d N=true→eC R'→vd B w0 N l bs rs w F k r (n+1) m al (⟨d,n,gR π t R'⟩::uM) true →
    (t=true→∀ (a:Act) (w1:World) (Q':Exit→Act→World→Prop),Fr a N→avX w.heap.size w w1→Region.wanted o (yielded ops a.tmps)=true→(∀ x∈iF o.op,∀ π' v,EV l m π' x v→(∀ y∈π',Cond m y)→a.eval x=v) →
     (∀ A∈rel,mS A.d (iF o.op)=true→∃ u,At a A.d u∧A.R u w1)→(∀ v' a' w',avX w1.heap.size w1 w'→R' v' w'→Put a (o.dst.getD 0) v' a'→Q' .normal a' w')→wpList Tryz.prog ops Q' [o] a w1) →
    Res N l B w0 w bs rs F slots ops a0 gp (o::r) (k+1) n:=by
    intro d R' uM hsub hd hN hR' h2 hst;refine one (gR π t R') _ _ _ _ (Vx hR') ((hF.sub hsub).akT (VW hd)) h2 fun a w1 Q' hf hb E hgu hrel hK=>?_
    have hw:=ru hgd hgu
    cases t with
    | true=>exact hst rfl a w1 Q' hf hb hw E hrel fun v a' w' hb' hv hp=>hK v a' w' hb' (agv hv) hp
    | false=>exact off hw hd hN hf (adj fun h=>by cases h0 h) hK
   have evR:∀ {a:Act} {m':List fW} {xs:List Operand} {vs:List Value} {π':Pa},(∀ y∈π',Cond m y)→(∀ e∈m',e∈m∨At a e.s e.v)→(∀ e∈m,e∈m')→Dn (EV l m' π') xs vs→(∀ x∈xs,x∈iF o.op) →
    (∀ x∈iF o.op,∀ π' v,EV l m π' x v→(∀ y∈π',Cond m y)→a.eval x=v)→vZ a xs vs:=fun {a m' xs vs π'} hc h1 h2 h3 hx E=>ZA h3 fun x hxs v PB=>by
    cases x with
    | tmp q=>
     rcases PB with⟨e,he,rfl,rfl,hsub⟩|⟨h5,h6⟩
     ·rcases h1 e he with he|he
      ·exact E _ (hx _ hxs) π' _ (.inl ⟨e,he,rfl,rfl,hsub⟩) hc
      ·exact he.ev
     ·exact E _ (hx _ hxs) π' _ (.inr ⟨fun e he=>h5 e (h2 e he),h6⟩) hc
    | const u=>exact PB
    | global=>exact PB.elim
    | func f=>exact PB
   have hfD:fD B w0 N l bs rs w o n m π t rel (fun rel=>vd B w0 N l bs rs w F k r (n+1) m al rel true)→Res N l B w0 w bs rs F slots ops a0 gp (o::r) (k+1) n:=fun hB=>by
    unfold fD at hB;obtain⟨d,hd,hN,hfr,R',hR',h1,h2⟩:=iG hB;obtain⟨uM,h2,hsub⟩:=uL h2;refine newR hsub hd hN hR' h2 fun bE a w1 Q' hf hb hw E hrel hK=>?_
    obtain⟨m',P',k1,k2,k3,k4⟩:=uK (fun _ h=>by cases h) hrel h1;obtain⟨vs,h3,h4⟩:=kF k1;obtain⟨v,w2,h5,h6,h7⟩:=uZ (ab7 h4 bE w1 a o hb (M.keep hb)) k2 rfl (evR (ht.1 bE) k3 k4 h3 (fun x hx=>hx) E);exact oG hw h5 hd hf (by simpa using hN) fun a' p=>av2 (hK v a' w2 h7 h6 (by rw[hd];exact p))
   split at h
   ·rename_i ty x hop;obtain⟨d,hd,hN,hfr,h⟩:=iG h;obtain⟨u,h1,h⟩:=ct h;rcases oL h with⟨g,off',rfl,hq⟩|h
    case inr=>
     obtain⟨h2,h3⟩:=Wy h;exact val (.refl _) hd hN h3 fun bE=>(h2 bE).elim
    obtain⟨D,hD,h⟩:=j5 hq;obtain⟨v,h2,h3⟩:=Vu M h hD;exact val (.refl _) hd hN h2 fun bE a w1 Q' hf hb hw E _ hK=>dv hw (h3 bE w1 hb a o x hop (E x (by rw[hop];simp[iF]) _ _ h1 (ht.1 bE))) hd hf hN hK rfl
   ·rename_i ty hop;obtain⟨hπ,h⟩:=ny h
    cases al with
    | some A=>exact h.elim
    | none=>
     obtain⟨d,hd,hN,hfr,z,hz,h⟩:=iG h;obtain⟨hty,h⟩:=bH h;exact new hπ rfl hd hN hty (vH h) fun a w1 _=>vn hop hz
   ·rename_i ty x hop;obtain⟨hπ,h⟩:=ny h
    cases al with
    | some A=>exact h.elim
    | none=>
     obtain⟨d,hd,hN,hfr,h⟩:=iG h;obtain⟨u,h1,h⟩:=ct h;obtain⟨hty,h⟩:=bH h;exact new hπ rfl hd hN hty (vH h) fun a w1 E=>P0 hop (E x (by rw[hop];simp[iF]) _ _ h1 (by rw[hπ];simp))
   ·rename_i ty len parts hop;rcases h with hA|hB
    case inr=>exact hfD hB
    obtain⟨hπ,hA⟩:=ny hA
    cases al with
    | some A=>exact hA.elim
    | none=>
     obtain⟨d,hd,hN,hfr,h⟩:=iG hA;obtain⟨D,hD,h⟩:=j5 h;split at h
     ·obtain⟨hps,h⟩:=bH h;obtain⟨hlen,h⟩:=iK h;obtain⟨b0,h⟩:=bH h;obtain⟨b1,h⟩:=bH h;obtain⟨b2,h⟩:=bH h;obtain⟨vs,h1,h⟩:=kF h;obtain⟨h2,h3⟩:=Hp h;exact new hπ rfl hd hN b2 h2 fun a w1 E=>rB hop hD hps hlen (by simpa using b0) (by simpa using b1) (xV h1 (by rw[hπ];simp) (by rw[hop] at E;exact E)) h3
     ·exact h.elim
   ·rename_i c hop;split at h
    ·rename_i f qF;have e3:c={ callee:=.value (.func f),args:=c.args,argTypes:=c.argTypes }:=by cases c;simp only at qF;rw[qF]
     have V0:iF o.op=c.args.toList:=by rw[hop];simp only[iF,qF];rfl
     rcases h with h|h|h|h
     case inr.inr.inr=>
      unfold cV at h
      cases hm:jw f TQ with
      | true=>rw[hm] at h;exact h.elim
      | false=>
       rw[hm] at h;obtain⟨hb,h⟩:=bH h;obtain⟨hu,h⟩:=bH h;have hok:=BK hb hm;obtain⟨d,hd,hN,hfr,R',hR',h1,h2⟩:=iG h;obtain⟨uM,h2,hsub⟩:=uL h2;refine newR hsub hd hN hR' h2 fun bE a w1 Q' hf hb hw E hrel hK=>?_
       obtain⟨m',P',k1,k2,k3,k4⟩:=uK (fun _ h=>by cases h) (fun A hA hx=>hrel A hA (by rw[V0];exact hx)) h1;obtain⟨vs,h3,h4⟩:=kF k1;exact dx hw (rE hok (hop.trans (congrArg Op.call e3)) (jJ (evR (ht.1 bE) k3 k4 h3 (by rw[V0];exact fun x hx=>hx) E))) (uZ (h4 bE w1 hb (M.keep hb)) k2) hd hf hN hK
     case inr.inl=>
      unfold cU at h
      cases hm:jw f TQ with
      | true=>rw[hm] at h;exact h.elim
      | false=>
       rw[hm] at h;obtain⟨hb,h⟩:=bH h;obtain⟨hu,h⟩:=bH h;have hok:=BK hb hm;obtain⟨d,hd,hN,hfr,v,h1,h2⟩:=iG h;obtain⟨uM,h2,hsub⟩:=uL h2;refine val hsub hd hN h2 fun bE a w1 Q' hf hb hw E hrel hK=>?_
       obtain⟨m',P',k1,k2,k3,k4⟩:=uK (fun _ h=>by cases h) (fun A hA hx=>hrel A hA (by rw[V0];exact hx)) h1;obtain⟨vs,h3,h4⟩:=kF k1;exact dc hw (rE hok (hop.trans (congrArg Op.call e3)) (jJ (evR (ht.1 bE) k3 k4 h3 (by rw[V0];exact fun x hx=>hx) E))) (uZ (h4 bE w1 hb (M.keep hb)) k2) hd hf hN hK fun _=>rfl
     case inr.inr.inl=>
      obtain⟨vs,h1,h⟩:=kF h;unfold cRl at h
      cases hm:jw f TQ with
      | true=>rw[hm] at h;exact h.elim
      | false=>
       rw[hm] at h;obtain⟨hb,h⟩:=bH h;have hok:=BK hb hm;obtain⟨d,hd,hN,hfr,R,hR,h⟩:=iG h;obtain⟨hc,h2⟩:=h_ h;exact newR (.refl _) hd hN hR h2 fun bE a w1 Q' hf hb hw E _ hK=>dx hw (rE hok (hop.trans (congrArg Op.call e3)) (jJ (xV h1 (ht.1 bE) fun x hx=>E x (by rw[V0];exact hx)))) (hc bE w1 hb (M.keep hb)) hd hf hN hK
     obtain⟨vs,h1,h⟩:=kF h;refine abh h fun bE hok a w1 E=>?_
     exact rE hok (hop.trans (congrArg Op.call e3)) (jJ (xV h1 (ht.1 bE) fun x hx=>E x (by rw[hop];simp only[iF,qF];exact hx)))
    ·rename_i y hy qF;obtain⟨u,h1,h⟩:=ct h;split at h
     ·rename_i f first cap
      obtain⟨vs,h2,h⟩:=kF h;have h:=iL (iL h);refine abh h fun bE hok a w1 E=>?_
      have e3:c={ callee:=.value y,args:=c.args,argTypes:=c.argTypes }:=by cases c;simp only at qF;rw[qF]
      have afN:iF o.op=y::c.args.toList:=by
       rw[hop];simp only[iF,qF];cases y<;>first|rfl|exact absurd rfl (hy _)
      refine Jz hok (hop.trans (congrArg Op.call e3)) (E y (by rw[afN];exact avV ..) _ _ h1 (ht.1 bE)) ?_;rw[jJ (xV h2 (ht.1 bE) fun x hx=>E x (by rw[afN];exact avT _ hx))];apply Array.toList_inj.1;simp
     ·exact h.elim
    ·obtain⟨d,hd,hN,hfr,h⟩:=iG h;exact VY hop hd hN h
   all_goals
    cases hu:UW (iF o.op) rel with
    | true=>rw[hu] at h;exact hfD h
    | false=>
     rw[hu] at h;obtain⟨d,hd,hN,hfr,h⟩:=iG h;exact VY rfl hd hN h
end
def tS(o:Oper)(j:Nat):Bool:=o.after.toList.any fun e=>Region.binds .any e&&(e.on == j)
def pOp(o:Oper):Bool:=o.guard.isNone
def ae3(N:Nat)(L:List Oper)(k:Nat):Bool:=
 ordered 0 L&&((L.take (k+2)).all (fun o=>o.dst.isSome)&&((L.take k).all (Gs (iC (k+2) L))&&((iC (k+2) L).all (fun s=>decide (s<N))&&(decide (iC (k+2) L).Nodup&&(decide (L.length=k+4) &&
  ((L.drop k).all pOp&&((L.drop (k+2)).all (Gs (iC (k+2) L)))))))))
section
variable (B:Nat) (w0:World) (N:Nat) (l:Slots) (bs:List Bx) (rs:List Rw) (w:World) (K:Slots→List Bx→List Rw→World→Prop)
def vP:XD:=fun L _ m al _ us=>match L,al,us with
 | [a1,a2,s1,s2],none,false=>(match a1.op,a2.op,s1.op,s2.op with
  | .alloc zZ,.alloc zY,.store t1 (.tmp x1) y1,.store t2 (.tmp x2) y2=>dK N m a1.dst fun d1=>dK N m a2.dst fun d2=>bif Nat.beq x1 d1 then bif Nat.beq x2 d2 then (match s1.dst,s2.dst with
   | none,none=>∃ z1 z2,((Tryz.prog.info? zZ).bind (·.zero)=some z1∧(Tryz.prog.info? zY).bind (·.zero)=some z2)∧qx l m [] y1 fun u1=>qx l m [] y2 fun u2=>DB t1 (fun D1=>DB t2 (fun D2=>bif Nat.blt zZ 9000 then bif Nat.blt zY 9000 then qD (bg u1) (jc D1) (qD (bg z1) (jc D1) (qD (bg u2) (jc D2) (qD (bg z2) (jc D2)
     (((bg u1).all (·.oneCell')=true∧(bg u2).all (·.oneCell')=true)∧∀ g1 g2 w',avX w.heap.size w w'→aW B w0 w' ((g1,zZ,(bg u1).toArray)::(g2,zY,(bg u2).toArray)::bs) rs →
       oV m l fun l'=>K ((d1,.pointer (some ⟨g1,0,none⟩))::(d2,.pointer (some ⟨g2,0,none⟩))::l') ((g1,zZ,(bg u1).toArray)::(g2,zY,(bg u2).toArray)::bs) rs w')))) else False else False) TT) TT
   | _,_=>False) else False else False
  | _,_,_,_=>False)
 | _,_,_=>False
end
structure PI (L:List Oper) (k:Nat) (slots:List Nat) (G:List Good) (N:Nat) (a0:Act) (w:World) (d1 d2 zZ zY:Nat) (z1 z2 c1 c2:Array Value) (Lf:Nat→Bool) (b:Act) (u:World):Prop where
 fr:Fr b N
 inv:avX w.heap.size w u
 done:∀ i,i<k→Lf i=true→∀ s g,slots[i]?=some s→G[i]?=some g→∃ v,At b s v∧g v u
 rest:∀ j x,slots.contains j=false→At a0 j x→At b j x
 o1:Lf (k+2)=true→Lf k=true
 o2:Lf (k+3)=true→Lf (k+1)=true
 one:Lf k=true→∃ g,At b d1 (.pointer (some ⟨g,0,none⟩))∧w.heap.size≤g∧Whole u g zZ (if Lf (k+2)=true then c1 else z1)
 two:Lf (k+1)=true→∃ g,At b d2 (.pointer (some ⟨g,0,none⟩))∧w.heap.size≤g∧Whole u g zY (if Lf (k+3)=true then c2 else z2)
 ne:Lf k=true→Lf (k+1)=true→∀ g,At b d1 (.pointer (some ⟨g,0,none⟩))→At b d2 (.pointer (some ⟨g,0,none⟩))→False
theorem At.Si{a:Act}{s:Nat}{v u:Value}(h:At a s v)(h':At a s u):v=u:=avU (h.symm.trans h')
theorem rC{g g':Nat}(h:Value.pointer (some ⟨g,0,none⟩)=.pointer (some ⟨g',0,none⟩)):g=g':=by
 injection h with h;injection h with h;injection h
section
variable {B:Nat} {w0 w:World} {N:Nat} {l:Slots} {bs:List Bx} {rs:List Rw} {K:Slots→List Bx→List Rw→World→Prop} {Q:Exit→Act→World→Prop} {a:Act} {id:Nat} {L:List Oper}
theorem fT{Lf:Nat→Bool}{i j:Nat}(h:j≠i):upd Lf i j=Lf j:=by
 have:(j == i)=false:=by simpa using h
 simp[upd,this]
theorem IX{Lf:Nat→Bool}{i:Nat}:upd Lf i i=true:=by simp[upd]
theorem Mx{k:Nat}{slots:List Nat}{G:List Good}{d1 d2 zZ zY:Nat}{u1 u2 z1 z2:Value}{a1 a2 s1 s2:Oper}{t1 t2:TypeId}{y1 y2:Operand}{D1 D2:TD}
 (hL:L.length=k+4) (hnd:slots.Nodup) (hsl:slots.length=k+2) (hlt:∀ s∈slots,s<N)
 (hG:G.length=k) (Zi:∀ g∈G,∃ v,g=bI v) (hst:lI Tryz.prog L.toArray slots G (avX w.heap.size w) a N (L.take k) G)
 (eS:ordered 0 L=true) (qE:∀ (i:Nat) (o:Oper),i<k+2→L[i]?=some o→slots[i]?=o.dst)
 (e1:L[k]?=some a1) (e2:L[k+1]?=some a2) (e3:L[k+2]?=some s1) (e4:L[k+3]?=some s2)
 (p1:a1.op=.alloc zZ) (p2:a2.op=.alloc zY) (p3:s1.op=.store t1 (.tmp d1) y1) (p4:s2.op=.store t2 (.tmp d2) y2)
 (g1:a1.guard=none) (g2:a2.guard=none) (g3:s1.guard=none) (g4:s2.guard=none) (q1:a1.dst=some d1) (q2:a2.dst=some d2) (q3:s1.dst=none) (q4:s2.dst=none)
 (hz1:(Tryz.prog.info? zZ).bind (·.zero)=some z1) (hz2:(Tryz.prog.info? zY).bind (·.zero)=some z2)
 (hD1:jB Tryz.prog t1 D1=true) (hD2:jB Tryz.prog t2 D2=true) (n1:(bg u1).length=jc D1) (n2:(bg z1).length=jc D1) (n3:(bg u2).length=jc D2) (n4:(bg z2).length=jc D2)
 (c1:(bg u1).all (·.oneCell')=true) (c2:(bg u2).all (·.oneCell')=true)
 (hy1:∀ (b:Act) (u:World) (Lf:Nat→Bool),PI L k slots G N a w d1 d2 zZ zY z1.cells z2.cells (bg u1).toArray (bg u2).toArray Lf b u→(∀ e∈s1.after.toList,Region.binds .any e=true→Lf e.on=true)→b.eval y1=u1∧Lf k=true)
 (hy2:∀ (b:Act) (u:World) (Lf:Nat→Bool),PI L k slots G N a w d1 d2 zZ zY z1.cells z2.cells (bg u1).toArray (bg u2).toArray Lf b u→(∀ e∈s2.after.toList,Region.binds .any e=true→Lf e.on=true)→b.eval y2=u2∧Lf (k+1)=true) :
 ∀ (i:Nat) (o:Oper),L[i]?=some o→∀ (Lf:Nat→Bool) (b:Act) (u:World) (Q':Exit→Act→World→Prop),PI L k slots G N a w d1 d2 zZ zY z1.cells z2.cells (bg u1).toArray (bg u2).toArray Lf b u→Lf i=false →
  (∀ e∈o.after.toList,Region.binds .any e=true→Lf e.on=true)→(∀ b u,PI L k slots G N a w d1 d2 zZ zY z1.cells z2.cells (bg u1).toArray (bg u2).toArray (upd Lf i) b u→Q' .normal b u)→wpList Tryz.prog L.toArray Q' [o] b u:=by
 have Yr:slots[k]?=some d1:=by rw[qE k a1 (by omega) e1,q1]
 have Yq:slots[k+1]?=some d2:=by rw[qE (k+1) a2 (by omega) e2,q2]
 have afE:∀ {i j s s':Nat},slots[i]?=some s→slots[j]?=some s'→i≠j→s≠s':=fun h1 h2 hne e=>hne (lT hnd (e▸h1) h2)
 have hGl:∀ (i:Nat) (g:Good),G[i]?=some g→i<k∧eC g:=fun i g hg=>⟨hG▸(avZ.1 hg).1,by obtain⟨v,rfl⟩:=Zi g (avW hg);exact ak v⟩
 have hN:∀ {i s:Nat},slots[i]?=some s→s<N:=fun h=>hlt _ (avW h)
 have hin:∀ {i s:Nat},slots[i]?=some s→slots.contains s=true:=fun h=>by simpa using avW h
 have upT:∀ {Lf:Nat→Bool} {i j:Nat},Lf j=true→upd Lf i j=true:=fun h=>by simp[upd,h]
 have put:∀ {i s:Nat} {v:Value} {Lf:Nat→Bool} {b b':Act} {u u':World},PI L k slots G N a w d1 d2 zZ zY z1.cells z2.cells (bg u1).toArray (bg u2).toArray Lf b u→i<k+2→slots[i]?=some s→Lf i=false→Put b s v b'→avX u.heap.size u u' →
  (∀ g,G[i]?=some g→g v u')→(i=k→∃ g,v=.pointer (some ⟨g,0,none⟩)∧w.heap.size≤g∧Whole u' g zZ z1.cells∧u.heap.size≤g)→(i=k+1→∃ g,v=.pointer (some ⟨g,0,none⟩)∧w.heap.size≤g∧Whole u' g zY z2.cells∧u.heap.size≤g) →
  PI L k slots G N a w d1 d2 zZ zY z1.cells z2.cells (bg u1).toArray (bg u2).toArray (upd Lf i) b' u':=by
  intro i s v Lf b b' u u' I hi hs XK hp hb hg hk1 hk2;have old:∀ {j s':Nat} {x:Value},slots[j]?=some s'→j≠i→At b s' x→At b' s' x:=fun h1 hne h2=>hp.old (by simpa using afE h1 hs hne) h2
  have hx2:upd Lf i (k+2)=Lf (k+2):=fT (by omega);have hx3:upd Lf i (k+3)=Lf (k+3):=fT (by omega);refine⟨hp.fr I.fr,I.inv.trans (hb.mono I.inv.size),?_,?_,?_,?_,?_,?_,?_⟩
  ·intro j hj u7 s' g hs' hg';by_cases hji:j=i
   ·subst hji;obtain rfl:s=s':=avU (hs.symm.trans hs');exact⟨v,hp.now,hg g hg'⟩
   ·rw[fT hji] at u7;obtain⟨x,h1,h2⟩:=I.done j hj u7 s' g hs' hg';exact⟨x,old hs' hji h1,(hGl j g hg').2 _ _ _ h2 hb⟩
  ·intro j x hj hx;have:j≠s:=fun e=>by rw[e,hin hs] at hj;cases hj
   exact hp.old (by simpa using this) (I.rest j x hj hx)
  ·intro h;rw[hx2] at h;exact upT (I.o1 h)
  ·intro h;rw[hx3] at h;exact upT (I.o2 h)
  ·intro h;by_cases hik:i=k
   ·subst hik;obtain rfl:s=d1:=avU (hs.symm.trans Yr);obtain⟨g,rfl,h1,h2,-⟩:=hk1 rfl
    have h3:Lf (i+2)=false:=by
     cases h4:Lf (i+2) with
     | false=>rfl
     | true=>rw[I.o1 h4] at XK;cases XK
    exact⟨g,hp.now,h1,by rw[hx2,h3];exact h2⟩
   ·rw[fT (Ne.symm hik)] at h;obtain⟨g,h1,h2,h3⟩:=I.one h;exact⟨g,old Yr (Ne.symm hik) h1,h2,by rw[hx2];exact Whole.under hb h3 h3.lt⟩
  ·intro h;by_cases hik:i=k+1
   ·subst hik;obtain rfl:s=d2:=avU (hs.symm.trans Yq);obtain⟨g,rfl,h1,h2,-⟩:=hk2 rfl
    have h3:Lf (k+3)=false:=by
     cases h4:Lf (k+3) with
     | false=>rfl
     | true=>rw[I.o2 h4] at XK;cases XK
    exact⟨g,hp.now,h1,by rw[hx3,h3];exact h2⟩
   ·rw[fT (Ne.symm hik)] at h;obtain⟨g,h1,h2,h3⟩:=I.two h;exact⟨g,old Yq (Ne.symm hik) h1,h2,by rw[hx3];exact Whole.under hb h3 h3.lt⟩
  ·intro ha hb' g h1 h2;by_cases hik:i=k
   ·subst hik;obtain rfl:s=d1:=avU (hs.symm.trans Yr);obtain⟨g',rfl,-,-,h5⟩:=hk1 rfl;rw[fT (by omega)] at hb';obtain⟨g2,h6,-,h7⟩:=I.two hb';obtain rfl:=rC (hp.now.Si h1);obtain rfl:=rC ((old Yq (by omega) h6).Si h2);have:=h7.lt;omega
   ·by_cases acQ:i=k+1
    ·subst acQ;obtain rfl:s=d2:=avU (hs.symm.trans Yq);obtain⟨g',rfl,-,-,h5⟩:=hk2 rfl;rw[fT (by omega)] at ha;obtain⟨g2,h6,-,h7⟩:=I.one ha;obtain rfl:=rC (hp.now.Si h2);obtain rfl:=rC ((old Yr (by omega) h6).Si h1);have:=h7.lt;omega
    ·rw[fT (Ne.symm hik)] at ha;rw[fT (Ne.symm acQ)] at hb';obtain⟨x1,h3,-,-⟩:=I.one ha;obtain⟨x2,h4,-,-⟩:=I.two hb';obtain rfl:=rC ((old Yr (Ne.symm hik) h3).Si h1);obtain rfl:=rC ((old Yq (Ne.symm acQ) h4).Si h2);exact I.ne ha hb' _ h3 h4
 have sto:∀ {Lf:Nat→Bool} {b:Act} {u u':World} {i g:Nat},PI L k slots G N a w d1 d2 zZ zY z1.cells z2.cells (bg u1).toArray (bg u2).toArray Lf b u→w.heap.size≤g→rL u u' g→(i=k+2∧Lf k=true∧At b d1 (.pointer (some ⟨g,0,none⟩))∧Whole u' g zZ (bg u1).toArray)∨(i=k+3∧Lf (k+1)=true∧At b d2 (.pointer (some ⟨g,0,none⟩))∧Whole u' g zY (bg u2).toArray) →
  PI L k slots G N a w d1 d2 zZ zY z1.cells z2.cells (bg u1).toArray (bg u2).toArray (upd Lf i) b u':=by
  intro Lf b u u' i g I hg s hcase;refine⟨I.fr,I.inv.trans (s.below hg),?_,I.rest,?_,?_,?_,?_,?_⟩
  ·intro j hj u7 s' g' hs' hg';rw[fT (by rcases hcase with⟨rfl,-⟩|⟨rfl,-⟩<;>omega)] at u7;obtain⟨x,h1,h2⟩:=I.done j hj u7 s' g' hs' hg';obtain⟨v,rfl⟩:=Zi g' (avW hg');exact⟨x,h1,h2⟩
  ·intro h;rcases hcase with⟨rfl,hk,-⟩|⟨rfl,-⟩
   ·exact upT hk
   ·rw[fT (by omega)] at h;exact upT (I.o1 h)
  ·intro h;rcases hcase with⟨rfl,-⟩|⟨rfl,hk,-⟩
   ·rw[fT (by omega)] at h;exact upT (I.o2 h)
   ·exact upT hk
  ·intro h;rcases hcase with⟨rfl,hk,hat,hW⟩|⟨rfl,hk,hat,hW⟩
   ·exact⟨g,hat,hg,by rw[IX,if_pos rfl];exact hW⟩
   ·rw[fT (by omega)] at h;obtain⟨x,h1,h2,h3⟩:=I.one h;refine⟨x,h1,h2,?_⟩;rw[fT (by omega)];exact s.whole h3 fun e=>I.ne h hk x h1 (e▸hat)
  ·intro h;rcases hcase with⟨rfl,hk,hat,hW⟩|⟨rfl,hk,hat,hW⟩
   ·rw[fT (by omega)] at h;obtain⟨x,h1,h2,h3⟩:=I.two h;refine⟨x,h1,h2,?_⟩;rw[fT (by omega)];exact s.whole h3 fun e=>I.ne hk h x (e▸hat) h1
   ·exact⟨g,hat,hg,by rw[IX,if_pos rfl];exact hW⟩
  ·intro h1 h2;have hne:k≠i∧k+1≠i:=by rcases hcase with⟨rfl,-⟩|⟨rfl,-⟩<;>omega
   rw[fT hne.1] at h1;rw[fT hne.2] at h2;exact I.ne h1 h2
 intro i o ho Lf b u Q' I XK kr hK;have hil:=(avZ.1 ho).1;rw[hL] at hil;by_cases hik:i<k
 ·obtain⟨s,hs⟩:∃ s,slots[i]?=some s:=⟨_,avR (by omega)⟩;have hd:o.dst=some s:=by rw[← qE i o (by omega) ho,hs]
  refine Gq (L.take k) G hst i o (by rw[List.getElem?_take,if_pos hik];exact ho) b u Q' I.fr I.inv (fun j ⟨gr,hj,hb⟩ s g hs hg=>?_) I.rest ?_
  ·have hji:j<i:=by have:=lQ 0 L eS i o ho _ hj hb;simpa using this
   exact I.done j (by omega) (kr _ hj hb) s g hs hg
  ·intro v b' u' hb hg hp;rw[hd] at hp;exact hK b' u' (put I (by omega) hs XK hp hb (fun g h=>hg g h) (fun e=>by omega) (fun e=>by omega))
 ·by_cases h0:i=k
  ·subst h0;obtain rfl:a1=o:=avU (e1.symm.trans ho);exact AY (f:=fun n=>.pointer (some ⟨n,0,none⟩)) (j_ g1) (vn p1 hz1) q1 I.fr (hN Yr) fun g b' u' n p=>av2 (hK _ _ (put I (by omega) Yr XK p n.below (fun g' hg'=>absurd (hGl _ _ hg').1 (by omega)) (fun _=>⟨g,rfl,n.at_▸I.inv.size,n.whole,n.at_▸Nat.le_refl _⟩) (fun e=>by omega)))
  ·by_cases h1:i=k+1
   ·subst h1;obtain rfl:a2=o:=avU (e2.symm.trans ho);exact AY (f:=fun n=>.pointer (some ⟨n,0,none⟩)) (j_ g2) (vn p2 hz2) q2 I.fr (hN Yq) fun g b' u' n p=>av2 (hK _ _ (put I (by omega) Yq XK p n.below (fun g' hg'=>absurd (hGl _ _ hg').1 (by omega)) (fun e=>by omega) (fun _=>⟨g,rfl,n.at_▸I.inv.size,n.whole,n.at_▸Nat.le_refl _⟩)))
   ·by_cases h2:i=k+2
    ·subst h2;obtain rfl:s1=o:=avU (e3.symm.trans ho);obtain⟨hv,hk⟩:=hy1 b u Lf I kr;obtain⟨g,hat,hge,hW⟩:=I.one hk;rw[XK] at hW;have hsz:z1.cells.size=(bg u1).length:=by rw[← Array.length_toList,lH,n2,n1]
     exact pX (j_ g3) p3 hat.ev hv hW (lH u1) (by rw[Nat.zero_add,if_neg (by decide),hsz];exact Nat.le_refl _) ((z6 hD1).trans (by rw[n1])) c1 rfl q3 fun u' s hW'=>av2 (hK _ _ (sto I hge s (.inl ⟨rfl,hk,hat,by rw[if_neg (by decide)] at hW';rw[jA _ _ hsz] at hW';exact hW'⟩)))
    ·obtain rfl:i=k+3:=by omega
     obtain rfl:s2=o:=avU (e4.symm.trans ho);obtain⟨hv,hk⟩:=hy2 b u Lf I kr;obtain⟨g,hat,hge,hW⟩:=I.two hk;rw[XK] at hW;have hsz:z2.cells.size=(bg u2).length:=by rw[← Array.length_toList,lH,n4,n3]
     exact pX (j_ g4) p4 hat.ev hv hW (lH u2) (by rw[Nat.zero_add,if_neg (by decide),hsz];exact Nat.le_refl _) ((z6 hD2).trans (by rw[n3])) c2 rfl q4 fun u' s hW'=>av2 (hK _ _ (sto I hge s (.inr ⟨rfl,hk,hat,by rw[if_neg (by decide)] at hW';rw[jA _ _ hsz] at hW';exact hW'⟩)))
end
def slK:Nat→List Oper→(List Nat→Prop)→Prop
 | 0,_,f=>f []
 | k+1,o::r,f=>(match o.dst with|some d=>slK k r fun s=>f (d::s)|none=>False)
 | _+1,[],_=>False
theorem L5:∀ {k:Nat} {L:List Oper} {f:List Nat→Prop},slK k L f→k≤L.length∧(L.take k).map (fun o=>o.dst)=(iC k L).map some∧f (iC k L)
 | 0,_,_,h=>⟨Nat.zero_le _,by simp[iC],by simpa[iC,slK] using h⟩
 | k+1,o::r,f,h=>by
  unfold slK at h;split at h
  ·rename_i d hd;obtain⟨h1,h2,h3⟩:=L5 h;have e:iC (k+1) (o::r)=d::iC k r:=by simp[iC,hd]
   rw[e];exact⟨by simpa using h1,by simp[hd,h2],h3⟩
  ·exact h.elim
 | _+1,[],_,h=>h.elim
def vr(B:Nat)(w0:World)(N:Nat)(L:List Oper)(l:Slots)(bs:List Bx)(rs:List Rw)(w:World)(K:Slots→List Bx→List Rw→World→Prop):Prop:=
 agK N L (dkN false [] L)=true∧slK (dkN false [] L) L fun ds=>Wz ds l fun l'=>vd B w0 N l' bs rs w (vF B w0 N l' bs rs w K) (dkN false [] L) L 0 [] none [] false
section
variable {B:Nat} {w0 w:World} {N:Nat} {l:Slots} {bs:List Bx} {rs:List Rw} {K:Slots→List Bx→List Rw→World→Prop} {Q:Exit→Act→World→Prop} {a:Act} {id:Nat} {L:List Oper}
theorem Sw{m:List fW}{n:Nat}(h:jv m n){d j:Nat}(hj:j<n)(hu:∀ e∈m,e.j≠j){v:Value}:jv (⟨d,j,[],true,v⟩::m) n:=by
 have key:∀ x,(∃ e∈m,e.j=x.1)→(Cond (⟨d,j,[],true,v⟩::m) x↔Cond m x):=fun x ⟨e',h4,h5⟩=>by
  constructor
  ·rintro⟨e,he,h1,h2,h3⟩;rcases avS.1 he with rfl|he
   ·exact absurd (h5.trans h1.symm) (hu e' h4)
   ·exact⟨e,he,h1,h2,h3⟩
  ·rintro⟨e,he,h1⟩;exact⟨e,avT _ he,h1⟩
 refine⟨?_,?_,?_,?_⟩
 ·intro e he;rcases avS.1 he with rfl|he
  ·exact hj
  ·exact h.lt e he
 ·intro e he e' he' hjj;rcases avS.1 he with rfl|he<;>rcases avS.1 he' with rfl|he'
  ·rfl
  ·exact absurd hjj.symm (hu e' he')
  ·exact absurd hjj (hu e he)
  ·exact h.uniq e he e' he' hjj
 ·intro e he x hx;rcases avS.1 he with rfl|he
  ·cases hx
  ·obtain⟨e',h1,h2⟩:=h.pm e he x hx;exact⟨e',avT _ h1,h2⟩
 ·intro e he;rcases avS.1 he with rfl|he
  ·simp
  ·rw[h.tv e he];exact⟨fun h' x hx=>(key x (h.pm e he x hx)).2 (h' x hx),fun h' x hx=>(key x (h.pm e he x hx)).1 (h' x hx)⟩
theorem aeK(F:Fs a N l)(M:aW B w0 w bs rs)(h:vr B w0 N L l bs rs w K)(next:∀ a l' bs' rs' w',Fs a N l'→aW B w0 w' bs' rs'→K l' bs' rs' w'→Q .normal a w'):(Code.region id L.toArray true).wp Tryz.prog Q a w:=by
 obtain⟨hok,h⟩:=h;obtain⟨hkl,hsl,h⟩:=L5 h;obtain⟨l',h,hlk⟩:=Cy h;generalize dkN false [] L=k at hok hkl hsl h hlk;generalize gD:iC k L=slots at hsl h hlk;unfold agK at hok;simp only[av4,decide_eq_true_eq,av3,gD] at hok;obtain⟨eS,htail,qE,kr,hbd,hnd⟩:=hok
 have hlen:slots.length=k:=by
  have:=congrArg List.length hsl;simp only[av8,av5] at this;omega
 have hat:∀ (i:Nat) (o:Oper),(L.take k)[i]?=some o→slots[i]?=o.dst:=fun i o hi=>by
  have h1:=congrArg (fun x=>x[i]?) hsl;simp only[av0,hi,Option.map_some] at h1
  cases hs:slots[i]? with
  | none=>rw[hs] at h1;cases h1
  | some s=>rw[hs] at h1;exact(avU h1).symm
 have rO:∀ (i s:Nat),slots[i]?=some s→(L.toArray[i]?).bind (fun o=>o.dst)=some s:=fun i s hs=>by
  have hi:i<k:=hlen▸(avZ.1 hs).1;have hiL:i<L.length:=Nat.lt_of_lt_of_le hi hkl;have h1:(L.take k)[i]?=some L[i]:=by rw[List.getElem?_take,if_pos hi,avR hiL]
  have h2:=hat i _ h1;rw[hs] at h2;simp[hiL,← h2]
 have hl':∀ q v,look q l'=some v→slots.contains q=false∧look q l=some v:=fun q v hq=>by
  rw[hlk] at hq
  cases hm:jw q slots with
  | true=>rw[hm] at hq;cases hq
  | false=>
   rw[hm] at hq;refine⟨?_,hq⟩
   cases hc:slots.contains q with
   | false=>rfl
   | true=>
    have:q∈slots:=by simpa using hc
    rw[oh.2 this] at hm;cases hm
 have F0:Fs a N l':=⟨F.fr,fun q v hq=>F.at_ q v (hl' q v hq).2⟩
 obtain⟨G,m,al,rel,us,hla,hGl,hst,hF,hv⟩:=aaj (ops:=L.toArray) M hnd rO (fun q v hq=>(hl' q v hq).1) F0 (gp:=[]) h ⟨⟨.nil 0,rfl,by simp⟩,(fun _ h=>by cases h),(fun _ _ i h=>absurd h (Nat.not_lt_zero i)),(fun _ h=>by cases h),.nil⟩
  (fun i o hi=>⟨kr o (avW hi),by rw[Nat.zero_add];exact hat i o hi⟩) hkl trivial
 rw[List.nil_append] at hla hst hF;rw[Nat.zero_add] at hF hv;refine pV k slots G (avX w.heap.size w) (by kernel_rfl) eS htail hsl hnd (by simpa using hbd) (by rw[hGl,hlen]) F.fr (Below.refl _ _).drew (fun _ _ h hb=>h.trans (hb.mono h.size)) hla ?_ ?_
 ·exact hst
 ·intro a' w' D;have hgood:∀ (i s:Nat) (g:Good),slots[i]?=some s→G[i]?=some g→∃ v,At a' s v∧g v w':=fun i s g hs hg=>D.done i rfl s g hs hg
  have I0:Inv L.toArray a' N l' m k:=by
   refine⟨D.fr,hF.D.L,fun e he=>rO _ _ (hF.D.at_ e he).1,fun e he=>?_,fun q v _ hq=>D.rest q v (hl' q v hq).1 (F0.at_ q v hq)⟩;obtain⟨v,h1,rfl⟩:=hgood _ _ _ (hF.D.at_ e he).1 (hF.D.at_ e he).2;exact h1
  have hrest:∀ i o,(L.drop k)[i]?=some o→L.toArray[k+i]?=some o:=fun i o hi=>by simpa using hi
  have hput:∀ {m':List fW} {d j:Nat} {v:Value},Inv L.toArray a' N l' m' k→j<k→(∀ e∈m',e.j≠j)→slots[j]?=some d→At a' d v→Inv L.toArray a' N l' (⟨d,j,[],true,v⟩::m') k:=by
   intro m' d j v I0 c4 c5 c1 h1;refine⟨I0.fr,Sw I0.L c4 c5,?_,?_,?_⟩
   ·intro e he;rcases avS.1 he with rfl|he
    ·exact rO _ _ c1
    ·exact I0.dst e he
   ·intro e he;rcases avS.1 he with rfl|he
    ·exact h1
    ·exact I0.at_ e he
   ·intro q u hq hl;exact I0.base q u (fun e he=>hq e (avT _ he)) hl
  have hfin:∀ {rel':List kY} {m':List fW} {P:Option (World→Prop)} {f:List fW→Option (World→Prop)→Prop},Inv L.toArray a' N l' m' k→(∀ A∈rel',A.j<k∧slots[A.j]?=some A.d∧(∀ e∈m',e.j≠A.j)∧(∀ C,al=some C→C.j≠A.j)∧∃ u,At a' A.d u∧A.R u w')→(rel'.map (·.j)).Nodup→(∀ C,al=some C→∀ e∈m',e.j≠C.j)→(∀ p,P=some p→p w')→ab0 rel' m' P f →
   ∃ m'' P',f m'' P'∧(∀ p,P'=some p→p w')∧Inv L.toArray a' N l' m'' k∧∀ C,al=some C→∀ e∈m'',e.j≠C.j:=by
   intro rel'
   induction rel' with
   | nil=>intro m' P f I _ _ hC hP h;exact⟨m',P,h,hP,I,hC⟩
   | cons A r ih=>
    intro m' P f I hA hn hC hP h;obtain⟨d,j,R⟩:=A;obtain⟨hfr,h⟩:=bH h;obtain⟨b4,b1,b5,b6,u,k1,k2⟩:=hA _ (avV ..);rw[List.map_cons,List.nodup_cons] at hn;refine ih (hput I b4 b5 b1 k1) (fun A' hA'=>?_) hn.2 (fun C hC' e he=>?_) (fun p hp=>?_) (h u)
    ·obtain⟨c4,c1,c5,c6,c7⟩:=hA A' (avT _ hA');refine⟨c4,c1,fun e he=>?_,c6,c7⟩;rcases avS.1 he with rfl|he
     ·exact fun e=>hn.1 (avP.2 ⟨A',hA',e.symm⟩)
     ·exact c5 e he
    ·rcases avS.1 he with rfl|he
     ·exact fun e=>b6 C hC' e.symm
     ·exact hC C hC' e he
    ·cases P with
     | none=>obtain rfl:=avU hp;exact k2
     | some q=>obtain rfl:=avU hp;exact⟨k2,hP q rfl⟩
  obtain⟨m',P',k1,k2,I1,hC⟩:=hfin I0 (fun A hA=>by
   obtain⟨b1,b2,b4,b5,b6⟩:=hF.Mn A hA;exact⟨b4,b1,b5,b6,hgood _ _ _ b1 b2⟩) hF.vX (fun C hC e he=>(hF.al_ C hC).2.2.2.2 e he) (fun _ h=>by cases h) hv
  cases al with
  | none=>exact Fb hrest I1 (M.keep D.inv) (uZ (k1 w') k2 D.inv (M.keep D.inv)) next
  | some A=>
   obtain⟨d,j,ty,cs,s⟩:=A;obtain⟨c1,c2,c3,c4,c5⟩:=hF.al_ _ rfl;obtain⟨hfr,k1⟩:=bH k1;obtain⟨v,h1,g,rfl,h2,h3⟩:=hgood _ _ _ c1 c2;have M':=M.newAt D.inv h2 h3 c3;exact Fb hrest (hput I1 c4 (hC _ rfl) c1 h1) M' (uZ (k1 g w') k2 D.inv M') next
end
def kP:List Oper→Nat
 | _::y::z::u::v::r=>kP (y::z::u::v::r)+1
 | _=>0
def vp(B:Nat)(w0:World)(N:Nat)(L:List Oper)(l:Slots)(bs:List Bx)(rs:List Rw)(w:World)(K:Slots→List Bx→List Rw→World→Prop):Prop:=
 ae3 N L (kP L)=true∧slK (kP L+2) L fun ds=>Wz ds l fun l'=>vd B w0 N l' bs rs w (vP B w0 N l' bs rs w K) (kP L) L 0 [] none [] false
section
variable {B:Nat} {w0 w:World} {N:Nat} {l:Slots} {bs:List Bx} {rs:List Rw} {K:Slots→List Bx→List Rw→World→Prop} {Q:Exit→Act→World→Prop} {a:Act} {id:Nat} {L:List Oper}
theorem JW{P:Program}{ops:Array Oper}{I:(Nat→Bool)→Act→World→Prop}{l:List Oper}
 (h:∀ (i:Nat) (o:Oper),l[i]?=some o→∀ (Lf:Nat→Bool) (b:Act) (u:World) (Q':Exit→Act→World→Prop),I Lf b u→Lf i=false→(∀ e∈o.after.toList,Region.binds .any e=true→Lf e.on=true)→(∀ b u,I (upd Lf i) b u→Q' .normal b u)→wpList P ops Q' [o] b u) :
 ∀ (r:List Oper) (m:Nat),(∀ i o,r[i]?=some o→l[m+i]?=some o)→jt P ops I m r:=by
 intro r
 induction r with
 | nil=>intro m _;trivial
 | cons o r ih=>
  intro m hr;refine⟨h m o (hr 0 o rfl),ih (m+1) fun i o' ho'=>?_⟩;have:=hr (i+1) o' (by simpa using ho')
  rwa [show m+1+i=m+(i+1) by omega]
theorem aeL(F:Fs a N l)(M:aW B w0 w bs rs)(h:vp B w0 N L l bs rs w K)(next:∀ a l' bs' rs' w',Fs a N l'→aW B w0 w' bs' rs'→K l' bs' rs' w'→Q .normal a w'):(Code.region id L.toArray true).wp Tryz.prog Q a w:=by
 obtain⟨hok,h⟩:=h;obtain⟨hkl,hsl,h⟩:=L5 h;obtain⟨l',h,hlk⟩:=Cy h;generalize kP L=k at hok hkl hsl h hlk;generalize gD:iC (k+2) L=slots at hsl h hlk;unfold ae3 at hok;simp only[av4,decide_eq_true_eq,av3,gD] at hok;obtain⟨eS,qE,kr,hbd,hnd,hlen,hgd,PE⟩:=hok
 have aaG:slots.length=k+2:=by
  have:=congrArg List.length hsl;simp only[av8,av5] at this;omega
 have V9:∀ (i:Nat) (o:Oper),i<k+2→L[i]?=some o→slots[i]?=o.dst:=fun i o hi ho=>by
  have h1:=congrArg (fun x=>x[i]?) hsl;simp only[av0,List.getElem?_take,if_pos hi,ho,Option.map_some] at h1
  cases hs:slots[i]? with
  | none=>rw[hs] at h1;cases h1
  | some s=>rw[hs] at h1;exact(avU h1).symm
 have rO:∀ (i s:Nat),slots[i]?=some s→(L.toArray[i]?).bind (fun o=>o.dst)=some s:=fun i s hs=>by
  have hi:i<k+2:=aaG▸(avZ.1 hs).1;have hiL:i<L.length:=by omega
  have h2:=V9 i _ hi (avR hiL);rw[hs] at h2;simp[hiL,← h2]
 have hl':∀ q v,look q l'=some v→slots.contains q=false∧look q l=some v:=fun q v hq=>by
  rw[hlk] at hq
  cases hm:jw q slots with
  | true=>rw[hm] at hq;cases hq
  | false=>
   rw[hm] at hq;refine⟨?_,hq⟩
   cases hc:slots.contains q with
   | false=>rfl
   | true=>
    have:q∈slots:=by simpa using hc
    rw[oh.2 this] at hm;cases hm
 have F0:Fs a N l':=⟨F.fr,fun q v hq=>F.at_ q v (hl' q v hq).2⟩
 obtain⟨G,m,al,rel,us,hla,hGl,hst,hF,hv⟩:=aaj (ops:=L.toArray) M hnd rO (fun q v hq=>(hl' q v hq).1) F0 (gp:=[]) h ⟨⟨.nil 0,rfl,by simp⟩,(fun _ h=>by cases h),(fun _ _ i h=>absurd h (Nat.not_lt_zero i)),(fun _ h=>by cases h),.nil⟩
  (fun i o hi=>⟨kr o (avW hi),by
   have hik:i<k:=by have:=(avZ.1 hi).1;rw[av5] at this;omega
   rw[Nat.zero_add];exact V9 i o (by omega) (by rw[List.getElem?_take,if_pos hik] at hi;exact hi)⟩) (by omega) trivial
 rw[List.nil_append] at hla hst hF;rw[Nat.zero_add] at hF hv;replace hv:vP B w0 N l' bs rs w K (L.drop k) k m al rel us:=hv;unfold vP at hv;split at hv
 case h_2=>exact hv.elim
 rename_i a1 a2 s1 s2 aaO;split at hv
 case h_2=>exact hv.elim
 rename_i zZ zY t1 x1 y1 t2 x2 y2 p1 p2 p3 p4;obtain⟨d1,q1,b1,b1',hv⟩:=iG hv;obtain⟨d2,q2,b2,b2',hv⟩:=iG hv;obtain⟨hx1,hv⟩:=bH hv;obtain⟨hx2,hv⟩:=bH hv;obtain rfl:=av7 hx1;obtain rfl:=av7 hx2;split at hv
 case h_2=>exact hv.elim
 rename_i q3 q4;obtain⟨z1,z2,⟨hz1,hz2⟩,hv⟩:=hv;obtain⟨u1,r1,hv⟩:=ct hv;obtain⟨u2,r2,hv⟩:=ct hv;obtain⟨D1,hD1,hv⟩:=j5 hv;obtain⟨D2,hD2,hv⟩:=j5 hv;obtain⟨t9,hv⟩:=bH hv;obtain⟨t9',hv⟩:=bH hv;obtain⟨n1,hv⟩:=iK hv;obtain⟨n2,hv⟩:=iK hv;obtain⟨n3,hv⟩:=iK hv;obtain⟨n4,⟨c1,c2⟩,hv⟩:=iK hv;have at_:∀ i o,(L.drop k)[i]?=some o→L[k+i]?=some o:=fun i o hi=>by simpa using hi
 rw[aaO] at at_ hgd;have e1:=at_ 0 a1 rfl;have e2:=at_ 1 a2 rfl;have e3:=at_ 2 s1 rfl;have e4:=at_ 3 s2 rfl;have g1:a1.guard=none:=by have:=hgd a1 (by simp);simpa[pOp] using this
 have g2:a2.guard=none:=by have:=hgd a2 (by simp);simpa[pOp] using this
 have g3:s1.guard=none:=by have:=hgd s1 (by simp);simpa[pOp] using this
 have g4:s2.guard=none:=by have:=hgd s2 (by simp);simpa[pOp] using this
 have hd2:L.drop (k+2)=[s1,s2]:=by rw[← List.drop_drop,aaO];rfl
 rw[hd2] at PE
 have Zi:∀ g∈G,∃ v,g=bI v:=fun g hg=>by
  obtain⟨i,hi⟩:=List.getElem?_of_mem hg;obtain⟨e,he,rfl⟩:=hF.cov rfl rfl i (hGl▸(avZ.1 hi).1);have:=(hF.D.at_ e he).2;rw[hi] at this;exact⟨_,avU this⟩
 have Yr:slots[k]?=some x1:=by rw[V9 k a1 (by omega) e1,q1]
 have Yq:slots[k+1]?=some x2:=by rw[V9 (k+1) a2 (by omega) e2,q2]
 have ev:∀ {y:Operand} {u:Value} {s:Oper},EV l' m [] y u→s∈[s1,s2]→y∈iF s.op→∀ (b:Act) (u':World) (Lf:Nat→Bool),PI L k slots G N a w x1 x2 zZ zY z1.cells z2.cells (bg u1).toArray (bg u2).toArray Lf b u'→(∀ e∈s.after.toList,Region.binds .any e=true→Lf e.on=true)→b.eval y=u:=by
  intro y u s PB hs hy b u' Lf I hdp
  cases y with
  | tmp q=>
   rcases PB with⟨e,he,rfl,rfl,hsub⟩|⟨h1,h2⟩
   ·have ht:e.t=true:=(hF.D.L.tv e he).2 fun y hy=>absurd (z8 hsub y hy) (by simp)
    obtain⟨f1,f2⟩:=hF.D.at_ e he;obtain⟨gr,f3,f4⟩:=Gr (PE s hs) hnd f1 hy;obtain⟨v,f5,rfl⟩:=I.done e.j (hF.D.L.lt e he) (hdp _ f3 f4) _ _ f1 f2;exact(f5.on ht).ev
   ·exact(I.rest q u (hl' q u h2).1 (F0.at_ q u h2)).ev
  | const c=>exact PB
  | global=>exact PB.elim
  | func f=>exact PB
 refine fO (by kernel_rfl) eS (PI L k slots G N a w x1 x2 zZ zY z1.cells z2.cells (bg u1).toArray (bg u2).toArray) ?_ (JW (Mx hlen hnd aaG (fun s hs=>by simpa using hbd s hs) hGl Zi hst eS V9 e1 e2 e3 e4 p1 p2 p3 p4 g1 g2 g3 g4 q1 q2 q3 q4 hz1 hz2 hD1 hD2 n1 n2 n3 n4 c1 c2
  (fun b u Lf I hdp=>⟨ev r1 (by simp) (by rw[p3];simp[iF]) b u Lf I hdp,by obtain⟨gr,f3,f4⟩:=Gr (PE s1 (by simp)) hnd Yr (by rw[p3];simp[iF]);exact hdp _ f3 f4⟩)
  (fun b u Lf I hdp=>⟨ev r2 (by simp) (by rw[p4];simp[iF]) b u Lf I hdp,by obtain⟨gr,f3,f4⟩:=Gr (PE s2 (by simp)) hnd Yq (by rw[p4];simp[iF]);exact hdp _ f3 f4⟩)) L 0 (fun i o ho=>by simpa using ho)) ?_
 ·exact⟨F.fr,(Below.refl _ _).drew,(fun _ _ h=>by cases h),fun _ _ _ h=>h,(fun h=>by cases h),(fun h=>by cases h),(fun h=>by cases h),(fun h=>by cases h),fun h=>by cases h⟩
 ·intro Lf a' w' I hall;obtain⟨v1,f1,f2,f3⟩:=I.one (hall _ (by omega));obtain⟨v2,f4,f5,f6⟩:=I.two (hall _ (by omega));rw[if_pos (hall _ (by omega))] at f3 f6;have hne:v1≠v2:=fun e=>I.ne (hall _ (by omega)) (hall _ (by omega)) v1 f1 (e▸f4)
  have M':aW B w0 w' ((v1,zZ,(bg u1).toArray)::(v2,zY,(bg u2).toArray)::bs) rs:=M.FP I.inv (b1:=(v1,zZ,(bg u1).toArray)) (b2:=(v2,zY,(bg u2).toArray)) (.inl ⟨t9,f3⟩) f2 (.inl ⟨t9',f6⟩) f5 hne
  have I0:Inv L.toArray a' N l' m k:=by
   refine⟨I.fr,hF.D.L,fun e he=>rO _ _ (hF.D.at_ e he).1,fun e he=>?_,fun q v _ hq=>I.rest q v (hl' q v hq).1 (F0.at_ q v hq)⟩;obtain⟨v,h1,rfl⟩:=I.done e.j (hF.D.L.lt e he) (hall _ (by have:=hF.D.L.lt e he;omega)) _ _ (hF.D.at_ e he).1 (hF.D.at_ e he).2;exact h1
  obtain⟨l'',k1,F'⟩:=I0.fsK (hv v1 v2 w' I.inv M');exact next _ _ _ _ _ ((F'.add f4).add f1) M' k1
end
abbrev KK:=Exit→Slots→List Bx→List Rw→World→Prop
def doK:List Oper→List Nat→(List Nat→Prop)→Prop
 | [],acc,f=>f acc
 | o::r,acc,f=>(match o.dst with|some d=>doK r (d::acc) f|none=>doK r acc f)
theorem Xd{f:List Nat→Prop}:∀ {L:List Oper} {acc:List Nat},doK L acc f→∃ ds,f ds
 | [],acc,h=>⟨acc,h⟩
 | o::r,acc,h=>by
  unfold doK at h;split at h<;>exact Xd h
def ZI:Code→List Nat→(List Nat→Prop)→Prop
 | .region _ ops _,acc,f=>doK ops.toList acc f
 | .seq a b,acc,f=>ZI a acc fun acc=>ZI b acc f
 | .cond _ a b,acc,f=>ZI a acc fun acc=>ZI b acc f
 | .block _ c,acc,f=>ZI c acc f
 | .loop c,acc,f=>ZI c acc f
 | _,acc,f=>f acc
theorem qQ:∀ {c:Code} {acc:List Nat} {f:List Nat→Prop},ZI c acc f→∃ ds,f ds
 | .region _ _ _,_,_,h=>Xd h
 | .seq a b,_,_,h=>by obtain⟨_,h⟩:=qQ (c:=a) h;exact qQ (c:=b) h
 | .cond _ a b,_,_,h=>by obtain⟨_,h⟩:=qQ (c:=a) h;exact qQ (c:=b) h
 | .block _ c,_,_,h=>qQ (c:=c) h
 | .loop c,_,_,h=>qQ (c:=c) h
 | .skip,_,_,h=>⟨_,h⟩
 | .rangeFunc _ _ _ _,_,_,h=>⟨_,h⟩
 | .exit _,_,_,h=>⟨_,h⟩
 | .scope _,_,_,h=>⟨_,h⟩
 | .label _,_,_,h=>⟨_,h⟩
 | .goto _,_,_,h=>⟨_,h⟩
 | .ret,_,_,h=>⟨_,h⟩
 | .refuse _,_,_,h=>⟨_,h⟩
def kpK:List Nat→Slots→(Slots→Prop)→Prop
 | _,[],f=>f []
 | ds,(s,v)::r,f=>bif jw s ds then kpK ds r f else kpK (s::ds) r fun l=>f ((s,v)::l)
theorem xG:∀ {l:Slots} {ds:List Nat} {f:Slots→Prop},kpK ds l f→∃ l',f l'∧(∀ q v,look q l'=some v→look q l=some v)∧∀ q∈ds,look q l'=none
 | [],ds,f,h=>⟨[],h,fun _ _ h=>h,fun _ _=>rfl⟩
 | (s,v)::r,ds,f,h=>by
  unfold kpK at h
  cases hm:jw s ds with
  | true=>
   rw[hm] at h;obtain⟨l',h1,h2,h3⟩:=xG h;refine⟨l',h1,fun q u hq=>?_,h3⟩;rw[bG]
   cases e:q == s with
   | true=>
    have e':q=s:=by simpa using e
    rw[h3 q (e'▸oh.1 hm)] at hq;cases hq
   | false=>exact h2 q u hq
  | false=>
   rw[hm] at h;obtain⟨l',h1,h2,h3⟩:=xG h;refine⟨_,h1,fun q u hq=>?_,fun q hq=>?_⟩
   ·rw[bG] at hq ⊢
    cases e:q == s with
    | true=>rw[e] at hq;exact hq
    | false=>rw[e] at hq;exact h2 q u hq
   ·rw[bG]
    cases e:q == s with
    | true=>
     have e':q=s:=by simpa using e
     rw[oh.2 (e'▸hq)] at hm;cases hm
    | false=>exact h3 q (avT _ hq)
def apS:Slots→Slots→Slots
 | [],r=>r
 | x::l,r=>x::apS l r
theorem JH{q:Nat}{r:Slots}:∀ {l:Slots} {v:Value},look q (apS l r)=some v→look q l=some v∨look q r=some v
 | [],_,h=>.inr h
 | (s,u)::l,v,h=>by
  rw[apS,bG] at h;rw[bG]
  cases e:q == s with
  | true=>rw[e] at h;exact .inl h
  | false=>rw[e] at h;exact JH h
theorem Fs.kept{a:Act}{N:Nat}{l C kl:Slots}(F:Fs a N l)(hs:Sub l C)(hk:∀ q v,look q kl=some v→look q l=some v):Fs a N (apS C kl):=by
 refine⟨F.fr,fun q v h=>?_⟩;rcases JH h with h|h
 ·exact(F.sub hs).at_ q v h
 ·exact F.at_ q v (hk q v h)
def fid:Code→Option Nat
 | .region id _ _=>some id
 | .seq a b=>(match fid a with|some i=>some i|none=>fid b)
 | .block _ c=>fid c
 | .loop c=>fid c
 | .cond _ a _=>fid a
 | _=>none
def jn(i:Option Nat)(J:List Nat):Bool:=match i with
 | some i=>jw i J
 | none=>false
def inS(B:Nat)(w0:World){ι:Type}(C:ι→Slots)(zT:ι→List Bx)(vW:ι→List Rw)(R:ι→World→Prop)(l:Slots)(bs:List Bx)(rs:List Rw)(w:World)(x:ι):Prop:=
 Sub l (C x)∧(aW B w0 w bs rs→aW B w0 w (zT x) (vW x)∧R x w)
section
variable (B:Nat) (w0:World) (N:Nat) (J:List Nat)
def QA:Code→Slots→List Bx→List Rw→World→KK→Prop
 | .skip,l,bs,rs,w,K=>K .normal l bs rs w
 | .label _,l,bs,rs,w,K=>K .normal l bs rs w
 | .exit id,l,bs,rs,w,K=>K (.exit id) l bs rs w
 | .ret,l,bs,rs,w,K=>K .ret l bs rs w
 | .region id ops dr,l,bs,rs,w,K=>(match dr with
  | false=>vc B w0 N l ops.toList 0 [] bs rs w (K .normal)
  | true=>vr B w0 N ops.toList l bs rs w (K .normal)∨vp B w0 N ops.toList l bs rs w (K .normal) ∨
   (∀ (a:Act) (Q:Exit→Act→World→Prop),Fs a N l→aW B w0 w bs rs→(∀ a' l' bs' rs' w',Fs a' N l'→aW B w0 w' bs' rs'→K .normal l' bs' rs' w'→Q .normal a' w')→(Code.region id ops true).wp Tryz.prog Q a w))
 | .seq x y,l,bs,rs,w,K=>bif jn (fid y) J then
  ZI x [] fun ds=>kpK ds l fun kl=>∃ (ι:Type) (C:ι→Slots) (zT:ι→List Bx) (vW:ι→List Rw) (R:ι→World→Prop),
   QA x l bs rs w (fun e l' bs' rs' w'=>match e with
    | .normal=>kpK ds l' fun kl'=>kl'=kl∧∃ x,inS B w0 C zT vW R l' bs' rs' w' x
    | e=>K e l' bs' rs' w') ∧
   ∀ x w',aW B w0 w' (zT x) (vW x)→R x w'→QA y (apS (C x) kl) (zT x) (vW x) w' K
  else QA x l bs rs w fun e l' bs' rs' w'=>match e with
   | .normal=>QA y l' bs' rs' w' K
   | e=>K e l' bs' rs' w'
 | .cond c x y,l,bs,rs,w,K=>qx l [] [] c fun v=>match v with
  | .bool b=>(b=true→QA x l bs rs w K)∧(b=false→QA y l bs rs w K)
  | _=>False
 | .block id c,l,bs,rs,w,K=>QA c l bs rs w fun e l' bs' rs' w'=>match e with
  | .exit i=>bif Nat.beq i id then K .normal l' bs' rs' w' else K (.exit i) l' bs' rs' w'
  | e=>K e l' bs' rs' w'
 | .loop c,l,bs,rs,w,K=>ZI c [] fun ds=>kpK ds l fun kl=>∃ (ι:Type) (C:ι→Slots) (zT:ι→List Bx) (vW:ι→List Rw) (R:ι→World→Prop) (μ:ι→Nat) (x:ι),
  inS B w0 C zT vW R l bs rs w x ∧
  ∀ x w',aW B w0 w' (zT x) (vW x)→R x w'→QA c (apS (C x) kl) (zT x) (vW x) w' fun e l' bs' rs' w''=>match e with
   | .normal=>kpK ds l' fun kl'=>kl'=kl∧∃ x',inS B w0 C zT vW R l' bs' rs' w'' x'∧μ x'<μ x
   | e=>K e l' bs' rs' w''
 | _,_,_,_,_,_=>False
end
theorem LN{B:Nat}{w0:World}{N:Nat}{J:List Nat}:∀ {c:Code} {l:Slots} {bs:List Bx} {rs:List Rw} {w:World} {K:KK} {Q:Exit→Act→World→Prop} {a:Act},QA B w0 N J c l bs rs w K→Fs a N l→aW B w0 w bs rs →
 (∀ e a l bs rs w,Fs a N l→aW B w0 w bs rs→K e l bs rs w→Q e a w)→c.wp Tryz.prog Q a w:=by
 intro c
 induction c with
 | skip=>intro l bs rs w K Q a h F M hQ;exact wp_skip (hQ _ _ _ _ _ _ F M h)
 | label=>intro l bs rs w K Q a h F M hQ;exact wp_label (hQ _ _ _ _ _ _ F M h)
 | exit=>intro l bs rs w K Q a h F M hQ;exact wp_exit (hQ _ _ _ _ _ _ F M h)
 | ret=>intro l bs rs w K Q a h F M hQ;exact wp_ret (hQ _ _ _ _ _ _ F M h)
 | region id ops dr=>
  intro l bs rs w K Q a h F M hQ
  cases dr with
  | false=>exact wp_region_list (aak (ops:=ops) (fun i o hi=>by simpa using hi) (Inv.start F) M h fun a l' bs' rs' w' F' M' hk=>hQ _ _ _ _ _ _ F' M' hk)
  | true=>
   rcases h with h|h|h
   ·have:=aeK (id:=id) F M h (Q:=Q) fun a l' bs' rs' w' F' M' hk=>hQ _ _ _ _ _ _ F' M' hk
    rwa [Array.toArray_toList] at this
   ·have:=aeL (id:=id) F M h (Q:=Q) fun a l' bs' rs' w' F' M' hk=>hQ _ _ _ _ _ _ F' M' hk
    rwa [Array.toArray_toList] at this
   ·exact h a Q F M fun a l' bs' rs' w' F' M' hk=>hQ _ _ _ _ _ _ F' M' hk
 | seq x y ihx ihy=>
  intro l bs rs w K Q a h F M hQ;unfold QA at h
  cases hj:jn (fid y) J with
  | false=>
   rw[hj] at h;refine wp_seq (ihx h F M fun e a l' bs' rs' w' F' M' hk=>?_)
   cases e with
   | normal=>exact ihy hk F' M' hQ
   | _=>exact hQ _ _ _ _ _ _ F' M' hk
  | true=>
   rw[hj] at h;obtain⟨ds,h⟩:=qQ h;obtain⟨kl,⟨ι,C,zT,vW,R,h1,h2⟩,-,-⟩:=xG h;refine wp_seq (ihx h1 F M fun e a l' bs' rs' w' F' M' hk=>?_)
   cases e with
   | normal=>
    obtain⟨kl',⟨rfl,x,hs,hR⟩,hkl,-⟩:=xG hk;obtain⟨M',hR⟩:=hR M';exact ihy (h2 x w' M' hR) (F'.kept hs hkl) M' hQ
   | _=>exact hQ _ _ _ _ _ _ F' M' hk
 | cond c x y ihx ihy=>
  intro l bs rs w K Q a h F M hQ;obtain⟨v,h1,h⟩:=ct h;have hv:a.eval c=v:=(Inv.start (ops:=#[]) F).E h1 (by simp)
  cases v with
  | bool b=>exact wp_cond_split hv (fun hb=>ihx (h.1 hb) F M hQ) (fun hb=>ihy (h.2 hb) F M hQ)
  | _=>exact h.elim
 | block id c ih=>
  intro l bs rs w K Q a h F M hQ;refine wp_block (ih h F M fun e a l' bs' rs' w' F' M' hk=>?_)
  cases e with
  | exit i=>
   show if i=id then Q .normal a w' else Q (.exit i) a w'
   have hk:bif Nat.beq i id then K .normal l' bs' rs' w' else K (.exit i) l' bs' rs' w':=hk
   cases hb:Nat.beq i id with
   | true=>
    rw[hb] at hk;rw[if_pos (av7 hb)];exact hQ _ _ _ _ _ _ F' M' hk
   | false=>
    rw[hb] at hk;rw[if_neg fun e=>by rw[e,Nat.beq_refl] at hb;cases hb];exact hQ _ _ _ _ _ _ F' M' hk
  | _=>exact hQ _ _ _ _ _ _ F' M' hk
 | loop c ih=>
  intro l bs rs w K Q a h F M hQ;obtain⟨ds,h⟩:=qQ h;obtain⟨kl,⟨ι,C,zT,vW,R,μ,x,⟨hs,hR⟩,h2⟩,hkl,-⟩:=xG h;obtain⟨M,hR⟩:=hR M;refine eH (fun x a w=>Fs a N (apS (C x) kl)∧aW B w0 w (zT x) (vW x)∧R x w) μ x ⟨F.kept hs hkl,M,hR⟩ ?_;rintro x a w ⟨F,M,hR⟩;refine ih (h2 x w M hR) F M fun e a l' bs' rs' w' F' M' hk=>?_
  cases e with
  | normal=>
   obtain⟨kl',⟨rfl,x',⟨hs,hR⟩,hμ⟩,hkl,-⟩:=xG hk;obtain⟨M',hR⟩:=hR M';exact⟨x',⟨F'.kept hs hkl,M',hR⟩,hμ⟩
  | _=>exact hQ _ _ _ _ _ _ F' M' hk
 | rangeFunc=>intro l bs rs w K Q a h;exact h.elim
 | scope=>intro l bs rs w K Q a h;exact h.elim
 | goto=>intro l bs rs w K Q a h;exact h.elim
 | refuse=>intro l bs rs w K Q a h;exact h.elim
def rsK(l:Slots):List ResultVar→(List Value→Prop)→Prop
 | [],f=>f []
 | .tmp s::r,f=>(match look s l with|some v=>rsK l r fun vs=>f (v::vs)|none=>False)
 | _::_,_=>False
theorem UN{a:Act}{N:Nat}{l:Slots}(F:Fs a N l):∀ {rv:List ResultVar} {f:List Value→Prop},rsK l rv f→∃ vs,f vs∧Dn (fun r v=>∃ s,r=.tmp s∧At a s v) rv vs
 | [],_,h=>⟨[],h,.nil⟩
 | .tmp s::r,f,h=>by
  unfold rsK at h;split at h
  ·rename_i v hv;obtain⟨vs,h1,h2⟩:=UN F h;exact⟨_,h1,.cons ⟨s,rfl,F.at_ s v hv⟩ h2⟩
  ·exact h.elim
 | .cell _ _::_,_,h=>h.elim
def kQ:List Value→Value
 | [v]=>v
 | vs=>.tuple vs.toArray
def Xk(bs:List Bx)(g n:Nat)(k:List Value→Prop):Prop:=∃ i,tE bs i fun b=>bif Nat.blt b.2.1 9000 then b.1=g∧qD b.2.2.toList n (k b.2.2.toList) else False
def P6(l:Slots)(bs:List Bx)(s:Nat)(ty:TypeId)(k:List Value→Prop):Prop:=match look s l with
 | some v=>FJ v False fun g off=>bif Nat.beq off 0 then DB ty (fun D=>match D with|.st n _=>Xk bs g n k|.arr n _ m=>Xk bs g (n*m) k|_=>False) TT else False
 | none=>False
theorem KJ{bs:List Bx}{rs:List Rw}{g n:Nat}{k:List Value→Prop}{B:Nat}{w0 w:World}(M:aW B w0 w bs rs)(h:Xk bs g n k):∃ t cs,Whole w g t cs∧n=cs.size∧k cs.toList:=by
 obtain⟨i,hq⟩:=h;obtain⟨⟨b,T,cs⟩,hb,hq1⟩:=gL hq;obtain⟨hT,h2,hq2⟩:=bH hq1;obtain⟨hl,hq3⟩:=iK hq2;obtain rfl:b=g:=h2;exact⟨T,cs,M.b i hb hT,by rw[← hl,Array.length_toList],hq3⟩
theorem KL{l:Slots}{bs:List Bx}{rs:List Rw}{s:Nat}{ty:TypeId}{k:List Value→Prop}{B:Nat}{w0 w:World}(M:aW B w0 w bs rs)(h:P6 l bs s ty k):
 ∃ (g:Nat) (cs:Array Value),look s l=some (.pointer (some ⟨g,0,none⟩))∧(loadVar ty ⟨g,0,none⟩).run Tryz.prog w=.ok (.agg cs) w∧k cs.toList:=by
 unfold P6 at h;split at h
 ·rename_i v hv;rcases oL h with⟨g,off,rfl,hq⟩|h
  case inr=>exact h.elim
  obtain⟨h0,hq'⟩:=bH hq;obtain rfl:off=0:=av7 h0;obtain⟨D,hD,hq⟩:=j5 hq';split at hq
  ·obtain⟨t,cs,hW,hn,hk⟩:=KJ M hq;obtain⟨fs,hu,hs,-⟩:=Uv hD;exact⟨_,_,hv,run_loadVar_row w g t ty cs (0,0) (.struct fs) hW hu rfl (by rw[hs,hn]),hk⟩
  ·obtain⟨t,cs,hW,hn,hk⟩:=KJ M hq;obtain⟨hu,-,hs⟩:=LX hD;exact⟨_,_,hv,run_loadVar_row w g t ty cs (0,0) _ hW hu rfl (by rw[hs,hn]),hk⟩
  ·exact hq.elim
 ·exact h.elim
def Yx(B:Nat)(w0:World)(R:Ending→World→Prop)(l:Slots)(bs:List Bx)(rs:List Rw)(w:World):List ResultVar→Prop
 | [.cell s ty]=>P6 l bs s ty fun cs=>aW B w0 w bs rs→R (.returned (.agg cs.toArray)) w
 | [.cell s ty,.tmp u]=>(match look u l with|some v=>P6 l bs s ty fun cs=>aW B w0 w bs rs→R (.returned (.tuple #[.agg cs.toArray,v])) w|none=>False)
 | L=>bif Nat.ble L.length 3 then rsK l L fun vs=>aW B w0 w bs rs→R (.returned (kQ vs)) w else False
def aeZ(fn:Func)(B:Nat)(w0:World)(R:Ending→World→Prop):KK:=fun e l bs rs w=>match e with
 | .normal=>Yx B w0 R l bs rs w fn.results.toList
 | .ret=>Yx B w0 R l bs rs w fn.results.toList
 | _=>False
theorem Yw{fn:Func}{R:Ending→World→Prop}{a:Act}{w:World}{N:Nat}(h3:Nat.ble fn.results.toList.length 3=true)(hf:Fr a N){vs:List Value}(h:Dn (fun r v=>∃ s,r=.tmp s∧At a s v) fn.results.toList vs)(hR:R (.returned (kQ vs)) w):bodyPost Tryz.prog fn R .ret a w:=by
 generalize hl:fn.results.toList=L at h h3;have hres:fn.results=L.toArray:=by rw[← hl]
 clear hl
 match h with
 | .nil=>exact OL hres hf hR
 | .cons ⟨s,e,h1⟩ .nil=>subst e;exact Ug hres hf h1 hR
 | .cons ⟨s,e,h1⟩ (.cons ⟨s',e',h2⟩ .nil)=>subst e e';exact OJ hres hf h1 h2 hR
 | .cons ⟨s,e,h1⟩ (.cons ⟨s',e',h2⟩ (.cons ⟨s'',e'',h4⟩ .nil))=>subst e e' e'';exact OI hres hf h1 h2 h4 hR
 | .cons _ (.cons _ (.cons _ (.cons _ _)))=>simp at h3
theorem Ae{fn:Func}{R:Ending→World→Prop}{a:Act}{N:Nat}{l:Slots}{bs:List Bx}{rs:List Rw}{B:Nat}{w0 w:World}(F:Fs a N l)(M:aW B w0 w bs rs)(h:Yx B w0 R l bs rs w fn.results.toList):bodyPost Tryz.prog fn R .ret a w:=by
 generalize hL:fn.results.toList=L at h;unfold Yx at h;split at h
 ·rename_i s ty;have hr:fn.results=#[.cell s ty]:=by rw[← Array.toList_inj,hL]
  obtain⟨g,cs,hv,hl,h⟩:=KL M h;refine⟨F.fr.defers,_,?_,h M⟩;have h2:a.tmps.getD s undef=.pointer (some ⟨g,0,none⟩):=F.e s hv;rw[av_] at h2;simp[results,hr,h2,asAddr,hl]
 ·rename_i s ty u;have hr:fn.results=#[.cell s ty,.tmp u]:=by rw[← Array.toList_inj,hL]
  split at h
  ·rename_i v hv2;obtain⟨g,cs,hv,hl,h⟩:=KL M h;refine⟨F.fr.defers,_,?_,h M⟩;have h2:a.tmps.getD s undef=.pointer (some ⟨g,0,none⟩):=F.e s hv;have k2:a.tmps.getD u undef=v:=F.e u hv2;rw[av_] at h2 k2;simp[results,hr,h2,k2,asAddr,hl]
  ·exact h.elim
 ·subst hL;obtain⟨h3,hk⟩:=bH h;obtain⟨vs,h1,h2⟩:=UN F hk;exact Yw h3 F.fr h2 (h1 M)
theorem dD{f:FuncId}{fn:Func}{c:Code}{N:Nat}(J:List Nat){vs:List Value}{R:Ending→World→Prop}{w0:World}(hf:Tryz.prog.funcs[f]?=some fn)(hb:fn.body=some c)(hn:fn.ntmps=N)(hN:Nat.ble vs.length N=true)
 (h:QA w0.heap.size w0 N J c (ens 0 vs) [] [] w0 (aeZ fn w0.heap.size w0 R)):Calls Tryz.prog f vs.toArray w0 R:=by
 refine en hf hb hn (by simpa using hN) rfl fun a F=>LN h F (Mm.start w0) fun e a l bs rs w F M hk=>?_
 cases e with
 | normal=>exact Ui (Ae F M hk)
 | ret=>exact Ae F M hk
 | _=>exact hk.elim
theorem an{p q:Prop}(h:p)(k:q):p∧q:=⟨h,k⟩
theorem ei{α:Sort _}{p:α→Prop}{x:α}(h:p x):∃ x,p x:=⟨x,h⟩
theorem ia{p:Nat→Nat→Nat→Prop}{b off i:Nat}(h:p b off i):∃ b off i,p b off i:=⟨b,off,i,h⟩
theorem lb{p:Nat→Prop}{X:Prop}(i:Nat)(h:p i):(∃ i,p i)∨X:=.inl ⟨i,h⟩
theorem lc{α:Type}{p:α→Prop}{X:Prop}{x:α}(h:p x):X∨∃ x,p x:=.inr ⟨x,h⟩
theorem cl{p:Value→Prop}{X:Prop}{v:Value}(h:p v):(∃ v,p v)∨X:=.inl ⟨v,h⟩
theorem cg{p:(Value→World→Prop)→Prop}{X:Prop}{R:Value→World→Prop}(h:p R):X∨∃ R,p R:=.inr ⟨R,h⟩
theorem cw{B:Nat}{w0 w:World}{bs:List Bx}{rs:List Rw}{X:Prop}{f:FuncId}{args:Array Value}{e kk n:Nat}{xs:List Value}{K:Value→List Bx→List Rw→World→Prop}(M:aW B w0 w bs rs)
 (hc:Calls Tryz.prog f args w fun r w'=>∃ u,r=.returned u∧(w'.ownsRow w.heap.size e kk u n xs∧avX w.heap.size w w')) (h:∀ u w',aW B w0 w' bs (⟨u,e,kk,n,xs⟩::rs)→K u bs (⟨u,e,kk,n,xs⟩::rs) w') :
 X∨∃ R:Value→World→Prop,(Calls Tryz.prog f args w fun e w'=>∃ v,e=.returned v∧R v w')∧∀ v w',R v w'→∃ bs' rs',aW B w0 w' bs' rs'∧K v bs' rs' w':=
 .inr ⟨_,hc,fun u w' hR=>⟨_,_,M.xO (r:=⟨u,e,kk,n,xs⟩) hR.2 hR.1,h u w' (M.xO (r:=⟨u,e,kk,n,xs⟩) hR.2 hR.1)⟩⟩
theorem dr{p q X:Prop}(h:p)(k:q):(p∧q)∨X:=.inl ⟨h,k⟩
theorem dp{p q X Y:Prop}(h:p)(k:q):X∨(p∧q)∨Y:=.inr (.inl ⟨h,k⟩)
theorem cr{X Y Z:Prop}{p:(Value→World→Prop)→Prop}(R:Value→World→Prop)(h:p R):X∨Y∨(∃ R,p R)∨Z:=.inr (.inr (.inl ⟨R,h⟩))
theorem cv{X Y Z:Prop}{p:(Value→World→Prop)→Prop}(R:Value→World→Prop)(h:p R):X∨Y∨Z∨∃ R,p R:=.inr (.inr (.inr ⟨R,h⟩))
theorem cu{X Y:Prop}{p:Value→Prop}{v:Value}(h:p v):X∨(∃ v,p v)∨Y:=.inr (.inl ⟨v,h⟩)
theorem oD{a:Act}{x:Operand}{xs:List Operand}{v:Value}{vs:List Value}:vZ a (x::xs) (v::vs)→a.eval x=v
 | .cons h _=>h
theorem uf{a:Act}{x y:Operand}{xs:List Operand}{u v:Value}{vs:List Value}:vZ a (x::y::xs) (u::v::vs)→a.eval y=v
 | .cons _ (.cons h _)=>h
theorem alm{a:Act}{x y z:Operand}{xs:List Operand}{u v s:Value}{vs:List Value}:vZ a (x::y::z::xs) (u::v::s::vs)→a.eval z=s
 | .cons _ (.cons _ (.cons h _))=>h
theorem bl{p q:Prop}(h:p):p∨q:=.inl h
theorem br{X:Prop}{p:(Value→World→Prop)→Prop}(R:Value→World→Prop)(h:p R):X∨∃ R,p R:=.inr ⟨R,h⟩
def ad8(w:World)(e:TypeId)(R:Value→World→Prop):Value→World→Prop:=fun v w2=>∃ u g,v=.slice (some ⟨g,0,none⟩) 1 1∧Whole w2 g e #[u]∧w.heap.size≤g∧u.ownBlock≠some g∧R u w2
theorem b1{B:Nat}{w0 w:World}{bs:List Bx}{rs:List Rw}{t e b:Nat}{x:Operand}{R:Value→World→Prop}{u:Value}(hR:eC R)(h1:∀ u w,R u w→u.cells=#[u])(h2:∀ u w q,R u w→u.ownBlock=some q→q<w.heap.size)(hD:jB Tryz.prog t (.sl e 1 b)=true):
 ∀ (w1:World) (a:Act) (o':Oper),avX w.heap.size w w1→aW B w0 w1 bs rs→R u w1→o'.op=.buildSlice t 1 #[(0,x)]→vZ a (iF (.buildSlice t 1 #[(0,x)])) [u] →
  ∃ v w2,(execOp a.eval o').run Tryz.prog w1=.ok (.value v) w2∧ad8 w e R v w2∧avX w1.heap.size w1 w2:=fun w1 a o' hb _ hu hop oF=>by
 have hc:=h1 u w1 hu;have hr:=rB (w:=w1) hop hD rfl rfl (by decide) (by decide) oF (by simp[hc]);have hbl:avX w1.heap.size w1 (w1.alloc (.cells ([u].flatMap fun v=>v.cells.toList).toArray e)):=(Below.refl _ w1).alloc (Nat.le_refl _) _;have hl:([u].flatMap fun v=>v.cells.toList).toArray=#[u]:=by simp[hc]
 refine⟨_,_,hr,⟨u,w1.heap.size,rfl,hl▸Whole.new w1 e _,hb.size,fun hq=>Nat.lt_irrefl _ (h2 u w1 _ hu hq),hR _ _ _ hu hbl⟩,hbl⟩
def DZ(w:World)(e n:Nat)(cs:List Value):Value→World→Prop:=fun v w2=>∃ g,v=.slice (some ⟨g,0,none⟩) n n∧Whole w2 g e cs.toArray∧w.heap.size≤g
theorem lY{w:World}{e n:Nat}{cs:List Value}:eC (DZ w e n cs):=fun _ _ _ ⟨g,h1,h2,h3⟩ hb=>⟨g,h1,Whole.under hb h2 h2.lt,h3⟩
theorem bK{w:World}{t e kk b len:Nat}{parts:Array (Nat×Operand)}{vs:List Value}{p:World→Prop}(hD:jB Tryz.prog t (.sl e kk b)=true)(hp:tu 0 parts.toList=true)(hl:parts.toList.length=len)(h0:0<len*kk)(h1:len*kk≤2^24)(hc:∀ v∈vs,v.cells.size=kk){cs:List Value}(hcs:(vs.flatMap fun v=>v.cells.toList)=cs)
 (w1:World) (a:Act) (o':Oper) (hb:avX w.heap.size w w1) (_:p w1) (hop:o'.op=.buildSlice t len parts) (oF:vZ a (iF (.buildSlice t len parts)) vs) :
  ∃ v w2,(execOp a.eval o').run Tryz.prog w1=.ok (.value v) w2∧DZ w e len cs v w2∧avX w1.heap.size w1 w2:=by
 subst hcs;exact⟨_,_,rB (w:=w1) hop hD hp hl h0 h1 oF hc,⟨w1.heap.size,rfl,Whole.new w1 e _,hb.size⟩,(Below.refl _ w1).alloc (Nat.le_refl _) _⟩
theorem aW.perm{B:Nat}{w0 w:World}{bs:List Bx}{rs rs':List Rw}(M:aW B w0 w bs rs)(hp:rs.Perm rs'):aW B w0 w bs rs':=by
 refine⟨M.below,M.le,M.old,M.box,M.lo,M.nd,fun r h=>M.row r (hp.mem_iff.2 h),fun r h=>M.far r (hp.mem_iff.2 h),(hp.pairwise_iff fun {r s} h=>?_).1 M.vX⟩;rcases h with h|h
 ·cases hs:s.v.ownBlock with
  | none=>exact .inl rfl
  | some q=>exact .inr (by rw[h];simp)
 ·exact .inr fun e=>h e.symm
theorem sr{X Y:Prop}{B:Nat}{w0:World}{rs:List Rw}{D:TD}{g off e n cap:Nat}{xs:List Value}{v:Value}{k:List Rw→Prop}(i j:Nat)(h:rs[i]?=some ⟨.slice (some ⟨g,0,none⟩) n cap,e,jc D,n,xs⟩∧off=j*jc D∧j<n)(h1:(bg v).all (·.oneCell')=true)
 (h2:qD (bg v) (jc D) (Bo rs i ⟨.slice (some ⟨g,0,none⟩) n cap,e,jc D,n,xs.take off++bg v++xs.drop (off+jc D)⟩ k)) (hW:Nat.beq e 52=false∨w0.heap.size≤B:=by first|exact .inl rfl|exact .inr (Nat.le_refl _)):X∨stR B w0 rs D g off v k∨Y:=
 .inr (.inl ⟨i,j,e,n,cap,xs,h,h1,hW,h2⟩)
theorem ap{B:Nat}{w0 w:World}{bs SS:List Bx}{rs Q8:List Rw}{u v:Value}{e kk P8 nn mm:Nat}{xs news:List Value}{k:Value→List Bx→List Rw→World→Prop}(i:Nat)(hM:aW B w0 w bs rs→aW B w0 w SS Q8)(hr:Q8[i]?=some ⟨v,e,kk,nn,xs⟩)(hs:SliceAt w u kk mm news)
 (hb:nn+mm≤maxLen∧(nn+mm)*P8≤140737488355328) (h:∀ v' w',Bo Q8 i ⟨v',e,kk,nn+mm,xs++news⟩ fun rs'=>aW B w0 w' SS rs'→k v' SS rs' w') (hW:Nat.beq e 52=false∨w0.heap.size≤B:=by first|exact .inl rfl|exact .inr (Nat.le_refl _)):apO B w0 bs rs w u v e kk P8 k:=
 ⟨SS,Q8,i,nn,xs,mm,news,hM,hr,hs,hb,hW,h⟩
theorem lp{p:(ι:Type)→(ι→Slots)→(ι→List Bx)→(ι→List Rw)→(ι→World→Prop)→(ι→Nat)→ι→Prop}{ι:Type}(C:ι→Slots)(zT:ι→List Bx)(vW:ι→List Rw)(R:ι→World→Prop)(μ:ι→Nat)(x:ι)(h:p ι C zT vW R μ x):
 ∃ (ι:Type) (C:ι→Slots) (zT:ι→List Bx) (vW:ι→List Rw) (R:ι→World→Prop) (μ:ι→Nat) (x:ι),p ι C zT vW R μ x:=⟨ι,C,zT,vW,R,μ,x,h⟩
theorem lq{p:(ι:Type)→(ι→Slots)→(ι→List Bx)→(ι→List Rw)→(ι→World→Prop)→(ι→Nat)→ι→Prop}{ι:Type}(C:ι→Slots){bs:List Bx}(vW:ι→List Rw)(R:ι→World→Prop)(μ:ι→Nat)(x:ι)(h:p ι C (fun _=>bs) vW R μ x):
 ∃ (ι:Type) (C:ι→Slots) (zT:ι→List Bx) (vW:ι→List Rw) (R:ι→World→Prop) (μ:ι→Nat) (x:ι),p ι C zT vW R μ x:=⟨ι,C,_,vW,R,μ,x,h⟩
theorem lr{p:(ι:Type)→(ι→Slots)→(ι→List Bx)→(ι→List Rw)→(ι→World→Prop)→(ι→Nat)→ι→Prop}{ι:Type}(C:ι→Slots){bs:List Bx}{rs:List Rw}(R:ι→World→Prop)(μ:ι→Nat)(x:ι)(h:p ι C (fun _=>bs) (fun _=>rs) R μ x):
 ∃ (ι:Type) (C:ι→Slots) (zT:ι→List Bx) (vW:ι→List Rw) (R:ι→World→Prop) (μ:ι→Nat) (x:ι),p ι C zT vW R μ x:=⟨ι,C,_,_,R,μ,x,h⟩
theorem bk{B:Nat}{w0 w:World}{ι:Type}{C:ι→Slots}{zT:ι→List Bx}{vW:ι→List Rw}{R:ι→World→Prop}{l kl:Slots}{bs:List Bx}{rs:List Rw}{μ:ι→Nat}{m:Nat}(x:ι)(hs:Sub l (C x))(hM:aW B w0 w bs rs→aW B w0 w (zT x) (vW x)∧R x w)(hm:μ x<m):
 kl=kl∧∃ x,inS B w0 C zT vW R l bs rs w x∧μ x<m:=⟨rfl,x,⟨hs,hM⟩,hm⟩
end Go.Proofs.YtdcofoaihmongaaGreat

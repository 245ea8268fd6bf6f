import Derived.BigQuiet
import Derived.ChangeKeysEq
import Derived.Deep.DeepCutAuto
import Derived.DeepKeys4
import Derived.Handy
import Derived.Laws.Bits64b
import Derived.Laws.Entries
import Derived.Laws.MakeOwn
import Derived.Laws.StructEq
import Derived.Lib.Hide
import Derived.Shelf.SlSortCmp.Insertion
import Derived.Sort.Grow
import Derived.Sort.LotA
import Derived.Test.YtdcofoaihmongaaGreatRows
import Derived.WideKeyMaps
import Derived.WideKeyPair
import Derived.Test.YtdcofoaihmongaaGreatS0
open Array renaming getD_eq_getD_getElem?→atW
open Bool renaming and_eq_true→atP
open Go renaming cell_later→atw,wpList_nil→atN
open Go.Lib renaming hid→atv
open Go.RowKit renaming Below→atG
open Go.Sem renaming run_bind→atz
open List renaming length_append→atx,mem_map→aty,getElem?_eq_getElem→atA,mem_cons→atB,mem_cons_of_mem→atC,mem_cons_self→atE,mem_of_getElem?→atF,getElem?_eq_some_iff→atJ,getElem?_map→atK,mem_singleton→atL,all_eq_true→atO,length_take→atQ,length_map→atU,getElem?_append_left→atV
open Nat renaming le_trans→atH,mul_le_mul_right→atS,eq_of_beq_eq_true→atT
open Option.some renaming inj→atD
set_option maxRecDepth 100000
set_option maxHeartbeats 8000000
namespace Go.Proofs.YtdcofoaihmongaaGreat
open Go Go.RowKit
def zl(n:Nat):Prop:=n<18446744073709551616
structure ay where
 a:Nat
 b:Nat
 c:Nat
 d:Nat
deriving DecidableEq
def ay.cells(s:ay):List Value:=[.int .u64 s.a,.int .u64 s.b,.int .u64 s.c,.int .u64 s.d]
structure ay.Ok (s:ay):Prop where
 a:zl s.a
 b:zl s.b
 c:zl s.c
 d:zl s.d
def ay.word(s:ay)(i:Nat):Nat:=if i=0 then s.a else if i=1 then s.b else if i=2 then s.c else s.d
def ay.put(s:ay)(i x:Nat):ay:=if i=0 then ⟨x,s.b,s.c,s.d⟩ else if i=1 then ⟨s.a,x,s.c,s.d⟩ else if i=2 then ⟨s.a,s.b,x,s.d⟩ else ⟨s.a,s.b,s.c,x⟩
def ay.has(s:ay)(n:Nat):Bool:=(s.word (n/64)).testBit (n%64)
def ay.mem(s:ay)(n:Int):Bool:=decide (0≤n∧n<256)&&s.has n.toNat
def ay.add(s:ay)(n:Nat):ay:=s.put (n/64) (s.word (n/64)|||2^(n%64))
def ay.with(s:ay)(n:Int):ay:=if 0≤n∧n<256 then s.add n.toNat else s
def ay.zero:ay:=⟨0,0,0,0⟩
theorem ay.iE{s:ay}(h:s.Ok)(i:Nat):zl (s.word i):=by
 unfold ay.word;split
 ·exact h.a
 ·split
  ·exact h.b
  ·split
   ·exact h.c
   ·exact h.d
theorem ay.aaK{s:ay}(h:s.Ok)(i:Nat){x:Nat}(hx:zl x):(s.put i x).Ok:=by
 unfold ay.put;split
 ·exact⟨hx,h.b,h.c,h.d⟩
 ·split
  ·exact⟨h.a,hx,h.c,h.d⟩
  ·split
   ·exact⟨h.a,h.b,hx,h.d⟩
   ·exact⟨h.a,h.b,h.c,hx⟩
theorem four{i:Nat}(h:i<4):i=0∨i=1∨i=2∨i=3:=by omega
theorem ay.H6(s:ay){i j:Nat}(hi:i<4)(hj:j<4)(x:Nat):(s.put i x).word j=if j=i then x else s.word j:=by
 rcases four hi with rfl|rfl|rfl|rfl<;>rcases four hj with rfl|rfl|rfl|rfl<;>rfl
theorem ay.u6(s:ay){i:Nat}(hi:i<4):s.cells[i]?=some (.int .u64 (s.word i)):=by
 rcases four hi with rfl|rfl|rfl|rfl<;>rfl
theorem vX{j:Nat}(h:j<64):zl (2^j):=Nat.pow_lt_pow_right (by decide) h
theorem adK{x y:Nat}(hx:zl x)(hy:zl y):zl (x|||y):=Nat.or_lt_two_pow (n:=64) hx hy
theorem ay.acA{s:ay}(h:s.Ok)(n:Nat):(s.add n).Ok:=ay.aaK h _ (adK (ay.iE h _) (vX (Nat.mod_lt _ (by decide))))
theorem ay.EJ{s:ay}(h:s.Ok)(n:Int):(s.with n).Ok:=by
 unfold ay.with
 split
 ·exact ay.acA h _
 ·exact h
theorem ay.has_add(s:ay){n m:Nat}(hn:n<256)(hm:m<256):(s.add n).has m=(decide (m=n)||s.has m):=by
 unfold ay.has ay.add;rw[ay.H6 s (by omega) (by omega)];by_cases h:m/64=n/64
 ·rw[if_pos h,Nat.testBit_or,h,Nat.testBit_two_pow,Bool.or_comm];congr 1;by_cases e:m=n
  ·subst e;simp
  ·have:n%64≠m%64:=fun h2=>e (by omega)
   simp[e,this]
 ·rw[if_neg h];have:m≠n:=fun e=>h (by rw[e])
  simp[this]
theorem ay.JB(n:Nat):ay.zero.has n=false:=by
 unfold ay.has ay.word ay.zero;split
 ·exact Nat.zero_testBit _
 ·split
  ·exact Nat.zero_testBit _
  ·split<;>exact Nat.zero_testBit _
theorem W5{x y:Nat}(hx:zl x)(hy:zl y)(h:∀ j,j<64→x.testBit j=y.testBit j):x=y:=by
 refine Nat.eq_of_testBit_eq fun j=>?_
 by_cases hj:j<64
 ·exact h j hj
 ·have e:∀ {z:Nat},zl z→z.testBit j=false:=fun {z} hz=>Nat.testBit_lt_two_pow (Nat.lt_of_lt_of_le hz (Nat.pow_le_pow_right (n:=2) (by decide) (by omega:64≤j)))
  rw[e hx,e hy]
theorem ay.ext{s t:ay}(hs:s.Ok)(ht:t.Ok)(h:∀ n,n<256→s.has n=t.has n):s=t:=by
 have key:∀ i,i<4→s.word i=t.word i:=fun i hi=>W5 (ay.iE hs i) (ay.iE ht i) fun j hj=>by
  have:=h (i*64+j) (by omega);unfold ay.has at this
  rwa [show(i*64+j)/64=i by omega,show(i*64+j)%64=j by omega] at this
 have h0:=key 0 (by decide);have h1:=key 1 (by decide);have h2:=key 2 (by decide);have h3:=key 3 (by decide);obtain⟨a,b,c,d⟩:=s;obtain⟨a',b',c',d'⟩:=t;simp[ay.word] at h0 h1 h2 h3;subst h0 h1 h2 h3;rfl
theorem Xq{x j:Nat}(hx:zl x):(bits BinOp.and IntKind.u64 ((x:Int)/2^j) 1 == 1)=x.testBit j:=by
 have e:(x:Int)/2^j=((x/2^j:Nat):Int):=by simp
 have hlt:x/2^j<18446744073709551616:=Nat.lt_of_le_of_lt (Nat.div_le_self _ _) hx;rw[e];have h:=bits_and_u64_nat (x/2^j) 1 hlt (by decide);rw[show((1:Nat):Int)=1 from rfl] at h;rw[h];rw[Nat.testBit_eq_decide_div_mod_eq,Nat.and_one_is_mod];rcases Nat.mod_two_eq_zero_or_one (x/2^j) with h|h<;>rw[h]<;>rfl
theorem YK{x j:Nat}(hx:zl x)(hj:j<64):(bits BinOp.and IntKind.u64 (x:Int) ((2^j:Nat):Int) != 0)=x.testBit j:=by
 rw[bits_and_u64_nat x (2^j) hx (vX hj)]
 cases h:x.testBit j with
 | false=>
  have e:x&&&2^j=0:=Nat.eq_of_testBit_eq fun i=>by
   rw[Nat.testBit_and,Nat.testBit_two_pow,Nat.zero_testBit];by_cases hi:j=i
   ·subst hi;simp[h]
   ·simp[hi]
  rw[e];rfl
 | true=>
  have e:x&&&2^j≠0:=fun e=>by
   have:=congrArg (fun z=>z.testBit j) e;simp[Nat.testBit_and,h] at this
  have e':((x&&&2^j:Nat):Int)≠0:=fun h=>e (by exact_mod_cast h)
  simpa using e'
theorem Ac{j:Nat}(h:j<64):IntKind.u64.wrap (2^j)=((2^j:Nat):Int):=by
 have h1:=vX h;unfold zl at h1;rw[show(2:Int)^j=((2^j:Nat):Int) by simp,IntKind.wrap_u64];generalize 2^j=y at h1 ⊢;omega
theorem Uc{x j:Nat}(hx:zl x)(h:j<64):bits .or .u64 (x:Int) ((2:Int)^j)=((x|||2^j:Nat):Int):=by
 rw[show(2:Int)^j=((2^j:Nat):Int) by simp];exact bits_or_u64_nat x (2^j) hx (vX h)
theorem GU(w:World)(m:Nat)(hm:m<256):Calls Tryz.prog 64 #[.int .i64 m] w fun e w'=>e=.returned (.int .u64 ((2^(m%64):Nat):Int))∧w=w':=by
 go_enter Tryz.func64,Tryz.ntmps64
 go_wp2
 go_ret
 exact⟨dQ (Ac (Nat.mod_lt _ (by decide))),rfl⟩
theorem D3(w:World)(n:Int)(hn:¬ 0≤n):Calls Tryz.prog 206 #[.int .i64 n] w fun e w'=>e=.returned (.bool false)∧w=w':=by
 go_enter Tryz.func206,Tryz.ntmps206
 go_wp2
 go_ret
 exact⟨rfl,rfl⟩
theorem D4(w:World)(n:Int)(h0:0≤n)(hn:¬ n<256):Calls Tryz.prog 206 #[.int .i64 n] w fun e w'=>e=.returned (.bool false)∧w=w':=by
 go_enter Tryz.func206,Tryz.ntmps206
 go_wp2
 go_ret
 exact⟨rfl,rfl⟩
theorem Bs(w:World)(n:Int)(h0:0≤n)(hn:n<256):Calls Tryz.prog 206 #[.int .i64 n] w fun e w'=>e=.returned (.bool true)∧w=w':=by
 go_enter Tryz.func206,Tryz.ntmps206
 go_wp2
 go_ret
 exact⟨rfl,rfl⟩
theorem dZ(w:World)(o:Obj)(cs:Array Value)(t:TypeId):Whole ((w.alloc o).alloc (.cells cs t)) (w.heap.size+1) t cs:=by
 have:=Whole.new (w.alloc o) t cs;simpa using this
theorem ef(cs:Array Value)(l:List Value)(h:cs.size=l.length):splice cs 0 l=l.toArray:=by
 apply Array.toList_inj.1;rw[jG _ _ _ (by omega)];simp[List.drop_of_length_le (show cs.toList.length≤l.length by simp[h])]
theorem EV:(Tryz.prog.info? 52).map (·.size)=some 1:=by kernel_rfl
theorem dW:(Tryz.prog.info? 54).map (·.size)=some 4:=by kernel_rfl
theorem sN(s:ay){i:Nat}(hi:i<4)(x:Nat):(#[.int .u64 (s.put i x).a,.int .u64 (s.put i x).b,.int .u64 (s.put i x).c,.int .u64 (s.put i x).d]:Array Value)=splice #[.int .u64 s.a,.int .u64 s.b,.int .u64 s.c,.int .u64 s.d] i [.int .u64 (x:Int)]:=by
 rcases four hi with rfl|rfl|rfl|rfl<;>rfl
theorem abB(w:World)(s:ay)(hs:s.Ok)(m:Nat)(hm:m<256):
 Calls Tryz.prog 191 #[.agg #[.int .u64 s.a,.int .u64 s.b,.int .u64 s.c,.int .u64 s.d],.int .i64 m] w fun e w'=>e=.returned (.bool (s.mem m))∧Below w.heap.size w w':=by
 have k:=(Whole.new w 54 #[.int .u64 s.a,.int .u64 s.b,.int .u64 s.c,.int .u64 s.d]).cell (m/64);rw[show(#[.int .u64 s.a,.int .u64 s.b,.int .u64 s.c,.int .u64 s.d]:Array Value)[m/64]?=some (.int .u64 (s.word (m/64))) by rw[← Array.getElem?_toList];exact s.u6 (by omega)] at k;obtain⟨x,hx⟩:∃ x,x=s.word (m/64):=⟨_,rfl⟩;rw[← hx] at k;have HX:=atv hx;have HUX:=atv (show zl x by rw[hx];exact ay.iE hs _);clear hx;have h4:m/64<4:=by omega
 have hm':(m:Int)<256:=by omega
 have hmem:Hid (s.mem (m:Int)=x.testBit (m%64)):=by
  unfold Hid ay.mem ay.has;rw[HX.out];simp;omega
 go_enter Tryz.func191,Tryz.ntmps191
 go_wp2
 go_ret
 exact⟨aD ((Xq HUX.out).trans hmem.out.symm),(Below.refl _ w).alloc (Nat.le_refl _) _⟩
theorem Vk(w:World)(s:ay)(n:Int)(hn:n<0):
 Calls Tryz.prog 191 #[.agg #[.int .u64 s.a,.int .u64 s.b,.int .u64 s.c,.int .u64 s.d],.int .i64 n] w fun e w'=>e=.returned (.bool false)∧Below w.heap.size w w':=by
 have hn1:¬ 0≤n:=by omega
 go_enter Tryz.func191,Tryz.ntmps191
 go_wp2
 go_ret
 exact⟨rfl,(Below.refl _ w).alloc (Nat.le_refl _) _⟩
theorem Vj(w:World)(s:ay)(n:Int)(hn:256≤n):
 Calls Tryz.prog 191 #[.agg #[.int .u64 s.a,.int .u64 s.b,.int .u64 s.c,.int .u64 s.d],.int .i64 n] w fun e w'=>e=.returned (.bool false)∧Below w.heap.size w w':=by
 have hn0:0≤n:=by omega
 have hn1:¬ n<256:=by omega
 go_enter Tryz.func191,Tryz.ntmps191
 go_wp2
 go_ret
 exact⟨rfl,(Below.refl _ w).alloc (Nat.le_refl _) _⟩
theorem zS(w:World)(s:ay)(hs:s.Ok)(n:Int):
 Calls Tryz.prog 191 #[.agg #[.int .u64 s.a,.int .u64 s.b,.int .u64 s.c,.int .u64 s.d],.int .i64 n] w fun e w'=>e=.returned (.bool (s.mem n))∧Below w.heap.size w w':=by
 by_cases h:0≤n∧n<256
 ·obtain⟨m,rfl⟩:∃ m:Nat,n=m:=⟨n.toNat,by omega⟩;exact abB w s hs m (by omega)
 ·rw[show s.mem n=false by unfold ay.mem;simp[h]];by_cases h0:n<0
  ·exact Vk w s n h0
  ·exact Vj w s n (by omega)
theorem XB(w:World)(s:ay)(hs:s.Ok)(m:Nat)(hm:m<256):
 Calls Tryz.prog 18 #[.agg #[.int .u64 s.a,.int .u64 s.b,.int .u64 s.c,.int .u64 s.d],.int .i64 m] w fun e w'=>e=.returned (.bool (s.mem m))∧Below w.heap.size w w':=by
 have k:=(Whole.new w 54 #[.int .u64 s.a,.int .u64 s.b,.int .u64 s.c,.int .u64 s.d]).cell (m/64);rw[show(#[.int .u64 s.a,.int .u64 s.b,.int .u64 s.c,.int .u64 s.d]:Array Value)[m/64]?=some (.int .u64 (s.word (m/64))) by rw[← Array.getElem?_toList];exact s.u6 (by omega)] at k;obtain⟨x,hx⟩:∃ x,x=s.word (m/64):=⟨_,rfl⟩;rw[← hx] at k;have HX:=atv hx;have HUX:=atv (show zl x by rw[hx];exact ay.iE hs _);clear hx;have h4:m/64<4:=by omega
 have hm':(m:Int)<256:=by omega
 have hmem:Hid (s.mem (m:Int)=x.testBit (m%64)):=by
  unfold Hid ay.mem ay.has;rw[HX.out];simp;omega
 obtain⟨wo,cZ⟩:∃ wo,wo=w.alloc (.cells #[.int .u64 s.a,.int .u64 s.b,.int .u64 s.c,.int .u64 s.d] 54):=⟨_,rfl⟩;rw[← cZ] at k;have iH:=atv (show Below w.heap.size w wo by rw[cZ];exact(Below.refl _ w).alloc (Nat.le_refl _) _)
 go_enter Tryz.func18,Tryz.ntmps18
 go_wp2_with fail
 rw[← cZ];clear cZ;refine fA (fun w w'=>Below w.heap.size w w') [some 5,some 6,some 7,some 8,some 9,some 10,some 11,some 12,some 13,some 14,some 15,some 16,some 17,some 18,some 19,some 20] [bZ (.int .i64 m),bZ (.bool true),bZ (.bool true),bZ (.int .i64 m),bZ (.bool true),bZ (.bool true),bZ (.bool true),bZ (.int .i64 m),bZ (.int .i64 ((m/64:Nat):Int)),bZ (.pointer (some ⟨w.heap.size,m/64,none⟩)),bZ (.int .u64 x),bZ (.int .i64 m),bZ (.int .u64 ((2^(m%64):Nat):Int)),bZ (.int .u64 (bits .and .u64 (x:Int) ((2^(m%64):Nat):Int))),bZ (.bool (bits .and .u64 (x:Int) ((2^(m%64):Nat):Int) != 0)),bZ (.bool (bits .and .u64 (x:Int) ((2^(m%64):Nat):Int) != 0))] (fun _ w'=>Below wo.heap.size wo w') 16 (by kernel_rfl) (by kernel_rfl) (by kernel_rfl) rfl (by decide) rfl rfl ((Below.refl _ _).drew) ⟨ak _,ak _,ak _,ak _,ak _,ak _,ak _,ak _,ak _,ak _,ak _,ak _,ak _,ak _,ak _,ak _,trivial⟩ ⟨(fun _=>aG _),(fun _=>aG _),(fun _=>aG _),(fun _=>aG _),(fun _=>aG _),(fun _=>aG _),(fun _=>aG _),(fun _=>aG _),(fun _=>aG _),(fun _=>aG _),(fun _=>aG _),(fun _=>aG _),(fun _=>aG _),(fun _=>aG _),(fun _=>aG _),(fun _=>aG _),trivial⟩ ⟨?_,?_,?_,?_,?_,?_,?_,?_,?_,?_,?_,?_,?_,?_,?_,?_,?_⟩
 ·intro L a wx Q' hL hi H F hK
  try dsimp only at hi
  have h1:a.tmps[1]?=some (.int .i64 m):=F 1 rfl;have HI:=atv hi;clear H F hi hL
  go_wp2_with fail
  exact hK _ _ (Below.refl _ _) HI.out rfl
 ·intro L a wx Q' hL hi H F hK
  try dsimp only at hi
  obtain⟨_,h5,rfl⟩:=H 0 ⟨.data,by simp,rfl⟩ _ rfl;replace h5:=h5 _ rfl;have HI:=atv hi;clear H F hi hL
  go_wp2_with fail
  exact hK _ _ (Below.refl _ _) HI.out rfl
 ·intro L a wx Q' hL hi H F hK
  try dsimp only at hi
  obtain⟨_,h6,rfl⟩:=H 1 ⟨.data,by simp,rfl⟩ _ rfl;replace h6:=h6 _ rfl;have HI:=atv hi;clear H F hi hL
  go_wp2_with fail
  exact hK _ _ (Below.refl _ _) HI.out rfl
 ·intro L a wx Q' hL hi H F hK
  try dsimp only at hi
  obtain⟨_,h7,rfl⟩:=H 2 ⟨.guard,by simp,rfl⟩ _ rfl;replace h7:=h7 _ rfl;have h1:a.tmps[1]?=some (.int .i64 m):=F 1 rfl;have HI:=atv hi;clear H F hi hL
  go_wp2_with fail
  exact hK _ _ (Below.refl _ _) HI.out rfl
 ·intro L a wx Q' hL hi H F hK
  try dsimp only at hi
  obtain⟨_,h8,rfl⟩:=H 3 ⟨.data,by simp,rfl⟩ _ rfl;replace h8:=h8 _ rfl;obtain⟨_,h7,rfl⟩:=H 2 ⟨.guard,by simp,rfl⟩ _ rfl;replace h7:=h7 _ rfl;have HI:=atv hi;clear H F hi hL
  go_wp2_with fail
  exact hK _ _ (Below.refl _ _) HI.out rfl
 ·intro L a wx Q' hL hi H F hK
  try dsimp only at hi
  obtain⟨_,h7,rfl⟩:=H 2 ⟨.data,by simp,rfl⟩ _ rfl;replace h7:=h7 _ rfl;obtain⟨_,h9,rfl⟩:=H 4 ⟨.data,by simp,rfl⟩ _ rfl;replace h9:=h9 _ rfl;have HI:=atv hi;clear H F hi hL
  go_wp2_with fail
  exact hK _ _ (Below.refl _ _) HI.out rfl
 ·intro L a wx Q' hL hi H F hK
  try dsimp only at hi
  obtain⟨_,Ni,rfl⟩:=H 5 ⟨.data,by simp,rfl⟩ _ rfl;replace Ni:=Ni _ rfl;have HI:=atv hi;clear H F hi hL
  go_wp2_with fail
  exact hK _ _ (Below.refl _ _) HI.out rfl
 ·intro L a wx Q' hL hi H F hK
  try dsimp only at hi
  obtain⟨_,ow,rfl⟩:=H 6 ⟨.guard,by simp,rfl⟩ _ rfl;replace ow:=ow _ rfl;have h1:a.tmps[1]?=some (.int .i64 m):=F 1 rfl;have HI:=atv hi;clear H F hi hL
  go_wp2_with fail
  exact hK _ _ (Below.refl _ _) HI.out rfl
 ·intro L a wx Q' hL hi H F hK
  try dsimp only at hi
  obtain⟨_,h12,rfl⟩:=H 7 ⟨.data,by simp,rfl⟩ _ rfl;replace h12:=h12 _ rfl;obtain⟨_,ow,rfl⟩:=H 6 ⟨.guard,by simp,rfl⟩ _ rfl;replace ow:=ow _ rfl;have HI:=atv hi;clear H F hi hL
  go_wp2_with fail
  exact hK _ _ (Below.refl _ _) HI.out rfl
 ·intro L a wx Q' hL hi H F hK
  try dsimp only at hi
  obtain⟨_,JD,rfl⟩:=H 8 ⟨.data,by simp,rfl⟩ _ rfl;replace JD:=JD _ rfl;obtain⟨_,ow,rfl⟩:=H 6 ⟨.guard,by simp,rfl⟩ _ rfl;replace ow:=ow _ rfl;have h2:a.tmps[2]?=some (.pointer (some ⟨w.heap.size,0,none⟩)):=F 2 rfl;have HI:=atv hi;clear H F hi hL
  go_wp2_with fail
  exact hK _ _ (Below.refl _ _) HI.out rfl
 ·intro L a wx Q' hL hi H F hK
  try dsimp only at hi
  obtain⟨_,KH,rfl⟩:=H 9 ⟨.data,by simp,rfl⟩ _ rfl;replace KH:=KH _ rfl;obtain⟨_,ow,rfl⟩:=H 6 ⟨.guard,by simp,rfl⟩ _ rfl;replace ow:=ow _ rfl;have HI:=atv hi;clear H F hi hL;have kk:wx.cell? ⟨w.heap.size,m/64,none⟩=some (.int .u64 x):=atw HI.out k
  go_wp2_with fail
  exact hK _ _ (Below.refl _ _) HI.out rfl
 ·intro L a wx Q' hL hi H F hK
  try dsimp only at hi
  obtain⟨_,ow,rfl⟩:=H 6 ⟨.guard,by simp,rfl⟩ _ rfl;replace ow:=ow _ rfl;have h1:a.tmps[1]?=some (.int .i64 m):=F 1 rfl;have HI:=atv hi;clear H F hi hL
  go_wp2_with fail
  exact hK _ _ (Below.refl _ _) HI.out rfl
 ·intro L a wx Q' hL hi H F hK
  try dsimp only at hi
  obtain⟨_,D_,rfl⟩:=H 11 ⟨.data,by simp,rfl⟩ _ rfl;replace D_:=D_ _ rfl;obtain⟨_,ow,rfl⟩:=H 6 ⟨.guard,by simp,rfl⟩ _ rfl;replace ow:=ow _ rfl;have HI:=atv hi;clear H F hi hL
  go_wp2_with (go_at_call 64;go_must (refine(GU _ m hm).mono ?_;rintro e w1 ⟨rfl,rfl⟩))
  exact hK _ _ (Below.refl _ _) HI.out rfl
 ·intro L a wx Q' hL hi H F hK
  try dsimp only at hi
  obtain⟨_,Ea,rfl⟩:=H 10 ⟨.data,by simp,rfl⟩ _ rfl;replace Ea:=Ea _ rfl;obtain⟨_,Sw,rfl⟩:=H 12 ⟨.data,by simp,rfl⟩ _ rfl;replace Sw:=Sw _ rfl;obtain⟨_,ow,rfl⟩:=H 6 ⟨.guard,by simp,rfl⟩ _ rfl;replace ow:=ow _ rfl;have HI:=atv hi;clear H F hi hL
  go_wp2_with fail
  exact hK _ _ (Below.refl _ _) HI.out rfl
 ·intro L a wx Q' hL hi H F hK
  try dsimp only at hi
  obtain⟨_,Sv,rfl⟩:=H 13 ⟨.data,by simp,rfl⟩ _ rfl;replace Sv:=Sv _ rfl;obtain⟨_,ow,rfl⟩:=H 6 ⟨.guard,by simp,rfl⟩ _ rfl;replace ow:=ow _ rfl;have HI:=atv hi;clear H F hi hL
  go_wp2_with fail
  exact hK _ _ (Below.refl _ _) HI.out rfl
 ·intro L a wx Q' hL hi H F hK
  try dsimp only at hi
  obtain⟨_,ow,rfl⟩:=H 6 ⟨.data,by simp,rfl⟩ _ rfl;replace ow:=ow _ rfl;obtain⟨_,h19,rfl⟩:=H 14 ⟨.data,by simp,rfl⟩ _ rfl;replace h19:=h19 _ rfl;have HI:=atv hi;clear H F hi hL
  go_wp2_with fail
  exact hK _ _ (Below.refl _ _) HI.out rfl
 ·intro a wx hl L hi hL Q' hK
  try dsimp only at hi
  have HB:=atv hi;clear hi hL;obtain⟨_,rfl,_,rfl,_,rfl,_,rfl,_,rfl,_,rfl,_,rfl,_,rfl,_,rfl,_,rfl,_,rfl,_,rfl,_,rfl,_,rfl,_,rfl,_,rfl,rfl⟩:=hl;simp only[List.setIfInBounds_toArray,List.set_cons_zero,List.set_cons_succ]
  go_wp2_with fail
  go_ret
  exact⟨aD ((YK HUX.out (Nat.mod_lt _ (by decide))).trans hmem.out.symm),iH.out.trans (HB.out.mono iH.out.size)⟩
theorem Qs(w:World)(s:ay)(n:Int)(hn:n<0):
 Calls Tryz.prog 18 #[.agg #[.int .u64 s.a,.int .u64 s.b,.int .u64 s.c,.int .u64 s.d],.int .i64 n] w fun e w'=>e=.returned (.bool false)∧Below w.heap.size w w':=by
 obtain⟨k,rfl⟩:∃ k:Nat,n=Int.negSucc k:=⟨(-n-1).toNat,by omega⟩
 go_enter Tryz.func18,Tryz.ntmps18
 go_wp2
 go_quiet (fail)
 go_wp2
 go_ret
 exact⟨rfl,below_drewN ((Below.refl _ w).alloc (Nat.le_refl _) _) _⟩
theorem Qr(w:World)(s:ay)(n:Int)(hn:256≤n):
 Calls Tryz.prog 18 #[.agg #[.int .u64 s.a,.int .u64 s.b,.int .u64 s.c,.int .u64 s.d],.int .i64 n] w fun e w'=>e=.returned (.bool false)∧Below w.heap.size w w':=by
 obtain⟨k,rfl⟩:∃ k:Nat,n=(k:Int):=⟨n.toNat,by omega⟩;have hd:¬ (k:Int)<256:=by omega
 have hd2:decide ((k:Int)<256)=false:=by simp[hd]
 go_enter Tryz.func18,Tryz.ntmps18
 go_wp2
 go_quiet (fail)
 go_wp2
 go_ret
 exact⟨rfl,below_drewN ((Below.refl _ w).alloc (Nat.le_refl _) _) _⟩
theorem uw(w:World)(s:ay)(hs:s.Ok)(n:Int):
 Calls Tryz.prog 18 #[.agg #[.int .u64 s.a,.int .u64 s.b,.int .u64 s.c,.int .u64 s.d],.int .i64 n] w fun e w'=>e=.returned (.bool (s.mem n))∧Below w.heap.size w w':=by
 by_cases h:0≤n∧n<256
 ·obtain⟨m,rfl⟩:∃ m:Nat,n=m:=⟨n.toNat,by omega⟩;exact XB w s hs m (by omega)
 ·rw[show s.mem n=false by unfold ay.mem;simp[h]];by_cases h0:n<0
  ·exact Qs w s n h0
  ·exact Qr w s n (by omega)
theorem W8(w:World)(s:ay)(hs:s.Ok)(m:Nat)(hm:m<256):
 Calls Tryz.prog 124 #[.agg #[.int .u64 s.a,.int .u64 s.b,.int .u64 s.c,.int .u64 s.d],.int .i64 m] w fun e w'=>e=.returned (.agg #[.int .u64 (s.add m).a,.int .u64 (s.add m).b,.int .u64 (s.add m).c,.int .u64 (s.add m).d])∧Below w.heap.size w w':=by
 obtain⟨wo,cZ⟩:∃ wo,wo=(w.alloc (.cells #[.int .u64 s.a,.int .u64 s.b,.int .u64 s.c,.int .u64 s.d] 54)).alloc (.cells #[.int .u64 0,.int .u64 0,.int .u64 0,.int .u64 0] 54):=⟨_,rfl⟩;have Ew:=atv (show Whole wo w.heap.size 54 #[.int .u64 s.a,.int .u64 s.b,.int .u64 s.c,.int .u64 s.d] by rw[cZ];exact(Whole.new w 54 #[.int .u64 s.a,.int .u64 s.b,.int .u64 s.c,.int .u64 s.d]).alloc _);have Hp:=atv (show Whole wo (w.heap.size+1) 54 #[.int .u64 0,.int .u64 0,.int .u64 0,.int .u64 0] by rw[cZ];exact dZ w _ #[.int .u64 0,.int .u64 0,.int .u64 0,.int .u64 0] _);have iH:=atv (show Below w.heap.size w wo by rw[cZ];exact((Below.refl _ w).alloc (Nat.le_refl _) _).alloc (by simp) _)
 have k:wo.cell? ⟨w.heap.size,m/64,none⟩=some (.int .u64 (s.word (m/64))):=by
  have h:=Ew.out.cell (m/64)
  rwa [show(#[.int .u64 s.a,.int .u64 s.b,.int .u64 s.c,.int .u64 s.d]:Array Value)[m/64]?=some (.int .u64 (s.word (m/64))) by rw[← Array.getElem?_toList];exact s.u6 (by omega)] at h
 obtain⟨x,hx⟩:∃ x,x=s.word (m/64):=⟨_,rfl⟩;rw[← hx] at k;have HX:=atv hx;have HOX:=atv (Uc (x:=x) (j:=m%64) (by rw[hx];exact ay.iE hs _) (Nat.mod_lt _ (by decide)));have HOY:=atv (bits_or_u64_nat x (2^(m%64)) (by rw[hx];exact ay.iE hs _) (vX (Nat.mod_lt _ (by decide))));have htw:IntKind.u64.wrap (2^(m%64))=((2^(m%64):Nat):Int):=Ac (Nat.mod_lt _ (by decide));clear hx;have h4:m/64<4:=by omega
 have hm':(m:Int)<256:=by omega
 go_enter Tryz.func124,Tryz.ntmps124
 go_upto_region 1 with(fail)
 rw[← cZ];clear cZ
 go_wp2_with (go_at_call 206;go_must (refine(Bs _ (m:Int) (by omega) (by omega)).mono ?_;rintro e w' ⟨rfl,rfl⟩))
 refine fA (fun w w'=>Below w.heap.size w w') [some 7,some 8,some 9,some 10,some 11,some 12,some 13,some 14,some 15] [bZ (.int .i64 m),bZ (.int .i64 ((m/64:Nat):Int)),bZ (.pointer (some ⟨w.heap.size,m/64,none⟩)),bZ (.int .u64 x),bZ (.int .i64 m),bZ (.int .i64 ((m%64:Nat):Int)),bZ (.int .u64 ((2^(m%64):Nat):Int)),bZ (.int .u64 ((x|||2^(m%64):Nat):Int)),bZ (.pointer (some ⟨w.heap.size,m/64,none⟩))] (fun _ w'=>Below wo.heap.size wo w') 9 (by kernel_rfl) (by kernel_rfl) (by kernel_rfl) rfl (by decide) rfl rfl ((Below.refl _ _).drew) ⟨ak _,ak _,ak _,ak _,ak _,ak _,ak _,ak _,ak _,trivial⟩ ⟨(fun _=>aG _),(fun _=>aG _),(fun _=>aG _),(fun _=>aG _),(fun _=>aG _),(fun _=>aG _),(fun _=>aG _),(fun _=>aG _),(fun _=>aG _),trivial⟩ ⟨?_,?_,?_,?_,?_,?_,?_,?_,?_,?_⟩
 ·intro L a wx Q' hL hi H F hK
  try dsimp only at hi
  have h1:a.tmps[1]?=some (.int .i64 m):=F 1 rfl;have HI:=atv hi;clear H F hi hL
  go_wp2_with fail
  exact hK _ _ (Below.refl _ _) HI.out rfl
 ·intro L a wx Q' hL hi H F hK
  try dsimp only at hi
  obtain⟨_,h7,rfl⟩:=H 0 ⟨.data,by simp,rfl⟩ _ rfl;replace h7:=h7 _ rfl;have HI:=atv hi;clear H F hi hL
  go_wp2_with fail
  exact hK _ _ (Below.refl _ _) HI.out rfl
 ·intro L a wx Q' hL hi H F hK
  try dsimp only at hi
  obtain⟨_,h8,rfl⟩:=H 1 ⟨.data,by simp,rfl⟩ _ rfl;replace h8:=h8 _ rfl;have h2:a.tmps[2]?=some (.pointer (some ⟨w.heap.size,0,none⟩)):=F 2 rfl;have HI:=atv hi;clear H F hi hL
  go_wp2_with fail
  exact hK _ _ (Below.refl _ _) HI.out rfl
 ·intro L a wx Q' hL hi H F hK
  try dsimp only at hi
  obtain⟨_,h9,rfl⟩:=H 2 ⟨.data,by simp,rfl⟩ _ rfl;replace h9:=h9 _ rfl;have HI:=atv hi;clear H F hi hL;have kk:wx.cell? ⟨w.heap.size,m/64,none⟩=some (.int .u64 x):=atw HI.out k
  go_wp2_with fail
  exact hK _ _ (Below.refl _ _) HI.out rfl
 ·intro L a wx Q' hL hi H F hK
  try dsimp only at hi
  have h1:a.tmps[1]?=some (.int .i64 m):=F 1 rfl;have HI:=atv hi;clear H F hi hL
  go_wp2_with fail
  exact hK _ _ (Below.refl _ _) HI.out rfl
 ·intro L a wx Q' hL hi H F hK
  try dsimp only at hi
  obtain⟨_,ow,rfl⟩:=H 4 ⟨.data,by simp,rfl⟩ _ rfl;replace ow:=ow _ rfl;have HI:=atv hi;clear H F hi hL
  go_wp2_with fail
  exact hK _ _ (Below.refl _ _) HI.out rfl
 ·intro L a wx Q' hL hi H F hK
  try dsimp only at hi
  obtain⟨_,h12,rfl⟩:=H 5 ⟨.data,by simp,rfl⟩ _ rfl;replace h12:=h12 _ rfl;have HI:=atv hi;clear H F hi hL
  go_wp2_with fail
  exact hK _ _ (Below.refl _ _) HI.out rfl
 ·intro L a wx Q' hL hi H F hK
  try dsimp only at hi
  obtain⟨_,Ni,rfl⟩:=H 3 ⟨.data,by simp,rfl⟩ _ rfl;replace Ni:=Ni _ rfl;obtain⟨_,JD,rfl⟩:=H 6 ⟨.data,by simp,rfl⟩ _ rfl;replace JD:=JD _ rfl;have HI:=atv hi;clear H F hi hL
  go_wp2_with fail
  exact hK _ _ (Below.refl _ _) HI.out (by first|exact congrArg (Value.int IntKind.u64) HOX.out.symm|exact congrArg (Value.int IntKind.u64) HOY.out.symm)
 ·intro L a wx Q' hL hi H F hK
  try dsimp only at hi
  obtain⟨_,h8,rfl⟩:=H 1 ⟨.data,by simp,rfl⟩ _ rfl;replace h8:=h8 _ rfl;have h2:a.tmps[2]?=some (.pointer (some ⟨w.heap.size,0,none⟩)):=F 2 rfl;have HI:=atv hi;clear H F hi hL
  go_wp2_with fail
  exact hK _ _ (Below.refl _ _) HI.out rfl
 ·intro a wx hl L hi hL Q' hK
  try dsimp only at hi
  have HB:=atv hi;clear hi hL;obtain⟨_,rfl,_,rfl,_,rfl,_,rfl,_,rfl,_,rfl,_,rfl,_,rfl,_,rfl,rfl⟩:=hl;simp only[List.setIfInBounds_toArray,List.set_cons_zero,List.set_cons_succ];have HSX:=atv (Whole.under HB.out Ew.out Ew.out.lt);have HRX:=atv (Whole.under HB.out Hp.out Hp.out.lt);clear Ew Hp k;obtain⟨t,ht⟩:∃ t,t=s.add m:=⟨_,rfl⟩;have HT:=atv ht;clear ht
  go_wp2_with (first|(refine bp rfl 52 _ _ rfl (w.heap.size) (m/64) (.int .u64 ((x|||2^(m%64):Nat):Int)) rfl rfl 54 _ HSX.out (by simp[Value.cells];omega) EV rfl ?_;intro w1 S1 W1;have HS1:=atv S1;have HW1:=atv (show Whole w1 w.heap.size 54 #[.int .u64 t.a,.int .u64 t.b,.int .u64 t.c,.int .u64 t.d] by rw[HT.out];unfold ay.add;rw[← HX.out];rw[show #[.int .u64 (s.put (m/64) (x|||2^(m%64))).a,.int .u64 (s.put (m/64) (x|||2^(m%64))).b,.int .u64 (s.put (m/64) (x|||2^(m%64))).c,.int .u64 (s.put (m/64) (x|||2^(m%64))).d]=splice #[.int .u64 s.a,.int .u64 s.b,.int .u64 s.c,.int .u64 s.d] (m/64) [.int .u64 ((x|||2^(m%64):Nat):Int)] from sN s (by omega) _];exact W1);clear S1 W1)|(refine wpList_load_row rfl 54 _ rfl (w.heap.size) rfl 54 _ (0,0) _ HW1.out Tryz.underlying54 rfl dW ?_)|(refine bp rfl 54 _ _ rfl (w.heap.size+1) 0 (.agg #[.int .u64 t.a,.int .u64 t.b,.int .u64 t.c,.int .u64 t.d]) rfl rfl 54 _ (HS1.out.whole HRX.out (by omega)) (by simp[Value.cells]) dW rfl ?_;intro w2 S2 W2;rw[ef _ _ (by rfl)] at W2;have zm:=atv S2;have HW2:=atv (show Whole w2 (w.heap.size+1) 54 #[.int .u64 t.a,.int .u64 t.b,.int .u64 t.c,.int .u64 t.d] from W2);clear S2 W2))
  have e0:w2.cell? ⟨w.heap.size+1,0,none⟩=some (.int .u64 t.a):=HW2.out.cell 0;have e1:w2.cell? ⟨w.heap.size+1,1,none⟩=some (.int .u64 t.b):=HW2.out.cell 1;have e2:w2.cell? ⟨w.heap.size+1,2,none⟩=some (.int .u64 t.c):=HW2.out.cell 2;have e3:w2.cell? ⟨w.heap.size+1,3,none⟩=some (.int .u64 t.d):=HW2.out.cell 3;refine bodyPost_ret (v:=.agg #[.int .u64 t.a,.int .u64 t.b,.int .u64 t.c,.int .u64 t.d]) ?_ rfl ⟨by rw[HT.out],((iH.out.trans (HB.out.mono iH.out.size)).trans (HS1.out.below (Nat.le_refl _))).trans (zm.out.below (by omega))⟩;simp[results,Tryz.results124,go_sem,e0,e1,e2,e3]
theorem PX(w:World)(s:ay)(n:Int)(hn:n<0):
 Calls Tryz.prog 124 #[.agg #[.int .u64 s.a,.int .u64 s.b,.int .u64 s.c,.int .u64 s.d],.int .i64 n] w fun e w'=>e=.returned (.agg #[.int .u64 s.a,.int .u64 s.b,.int .u64 s.c,.int .u64 s.d])∧Below w.heap.size w w':=by
 have hn1:¬ 0≤n:=by omega
 obtain⟨wo,cZ⟩:∃ wo,wo=(w.alloc (.cells #[.int .u64 s.a,.int .u64 s.b,.int .u64 s.c,.int .u64 s.d] 54)).alloc (.cells #[.int .u64 0,.int .u64 0,.int .u64 0,.int .u64 0] 54):=⟨_,rfl⟩;have Ew:=atv (show Whole wo w.heap.size 54 #[.int .u64 s.a,.int .u64 s.b,.int .u64 s.c,.int .u64 s.d] by rw[cZ];exact(Whole.new w 54 #[.int .u64 s.a,.int .u64 s.b,.int .u64 s.c,.int .u64 s.d]).alloc _);have Hp:=atv (show Whole wo (w.heap.size+1) 54 #[.int .u64 0,.int .u64 0,.int .u64 0,.int .u64 0] by rw[cZ];exact dZ w _ #[.int .u64 0,.int .u64 0,.int .u64 0,.int .u64 0] _);have iH:=atv (show Below w.heap.size w wo by rw[cZ];exact((Below.refl _ w).alloc (Nat.le_refl _) _).alloc (by simp) _)
 go_enter Tryz.func124,Tryz.ntmps124
 go_upto_region 1 with(fail)
 rw[← cZ];clear cZ
 go_wp2_with (first|(go_at_call 206;go_must (refine(D3 _ n hn1).mono ?_;rintro e w' ⟨rfl,rfl⟩))|(refine wpList_load_row rfl 54 _ rfl (w.heap.size) rfl 54 _ (0,0) _ (Ew.out) Tryz.underlying54 rfl dW ?_)|(refine bp rfl 54 _ _ rfl (w.heap.size+1) 0 (.agg #[.int .u64 s.a,.int .u64 s.b,.int .u64 s.c,.int .u64 s.d]) rfl rfl 54 _ Hp.out (by simp[Value.cells]) dW rfl ?_;intro w2 S2 W2;rw[ef _ _ (by rfl)] at W2;have zm:=atv S2;have HW2:=atv (show Whole w2 (w.heap.size+1) 54 #[.int .u64 s.a,.int .u64 s.b,.int .u64 s.c,.int .u64 s.d] from W2);clear S2 W2))
 have e0:w2.cell? ⟨w.heap.size+1,0,none⟩=some (.int .u64 s.a):=HW2.out.cell 0;have e1:w2.cell? ⟨w.heap.size+1,1,none⟩=some (.int .u64 s.b):=HW2.out.cell 1;have e2:w2.cell? ⟨w.heap.size+1,2,none⟩=some (.int .u64 s.c):=HW2.out.cell 2;have e3:w2.cell? ⟨w.heap.size+1,3,none⟩=some (.int .u64 s.d):=HW2.out.cell 3;refine bodyPost_ret (v:=.agg #[.int .u64 s.a,.int .u64 s.b,.int .u64 s.c,.int .u64 s.d]) ?_ rfl ⟨rfl,iH.out.trans (zm.out.below (by omega))⟩;simp[results,Tryz.results124,go_sem,e0,e1,e2,e3]
theorem PW(w:World)(s:ay)(n:Int)(hn:256≤n):
 Calls Tryz.prog 124 #[.agg #[.int .u64 s.a,.int .u64 s.b,.int .u64 s.c,.int .u64 s.d],.int .i64 n] w fun e w'=>e=.returned (.agg #[.int .u64 s.a,.int .u64 s.b,.int .u64 s.c,.int .u64 s.d])∧Below w.heap.size w w':=by
 have hn0:0≤n:=by omega
 have hn1:¬ n<256:=by omega
 obtain⟨wo,cZ⟩:∃ wo,wo=(w.alloc (.cells #[.int .u64 s.a,.int .u64 s.b,.int .u64 s.c,.int .u64 s.d] 54)).alloc (.cells #[.int .u64 0,.int .u64 0,.int .u64 0,.int .u64 0] 54):=⟨_,rfl⟩;have Ew:=atv (show Whole wo w.heap.size 54 #[.int .u64 s.a,.int .u64 s.b,.int .u64 s.c,.int .u64 s.d] by rw[cZ];exact(Whole.new w 54 #[.int .u64 s.a,.int .u64 s.b,.int .u64 s.c,.int .u64 s.d]).alloc _);have Hp:=atv (show Whole wo (w.heap.size+1) 54 #[.int .u64 0,.int .u64 0,.int .u64 0,.int .u64 0] by rw[cZ];exact dZ w _ #[.int .u64 0,.int .u64 0,.int .u64 0,.int .u64 0] _);have iH:=atv (show Below w.heap.size w wo by rw[cZ];exact((Below.refl _ w).alloc (Nat.le_refl _) _).alloc (by simp) _)
 go_enter Tryz.func124,Tryz.ntmps124
 go_upto_region 1 with(fail)
 rw[← cZ];clear cZ
 go_wp2_with (first|(go_at_call 206;go_must (refine(D4 _ n hn0 hn1).mono ?_;rintro e w' ⟨rfl,rfl⟩))|(refine wpList_load_row rfl 54 _ rfl (w.heap.size) rfl 54 _ (0,0) _ (Ew.out) Tryz.underlying54 rfl dW ?_)|(refine bp rfl 54 _ _ rfl (w.heap.size+1) 0 (.agg #[.int .u64 s.a,.int .u64 s.b,.int .u64 s.c,.int .u64 s.d]) rfl rfl 54 _ Hp.out (by simp[Value.cells]) dW rfl ?_;intro w2 S2 W2;rw[ef _ _ (by rfl)] at W2;have zm:=atv S2;have HW2:=atv (show Whole w2 (w.heap.size+1) 54 #[.int .u64 s.a,.int .u64 s.b,.int .u64 s.c,.int .u64 s.d] from W2);clear S2 W2))
 have e0:w2.cell? ⟨w.heap.size+1,0,none⟩=some (.int .u64 s.a):=HW2.out.cell 0;have e1:w2.cell? ⟨w.heap.size+1,1,none⟩=some (.int .u64 s.b):=HW2.out.cell 1;have e2:w2.cell? ⟨w.heap.size+1,2,none⟩=some (.int .u64 s.c):=HW2.out.cell 2;have e3:w2.cell? ⟨w.heap.size+1,3,none⟩=some (.int .u64 s.d):=HW2.out.cell 3;refine bodyPost_ret (v:=.agg #[.int .u64 s.a,.int .u64 s.b,.int .u64 s.c,.int .u64 s.d]) ?_ rfl ⟨rfl,iH.out.trans (zm.out.below (by omega))⟩;simp[results,Tryz.results124,go_sem,e0,e1,e2,e3]
theorem S_(w:World)(s:ay)(hs:s.Ok)(n:Int):
 Calls Tryz.prog 124 #[.agg #[.int .u64 s.a,.int .u64 s.b,.int .u64 s.c,.int .u64 s.d],.int .i64 n] w fun e w'=>e=.returned (.agg #[.int .u64 (s.with n).a,.int .u64 (s.with n).b,.int .u64 (s.with n).c,.int .u64 (s.with n).d])∧Below w.heap.size w w':=by
 unfold ay.with
 by_cases h:0≤n∧n<256
 ·obtain⟨m,rfl⟩:∃ m:Nat,n=m:=⟨n.toNat,by omega⟩;rw[if_pos h];exact W8 w s hs m (by omega)
 ·rw[if_neg h];by_cases h0:n<0
  ·exact PX w s n h0
  ·exact PW w s n (by omega)
theorem TJ(w:World)(s:ay)(hs:s.Ok)(m:Nat)(hm:m<256):
 Calls Tryz.prog 130 #[.agg #[.int .u64 s.a,.int .u64 s.b,.int .u64 s.c,.int .u64 s.d],.int .i64 m] w fun e w'=>e=.returned (.agg #[.int .u64 (s.add m).a,.int .u64 (s.add m).b,.int .u64 (s.add m).c,.int .u64 (s.add m).d])∧Below w.heap.size w w':=by
 obtain⟨wo,cZ⟩:∃ wo,wo=(w.alloc (.cells #[.int .u64 s.a,.int .u64 s.b,.int .u64 s.c,.int .u64 s.d] 54)).alloc (.cells #[.int .u64 0,.int .u64 0,.int .u64 0,.int .u64 0] 54):=⟨_,rfl⟩;have Ew:=atv (show Whole wo w.heap.size 54 #[.int .u64 s.a,.int .u64 s.b,.int .u64 s.c,.int .u64 s.d] by rw[cZ];exact(Whole.new w 54 #[.int .u64 s.a,.int .u64 s.b,.int .u64 s.c,.int .u64 s.d]).alloc _);have Hp:=atv (show Whole wo (w.heap.size+1) 54 #[.int .u64 0,.int .u64 0,.int .u64 0,.int .u64 0] by rw[cZ];exact dZ w _ #[.int .u64 0,.int .u64 0,.int .u64 0,.int .u64 0] _);have iH:=atv (show Below w.heap.size w wo by rw[cZ];exact((Below.refl _ w).alloc (Nat.le_refl _) _).alloc (by simp) _)
 have k:wo.cell? ⟨w.heap.size,m/64,none⟩=some (.int .u64 (s.word (m/64))):=by
  have h:=Ew.out.cell (m/64)
  rwa [show(#[.int .u64 s.a,.int .u64 s.b,.int .u64 s.c,.int .u64 s.d]:Array Value)[m/64]?=some (.int .u64 (s.word (m/64))) by rw[← Array.getElem?_toList];exact s.u6 (by omega)] at h
 obtain⟨x,hx⟩:∃ x,x=s.word (m/64):=⟨_,rfl⟩;rw[← hx] at k;have HX:=atv hx;have HOX:=atv (Uc (x:=x) (j:=m%64) (by rw[hx];exact ay.iE hs _) (Nat.mod_lt _ (by decide)));have HOY:=atv (bits_or_u64_nat x (2^(m%64)) (by rw[hx];exact ay.iE hs _) (vX (Nat.mod_lt _ (by decide))));have htw:IntKind.u64.wrap (2^(m%64))=((2^(m%64):Nat):Int):=Ac (Nat.mod_lt _ (by decide));clear hx;have h4:m/64<4:=by omega
 have hm':(m:Int)<256:=by omega
 go_enter Tryz.func130,Tryz.ntmps130
 go_upto_region 1 with(fail)
 rw[← cZ];clear cZ
 go_wp2_with (go_at_call 206;go_must (refine(Bs _ (m:Int) (by omega) (by omega)).mono ?_;rintro e w' ⟨rfl,rfl⟩))
 refine fA (fun w w'=>Below w.heap.size w w') [some 11,some 12,some 13,some 14,some 15,some 16,some 17,some 18,some 19,some 20] [bZ (.int .i64 m),bZ (.int .i64 ((m/64:Nat):Int)),bZ (.int .i64 m),bZ (.int .i64 ((m/64:Nat):Int)),bZ (.pointer (some ⟨w.heap.size,m/64,none⟩)),bZ (.int .u64 x),bZ (.int .i64 m),bZ (.int .u64 ((2^(m%64):Nat):Int)),bZ (.int .u64 ((x|||2^(m%64):Nat):Int)),bZ (.pointer (some ⟨w.heap.size,m/64,none⟩))] (fun _ w'=>Below wo.heap.size wo w') 10 (by kernel_rfl) (by kernel_rfl) (by kernel_rfl) rfl (by decide) rfl rfl ((Below.refl _ _).drew) ⟨ak _,ak _,ak _,ak _,ak _,ak _,ak _,ak _,ak _,ak _,trivial⟩ ⟨(fun _=>aG _),(fun _=>aG _),(fun _=>aG _),(fun _=>aG _),(fun _=>aG _),(fun _=>aG _),(fun _=>aG _),(fun _=>aG _),(fun _=>aG _),(fun _=>aG _),trivial⟩ ⟨?_,?_,?_,?_,?_,?_,?_,?_,?_,?_,?_⟩
 ·intro L a wx Q' hL hi H F hK
  try dsimp only at hi
  have h1:a.tmps[1]?=some (.int .i64 m):=F 1 rfl;have HI:=atv hi;clear H F hi hL
  go_wp2_with fail
  exact hK _ _ (Below.refl _ _) HI.out rfl
 ·intro L a wx Q' hL hi H F hK
  try dsimp only at hi
  obtain⟨_,ow,rfl⟩:=H 0 ⟨.data,by simp,rfl⟩ _ rfl;replace ow:=ow _ rfl;have HI:=atv hi;clear H F hi hL
  go_wp2_with fail
  exact hK _ _ (Below.refl _ _) HI.out rfl
 ·intro L a wx Q' hL hi H F hK
  try dsimp only at hi
  have h1:a.tmps[1]?=some (.int .i64 m):=F 1 rfl;have HI:=atv hi;clear H F hi hL
  go_wp2_with fail
  exact hK _ _ (Below.refl _ _) HI.out rfl
 ·intro L a wx Q' hL hi H F hK
  try dsimp only at hi
  obtain⟨_,JD,rfl⟩:=H 2 ⟨.data,by simp,rfl⟩ _ rfl;replace JD:=JD _ rfl;have HI:=atv hi;clear H F hi hL
  go_wp2_with fail
  exact hK _ _ (Below.refl _ _) HI.out rfl
 ·intro L a wx Q' hL hi H F hK
  try dsimp only at hi
  obtain⟨_,KH,rfl⟩:=H 3 ⟨.data,by simp,rfl⟩ _ rfl;replace KH:=KH _ rfl;have h2:a.tmps[2]?=some (.pointer (some ⟨w.heap.size,0,none⟩)):=F 2 rfl;have HI:=atv hi;clear H F hi hL
  go_wp2_with fail
  exact hK _ _ (Below.refl _ _) HI.out rfl
 ·intro L a wx Q' hL hi H F hK
  try dsimp only at hi
  obtain⟨_,Ea,rfl⟩:=H 4 ⟨.data,by simp,rfl⟩ _ rfl;replace Ea:=Ea _ rfl;have HI:=atv hi;clear H F hi hL;have kk:wx.cell? ⟨w.heap.size,m/64,none⟩=some (.int .u64 x):=atw HI.out k
  go_wp2_with fail
  exact hK _ _ (Below.refl _ _) HI.out rfl
 ·intro L a wx Q' hL hi H F hK
  try dsimp only at hi
  have h1:a.tmps[1]?=some (.int .i64 m):=F 1 rfl;have HI:=atv hi;clear H F hi hL
  go_wp2_with fail
  exact hK _ _ (Below.refl _ _) HI.out rfl
 ·intro L a wx Q' hL hi H F hK
  try dsimp only at hi
  obtain⟨_,Sw,rfl⟩:=H 6 ⟨.data,by simp,rfl⟩ _ rfl;replace Sw:=Sw _ rfl;have HI:=atv hi;clear H F hi hL
  go_wp2_with (go_at_call 64;go_must (refine(GU _ m hm).mono ?_;rintro e w1 ⟨rfl,rfl⟩))
  exact hK _ _ (Below.refl _ _) HI.out rfl
 ·intro L a wx Q' hL hi H F hK
  try dsimp only at hi
  obtain⟨_,D_,rfl⟩:=H 5 ⟨.data,by simp,rfl⟩ _ rfl;replace D_:=D_ _ rfl;obtain⟨_,Sv,rfl⟩:=H 7 ⟨.data,by simp,rfl⟩ _ rfl;replace Sv:=Sv _ rfl;have HI:=atv hi;clear H F hi hL
  go_wp2_with fail
  exact hK _ _ (Below.refl _ _) HI.out (by first|exact congrArg (Value.int IntKind.u64) HOX.out.symm|exact congrArg (Value.int IntKind.u64) HOY.out.symm)
 ·intro L a wx Q' hL hi H F hK
  try dsimp only at hi
  obtain⟨_,h12,rfl⟩:=H 1 ⟨.data,by simp,rfl⟩ _ rfl;replace h12:=h12 _ rfl;have h2:a.tmps[2]?=some (.pointer (some ⟨w.heap.size,0,none⟩)):=F 2 rfl;have HI:=atv hi;clear H F hi hL
  go_wp2_with fail
  exact hK _ _ (Below.refl _ _) HI.out rfl
 ·intro a wx hl L hi hL Q' hK
  try dsimp only at hi
  have HB:=atv hi;clear hi hL;obtain⟨_,rfl,_,rfl,_,rfl,_,rfl,_,rfl,_,rfl,_,rfl,_,rfl,_,rfl,_,rfl,rfl⟩:=hl;simp only[List.setIfInBounds_toArray,List.set_cons_zero,List.set_cons_succ];have HSX:=atv (Whole.under HB.out Ew.out Ew.out.lt);have HRX:=atv (Whole.under HB.out Hp.out Hp.out.lt);clear Ew Hp k;obtain⟨t,ht⟩:∃ t,t=s.add m:=⟨_,rfl⟩;have HT:=atv ht;clear ht
  go_wp2_with (first|(refine bp rfl 52 _ _ rfl (w.heap.size) (m/64) (.int .u64 ((x|||2^(m%64):Nat):Int)) rfl rfl 54 _ HSX.out (by simp[Value.cells];omega) EV rfl ?_;intro w1 S1 W1;have HS1:=atv S1;have HW1:=atv (show Whole w1 w.heap.size 54 #[.int .u64 t.a,.int .u64 t.b,.int .u64 t.c,.int .u64 t.d] by rw[HT.out];unfold ay.add;rw[← HX.out];rw[show #[.int .u64 (s.put (m/64) (x|||2^(m%64))).a,.int .u64 (s.put (m/64) (x|||2^(m%64))).b,.int .u64 (s.put (m/64) (x|||2^(m%64))).c,.int .u64 (s.put (m/64) (x|||2^(m%64))).d]=splice #[.int .u64 s.a,.int .u64 s.b,.int .u64 s.c,.int .u64 s.d] (m/64) [.int .u64 ((x|||2^(m%64):Nat):Int)] from sN s (by omega) _];exact W1);clear S1 W1)|(refine wpList_load_row rfl 54 _ rfl (w.heap.size) rfl 54 _ (0,0) _ HW1.out Tryz.underlying54 rfl dW ?_)|(refine bp rfl 54 _ _ rfl (w.heap.size+1) 0 (.agg #[.int .u64 t.a,.int .u64 t.b,.int .u64 t.c,.int .u64 t.d]) rfl rfl 54 _ (HS1.out.whole HRX.out (by omega)) (by simp[Value.cells]) dW rfl ?_;intro w2 S2 W2;rw[ef _ _ (by rfl)] at W2;have zm:=atv S2;have HW2:=atv (show Whole w2 (w.heap.size+1) 54 #[.int .u64 t.a,.int .u64 t.b,.int .u64 t.c,.int .u64 t.d] from W2);clear S2 W2))
  have e0:w2.cell? ⟨w.heap.size+1,0,none⟩=some (.int .u64 t.a):=HW2.out.cell 0;have e1:w2.cell? ⟨w.heap.size+1,1,none⟩=some (.int .u64 t.b):=HW2.out.cell 1;have e2:w2.cell? ⟨w.heap.size+1,2,none⟩=some (.int .u64 t.c):=HW2.out.cell 2;have e3:w2.cell? ⟨w.heap.size+1,3,none⟩=some (.int .u64 t.d):=HW2.out.cell 3;refine bodyPost_ret (v:=.agg #[.int .u64 t.a,.int .u64 t.b,.int .u64 t.c,.int .u64 t.d]) ?_ rfl ⟨by rw[HT.out],((iH.out.trans (HB.out.mono iH.out.size)).trans (HS1.out.below (Nat.le_refl _))).trans (zm.out.below (by omega))⟩;simp[results,Tryz.results130,go_sem,e0,e1,e2,e3]
theorem LV(w:World)(s:ay)(n:Int)(hn:n<0):
 Calls Tryz.prog 130 #[.agg #[.int .u64 s.a,.int .u64 s.b,.int .u64 s.c,.int .u64 s.d],.int .i64 n] w fun e w'=>e=.returned (.agg #[.int .u64 s.a,.int .u64 s.b,.int .u64 s.c,.int .u64 s.d])∧Below w.heap.size w w':=by
 have hn1:¬ 0≤n:=by omega
 obtain⟨wo,cZ⟩:∃ wo,wo=(w.alloc (.cells #[.int .u64 s.a,.int .u64 s.b,.int .u64 s.c,.int .u64 s.d] 54)).alloc (.cells #[.int .u64 0,.int .u64 0,.int .u64 0,.int .u64 0] 54):=⟨_,rfl⟩;have Ew:=atv (show Whole wo w.heap.size 54 #[.int .u64 s.a,.int .u64 s.b,.int .u64 s.c,.int .u64 s.d] by rw[cZ];exact(Whole.new w 54 #[.int .u64 s.a,.int .u64 s.b,.int .u64 s.c,.int .u64 s.d]).alloc _);have Hp:=atv (show Whole wo (w.heap.size+1) 54 #[.int .u64 0,.int .u64 0,.int .u64 0,.int .u64 0] by rw[cZ];exact dZ w _ #[.int .u64 0,.int .u64 0,.int .u64 0,.int .u64 0] _);have iH:=atv (show Below w.heap.size w wo by rw[cZ];exact((Below.refl _ w).alloc (Nat.le_refl _) _).alloc (by simp) _)
 go_enter Tryz.func130,Tryz.ntmps130
 go_upto_region 1 with(fail)
 rw[← cZ];clear cZ
 go_wp2_with (first|(go_at_call 206;go_must (refine(D3 _ n hn1).mono ?_;rintro e w' ⟨rfl,rfl⟩))|(refine wpList_load_row rfl 54 _ rfl (w.heap.size) rfl 54 _ (0,0) _ (Ew.out) Tryz.underlying54 rfl dW ?_)|(refine bp rfl 54 _ _ rfl (w.heap.size+1) 0 (.agg #[.int .u64 s.a,.int .u64 s.b,.int .u64 s.c,.int .u64 s.d]) rfl rfl 54 _ Hp.out (by simp[Value.cells]) dW rfl ?_;intro w2 S2 W2;rw[ef _ _ (by rfl)] at W2;have zm:=atv S2;have HW2:=atv (show Whole w2 (w.heap.size+1) 54 #[.int .u64 s.a,.int .u64 s.b,.int .u64 s.c,.int .u64 s.d] from W2);clear S2 W2))
 have e0:w2.cell? ⟨w.heap.size+1,0,none⟩=some (.int .u64 s.a):=HW2.out.cell 0;have e1:w2.cell? ⟨w.heap.size+1,1,none⟩=some (.int .u64 s.b):=HW2.out.cell 1;have e2:w2.cell? ⟨w.heap.size+1,2,none⟩=some (.int .u64 s.c):=HW2.out.cell 2;have e3:w2.cell? ⟨w.heap.size+1,3,none⟩=some (.int .u64 s.d):=HW2.out.cell 3;refine bodyPost_ret (v:=.agg #[.int .u64 s.a,.int .u64 s.b,.int .u64 s.c,.int .u64 s.d]) ?_ rfl ⟨rfl,iH.out.trans (zm.out.below (by omega))⟩;simp[results,Tryz.results130,go_sem,e0,e1,e2,e3]
theorem LU(w:World)(s:ay)(n:Int)(hn:256≤n):
 Calls Tryz.prog 130 #[.agg #[.int .u64 s.a,.int .u64 s.b,.int .u64 s.c,.int .u64 s.d],.int .i64 n] w fun e w'=>e=.returned (.agg #[.int .u64 s.a,.int .u64 s.b,.int .u64 s.c,.int .u64 s.d])∧Below w.heap.size w w':=by
 have hn0:0≤n:=by omega
 have hn1:¬ n<256:=by omega
 obtain⟨wo,cZ⟩:∃ wo,wo=(w.alloc (.cells #[.int .u64 s.a,.int .u64 s.b,.int .u64 s.c,.int .u64 s.d] 54)).alloc (.cells #[.int .u64 0,.int .u64 0,.int .u64 0,.int .u64 0] 54):=⟨_,rfl⟩;have Ew:=atv (show Whole wo w.heap.size 54 #[.int .u64 s.a,.int .u64 s.b,.int .u64 s.c,.int .u64 s.d] by rw[cZ];exact(Whole.new w 54 #[.int .u64 s.a,.int .u64 s.b,.int .u64 s.c,.int .u64 s.d]).alloc _);have Hp:=atv (show Whole wo (w.heap.size+1) 54 #[.int .u64 0,.int .u64 0,.int .u64 0,.int .u64 0] by rw[cZ];exact dZ w _ #[.int .u64 0,.int .u64 0,.int .u64 0,.int .u64 0] _);have iH:=atv (show Below w.heap.size w wo by rw[cZ];exact((Below.refl _ w).alloc (Nat.le_refl _) _).alloc (by simp) _)
 go_enter Tryz.func130,Tryz.ntmps130
 go_upto_region 1 with(fail)
 rw[← cZ];clear cZ
 go_wp2_with (first|(go_at_call 206;go_must (refine(D4 _ n hn0 hn1).mono ?_;rintro e w' ⟨rfl,rfl⟩))|(refine wpList_load_row rfl 54 _ rfl (w.heap.size) rfl 54 _ (0,0) _ (Ew.out) Tryz.underlying54 rfl dW ?_)|(refine bp rfl 54 _ _ rfl (w.heap.size+1) 0 (.agg #[.int .u64 s.a,.int .u64 s.b,.int .u64 s.c,.int .u64 s.d]) rfl rfl 54 _ Hp.out (by simp[Value.cells]) dW rfl ?_;intro w2 S2 W2;rw[ef _ _ (by rfl)] at W2;have zm:=atv S2;have HW2:=atv (show Whole w2 (w.heap.size+1) 54 #[.int .u64 s.a,.int .u64 s.b,.int .u64 s.c,.int .u64 s.d] from W2);clear S2 W2))
 have e0:w2.cell? ⟨w.heap.size+1,0,none⟩=some (.int .u64 s.a):=HW2.out.cell 0;have e1:w2.cell? ⟨w.heap.size+1,1,none⟩=some (.int .u64 s.b):=HW2.out.cell 1;have e2:w2.cell? ⟨w.heap.size+1,2,none⟩=some (.int .u64 s.c):=HW2.out.cell 2;have e3:w2.cell? ⟨w.heap.size+1,3,none⟩=some (.int .u64 s.d):=HW2.out.cell 3;refine bodyPost_ret (v:=.agg #[.int .u64 s.a,.int .u64 s.b,.int .u64 s.c,.int .u64 s.d]) ?_ rfl ⟨rfl,iH.out.trans (zm.out.below (by omega))⟩;simp[results,Tryz.results130,go_sem,e0,e1,e2,e3]
theorem DK(w:World)(s:ay)(hs:s.Ok)(n:Int):
 Calls Tryz.prog 130 #[.agg #[.int .u64 s.a,.int .u64 s.b,.int .u64 s.c,.int .u64 s.d],.int .i64 n] w fun e w'=>e=.returned (.agg #[.int .u64 (s.with n).a,.int .u64 (s.with n).b,.int .u64 (s.with n).c,.int .u64 (s.with n).d])∧Below w.heap.size w w':=by
 unfold ay.with
 by_cases h:0≤n∧n<256
 ·obtain⟨m,rfl⟩:∃ m:Nat,n=m:=⟨n.toNat,by omega⟩;rw[if_pos h];exact TJ w s hs m (by omega)
 ·rw[if_neg h];by_cases h0:n<0
  ·exact LV w s n h0
  ·exact LU w s n (by omega)
def ints(l:List Nat):List Value:=l.map fun n:Nat=>.int .i64 (n:Int)
theorem UM(a b:List Nat):ints (a++b)=ints a++ints b:=List.map_append
def cG(s:ay)(k:Nat):List Nat:=(List.range k).filter s.has
def elems(s:ay):List Nat:=cG s 256
theorem iQ(s:ay)(k:Nat):(cG s k).length≤k:=by
 have:=List.length_filter_le s.has (List.range k);simpa[cG] using this
theorem qL{s:ay}{k:Nat}(h:s.has k=true):cG s (k+1)=cG s k++[k]:=by
 simp[cG,List.range_succ,List.filter_append,h]
theorem tF{s:ay}{k:Nat}(h:s.has k=false):cG s (k+1)=cG s k:=by
 simp[cG,List.range_succ,List.filter_append,h]
theorem ay.rE(s:ay){k:Nat}(h:k<256):s.mem (k:Int)=s.has k:=by
 unfold ay.mem;simp;omega
theorem info3:iP (Tryz.prog.info? 3) 1 8=true:=by kernel_rfl
theorem cell_one_new(w:World)(v:Value)(t:TypeId):∀ j u,([v]:List Value)[j]?=some u→(w.alloc (.cells #[v] t)).cell? ((⟨w.heap.size,0,none⟩:Addr).add j)=some u:=fun j u hj=>by
 rw[Addr.add_lit,Nat.zero_add];exact((Whole.new w t #[v]).cell j).trans (by simpa using hj)
theorem Bl(w:World)(s:ay)(hs:s.Ok):
 Calls Tryz.prog 123 #[.agg #[.int .u64 s.a,.int .u64 s.b,.int .u64 s.c,.int .u64 s.d]] w fun e w'=>∃ v,e=.returned v∧w'.ownsRow w.heap.size 3 1 v (elems s).length (ints (elems s))∧Below w.heap.size w w':=by
 obtain⟨i0,z,hi,hz0,hz1,hz2,hzs⟩:=ng info3;have HS:=atv hs;clear hs;have HW0:=atv (Whole.new w 54 #[.int .u64 s.a,.int .u64 s.b,.int .u64 s.c,.int .u64 s.d])
 go_enter Tryz.func123,Tryz.ntmps123
 go_wp2_with fail
 go_loopw [3,5] (fun u i wr=>∃ k:Nat,k≤256∧i=.int .i64 k∧wr.ownsRow w.heap.size 3 1 u (cG s k).length (ints (cG s k))∧Below w.heap.size w wr∧Whole wr w.heap.size 54 #[.int .u64 s.a,.int .u64 s.b,.int .u64 s.c,.int .u64 s.d]) (fun _ i _=>256-(intOf i).toNat)
 case atStart=>exact⟨0,Nat.zero_le _,rfl,by simpa[cG,ints] using World.ownsRow_nil _ _ _ _,(Below.refl _ w).alloc (Nat.le_refl _) _,HW0.out⟩
 case round=>
  clear HW0;obtain⟨k,hk,rfl,hown,hb,hW⟩:=hrel;have HO:=atv hown;have HB:=atv hb;have Z8:=atv hW;clear hown hb hW;have hlen:=iQ s k;by_cases hlt:k<256
  ·have hkk:(k:Int)<256:=by omega
   have aki:True:=trivial;by_cases hh:s.has k=true
   ·have HH:=atv hh;clear hh
    go_wp2_with (first|(refine wpList_load_row rfl 54 _ rfl (w.heap.size) rfl 54 _ (0,0) _ Z8.out Tryz.underlying54 rfl dW ?_)|(go_at_call 191;go_must (refine(show Calls Tryz.prog 191 _ _ (fun e w'=>e=.returned (.bool true)∧Below wr.heap.size wr w') from by have h:=zS wr s HS.out (k:Int);rw[ay.rE s hlt,HH.out] at h;exact h).mono ?_;rintro e w1 ⟨rfl,hb1⟩;have pG:=atv hb1;clear hb1))|(at_builtin;refine wpList_append_own _ rfl _ _ 64 rfl w.heap.size 3 i0 z 1 8 Tryz.underlying64 hi hz0 hz1 hz2 hzs (by decide) _ _ _ rfl ((gE pG.out HO.out (Nat.le_refl _)).alloc _) ⟨w1.heap.size,0,none⟩ 1 1 [.int .i64 (k:Int)] rfl rfl (cell_one_new _ _ _) ?c2 ?c3 ?c4 ?c5 ?_))
    case c2=>simp[Value.oneCell']
    case c3=>unfold maxLen;omega
    case c4=>omega
    case c5=>have:=HB.out.size;have:=pG.out.size;simp;omega
    intro v' w2 hown' hgrow hnil;have HO1:=atv (gE pG.out HO.out (Nat.le_refl _));have hb2:Below w.heap.size w w2:=((HB.out.trans (pG.out.mono HB.out.size)).alloc (by have:=HB.out.size;have:=pG.out.size;omega) _).grown hgrow (by have:=HB.out.size;have:=pG.out.size;simp;omega) (fun q hq=>by have:=(HO1.out.lt q hq).1;omega);have HWn:=atv (((Whole.under pG.out Z8.out Z8.out.lt).alloc (.cells #[.int .i64 (k:Int)] 3)).grown hgrow (fun e=>jT HO1.out (Whole.under pG.out Z8.out Z8.out.lt) (by decide) e.symm));have HN:=atv hown';have WY:=atv hb2;clear hgrow hnil hown' hb2
    go_wp2
    go_roundw
    case rel=>exact⟨k+1,by omega,by go_num,by rw[qL HH.out,atx,UM];exact HN.out,WY.out,HWn.out⟩
    case measure=>simp[intOf];omega
   ·have HH:=atv (Bool.eq_false_iff.2 hh);clear hh
    go_wp2_with (first|(refine wpList_load_row rfl 54 _ rfl (w.heap.size) rfl 54 _ (0,0) _ Z8.out Tryz.underlying54 rfl dW ?_)|(go_at_call 191;go_must (refine(show Calls Tryz.prog 191 _ _ (fun e w'=>e=.returned (.bool false)∧Below wr.heap.size wr w') from by have h:=zS wr s HS.out (k:Int);rw[ay.rE s hlt,HH.out] at h;exact h).mono ?_;rintro e w1 ⟨rfl,hb1⟩;have pG:=atv hb1;clear hb1)))
    go_roundw
    case rel=>exact⟨k+1,by omega,by go_num,by rw[tF HH.out];exact gE pG.out HO.out (Nat.le_refl _),HB.out.trans (pG.out.mono HB.out.size),Whole.under pG.out Z8.out Z8.out.lt⟩
    case measure=>simp[intOf];omega
  ·obtain rfl:k=256:=by omega
   go_wp2_with fail
   go_ret
   exact⟨_,rfl,HO.out,HB.out⟩
structure aj where
 kind:Int
 src:ay
 tgt:ay
 self:Bool
 cls:Int
 perms:Int
 cond:Int
structure aj.Ok (r:aj):Prop where
 src:r.src.Ok
 tgt:r.tgt.Ok
def aj.cells(r:aj):List Value:=[.int .i64 r.kind,.int .u64 r.src.a,.int .u64 r.src.b,.int .u64 r.src.c,.int .u64 r.src.d,.int .u64 r.tgt.a,.int .u64 r.tgt.b,.int .u64 r.tgt.c,.int .u64 r.tgt.d,.bool r.self,.int .i64 r.cls,.int .u32 r.perms,.int .i64 r.cond]
def aj.tgts(r:aj)(s:Nat):ay:=if r.self then r.tgt.with s else r.tgt
def aj.dg(r:aj)(l:List Nat):List (Nat×Nat):=l.flatMap fun s=>(elems (r.tgts s)).map fun t=>(s,t)
def aj.pairs(r:aj):List (Nat×Nat):=r.dg (elems r.src)
def IQ(p:Nat×Nat):List Value:=[.int .i64 (p.1:Int),.int .i64 (p.2:Int)]
def f_(l:List (Nat×Nat)):List Value:=l.flatMap IQ
theorem lD(a b:List (Nat×Nat)):f_ (a++b)=f_ a++f_ b:=List.flatMap_append
theorem Jk(a:List Nat):∀ u∈ints a,u.oneCell'=true:=by
 intro u hu;obtain⟨p,-,rfl⟩:=aty.1 hu;rfl
theorem Qy{w:World}{b b':Nat}{e e':TypeId}{k k' n n':Nat}{v v':Value}{xs xs':List Value}(h:w.ownsRow b e k v n xs)(h':w.ownsRow b' e' k' v' n' xs')(hne:e≠e'):v.ownBlock=none∨v.ownBlock≠v'.ownBlock:=by
 rcases h.2 with⟨rfl,_⟩|⟨g,cap,cur,rfl,_,hg,_⟩
 ·exact .inl rfl
 ·refine .inr fun e1=>jT h' (g:=g) (t:=e) (cs:=cur) hg (fun e2=>hne e2.symm) ?_
  rw[← e1];rfl
theorem DQ{w w':World}{b b':Nat}{e e':TypeId}{k k' n n':Nat}{v v':Value}{xs xs':List Value}(h:w.ownsRow b e k v n xs)(h':w.ownsRow b' e' k' v' n' xs')(hne:e≠e')(hg:w.grownBy w' v'.ownBlock):w'.ownsRow b e k v n xs:=
 h.kept hg (Qy h h' hne)
theorem rz{w:World}{b:Nat}{e:TypeId}{k n:Nat}{v:Value}{xs:List Value}(h:w.ownsRow b e k v n xs)(o:Obj):(w.alloc o).ownsRow b e k v n xs:=gE ((Below.refl _ w).alloc (Nat.le_refl _) o) h (Nat.le_refl _)
def InR(w:World)(r:aj)(a1:Option Addr)(c1 n1:Nat)(a2:Option Addr)(c2 n2:Nat)(l2:List Nat)(P:List (Nat×Nat))(u:Value)(wr:World):Prop:=
 wr.ownsRow w.heap.size 111 2 u P.length (f_ P)∧wr.ownsRow w.heap.size 3 1 (.slice a1 n1 c1) n1 (ints (elems r.src))∧wr.ownsRow w.heap.size 3 1 (.slice a2 n2 c2) n2 (ints l2)∧Below w.heap.size w wr∧Whole wr w.heap.size 56 #[.int .i64 r.kind,.int .u64 r.src.a,.int .u64 r.src.b,.int .u64 r.src.c,.int .u64 r.src.d,.int .u64 r.tgt.a,.int .u64 r.tgt.b,.int .u64 r.tgt.c,.int .u64 r.tgt.d,.bool r.self,.int .i64 r.cls,.int .u32 r.perms,.int .i64 r.cond]
def acF(w:World)(r:aj)(a1:Option Addr)(c1 n1:Nat)(P:List (Nat×Nat))(u:Value)(wr:World):Prop:=
 wr.ownsRow w.heap.size 111 2 u P.length (f_ P)∧wr.ownsRow w.heap.size 3 1 (.slice a1 n1 c1) n1 (ints (elems r.src))∧Below w.heap.size w wr∧Whole wr w.heap.size 56 #[.int .i64 r.kind,.int .u64 r.src.a,.int .u64 r.src.b,.int .u64 r.src.c,.int .u64 r.src.d,.int .u64 r.tgt.a,.int .u64 r.tgt.b,.int .u64 r.tgt.c,.int .u64 r.tgt.d,.bool r.self,.int .i64 r.cls,.int .u32 r.perms,.int .i64 r.cond]
theorem acF.keep{w wr w':World}{r:aj}{a1:Option Addr}{c1 n1:Nat}{P:List (Nat×Nat)}{u:Value}(h:acF w r a1 c1 n1 P u wr)(hb:Below wr.heap.size wr w'):acF w r a1 c1 n1 P u w':=
 ⟨gE hb h.1 (Nat.le_refl _),gE hb h.2.1 (Nat.le_refl _),h.2.2.1.trans (hb.mono h.2.2.1.size),Whole.under hb h.2.2.2 h.2.2.2.lt⟩
theorem yq(r:aj)(l:List Nat):(r.dg l).length≤l.length*256:=by
 induction l with
 | nil=>simp[aj.dg]
 | cons s l ih=>
  have h1:=iQ (r.tgts s) 256;have e:(r.dg (s::l)).length=(elems (r.tgts s)).length+(r.dg l).length:=by simp[aj.dg]
  rw[e,List.length_cons,Nat.add_mul];unfold elems;omega
theorem uE(r:aj)(l:List Nat)(s:Nat):r.dg (l++[s])=r.dg l++(elems (r.tgts s)).map fun t=>(s,t):=by simp[aj.dg]
theorem InR.more{w wr w2:World}{r:aj}{a1 a2:Option Addr}{c1 n1 c2 n2:Nat}{l2:List Nat}{P:List (Nat×Nat)}{u v':Value}{s y:Nat}(h:InR w r a1 c1 n1 a2 c2 n2 l2 P u wr)
 (hown:w2.ownsRow w.heap.size 111 2 v' (P.length+1) (f_ P++IQ (s,y))) (hg:(wr.alloc (.cells #[.int .i64 (s:Int),.int .i64 (y:Int)] 111)).grownBy w2 u.ownBlock):InR w r a1 c1 n1 a2 c2 n2 l2 (P++[(s,y)]) v' w2:=by
 obtain⟨h1,h2,h3,h4,h5⟩:=h;have ho:=rz h1 (.cells #[.int .i64 (s:Int),.int .i64 (y:Int)] 111);refine⟨?_,DQ (rz h2 _) ho (by decide) hg,DQ (rz h3 _) ho (by decide) hg,(h4.alloc h4.size _).grown hg (by have:=h4.size;simp;omega) (fun q hq=>by have:=(h1.lt q hq).1;omega),(h5.alloc _).grown hg (fun e=>jT h1 h5 (by decide) e.symm)⟩;rw[atx,lD];exact hown
theorem Tq(r:aj){s q:Nat}(hs:s<256)(hq:q<256):(r.tgts s).has q=(r.tgt.has q||(r.self&&decide (q=s))):=by
 unfold aj.tgts ay.with
 cases r.self with
 | false=>simp
 | true=>
  rw[if_pos rfl,if_pos ⟨by omega,by omega⟩,Int.toNat_natCast,ay.has_add _ hs hq,Bool.or_comm];simp
def R4(w:World)(r:aj)(P:List (Nat×Nat))(u:Value)(wr:World):Prop:=
 wr.ownsRow w.heap.size 111 2 u P.length (f_ P)∧Below w.heap.size w wr∧Whole wr w.heap.size 56 #[.int .i64 r.kind,.int .u64 r.src.a,.int .u64 r.src.b,.int .u64 r.src.c,.int .u64 r.src.d,.int .u64 r.tgt.a,.int .u64 r.tgt.b,.int .u64 r.tgt.c,.int .u64 r.tgt.d,.bool r.self,.int .i64 r.cls,.int .u32 r.perms,.int .i64 r.cond]
theorem R4.keep{w wr w':World}{r:aj}{P:List (Nat×Nat)}{u:Value}(h:R4 w r P u wr)(hb:Below wr.heap.size wr w'):R4 w r P u w':=
 ⟨gE hb h.1 (Nat.le_refl _),h.2.1.trans (hb.mono h.2.1.size),Whole.under hb h.2.2 h.2.2.lt⟩
theorem R4.more{w wr w2:World}{r:aj}{P:List (Nat×Nat)}{u v':Value}{s y:Nat}(h:R4 w r P u wr)
 (hown:w2.ownsRow w.heap.size 111 2 v' (P.length+1) (f_ P++IQ (s,y))) (hg:(wr.alloc (.cells #[.int .i64 (s:Int),.int .i64 (y:Int)] 111)).grownBy w2 u.ownBlock):R4 w r (P++[(s,y)]) v' w2:=by
 obtain⟨h1,h4,h5⟩:=h;refine⟨?_,(h4.alloc h4.size _).grown hg (by have:=h4.size;simp;omega) (fun q hq=>by have:=(h1.lt q hq).1;omega),(h5.alloc _).grown hg (fun e=>jT h1 h5 (by decide) e.symm)⟩;rw[atx,lD];exact hown
end Go.Proofs.YtdcofoaihmongaaGreat
namespace Go.Proofs.YtdcofoaihmongaaGreat
open Go Go.RowKit Go.WideMaps
structure bY where
 src:Int
 tgt:Int
 cls:Int
 cond:Int
 allow:Int
 kH:Int
 dont:Int
deriving DecidableEq
def bY.cells(x:bY):List Value:=[.int .i64 x.src,.int .i64 x.tgt,.int .i64 x.cls,.int .i64 x.cond,.int .u32 x.allow,.int .u32 x.kH,.int .u32 x.dont]
theorem aa3:iP (Tryz.prog.info? 52) 1 8=true:=by kernel_rfl
theorem afr:Tryz.prog.cellsOf 52=1:=by kernel_rfl
theorem eqw(d:Nat)(a b:Int)(w:World):(Op.equalIn (d+1) 52 (.int .u64 a) (.int .u64 b)).run Tryz.prog w=.ok (decide (a=b)) w:=by
 by_cases h:a=b<;>simp[Op.equalIn,run_underlying Tryz.underlying52,h]
theorem afe(a b:Int)(w:World):(Op.equalIn 9999 52 (.int .u64 a) (.int .u64 b)).run Tryz.prog w=.ok (decide (a=b)) w:=eqw 9998 a b w
theorem ab0(x0 x1 x2 x3 y0 y1 y2 y3:Int)(w:World):(Op.equalIn 10000 54 (.agg #[.int .u64 x0,.int .u64 x1,.int .u64 x2,.int .u64 x3]) (.agg #[.int .u64 y0,.int .u64 y1,.int .u64 y2,.int .u64 y3])).run Tryz.prog w=.ok (decide (x0=y0∧x1=y1∧x2=y2∧x3=y3)) w:=by
 obtain⟨i0,z,hi,_⟩:=ng aa3;rw[show(10000:Nat)=9999+1 from rfl,run_equalIn_array w 9999 _ _ Tryz.underlying54 hi,afr];have p0:∀ x0 x1 x2 x3:Int,(part 52 #[.int .u64 x0,.int .u64 x1,.int .u64 x2,.int .u64 x3] (0*1)).run Tryz.prog w=.ok (.int .u64 x0) w:=fun x0 x1 x2 x3=>by kernel_rfl
 have p1:∀ x0 x1 x2 x3:Int,(part 52 #[.int .u64 x0,.int .u64 x1,.int .u64 x2,.int .u64 x3] (1*1)).run Tryz.prog w=.ok (.int .u64 x1) w:=fun x0 x1 x2 x3=>by kernel_rfl
 have p2:∀ x0 x1 x2 x3:Int,(part 52 #[.int .u64 x0,.int .u64 x1,.int .u64 x2,.int .u64 x3] (2*1)).run Tryz.prog w=.ok (.int .u64 x2) w:=fun x0 x1 x2 x3=>by kernel_rfl
 have p3:∀ x0 x1 x2 x3:Int,(part 52 #[.int .u64 x0,.int .u64 x1,.int .u64 x2,.int .u64 x3] (3*1)).run Tryz.prog w=.ok (.int .u64 x3) w:=fun x0 x1 x2 x3=>by kernel_rfl
 rw[show List.range 4=[0,1,2,3] from rfl];simp only[Op.eqItems,atz,p0,Result.andThen_ok,afe];by_cases h0:x0=y0<;>by_cases h1:x1=y1<;>by_cases h2:x2=y2<;>by_cases h3:x3=y3<;>simp[h0,h1,h2,h3,atz,p1,p2,p3,afe]
theorem dI{xs ys:Array Value}{W:World}{d:Nat}:∀ (fs:List Field) (rs:List Bool),fs.length=rs.length→(fs.all fun f=>f.name != "_")=true→(∀ (i:Nat) (f:Field) (r:Bool),fs[i]?=some f→rs[i]?=some r→∃ x y,(part f.type xs f.offset).run Tryz.prog W=.ok x W∧(part f.type ys f.offset).run Tryz.prog W=.ok y W∧(Op.equalIn d f.type x y).run Tryz.prog W=.ok r W)→(Op.eqFields d xs ys fs).run Tryz.prog W=.ok (rs.all id) W
 | [],[],_,_,_=>rfl
 | f::fs,r::rs,hl,hn,h=>by
  obtain⟨x,y,h1,h2,h3⟩:=h 0 f r rfl rfl;have ih:=dI fs rs (by simpa using hl) (by simp at hn;simpa using hn.2) fun i g s hg hs=>h (i+1) g s (by simpa using hg) (by simpa using hs)
  unfold Op.eqFields;have hne:f.name≠ "_":=by simp at hn;exact hn.1
  rw[if_pos hne];simp only[atz,h1,h2,h3,Result.andThen_ok]
  cases r with
  | false=>simp
  | true=>simpa using ih
 | [],_::_,h,_,_=>by simp at h
 | _::_,[],h,_,_=>by simp at h
end Go.Proofs.YtdcofoaihmongaaGreat
namespace Go.Proofs.YtdcofoaihmongaaGreat
open Go Go.RowKit
def Kc(a b:Int):Int:=if a<b then -1 else if b<a then 1 else 0
theorem RJ{a b:Int}:Kc a b=0↔a=b:=by
 unfold Kc;split
 ·constructor<;>intro h<;>omega
 ·split
  ·constructor<;>intro h<;>omega
  ·constructor<;>intro h<;>omega
theorem uY{a b:Int}:Kc a b<0↔a<b:=by
 unfold Kc;split
 ·constructor<;>intro h<;>omega
 ·split
  ·constructor<;>intro h<;>omega
  ·constructor<;>intro h<;>omega
def orI:List Int→Int
 | []=>0
 | x::l=>if x=0 then orI l else x
def j7(x:Int):Value:=.int .i64 x
def j9(w w':World):Prop:=∃ q os,w'=Sort.grow (w.drewN q) os
theorem j9.refl(w:World):j9 w w:=⟨0,#[],by rw[Sort.grow_empty];rfl⟩
theorem j9.drewN{w w':World}(h:j9 w w')(n:Nat):j9 w (w'.drewN n):=by
 obtain⟨q,os,rfl⟩:=h;exact⟨q+n,os,by simp[Sort.grow,World.drewN,Nat.add_assoc]⟩
theorem j9.drew{w w':World}(h:j9 w w'):j9 w w'.drew:=h.drewN 1
theorem j9.alloc{w w':World}(h:j9 w w')(o:Obj):j9 w (w'.alloc o):=by
 obtain⟨q,os,rfl⟩:=h;exact⟨q,os++#[o],by rw[Sort.alloc_eq_grow,Sort.grow_grow]⟩
theorem j9.trans{a b c:World}(h:j9 a b)(k:j9 b c):j9 a c:=by
 obtain⟨q,os,rfl⟩:=k;obtain⟨q',os',h'⟩:=h.drewN q;exact⟨q',os'++os,by rw[h',Sort.grow_grow]⟩
theorem j9.below{w w':World}(h:j9 w w'):Below w.heap.size w w':=by
 obtain⟨q,os,rfl⟩:=h;refine⟨rfl,rfl,rfl,by simp[Sort.grow,World.drewN],fun k hk=>?_⟩;show(w.heap++os)[k]?=w.heap[k]?;exact Array.getElem?_append_left hk
def zX(x y:bY):Int:=orI [Kc x.src y.src,Kc x.tgt y.tgt,Kc x.cls y.cls,Kc x.cond y.cond]
def ay.least(s:ay):Int:=match (elems s).head? with
 | some n=>(n:Int)
 | none=>-1
def ofs(l:List Int):ay:=l.foldl ay.with ay.zero
theorem zn:ay.zero.Ok:=by constructor<;>(show(0:Nat)<18446744073709551616;decide)
theorem JH:∀ (l:List Int) {s:ay},s.Ok→(l.foldl ay.with s).Ok
 | [],_,h=>h
 | x::l,_,h=>JH l (ay.EJ h x)
theorem Ug(w:World)(v:Value)(l:List Int)(h:SliceAt w v 1 l.length (l.map j7)):Calls Tryz.prog 66 #[v] w fun e w'=>e=.returned (.agg #[.int .u64 (ofs l).a,.int .u64 (ofs l).b,.int .u64 (ofs l).c,.int .u64 (ofs l).d])∧Below w.heap.size w w':=by
 obtain⟨a,c,rfl,hac,CP,HA⟩:=h.form (by decide);have H1:=atv HA;clear HA h;obtain⟨N,hN⟩:∃ N,N=l.length:=⟨_,rfl⟩;rw[← hN] at H1 hac CP ⊢;have HN:=atv hN;clear hN;have Hp:=atv (show Whole ((w.alloc (.cells #[.int .u64 0,.int .u64 0,.int .u64 0,.int .u64 0] 54)).alloc (.cells #[.int .u64 0,.int .u64 0,.int .u64 0,.int .u64 0] 54)) w.heap.size 54 #[.int .u64 0,.int .u64 0,.int .u64 0,.int .u64 0] from(Whole.new w 54 #[.int .u64 0,.int .u64 0,.int .u64 0,.int .u64 0]).alloc _);have Ew:=atv (show Whole ((w.alloc (.cells #[.int .u64 0,.int .u64 0,.int .u64 0,.int .u64 0] 54)).alloc (.cells #[.int .u64 0,.int .u64 0,.int .u64 0,.int .u64 0] 54)) (w.heap.size+1) 54 #[.int .u64 0,.int .u64 0,.int .u64 0,.int .u64 0] from dZ w _ #[.int .u64 0,.int .u64 0,.int .u64 0,.int .u64 0] _)
 go_enter Tryz.func66,Tryz.ntmps66
 go_wp2_with (refine bp rfl 54 _ _ rfl (w.heap.size+1) 0 (.agg #[.int .u64 0,.int .u64 0,.int .u64 0,.int .u64 0]) rfl rfl 54 _ Ew.out (by simp[Value.cells]) dW rfl ?_;intro w2 S2 W2;rw[ef _ _ (by rfl)] at W2;have zm:=atv S2;have HW2:=atv (show Whole w2 (w.heap.size+1) 54 #[.int .u64 0,.int .u64 0,.int .u64 0,.int .u64 0] from W2);clear S2 W2 Ew)
 have HR2:=atv (zm.out.whole Hp.out (by omega));have WY:=atv (show Below w.heap.size w w2 from(((Below.refl _ w).alloc (Nat.le_refl _) _).alloc (by simp) _).trans (zm.out.below (by omega)));clear Hp zm
 go_loopw [4] (fun i wr=>∃ (n:Nat) (s:ay),n≤N∧i=.int .i64 n∧s=(l.take n).foldl ay.with ay.zero∧Whole wr w.heap.size 54 #[.int .u64 0,.int .u64 0,.int .u64 0,.int .u64 0]∧Whole wr (w.heap.size+1) 54 #[.int .u64 s.a,.int .u64 s.b,.int .u64 s.c,.int .u64 s.d]∧Below w.heap.size w wr) (fun i _=>N-(intOf i).toNat)
 case atStart=>exact⟨0,ay.zero,Nat.zero_le _,rfl,rfl,HR2.out,HW2.out,WY.out⟩
 case round=>
  clear HR2 HW2 WY;obtain⟨n,s,hn,rfl,hse,hR,hS,hb⟩:=hrel;have HSE:=atv hse;have WZ:=atv hR;have pG:=atv hS;have WX:=atv hb;have HS:=atv (show s.Ok by rw[hse];exact JH _ zn);clear hse hR hS hb;by_cases hlt:n<N
  ·obtain⟨b,off,rfl,hc⟩:=H1.out n hlt;obtain⟨y,hy⟩:∃ y,l[n]?=some y:=⟨_,atA (by have:=HN.out;omega)⟩
   have c0:wr.cell? ⟨b,off+n,none⟩=some (.int .i64 y):=by
    have h:=atw WX.out (hc 0 (.int .i64 y) (by simp[hy,j7]))
    rwa [Nat.mul_one] at h
   have HY:=atv hy;obtain⟨t,ht⟩:∃ t,s.with y=t:=⟨_,rfl⟩;have HT:=atv ht;clear hy hc ht
   go_wp2_with fail
   refine fA (fun w w'=>Below w.heap.size w w') [some 12,some 13,some 14,some 15,some 16,some 17] [bZ (.agg #[.int .u64 s.a,.int .u64 s.b,.int .u64 s.c,.int .u64 s.d]),bZ (.slice (some ⟨b,off,none⟩) N c),bZ (.int .i64 n),bZ (.pointer (some ⟨b,off+n,none⟩)),bZ (.int .i64 y),bZ (.agg #[.int .u64 t.a,.int .u64 t.b,.int .u64 t.c,.int .u64 t.d])] (fun _ w'=>Below wr.heap.size wr w') 6 (by kernel_rfl) (by kernel_rfl) (by kernel_rfl) rfl (by decide) rfl rfl ((Below.refl _ _).drew) ⟨ak _,ak _,ak _,ak _,ak _,ak _,trivial⟩ ⟨(fun _=>aG _),(fun _=>aG _),(fun _=>aG _),(fun _=>aG _),(fun _=>aG _),(fun _=>aG _),trivial⟩ ⟨?_,?_,?_,?_,?_,?_,?_⟩
   ·intro L a wx Q' hL hi H F hK
    try dsimp only at hi
    have h3:a.tmps[3]?=some (.pointer (some ⟨w.heap.size+1,0,none⟩)):=F 3 rfl;have HI:=atv hi;clear H F hi hL;have kq0:wx.cell? ⟨w.heap.size+1,0,none⟩=some (.int .u64 s.a):=(Whole.under HI.out pG.out (Whole.lt pG.out)).cell 0;have kq1:wx.cell? ⟨w.heap.size+1,1,none⟩=some (.int .u64 s.b):=(Whole.under HI.out pG.out (Whole.lt pG.out)).cell 1;have kq2:wx.cell? ⟨w.heap.size+1,2,none⟩=some (.int .u64 s.c):=(Whole.under HI.out pG.out (Whole.lt pG.out)).cell 2;have kq3:wx.cell? ⟨w.heap.size+1,3,none⟩=some (.int .u64 s.d):=(Whole.under HI.out pG.out (Whole.lt pG.out)).cell 3
    go_wp2_with fail
    exact hK _ _ (Below.refl _ _) HI.out rfl
   ·intro L a wx Q' hL hi H F hK
    try dsimp only at hi
    have h0:a.tmps[0]?=some (.slice (some ⟨b,off,none⟩) N c):=F 0 rfl;have HI:=atv hi;clear H F hi hL
    go_wp2_with fail
    exact hK _ _ (Below.refl _ _) HI.out rfl
   ·intro L a wx Q' hL hi H F hK
    try dsimp only at hi
    have h4:a.tmps[4]?=some (.int .i64 n):=F 4 rfl;have HI:=atv hi;clear H F hi hL
    go_wp2_with fail
    exact hK _ _ (Below.refl _ _) HI.out rfl
   ·intro L a wx Q' hL hi H F hK
    try dsimp only at hi
    obtain⟨_,JD,rfl⟩:=H 1 ⟨.data,by simp,rfl⟩ _ rfl;replace JD:=JD _ rfl;obtain⟨_,KH,rfl⟩:=H 2 ⟨.data,by simp,rfl⟩ _ rfl;replace KH:=KH _ rfl;have HI:=atv hi;clear H F hi hL
    go_wp2_with fail
    exact hK _ _ (Below.refl _ _) HI.out rfl
   ·intro L a wx Q' hL hi H F hK
    try dsimp only at hi
    obtain⟨_,Ea,rfl⟩:=H 3 ⟨.data,by simp,rfl⟩ _ rfl;replace Ea:=Ea _ rfl;have HI:=atv hi;clear H F hi hL;have kk:wx.cell? ⟨b,off+n,none⟩=some (.int .i64 y):=atw HI.out c0
    go_wp2_with fail
    exact hK _ _ (Below.refl _ _) HI.out rfl
   ·intro L a wx Q' hL hi H F hK
    try dsimp only at hi
    obtain⟨_,h12,rfl⟩:=H 0 ⟨.data,by simp,rfl⟩ _ rfl;replace h12:=h12 _ rfl;obtain⟨_,D_,rfl⟩:=H 4 ⟨.data,by simp,rfl⟩ _ rfl;replace D_:=D_ _ rfl;have HI:=atv hi;clear H F hi hL
    go_wp2_with (go_at_call 130;go_must (refine(DK wx s HS.out y).mono ?_;rintro e w1 ⟨rfl,hb1⟩;rw[HT.out]))
    exact hK _ _ hb1 (HI.out.trans (hb1.mono HI.out.size)) rfl
   ·intro a wx hl L hi hL Q' hK
    try dsimp only at hi
    have HB:=atv hi;clear hi hL;obtain⟨_,rfl,_,rfl,_,rfl,_,rfl,_,rfl,_,rfl,rfl⟩:=hl;simp only[List.setIfInBounds_toArray,List.set_cons_zero,List.set_cons_succ];have HX:=atv (Whole.under HB.out pG.out pG.out.lt);have HR:=atv (Whole.under HB.out WZ.out WZ.out.lt);have KM:=atv (WX.out.trans (HB.out.mono WX.out.size));clear HB WZ pG WX c0
    go_wp2_with (refine bp rfl 54 _ _ rfl (w.heap.size+1) 0 (.agg #[.int .u64 t.a,.int .u64 t.b,.int .u64 t.c,.int .u64 t.d]) rfl rfl 54 _ HX.out (by simp[Value.cells]) dW rfl ?_;intro w2 S2 W2;rw[ef _ _ (by rfl)] at W2;have zm:=atv S2;have HW2:=atv (show Whole w2 (w.heap.size+1) 54 #[.int .u64 t.a,.int .u64 t.b,.int .u64 t.c,.int .u64 t.d] from W2);clear S2 W2 HX)
    go_roundw
    case rel=>exact⟨n+1,t,by omega,by go_num,by rw[bw HY.out,List.foldl_append,← HSE.out];exact HT.out.symm,zm.out.whole HR.out (by omega),HW2.out,KM.out.trans (zm.out.below (by omega))⟩
    case measure=>simp[intOf];omega
  ·obtain rfl:n=N:=by omega
   go_wp2_with (first|(refine wpList_load_row rfl 54 _ rfl (w.heap.size+1) rfl 54 _ (0,0) _ pG.out Tryz.underlying54 rfl dW ?_)|(refine bp rfl 54 _ _ rfl (w.heap.size) 0 (.agg #[.int .u64 s.a,.int .u64 s.b,.int .u64 s.c,.int .u64 s.d]) rfl rfl 54 _ WZ.out (by simp[Value.cells]) dW rfl ?_;intro w3 S3 W3;rw[ef _ _ (by rfl)] at W3;have HS3:=atv S3;have HW3:=atv (show Whole w3 w.heap.size 54 #[.int .u64 s.a,.int .u64 s.b,.int .u64 s.c,.int .u64 s.d] from W3);clear S3 W3))
   have e0:w3.cell? ⟨w.heap.size,0,none⟩=some (.int .u64 s.a):=HW3.out.cell 0;have e1:w3.cell? ⟨w.heap.size,1,none⟩=some (.int .u64 s.b):=HW3.out.cell 1;have e2:w3.cell? ⟨w.heap.size,2,none⟩=some (.int .u64 s.c):=HW3.out.cell 2;have e3:w3.cell? ⟨w.heap.size,3,none⟩=some (.int .u64 s.d):=HW3.out.cell 3
   have hs:s=ofs l:=by
    have h:=HSE.out;rw[List.take_of_length_le (by rw[HN.out];exact Nat.le_refl _)] at h;exact h
   refine bodyPost_ret (v:=.agg #[.int .u64 s.a,.int .u64 s.b,.int .u64 s.c,.int .u64 s.d]) ?_ rfl ⟨by rw[hs],WX.out.trans (HS3.out.below (Nat.le_refl _))⟩;simp[results,Tryz.results66,go_sem,e0,e1,e2,e3]
structure bB where
 allow:Int
 kH:Int
 dont:Int
deriving DecidableEq
def bB.or(u v:bB):bB:=⟨bits .or .u32 u.allow v.allow,bits .or .u32 u.kH v.kH,bits .or .u32 u.dont v.dont⟩
def Dx(k p:Int):bB:=if k=1 then ⟨p,0,0⟩ else if k=2 then ⟨0,p,0⟩ else if k=3 then ⟨0,0,p⟩ else ⟨0,0,0⟩
def bY.vec(x:bY)(k:Int):Int:=if k=1 then x.allow else if k=2 then x.kH else x.dont
end Go.Proofs.YtdcofoaihmongaaGreat
namespace Go.Proofs.YtdcofoaihmongaaGreat
open Go Go.RowKit Go.WideMaps
theorem UE:laidOutB Tryz.prog=true:=by kernel_rfl
theorem adX:KeyLaw Tryz.prog 113:=deep_law_laid UE (m:=5) (by decide) (of_decide_eq_true (by kernel_rfl)) (by kernel_rfl) (by kernel_rfl)
theorem zP:Maps.Keyed Tryz.prog 113:=Maps.Keyed.of_law adX
end Go.Proofs.YtdcofoaihmongaaGreat
namespace Go.Proofs.YtdcofoaihmongaaGreat
open Go Go.WideMaps Go.RowKit
theorem sizeT:∃ m,Tryz.prog.types.size=m+1:=⟨Tryz.prog.types.size-1,by have:0<Tryz.prog.types.size:=of_decide_eq_true (by kernel_rfl);omega⟩
theorem ahg(m:Nat){a:Int}(wa:(Lit.int .i64 a).wf=true):Tryz.prog.keyLits (m+1) 3 [.int .i64 a]=some [.int .i64 a]:=by
 unfold Program.keyLits;simp[Tryz.underlying3,wa]
theorem ad5{a b c d:Int}(wa:(Lit.int .i64 a).wf=true)(wb:(Lit.int .i64 b).wf=true)(wc:(Lit.int .i64 c).wf=true)(wd:(Lit.int .i64 d).wf=true):
 ∃ l,keyOf Tryz.prog 113 (.agg #[.int .i64 a,.int .i64 b,.int .i64 c,.int .i64 d])=some l:=by
 obtain⟨m,hm⟩:=sizeT;have hu:Tryz.prog.underlying 113=some (.struct (Tryz.prog.fieldsOf 113)):=by kernel_rfl
 have hk:Tryz.prog.keyType 113=true:=by kernel_rfl
 have hc:Tryz.prog.cellsOf 113=4:=by kernel_rfl
 have hc3:Tryz.prog.cellsOf 3=1:=by kernel_rfl
 have hf:(Tryz.prog.fieldsOf 113).toList.map (fun f=>(f.type,f.offset))=[(3,0),(3,1),(3,2),(3,3)]:=by kernel_rfl
 have hn:(Tryz.prog.fieldsOf 113).all (fun f=>f.name != "_")=true:=by kernel_rfl
 have hform:(Value.agg #[.int .i64 a,.int .i64 b,.int .i64 c,.int .i64 d]).formed Tryz.prog 113=true:=by kernel_rfl
 unfold keyOf;simp only[hu];rw[if_pos (by rw[hk,hform];rfl),hm];unfold Program.keyLits;simp only[hu,Value.cells];rw[if_pos ⟨by rw[hc];rfl,hn⟩];generalize (Tryz.prog.fieldsOf 113).toList=fs at hf
 obtain⟨f0,f1,f2,f3,rfl⟩:∃ f0 f1 f2 f3,fs=[f0,f1,f2,f3]:=by
  rcases fs with _|⟨f0,_|⟨f1,_|⟨f2,_|⟨f3,_|⟨f4,r⟩⟩⟩⟩⟩
  ·simp at hf
  ·simp at hf
  ·simp at hf
  ·simp at hf
  ·exact⟨_,_,_,_,rfl⟩
  ·simp at hf
 simp only[List.map_cons,List.map_nil,List.cons.injEq,Prod.mk.injEq,and_true] at hf;obtain⟨⟨t0,o0⟩,⟨t1,o1⟩,⟨t2,o2⟩,⟨t3,o3⟩⟩:=hf;obtain⟨m',rfl⟩:∃ m',m=m'+1:=⟨m-1,by have h:1<Tryz.prog.types.size:=of_decide_eq_true (by kernel_rfl);omega⟩;simp[List.mapM_cons,t0,o0,t1,o1,t2,o2,t3,o3,hc3,ahg,wa,wb,wc,wd]
end Go.Proofs.YtdcofoaihmongaaGreat
namespace Go.Proofs.YtdcofoaihmongaaGreat
open Go Go.Sort
instance:Inhabited bY:=⟨⟨0,0,0,0,0,0,0⟩⟩
theorem wK(x y:bY):ltOf zX x y=decide (x.src<y.src∨x.src=y.src∧(x.tgt<y.tgt∨x.tgt=y.tgt∧(x.cls<y.cls∨x.cls=y.cls∧x.cond<y.cond))):=by
 unfold ltOf zX;simp only[orI,RJ];by_cases h0:x.src=y.src
 ·by_cases h1:x.tgt=y.tgt
  ·by_cases h2:x.cls=y.cls
   ·by_cases h3:x.cond=y.cond
    ·simp[h0,h1,h2,h3]
    ·simp[h0,h1,h2,h3,uY]
   ·simp[h0,h1,h2,uY]
  ·simp[h0,h1,uY]
 ·simp[h0,uY]
theorem Ax:SWO (ltOf zX) where
 irrefl x:=by rw[wK];simp
 trans x y z h1 h2:=by rw[wK] at *;simp at *;omega
 ntrans x y z h1 h2:=by rw[wK] at *;simp at *;omega
theorem AA{α:Type}(lt:α→α→Prop)(hi:∀ x,¬ lt x x)(ht:∀ x y z,lt x y→lt y z→lt x z):∀ {a b:List α},a.Pairwise lt→b.Pairwise lt→(∀ x,x∈a↔x∈b)→a=b
 | [],[],_,_,_=>rfl
 | [],y::b,_,_,h=>by have:=(h y).2 (by simp);cases this
 | x::a,[],_,_,h=>by have:=(h x).1 (by simp);cases this
 | x::a,y::b,ha,hb,h=>by
  have ha':=List.pairwise_cons.1 ha;have hb':=List.pairwise_cons.1 hb
  have hxy:x=y:=by
   rcases atB.1 ((h x).1 (by simp)) with e|e
   ·exact e
   ·rcases atB.1 ((h y).2 (by simp)) with e'|e'
    ·exact e'.symm
    ·exact absurd (ht _ _ _ (ha'.1 _ e') (hb'.1 _ e)) (hi _)
  subst hxy;congr 1;refine AA lt hi ht ha'.2 hb'.2 fun z=>⟨fun hz=>?_,fun hz=>?_⟩
  ·rcases atB.1 ((h z).1 (atC _ hz)) with e|e
   ·subst e;exact absurd (ha'.1 _ hz) (hi _)
   ·exact e
  ·rcases atB.1 ((h z).2 (atC _ hz)) with e|e
   ·subst e;exact absurd (hb'.1 _ hz) (hi _)
   ·exact e
structure cI where
 src:Int
 tgt:Int
 cls:Int
 cond:Int
deriving DecidableEq
def bY.key(e:bY):cI:=⟨e.src,e.tgt,e.cls,e.cond⟩
def bY.aap(e:bY):bB:=⟨e.allow,e.kH,e.dont⟩
def bB.zero:bB:=⟨0,0,0⟩
instance:DecidableEq bB:=fun a b=>decidable_of_iff (a.allow=b.allow∧a.kH=b.kH∧a.dont=b.dont) (by cases a;cases b;simp)
def mkE(k:cI)(v:bB):bY:=⟨k.src,k.tgt,k.cls,k.cond,v.allow,v.kH,v.dont⟩
def iR(a:Int):Prop:=-9223372036854775808≤a∧a<9223372036854775808
def PG(a:Int):Prop:=0≤a∧a<4294967296
structure cI.Ok (k:cI):Prop where
 src:iR k.src
 tgt:iR k.tgt
 cls:iR k.cls
 cond:iR k.cond
structure bB.Ok (v:bB):Prop where
 allow:PG v.allow
 kH:PG v.kH
 dont:PG v.dont
def WL(x y:bY):Prop:=ltOf zX x y=true
theorem WL.irrefl(x:bY):¬ WL x x:=by unfold WL;rw[Ax.irrefl];simp
theorem WL.trans(x y z:bY):WL x y→WL y z→WL x z:=Ax.trans x y z
structure Canon (f:cI→bB) (l:List bY):Prop where
 ord:l.Pairwise WL
 mem:∀ e,e∈l↔e.aap=f e.key∧f e.key≠bB.zero
theorem Canon.uniq{f:cI→bB}{a b:List bY}(ha:Canon f a)(hb:Canon f b):a=b:=
 AA WL WL.irrefl WL.trans ha.ord hb.ord fun x=>(ha.mem x).trans (hb.mem x).symm
def lN(p:cI×bB):Value×Value:=(.agg #[.int .i64 p.1.src,.int .i64 p.1.tgt,.int .i64 p.1.cls,.int .i64 p.1.cond],.agg #[.int .u32 p.2.allow,.int .u32 p.2.kH,.int .u32 p.2.dont])
def nz(p:cI×bB):Bool:=decide (p.2≠bB.zero)
def sW(E:List (cI×bB)):List bY:=(E.filter nz).map fun p=>mkE p.1 p.2
def aas(f:cI→bB)(k:cI)(v:bB):cI→bB:=fun x=>if x=k then (f k).or v else f x
def accum(l:List (cI×bB)):cI→bB:=l.foldl (fun f p=>aas f p.1 p.2) fun _=>bB.zero
theorem CF(l:List (cI×bB))(p:cI×bB):accum (l++[p])=aas (accum l) p.1 p.2:=by simp[accum,List.foldl_append]
theorem RZ:accum []=fun _=>bB.zero:=rfl
theorem wrap32(n:Int):IntKind.u32.wrap n=n%4294967296:=by simp[IntKind.wrap,IntKind.signed,IntKind.bits]
theorem OO(a b:Int):bits .or .u32 a b=((BitVec.ofInt 32 a|||BitVec.ofInt 32 b).toNat:Int):=by
 show IntKind.u32.wrap ((BitVec.ofInt 32 a|||BitVec.ofInt 32 b).toNat:Int)=_;have h:=(BitVec.ofInt 32 a|||BitVec.ofInt 32 b).isLt;rw[wrap32];omega
theorem Mi(a b:Int):PG (bits .or .u32 a b):=by
 rw[OO];have h:=(BitVec.ofInt 32 a|||BitVec.ofInt 32 b).isLt;exact⟨by omega,by omega⟩
theorem YF{a:Int}(h:PG a):((BitVec.ofInt 32 a).toNat:Int)=a:=by
 obtain⟨n,rfl⟩:∃ n:Nat,a=n:=⟨a.toNat,by have:=h.1;omega⟩;rw[BitVec.ofInt_natCast,BitVec.toNat_ofNat,Nat.mod_eq_of_lt (by have:=h.2;omega)]
theorem wG(a b:Int):bits .or .u32 a b=bits .or .u32 b a:=by rw[OO,OO,BitVec.or_comm]
theorem wF{a:Int}(h:PG a):bits .or .u32 a 0=a:=by rw[OO,show BitVec.ofInt 32 0=0#32 from rfl,BitVec.or_zero,YF h]
theorem bB.Ud(u v:bB):(u.or v).Ok:=⟨Mi _ _,Mi _ _,Mi _ _⟩
theorem bB.or_comm(u v:bB):u.or v=v.or u:=by simp only[bB.or,wG u.allow,wG u.kH,wG u.dont]
theorem bB.or_zero{u:bB}(h:u.Ok):u.or bB.zero=u:=by simp only[bB.or,bB.zero,wF h.allow,wF h.kH,wF h.dont]
theorem bB.zn:bB.zero.Ok:=by constructor<;>exact⟨by decide,by decide⟩
end Go.Proofs.YtdcofoaihmongaaGreat
namespace Go.Proofs.YtdcofoaihmongaaGreat
open Go Go.RowKit Go.Sort Go.WideMaps
def tA(k:cI):Value:=.agg #[.int .i64 k.src,.int .i64 k.tgt,.int .i64 k.cls,.int .i64 k.cond]
def Ia(v:bB):Value:=.agg #[.int .u32 v.allow,.int .u32 v.kH,.int .u32 v.dont]
theorem Jd{a b:cI}(h:tA a=tA b):a=b:=by
 cases a;cases b;simpa[tA] using h
theorem Bw{a:Int}(h:iR a):(Lit.int .i64 a).wf=true:=by
 have h1:(-9223372036854775808≤a∧a<9223372036854775808):=h;simp[Lit.wf,IntKind.min,IntKind.max,IntKind.signed,IntKind.bits];omega
theorem UH{k:cI}(h:k.Ok):∃ l,keyOf Tryz.prog 113 (tA k)=some l:=ad5 (Bw h.src) (Bw h.tgt) (Bw h.cls) (Bw h.cond)
theorem aac(w:World):(zeroValue 107).run Tryz.prog w=.ok (Ia bB.zero) w:=by kernel_rfl
structure mG (w:World) (mb n:Nat) (f:cI→bB):Prop where
 ex:∃ D:List (cI×bB),aX w Tryz.prog 113 mb (D.map lN)∧(∀ p∈D,p.2=f p.1∧p.1.Ok∧p.2.Ok)∧(∀ k,f k≠bB.zero→k∈D.map Prod.fst)∧D.length≤n
theorem mG.lt{w:World}{mb n:Nat}{f:cI→bB}(h:mG w mb n f):mb<w.heap.size:=by
 obtain⟨D,h1,_⟩:=h.ex;exact h1.lt
theorem mG.kept{w w':World}{mb n:Nat}{f:cI→bB}(h:mG w mb n f)(hb:w'.heap[mb]?=w.heap[mb]?):mG w' mb n f:=by
 obtain⟨D,h1,h2⟩:=h.ex;exact⟨D,h1.kept hb,h2⟩
theorem mG.made(w:World):mG (w.alloc (.map #[] 0)) w.heap.size 0 (fun _=>bB.zero):=
 ⟨[],aX.made w _ _,by simp,by simp,Nat.le_refl _⟩
theorem mG.val{w:World}{mb n:Nat}{f:cI→bB}(h:mG w mb n f)(k:cI):(f k).Ok:=by
 obtain⟨D,h1,h2,h3,h4⟩:=h.ex;by_cases hz:f k=bB.zero
 ·rw[hz];exact bB.zn
 ·obtain⟨p,hp,rfl⟩:=aty.1 (h3 _ hz);have:=h2 p hp;rw[← this.1];exact this.2.2
theorem mG.look{w:World}{mb n:Nat}{f:cI→bB}(h:mG w mb n f){k:cI}(hk:k.Ok):(Instr.lookup 105 (.map (some mb)) (tA k) false).run Tryz.prog w=.ok (Ia (f k)) w:=by
 obtain⟨D,h1,h2,h3,h4⟩:=h.ex;obtain⟨l,hl⟩:=UH hk;by_cases hm:k∈D.map Prod.fst
 ·obtain⟨p,hp,rfl⟩:=aty.1 hm;have:=h1.rF false zP Tryz.underlying105 hl (val:=Ia p.2) (aty.2 ⟨p,hp,rfl⟩);rw[← (h2 p hp).1];exact this
 ·have hz:f k=bB.zero:=Classical.byContradiction fun h=>hm (h3 k h)
  rw[hz];refine h1.nX false zP Tryz.underlying105 (aac w) hl ?_;intro p hp e;obtain⟨q,hq,rfl⟩:=aty.1 hp;exact hm (aty.2 ⟨q,hq,Jd e⟩)
theorem T4{D:List (cI×bB)}{p:cI×bB}(h:p∈D):∃ R,D.Perm (p::R):=by
 obtain⟨s,t,rfl⟩:=List.append_of_mem h;exact⟨s++t,List.perm_middle⟩
theorem mG.put{w:World}{mb n:Nat}{f:cI→bB}(h:mG w mb n f){k:cI}(hk:k.Ok){v:bB}(hv:v.Ok):
 ∃ w',(Instr.mapUpdate 105 (.map (some mb)) (tA k) (Ia v)).run Tryz.prog w=.ok () w'∧(mG w' mb (n+1) (fun x=>if x=k then v else f x)∧w.grownBy w' (some mb)∧w'.heap.size=w.heap.size):=by
 obtain⟨D,h1,h2,h3,h4⟩:=h.ex;obtain⟨l,hl⟩:=UH hk;by_cases hm:k∈D.map Prod.fst
 ·obtain⟨p,hp,rfl⟩:=aty.1 hm;obtain⟨R,hR⟩:=T4 hp
  have hnd:(D.map Prod.fst).Nodup:=by
   have:=h1.keys;rw[List.map_map] at this;have e:(Prod.fst∘lN)=tA∘Prod.fst:=rfl;rw[e,← List.map_map] at this;exact List.Pairwise.of_map tA (fun a b hab e=>hab (congrArg tA e)) this
  have aew:=((hR.map Prod.fst).nodup_iff.1 hnd);simp only[List.map_cons,List.nodup_cons] at aew;obtain⟨w',hw,hM,hg,hs⟩:=h1.OG (key:=tA p.1) (val:=Ia v) (old:=Ia p.2) (R:=R.map lN) zP Tryz.underlying105 hl (by simpa[lN,tA,Ia] using hR.map lN);refine⟨w',hw,⟨(p.1,v)::R,hM,?_,?_,?_⟩,hg,hs⟩
  ·intro q hq;rcases atB.1 hq with rfl|hq
   ·exact⟨by simp,hk,hv⟩
   ·have hne:q.1≠p.1:=fun e=>aew.1 (e▸aty.2 ⟨q,hq,rfl⟩)
    simp only[if_neg hne];exact h2 q (hR.mem_iff.2 (atC _ hq))
  ·intro x hx;by_cases hxk:x=p.1
   ·subst hxk;simp
   ·simp only[if_neg hxk] at hx;have:=(hR.map Prod.fst).mem_iff.1 (h3 x hx);simpa using this
  ·have:=hR.length_eq;simp at this ⊢;omega
 ·obtain⟨w',hw,hM,hg,hs⟩:=h1.OH (key:=tA k) (val:=Ia v) zP Tryz.underlying105 hl (by
   intro p hp e;obtain⟨q,hq,rfl⟩:=aty.1 hp;exact hm (aty.2 ⟨q,hq,Jd e⟩))
  refine⟨w',hw,⟨(k,v)::D,hM,?_,?_,by simp;omega⟩,hg,hs⟩
  ·intro q hq;rcases atB.1 hq with rfl|hq
   ·exact⟨by simp,hk,hv⟩
   ·have hne:q.1≠k:=fun e=>hm (e▸aty.2 ⟨q,hq,rfl⟩)
    simp only[if_neg hne];exact h2 q hq
  ·intro x hx;by_cases hxk:x=k
   ·subst hxk;simp
   ·simp only[if_neg hxk] at hx;exact atC _ (h3 x hx)
def bY.Ok(e:bY):Prop:=e.key.Ok∧e.aap.Ok
theorem mG.nodup{D:List (cI×bB)}{w:World}{mb:Nat}(h1:aX w Tryz.prog 113 mb (D.map lN)):(D.map Prod.fst).Nodup:=by
 have:=h1.keys;rw[List.map_map] at this;have e:(Prod.fst∘lN)=tA∘Prod.fst:=rfl;rw[e,← List.map_map] at this;exact List.Pairwise.of_map tA (fun a b hab e=>hab (congrArg tA e)) this
end Go.Proofs.YtdcofoaihmongaaGreat
namespace Go.Proofs.YtdcofoaihmongaaGreat
open Go Go.RowKit Go.WideMaps
def ival(p:Int×Value):Value×Value:=(.int .i64 p.1,p.2)
def eE(L:List (Int×Value)):Array Value:=jX (L.map ival)
def jI:List (Int×Value)→Int→Option Value
 | [],_=>none
 | p::r,k=>if p.1=k then some p.2 else jI r k
def gX(L:List (Int×Value))(k:Int):List (Int×Value):=L.filter fun p=>decide (p.1≠k)
theorem Fl(L:List (Int×Value))(k j:Int):jI (gX L k) j=if j=k then none else jI L j:=by
 induction L with
 | nil=>simp[gX,jI]
 | cons p r ih=>
  unfold gX at *;rw[List.filter_cons];by_cases h:p.1=k
  ·rw[if_neg (by simp[h]),ih];by_cases hj:j=k
   ·simp[hj]
   ·rw[if_neg hj,if_neg hj,jI,if_neg (fun e=>hj (by rw[← e,h]))]
  ·rw[if_pos (by simp[h]),jI,jI,ih];by_cases hj:p.1=j
   ·rw[if_pos hj,if_neg (fun e=>h (hj.trans e)),if_pos hj]
   ·rw[if_neg hj,if_neg hj]
theorem zN(L:List (Int×Value))(k j:Int)(v:Value):jI ((k,v)::gX L k) j=if j=k then some v else jI L j:=by
 rw[jI,Fl];by_cases h:j=k
 ·subst h;simp
 ·rw[if_neg (fun e=>h e.symm),if_neg h,if_neg h]
theorem XW{L:List (Int×Value)}{k:Int}{v:Value}(h:jI L k=some v):(k,v)∈L:=by
 induction L with
 | nil=>cases h
 | cons p r ih=>
  rw[jI] at h;split at h
  ·rename_i e;obtain rfl:=atD h;subst e;exact atE ..
  ·exact atC _ (ih h)
theorem Bk{L:List (Int×Value)}{k:Int}(h:jI L k=none):∀ p∈L,p.1≠k:=by
 induction L with
 | nil=>simp
 | cons p r ih=>
  rw[jI] at h;split at h
  ·cases h
  ·rename_i hne;intro q hq;rcases atB.1 hq with rfl|hq
   ·exact hne
   ·exact ih h q hq
theorem Rz{L:List (Int×Value)}{k:Int}(h:jI L k=none):gX L k=L:=List.filter_eq_self.2 fun p hp=>by simpa using Bk h p hp
theorem xu{L:List (Int×Value)}{k:Int}{v:Value}(hn:(L.map Prod.fst).Nodup)(h:jI L k=some v):L.Perm ((k,v)::gX L k):=by
 induction L with
 | nil=>cases h
 | cons p r ih=>
  simp only[List.map_cons,List.nodup_cons] at hn;rw[jI] at h;unfold gX at *;rw[List.filter_cons];split at h
  ·rename_i e;obtain rfl:=atD h;subst e;rw[if_neg (by simp)]
   have:(r.filter fun q=>decide (q.1≠p.1))=r:=List.filter_eq_self.2 fun q hq=>by
    have:q.1≠p.1:=fun e=>hn.1 (e▸aty.2 ⟨q,hq,rfl⟩)
    simpa using this
   rw[this]
  ·rename_i hne;rw[if_pos (by simpa using hne)];exact((ih hn.2 h).cons p).trans (List.Perm.swap ..)
theorem uI:∀ {D E:List (Value×Value)},jX D=jX E→D=E
 | [],[],_=>rfl
 | [],_::_,h=>by simp[jX] at h
 | _::_,[],h=>by simp[jX] at h
 | (a,b)::D,(c,d)::E,h=>by
  have h':a=c∧b=d∧D.flatMap (fun p=>[p.1,p.2])=E.flatMap (fun p=>[p.1,p.2]):=by simpa[jX] using h
  obtain⟨rfl,rfl,h3⟩:=h';rw[uI (D:=D) (E:=E) (by unfold jX;rw[h3])]
theorem wT:Maps.Keyed Tryz.prog 3:=Maps.int_keyed Tryz.underlying3
theorem X3{n:Int}(h:iR n):∃ l,keyOf Tryz.prog 3 (.int .i64 n)=some l:=by
 unfold keyOf;simp[Tryz.underlying3,mapKey,Bw h]
section
variable {B:Nat} {w0 w w':World} {bs:List Bx} {rs:List Rw} {mb:Nat} {L:List (Int×Value)}
theorem aY.map(M:aY B w0 w bs rs)(i:Nat)(h:bs[i]?=some (mb,9003,eE L)):aX w Tryz.prog 3 mb (L.map ival):=by
 rcases M.box _ (atF h) with⟨h0,_⟩|⟨_,D,h1,h2⟩
 ·have h0:Nat.blt 9003 9000=true:=h0;exact absurd h0 (by decide)
 ·have h2:aX w Tryz.prog ((9003:Nat)-9000) mb D:=h2;rw[show(9003:Nat)-9000=3 by decide] at h2;rw[show L.map ival=D from uI h1];exact h2
theorem mO{w:World}{mb:Nat}{L:List (Int×Value)}(h:aX w Tryz.prog 3 mb (L.map ival)):vA w (mb,9003,eE L):=by
 refine .inr ⟨by show Nat.blt 9003 9000=false;decide,L.map ival,rfl,?_⟩;show aX w Tryz.prog ((9003:Nat)-9000) mb (L.map ival);rw[show(9003:Nat)-9000=3 by decide];exact h
theorem aY.Mp(M:aY B w0 w bs rs)(hb:atG w.heap.size w w'){b:Bx}(h:vA w' b)(hg:w.heap.size≤b.1):aY B w0 w' (b::bs) rs:=by
 have M':=M.keep hb;refine⟨M'.below,M'.le,M'.old,?_,?_,?_,M'.row,?_,M.wv⟩
 ·intro c hc;rcases atB.1 hc with rfl|hc
  ·exact h
  ·exact M'.box c hc
 ·intro c hc;rcases atB.1 hc with rfl|hc
  ·exact atH M.big hg
  ·exact M.lo c hc
 ·rw[List.map_cons,List.nodup_cons];refine⟨fun h=>?_,M.nd⟩;obtain⟨c,hc,e⟩:=aty.1 h;have:=(M.box c hc).lt;omega
 ·intro r hr c hc;rcases atB.1 hc with rfl|hc
  ·intro e;have:=((M.row r hr).lt _ e).2;omega
  ·exact M.far r hr c hc
theorem gP{w:World}{g mb:Nat}{t k:TypeId}{cs:Array Value}{P:Program}{D:List (Value×Value)}(h:Whole w g t cs)(m:aX w P k mb D):g≠mb:=fun e=>by
 subst e;obtain⟨es,clock,hb,_⟩:=m;have h:w.heap[g]?=some (.cells cs t (0,0)):=h;rw[hb] at h;cases h
theorem aY.Fg(M:aY B w0 w bs rs)(hb:atG w.heap.size w w'){b1 b2:Bx}(h1:vA w' b1)(g1:w.heap.size≤b1.1)(h2:vA w' b2)(g2:w.heap.size≤b2.1)(hne:b1.1≠b2.1):aY B w0 w' (b1::b2::bs) rs:=by
 have M':=M.Mp hb h2 g2;refine⟨M'.below,M'.le,M'.old,?_,?_,?_,M'.row,?_,M.wv⟩
 ·intro c hc;rcases atB.1 hc with rfl|hc
  ·exact h1
  ·exact M'.box c hc
 ·intro c hc;rcases atB.1 hc with rfl|hc
  ·exact atH M.big g1
  ·exact M'.lo c hc
 ·rw[List.map_cons,List.nodup_cons];refine⟨fun h=>?_,M'.nd⟩;obtain⟨c,hc,e⟩:=aty.1 h;rcases atB.1 hc with rfl|hc
  ·exact hne e.symm
  ·have:=(M.box c hc).lt;omega
 ·intro r hr c hc;rcases atB.1 hc with rfl|hc
  ·intro e;have:=((M.row r hr).lt _ e).2;omega
  ·exact M'.far r hr c hc
theorem aY.turn(M:aY B w0 w bs rs)(i:Nat){b b':Bx}(h:bs[i]?=some b)(e:b'.1=b.1)(hg:w.grownBy w' (some b.1))(h':vA w' b')(hm2:∀ g cs,Whole w g 52 cs→g≠b.1):aY B w0 w' (bs.set i b') rs:=by
 have hi:=(atJ.1 h).1;have hm:=atF h
 have hmap:(bs.set i b').map (·.1)=bs.map (·.1):=by
  refine List.ext_getElem? fun j=>?_
  rw[atK,atK,List.getElem?_set];by_cases ej:i=j
  ·subst ej;simp[hi,(atJ.1 h).2,e]
  ·simp[ej]
 have Vd:∀ c∈bs.set i b',∃ c'∈bs,c'.1=c.1:=fun c hc=>by
  rcases List.mem_or_eq_of_mem_set hc with hc|rfl
  ·exact⟨c,hc,rfl⟩
  ·exact⟨_,hm,e.symm⟩
 have hS:=St.grown (X:=[b.1]) hg (atL.2 rfl);refine⟨M.below.trans (hS.below M.big fun k hk=>by rw[atL.1 hk];exact M.lo _ hm),M.le,fun g cs h2=>hS.whole (M.old g cs h2) fun hx=>hm2 g cs (M.old g cs h2) (atL.1 hx),?_,?_,by rw[hmap];exact M.nd,?_,?_,M.wv⟩
 ·intro c hc;obtain⟨j,hj⟩:=List.getElem?_of_mem hc;rw[List.getElem?_set] at hj;by_cases ej:i=j
  ·subst ej;rw[if_pos rfl,if_pos hi] at hj;obtain rfl:=atD hj;exact h'
  ·rw[if_neg ej] at hj;have hb:=M.box c (atF hj);refine hb.kept (hS.block _ hb.lt fun hx=>ej ?_);have e2:c.1=b.1:=atL.1 hx;have h1:(bs.map (·.1))[i]?=some b.1:=by rw[atK,h];rfl
   have h2:(bs.map (·.1))[j]?=some b.1:=by rw[atK,hj];simp[e2]
   exact lI M.nd h1 h2
 ·intro c hc;obtain⟨c',hc',ec⟩:=Vd c hc;rw[← ec];exact M.lo c' hc'
 ·intro r hr;exact hS.own (M.row r hr) fun q hq=>by rw[atL.1 hq];exact M.far r hr _ hm
 ·intro r hr c hc;obtain⟨c',hc',ec⟩:=Vd c hc;rw[← ec];exact M.far r hr c' hc'
theorem aX.Mn{w:World}{mb:Nat}{L:List (Int×Value)}(h:aX w Tryz.prog 3 mb (L.map ival)):(L.map Prod.fst).Nodup:=by
 have hk:=h.keys;rw[List.map_map] at hk;have e:(Prod.fst∘ival)=(fun n:Int=>Value.int .i64 n)∘Prod.fst:=rfl;rw[e,← List.map_map] at hk;exact(List.pairwise_map.1 hk).imp fun h e=>h (by rw[e])
section
variable {t e:TypeId} (ht:Tryz.prog.underlying t=some (.map 3 e))
include ht
theorem aX.Uw{z:Value}(hz:(zeroValue e).run Tryz.prog w=.ok z w)(hM:aX w Tryz.prog 3 mb (L.map ival)){k:Int}(hk:iR k)(c:Bool):
 (Instr.lookup t (.map (some mb)) (.int .i64 k) c).run Tryz.prog w=.ok (if c then .tuple #[(jI L k).getD z,.bool (jI L k).isSome] else (jI L k).getD z) w:=by
 obtain⟨l,hl⟩:=X3 hk
 cases hf:jI L k with
 | some v=>exact hM.rF c wT ht hl (aty.2 ⟨(k,v),XW hf,rfl⟩)
 | none=>
  refine hM.nX c wT ht hz hl fun p hp e=>?_
  obtain⟨q,hq,rfl⟩:=aty.1 hp;exact Bk hf q hq (by simpa[ival] using e)
theorem aY.look{z:Value}(hz:(zeroValue e).run Tryz.prog w=.ok z w)(M:aY B w0 w bs rs)(i:Nat)(h:bs[i]?=some (mb,9003,eE L)){k:Int}(hk:iR k)(c:Bool):
 (Instr.lookup t (.map (some mb)) (.int .i64 k) c).run Tryz.prog w=.ok (if c then .tuple #[(jI L k).getD z,.bool (jI L k).isSome] else (jI L k).getD z) w:=aX.Uw ht hz (M.map i h) hk c
theorem aX.TW(hM:aX w Tryz.prog 3 mb (L.map ival)){k:Int}(hk:iR k)(v:Value):
 ∃ w',(Instr.mapUpdate t (.map (some mb)) (.int .i64 k) v).run Tryz.prog w=.ok () w'∧(aX w' Tryz.prog 3 mb (((k,v)::gX L k).map ival)∧w.grownBy w' (some mb)):=by
 obtain⟨l,hl⟩:=X3 hk
 cases hf:jI L k with
 | some u=>
  obtain⟨w',hw,Nf,hg,-⟩:=hM.OG (key:=.int .i64 k) (val:=v) (old:=u) (R:=(gX L k).map ival) wT ht hl ((xu hM.Mn hf).map ival);exact⟨w',hw,Nf,hg⟩
 | none=>
  obtain⟨w',hw,Nf,hg,-⟩:=hM.OH (key:=.int .i64 k) (val:=v) wT ht hl fun p hp e=>by
   obtain⟨q,hq,rfl⟩:=aty.1 hp;exact Bk hf q hq (by simpa[ival] using e)
  refine⟨w',hw,?_,hg⟩;rw[Rz hf];exact Nf
theorem aY.adT(M:aY B w0 w bs rs)(i:Nat)(h:bs[i]?=some (mb,9003,eE L)){k:Int}(hk:iR k)(v:Value):
 ∃ w',(Instr.mapUpdate t (.map (some mb)) (.int .i64 k) v).run Tryz.prog w=.ok () w'∧aY B w0 w' (bs.set i (mb,9003,eE ((k,v)::gX L k))) rs:=by
 obtain⟨w',hw,Nf,hg⟩:=aX.TW ht (M.map i h) hk v;exact⟨w',hw,M.turn i h rfl hg (mO Nf) fun g cs h2=>gP h2 (M.map i h)⟩
theorem aY.ahc{ty:TypeId}(M:aY B w0 w bs rs)(i:Nat)(h:bs[i]?=some (mb,9003,eE L)){k:Int}(hk:iR k)(hin:(jI L k).isSome=true):
 ∃ w',(Builtin.delete_ #[t,3] ty #[.map (some mb),.int .i64 k]).run Tryz.prog w=.ok (.tuple #[]) w'∧aY B w0 w' (bs.set i (mb,9003,eE (gX L k))) rs:=by
 have hM:=M.map i h;obtain⟨l,hl⟩:=X3 hk;obtain⟨u,hf⟩:=Option.isSome_iff_exists.1 hin;obtain⟨w',hw,Nf,hg,-⟩:=hM.del (ty:=ty) (key:=.int .i64 k) (old:=u) (R:=(gX L k).map ival) wT ht hl ((xu hM.Mn hf).map ival);exact⟨w',hw,M.turn i h rfl hg (mO Nf) fun g cs h2=>gP h2 (M.map i h)⟩
end
end
end Go.Proofs.YtdcofoaihmongaaGreat
namespace Go.Proofs.YtdcofoaihmongaaGreat
open Go Go.RowKit
section
variable {P:Program} {a:Act} {w:World} {o:Oper} {x y:Operand} {ty yt:TypeId} {k yk:IntKind} {m n:Int}
theorem j5(ho:o.op=.binOp .shl ty x y yt)(hx:a.eval x=.int k m)(hy:a.eval y=.int yk n)(h0:0≤n)(h1:n≤k.bits):(execOp a.eval o).run P w=.ok (.value (.int k (k.wrap (m*2^n.toNat)))) w:=by
 unfold execOp;simp[ho,hx,hy,eqGuard,binOp,shift_shl k yk m n h0 h1]
theorem Pg(ho:o.op=.binOp .shr ty x y yt)(hx:a.eval x=.int k m)(hy:a.eval y=.int yk n)(h0:0≤n)(h1:n≤k.bits):(execOp a.eval o).run P w=.ok (.value (.int k (m/2^n.toNat))) w:=by
 unfold execOp;simp[ho,hx,hy,eqGuard,binOp,shift_shr k yk m n h0 h1]
theorem Ph(ho:o.op=.binOp .quo ty x y yt)(hx:a.eval x=.int k m)(hy:a.eval y=.int k n)(h0:n≠0):(execOp a.eval o).run P w=.ok (.value (.int k (k.wrap (m.tdiv n)))) w:=by
 unfold execOp;simp[ho,hx,hy,eqGuard,binOp,Op.intDiv,h0]
theorem Pm(ho:o.op=.unOp .xor ty x)(hx:a.eval x=.int .u64 m):(execOp a.eval o).run P w=.ok (.value (.int .u64 (bits .xor .u64 18446744073709551615 m))) w:=by
 unfold execOp;simp[ho,hx];rfl
theorem ach{t u:TypeId}(ho:o.op=.call { callee:=.builtin .min,args:=#[x,y],argTypes:=#[t,u] })(hx:a.eval x=.int k m)(hy:a.eval y=.int yk n):(execOp a.eval o).run P w=.ok (.value (.int k (if n<m then n else m))) w:=by
 unfold execOp;simp[ho,hx,hy,resolve,invoke,builtin,Builtin.min_,Builtin.min2,List.foldlM]
theorem B6{t u:TypeId}(ho:o.op=.call { callee:=.builtin .max,args:=#[x,y],argTypes:=#[t,u] })(hx:a.eval x=.int k m)(hy:a.eval y=.int yk n):(execOp a.eval o).run P w=.ok (.value (.int k (if m<n then n else m))) w:=by
 unfold execOp;simp[ho,hx,hy,resolve,invoke,builtin,Builtin.max_,Builtin.max2,List.foldlM]
theorem FV{f:FuncId}{x:Operand}{xs:Array Operand}{ts:Array TypeId}{fn:Func}{c:Code}{first cap args:Array Value}(ho:o.op=.call { callee:=.value x,args:=xs,argTypes:=ts })(hx:a.eval x=.func (.func f) first cap)(hf:P.funcs[f]?=some fn) (hn:(fn.name == "runtime.NumGoroutine")=false) (hb:fn.body=some c)
 (ha:first++xs.map a.eval++cap=args):(execOp a.eval o).run P w=.ok (.enter f args) w:=by
 have h0:fn.body.isNone=false:=by rw[hb];rfl
 unfold execOp;simp only[ho,resolve,hx,Deferred.ofValue,invoke,callFunc,atz,Sem.run_pure,Result.andThen_ok,run_program,hf,hn,h0];rw[← ha];simp
theorem JU{t e:TypeId}{i:TypeInfo}{z:Value}{c:Nat}{cs:Array Value}(ho:o.op=.makeSlice t x y)(hx:a.eval x=.int k (c:Int))(hy:a.eval y=.int yk (c:Int))(ht:P.underlying t=some (.slice e))(hi:P.info? e=some i)(hz:i.zero=some z)
 (hcs:madeCells z.cells (c*i.size)=cs) (hb:i.bytes*c≤281474976710656) (h63:c≤maxLen) :
 (execOp a.eval o).run P w=.ok (.value (.slice (some ⟨w.heap.size,0,none⟩) c c)) (w.alloc (.cells cs e)):=by
 have hb':(i.bytes:Int)*(c:Int)≤281474976710656:=by
  have h:((i.bytes*c:Nat):Int)≤281474976710656:=by omega
  rwa [Int.natCast_mul] at h
 have h63':(c:Int)≤9223372036854775807:=by
  have h:=h63;simp[maxLen] at h;omega
 have hr:=run_make (P:=P) w t e i z ht hi hz k yk (c:Int) (c:Int) (by omega) (Int.le_refl _) hb' h63';simp only[Int.toNat_natCast] at hr;unfold execOp;simp[ho,hx,hy,hr,hcs]
theorem Ue(z:Value):madeCells #[z] (1*1)=#[z]:=by
 unfold madeCells;refine Array.ext (by simp) fun i h1 h2=>?_
 have hi:i=0:=by simp at h2;omega
 subst hi;simp
theorem zU{t e:TypeId}{z:Value}{b:Nat}(ho:o.op=.makeSlice t x y)(hx:a.eval x=.int k 1)(hy:a.eval y=.int yk 1)(ht:P.underlying t=some (.slice e))(hi:iP (P.info? e) 1 b=true)(hz:(P.info? e).bind (·.zero)=some z)(h1:z.cells=#[z])(hb:b≤281474976710656):
 (execOp a.eval o).run P w=.ok (.value (.slice (some ⟨w.heap.size,0,none⟩) 1 1)) (w.alloc (.cells #[z] e)):=by
 obtain⟨i,z',hi',hz0,hz1,hz2,hzs⟩:=ng hi;rw[hi'] at hz;simp only[Option.bind_some] at hz;have h2:=JU (P:=P) (w:=w) (c:=1) (z:=z) (cs:=#[z]) ho hx hy ht hi' hz (by rw[hz1,h1];exact Ue z) (by rw[hz2];omega) (by simp[maxLen]);exact h2
end
section
variable {P:Program} {ops:Array Oper} {Q:Exit→Act→World→Prop} {rest:List Oper} {a:Act} {w:World} {o:Oper}
theorem kmu(hg:o.guard=none)(hd:o.dst=none){m x v:Operand}{t:TypeId}(hop:o.op=.mapUpdate t m x v){mv key val:Value}(hm:a.eval m=mv)(hx:a.eval x=key)(hv:a.eval v=val)
 {Post:World→Prop} (hrun:∃ w',(Instr.mapUpdate t mv key val).run P w=.ok () w'∧Post w') (next:∀ w',Post w'→wpList P ops Q rest a w'):wpList P ops Q (o::rest) a w:=
 Lm w hg m x v t hop mv key val hm hx hv Post hrun fun w' h=>by
  have:a.put o.dst undef=a:=by rw[hd];rfl
  rw[this];exact next w' h
end
def G6(wb:World):Good:=fun v u=>∃ b,v=.map (some b)∧aX u Tryz.prog 3 b []∧wb.heap.size≤b
theorem QO(wb:World):eN (G6 wb):=fun _ _ _ ⟨b,e,h,k⟩ hb=>⟨b,e,h.kept (hb.block _ h.lt),k⟩
theorem dmk{ops:Array Oper}{Q':Exit→Act→World→Prop}{a:Act}{w wb:World}{o:Oper}{d N:Nat}{t k e:TypeId}(hw:Region.wanted o (yielded ops a.tmps)=true)(ho:o.op=.makeMap t none)(_:Tryz.prog.underlying t=some (.map k e))(hd:o.dst=some d)(hf:Fr a N)(hN:Nat.blt d N=true)(hi:atG wb.heap.size wb w)
 (hK:∀ v a' w',atG w.heap.size w w'→G6 wb v w'→Put a (o.dst.getD 0) v a'→Q' .normal a' w'):wpList Tryz.prog ops Q' [o] a w:=by
 have hr:(execOp a.eval o).run Tryz.prog w=.ok (.value (.map (some w.heap.size))) (w.alloc (.map #[] 0)):=by
  unfold execOp;simp[ho,Instr.makeMap]
 refine wpList_step fun K hK'=>?_
 rw[if_pos hw];unfold Oper.wp;rw[hr,Oper.upon_value];refine hK' _ _ (atN (hK _ _ _ ((Below.refl _ w).alloc (Nat.le_refl _) _) ⟨_,rfl,aX.made w _ _,hi.size⟩ ?_));rw[hd];exact qo hf (by simpa using hN)
def KA(wb:World)(cs:Array Value):Good:=fun v u=>∃ b,v=.agg (cs.push (.map (some b)))∧aX u Tryz.prog 3 b []∧wb.heap.size≤b
theorem Jc(wb:World)(cs:Array Value):eN (KA wb cs):=fun _ _ _ ⟨b,e,h,k⟩ hb=>⟨b,e,h.kept (hb.block _ h.lt),k⟩
def CN(wb:World)(t:TypeId)(cs:Array Value):Good:=fun v u=>∃ g b,v=.pointer (some ⟨g,0,none⟩)∧Whole u g t (cs.push (.map (some b)))∧aX u Tryz.prog 3 b []∧wb.heap.size≤g∧wb.heap.size≤b
theorem yx(wb:World)(t:TypeId)(cs:Array Value):eN (CN wb t cs):=fun _ _ _ ⟨g,b,e,hw,h,k⟩ hb=>⟨g,b,e,Whole.under hb hw hw.lt,h.kept (hb.block _ h.lt),k⟩
theorem kmk{P:Program}{ops:Array Oper}{Q:Exit→Act→World→Prop}{rest:List Oper}{a:Act}{B:Nat}{w w0:World}{o:Oper}{d N:Nat}{l:Slots}{bs:List Bx}{rs:List Rw}{t:TypeId}(hw:Region.wanted o (yielded ops a.tmps)=true)(ho:o.op=.makeMap t none)(hd:o.dst=some d)(F:Fs a N l)(hN:Nat.blt d N=true)(M:aY B w0 w bs rs)
 (next:∀ mb a' w',Fs a' N ((d,.map (some mb))::l)→aY B w0 w' ((mb,9003,eE [])::bs) rs→wpList P ops Q rest a' w'):wpList P ops Q (o::rest) a w:=by
 have hr:(execOp a.eval o).run P w=.ok (.value (.map (some w.heap.size))) (w.alloc (.map #[] 0)):=by
  unfold execOp;simp[ho,Instr.makeMap]
 refine wpList_step fun K hK'=>?_
 rw[if_pos hw];unfold Oper.wp;rw[hr,Oper.upon_value,hd];exact hK' _ _ (next w.heap.size _ _ (F.put (qo F.fr (by simpa using hN))) (M.Mp ((Below.refl _ w).alloc (Nat.le_refl _) _) (b:=(w.heap.size,9003,eE [])) (mO (aX.made w _ _)) (Nat.le_refl _)))
section
variable {ops:Array Oper} {Q:Exit→Act→World→Prop} {rest:List Oper} {a:Act} {B:Nat} {w w0:World} {o:Oper} {d N:Nat} {l:Slots} {bs:List Bx} {rs:List Rw} {mb:Nat} {L:List (Int×Value)}
theorem FT{t e:TypeId}{m x:Operand}{z:Value}{k:Int}(ht:Tryz.prog.underlying t=some (.map 3 e))(hz:(zeroValue e).run Tryz.prog w=.ok z w)(M:aY B w0 w bs rs)(i:Nat)(h:bs[i]?=some (mb,9003,eE L))(ho:o.op=.lookup t m x true)(hm:a.eval m=.map (some mb))(hx:a.eval x=.int .i64 k)(hk:iR k):
 (execOp a.eval o).run Tryz.prog w=.ok (.value (.tuple #[(jI L k).getD z,.bool (jI L k).isSome])) w:=by
 have hl:=M.look ht hz i h hk true;unfold execOp;simp[ho,hm,hx,hl]
theorem Yx{t e:TypeId}{m x:Operand}{z:Value}{k:Int}(ht:Tryz.prog.underlying t=some (.map 3 e))(hz:(zeroValue e).run Tryz.prog w=.ok z w)(M:aY B w0 w bs rs)(i:Nat)(h:bs[i]?=some (mb,9003,eE L))(ho:o.op=.lookup t m x false)(hm:a.eval m=.map (some mb))(hx:a.eval x=.int .i64 k)(hk:iR k):
 (execOp a.eval o).run Tryz.prog w=.ok (.value ((jI L k).getD z)) w:=by
 have hl:=M.look ht hz i h hk false;unfold execOp;simp[ho,hm,hx,hl]
theorem uR{t e:TypeId}{m x:Operand}{z:Value}{k:Int}(ht:Tryz.prog.underlying t=some (.map 3 e))(hz:(zeroValue e).run Tryz.prog w=.ok z w)(hM:aX w Tryz.prog 3 mb (L.map ival))(ho:o.op=.lookup t m x true)(hm:a.eval m=.map (some mb))(hx:a.eval x=.int .i64 k)(hk:iR k):
 (execOp a.eval o).run Tryz.prog w=.ok (.value (.tuple #[(jI L k).getD z,.bool (jI L k).isSome])) w:=by
 have hl:=aX.Uw ht hz hM hk true;unfold execOp;simp[ho,hm,hx,hl]
theorem kmp(hg:o.guard=none)(hd:o.dst=none){t e:TypeId}{m x y:Operand}{v:Value}{k:Int}(ho:o.op=.mapUpdate t m x y)(ht:Tryz.prog.underlying t=some (.map 3 e))(hm:a.eval m=.map (some mb))(hx:a.eval x=.int .i64 k)(hy:a.eval y=v)(hk:iR k)(M:aY B w0 w bs rs)(i:Nat)(h:bs[i]?=some (mb,9003,eE L))
 (next:∀ w',aY B w0 w' (bs.set i (mb,9003,eE ((k,v)::gX L k))) rs→wpList Tryz.prog ops Q rest a w'):wpList Tryz.prog ops Q (o::rest) a w:=
 kmu hg hd ho hm hx hy (M.adT ht i h hk v) next
end
def tJK(p:Pa)(t c b:Bool)(f:Bool→Prop):Prop:=match p with
 | []=>(match b with|true=>f c|false=>f (!c))
 | _::_=>(match b with|true=>f (t&&c)|false=>f (t&&!c))
theorem aaw{p:Pa}{t c b:Bool}{f:Bool→Prop}(h:tJK p t c b f):f (tJ p t c b):=by
 cases p<;>cases b<;>exact h
def gK(m:List gi)(g:Option (Nat×Bool))(f:Pa→Bool→Prop):Prop:=match g with
 | none=>f [] true
 | some (j,b)=>lkJ j (fun p t v=>match v with|.bool c=>tJK p t c b (f ((j,b)::p))|_=>False) m
def dK(N:Nat)(m:List gi)(dst:Option Nat)(f:Nat→Prop):Prop:=match dst with
 | some d=>bif Nat.blt d N then bif jw d m then f d else False else False
 | none=>False
def Sp(π:Pa)(p:Prop):Prop:=match π with
 | []=>p
 | _::_=>False
def bg(v:Value):List Value:=match v with
 | .agg cs=>cs.toList
 | v=>[v]
theorem kY(v:Value):v.cells.toList=bg v:=by cases v<;>rfl
def RL(v:Value)(f:Array Value→Prop):Prop:=match v with
 | .agg cs=>f cs
 | .bool b=>f #[.bool b]
 | .int k n=>f #[.int k n]
 | .string s=>f #[.string s]
 | .pointer a=>f #[.pointer a]
 | .slice a n c=>f #[.slice a n c]
 | .map r=>f #[.map r]
 | .func a b c=>f #[.func a b c]
 | .nilFunc=>f #[.nilFunc]
 | .iface t v=>f #[.iface t v]
 | .nilIface=>f #[.nilIface]
 | _=>False
theorem u7{v:Value}{f:Array Value→Prop}(h:RL v f):f v.cells:=by
 cases v<;>first|exact h|exact h.elim
def ldK(π:Pa)(t:Bool)(bs:List Bx)(w:World)(D:TD)(g off:Nat)(k:Value→Prop):Prop:=
 bif D.one' then
  (∃ i,sZ bs i fun b=>match b with|(b,T,cs)=>bif Nat.blt T 9000 then ob π t (b=g) (sZ cs.toList off k) else False)∨(∃ v,ob π t (w.cell? ⟨g,off,none⟩=some v) (k v))
 else
  (∃ i,sZ bs i fun b=>match b with|(b,T,cs)=>bif Nat.blt T 9000 then ob π t (b=g) (JZ off cs.toList fun r=>Im (iW D) r fun l=>k (.agg l.toArray)) else False) ∨
   (∃ cs:List Value,ob π t (∀ j u,cs[j]?=some u→w.cell? ⟨g,off+j,none⟩=some u) (qx cs (iW D) (k (.agg cs.toArray))))
def stK(B:Nat)(w0:World)(bs:List Bx)(D:TD)(g off:Nat)(v:Value)(k:List Bx→Prop):Prop:=
 ∃ i,sZ bs i fun b=>match b with|(b,T,cs)=>bif Nat.blt T 9000 then bif Nat.beq T 52 then
  ((b=g∧(bg v).all (·.oneCell')=true)∧w0.heap.size≤B)∧qx (bg v) (iW D) (Ix cs.toList off (bg v) fun cs'=>AF bs i (b,T,cs'.toArray) k)
  else (b=g∧(bg v).all (·.oneCell')=true)∧qx (bg v) (iW D) (Ix cs.toList off (bg v) fun cs'=>AF bs i (b,T,cs'.toArray) k) else False
def stR(B:Nat)(w0:World)(rs:List Rw)(D:TD)(g off:Nat)(v:Value)(k:List Rw→Prop):Prop:=
 ∃ i j e n cap xs,(rs[i]?=some ⟨.slice (some ⟨g,0,none⟩) n cap,e,iW D,n,xs⟩∧off=j*iW D∧j<n)∧(bg v).all (·.oneCell')=true∧(Nat.beq e 52=false∨w0.heap.size≤B) ∧
  qx (bg v) (iW D) (AF rs i ⟨.slice (some ⟨g,0,none⟩) n cap,e,iW D,n,xs.take off++bg v++xs.drop (off+iW D)⟩ k)
def apO(B:Nat)(w0:World)(bs:List Bx)(rs:List Rw)(w:World)(u v:Value)(e kk Pt:Nat)(k:Value→List Bx→List Rw→World→Prop):Prop:=
 ∃ RO Qo i nn xs mm news,(aY B w0 w bs rs→aY B w0 w RO Qo)∧Qo[i]?=some ⟨v,e,kk,nn,xs⟩∧SliceAt w u kk mm news∧(nn+mm≤maxLen∧(nn+mm)*Pt≤140737488355328)∧(Nat.beq e 52=false∨w0.heap.size≤B) ∧
  ∀ v' w',AF Qo i ⟨v',e,kk,nn+mm,xs++news⟩ fun rs'=>aY B w0 w' RO rs'→k v' RO rs' w'
def sV:Nat→List (Nat×Operand)→Bool
 | _,[]=>true
 | i,(j,_)::r=>bif Nat.beq i j then sV (i+1) r else false
def YD(kk:Nat):List Value→(List Value→Prop)→Prop
 | [],f=>f []
 | v::r,f=>RL v fun cs=>qx cs.toList kk (YD kk r fun l=>rU cs.toList l f)
section
variable (B:Nat) (w0:World) (N:Nat) (l:Slots) (o:Oper) (n:Nat) (m:List gi) (bs:List Bx) (rs:List Rw) (w:World) (k:List gi→List Bx→List Rw→World→Prop)
def FB:Prop:=OE l m [] (iz o.op) fun vs=>match o.dst with
 | some d=>bif Nat.blt d N then bif jw d m then
  ∃ R:Value→World→Prop,(∀ (a:Act) (o':Oper),o'.op=o.op→o'.type=o.type→vJ a (iz o.op) vs→∃ v w',(execOp a.eval o').run Tryz.prog w=.ok (.value v) w'∧R v w') ∧
   ∀ v w',R v w'→∃ bs' rs',aY B w0 w' bs' rs'∧k (⟨d,n,[],true,v⟩::m) bs' rs' w'
  else False else False
 | none=>∃ R:World→Prop,(∀ (a:Act) (o':Oper),o'.op=o.op→o'.type=o.type→vJ a (iz o.op) vs→∃ w',(execOp a.eval o').run Tryz.prog w=.ok .skip w'∧R w') ∧
  ∀ w',R w'→∃ bs' rs',aY B w0 w' bs' rs'∧k m bs' rs' w'
def cK(π:Pa)(t:Bool)(f:FuncId)(vs:List Value):Prop:=bif jl f Sx then False else bif Nat.blt f NF then dK N m o.dst fun d=>(∃ v,ob π t (Calls Tryz.prog f vs.toArray w fun e w'=>e=.returned v∧atG w.heap.size w w') (∀ w',aY B w0 w' bs rs→k (⟨d,n,π,t,v⟩::m) bs rs w')) ∨
 (match π with
 | []=>∃ R:Value→World→Prop,(Calls Tryz.prog f vs.toArray w fun e w'=>∃ v,e=.returned v∧R v w')∧∀ v w',R v w'→∃ bs' rs',aY B w0 w' bs' rs'∧k (⟨d,n,[],true,v⟩::m) bs' rs' w'
 | π=>∃ R:Value→World→Prop,(t=true→Calls Tryz.prog f vs.toArray w fun e w'=>∃ v,e=.returned v∧R v w')∧(t=false→∃ v,R v w)∧∀ v w',R v w'→∃ bs' rs',aY B w0 w' bs' rs'∧k (⟨d,n,π,t,v⟩::m) bs' rs' w')
 else False
def apK(π:Pa)(c:Call):Prop:=Sp π (match c.args.toList with
 | [s,x]=>(match c.argTypes.toList with
  | [ty,ty']=>bif Nat.beq ty ty' then dK N m o.dst fun d=>qm l m π s fun v=>qm l m π x fun u=>C5 ty (fun D=>match D with
   | .sl e kk Pt=>bif Nat.blt 0 kk then apO B w0 bs rs w u v e kk Pt (fun v'=>k (⟨d,n,[],true,v'⟩::m)) else False
   | _=>False) TT else False
  | _=>False)
 | _=>False)
def Ov:Prop:=gK m o.guard fun π t=>match o.op with
 | .load ty x=>dK N m o.dst fun d=>qm l m π x fun u=>E6 u (zT π t fun v=>k (⟨d,n,π,t,v⟩::m) bs rs w) fun g off=>C5 ty (fun D=>ldK π t bs w D g off fun v=>k (⟨d,n,π,t,v⟩::m) bs rs w) TT
 | .store ty x y=>Sp π (match o.dst with
  | none=>(qm l m π x fun u=>qm l m π y fun v=>E6 u False fun g off=>C5 ty (fun D=>stK B w0 bs D g off v fun bs'=>∀ w',aY B w0 w' bs' rs→k m bs' rs w') TT) ∨
   (qm l m π x fun u=>qm l m π y fun v=>E6 u False fun g off=>C5 ty (fun D=>stR B w0 rs D g off v fun rs'=>∀ w',aY B w0 w' bs rs'→k m bs rs' w') TT)∨FB B w0 N l o n m w k
  | some _=>False)
 | .alloc ty=>Sp π (dK N m o.dst fun d=>∃ z,(Tryz.prog.info? ty).bind (·.zero)=some z∧bif Nat.blt ty 9000 then RL z fun cs=>∀ g w',aY B w0 w' ((g,ty,cs)::bs) rs→k (⟨d,n,[],true,.pointer (some ⟨g,0,none⟩)⟩::m) ((g,ty,cs)::bs) rs w' else False)
 | .box ty x=>Sp π (dK N m o.dst fun d=>qm l m π x fun u=>bif Nat.blt ty 9000 then RL u fun cs=>∀ g w',aY B w0 w' ((g,ty,cs)::bs) rs→k (⟨d,n,[],true,.pointer (some ⟨g,0,none⟩)⟩::m) ((g,ty,cs)::bs) rs w' else False)
 | .buildSlice ty len parts=>Sp π (dK N m o.dst fun d=>C5 ty (fun D=>match D with
  | .sl e kk _=>bif sV 0 parts.toList then qx parts.toList len (bif Nat.blt 0 (len*kk) then bif Nat.ble (len*kk) 16777216 then bif Nat.blt e 9000 then OE l m π (parts.toList.map (·.2)) fun vs=>YD kk vs fun cs=>∀ g w',aY B w0 w' ((g,e,cs.toArray)::bs) rs→k (⟨d,n,[],true,.slice (some ⟨g,0,none⟩) len len⟩::m) ((g,e,cs.toArray)::bs) rs w'
   else False else False else bif Nat.beq len 0 then bif Nat.blt e 9000 then ∀ g w',aY B w0 w' ((g,e,#[])::bs) rs→k (⟨d,n,[],true,.slice (some ⟨g,0,none⟩) 0 0⟩::m) ((g,e,#[])::bs) rs w' else False else False) else False
  | _=>False) TT)
 | .call c=>(match c.callee with
  | .value (.func f)=>OE l m π c.args.toList fun vs=>cK B w0 N o n m bs rs w k π t f vs
  | .value y=>qm l m π y fun u=>(match u with
   | .func (.func f) first cap=>OE l m π c.args.toList fun vs=>rU first.toList vs fun xs=>rU xs cap.toList fun ys=>cK B w0 N o n m bs rs w k π t f ys
   | _=>False)
  | .builtin .append=>apK B w0 N l o n m bs rs w k π c
  | .builtin .len=>dK N m o.dst fun d=>pop l m π t (fun v=>k (⟨d,n,π,t,v⟩::m) bs rs w) (.call c)
  | _=>Sp π (FB B w0 N l o n m w k))
 | .insert _ _ _ _|.makeMap _ _|.makeChan _ _|.makeSlice _ _ _|.mapUpdate _ _ _ _|.mapEntry _ _ _|.entryStore _ _ _ _|.range _ _|.next _ _|.entry _|.typeAssert _ _ _ _|.panic _|.lookup _ _ _ _|.slice _ _ _ _ _=>Sp π (FB B w0 N l o n m w k)
 | op=>dK N m o.dst fun d=>pop l m π t (fun v=>k (⟨d,n,π,t,v⟩::m) bs rs w) op
end
def isN(o:Option Value):Bool:=match o with
 | none=>true
 | some _=>false
def oM:List gi→Slots→(Slots→Prop)→Prop
 | [],l,f=>f l
 | ⟨s,_,p,t,v⟩::r,l,f=>match p with
  | []=>oM r l fun l'=>f ((s,v)::l')
  | _::_=>bif isN (look s l) then oM r l f else oM r l fun l'=>f ((s,gd t v)::l')
theorem mR:∀ {m:List gi} {l:Slots} {f:Slots→Prop},oM m l f→∃ l',f l'∧∀ q v,look q l'=some v→(∃ e∈m,e.s=q∧((e.p=[]∧v=e.v)∨v=gd e.t e.v))∨(look q l=some v∧∀ e∈m,e.s≠q)
 | [],l,_,h=>⟨l,h,fun _ _ h=>.inr ⟨h,by simp⟩⟩
 | ⟨s,j,p,t,v⟩::r,l,f,h=>by
  have key:∀ (v':Value),((p=[]∧v'=v)∨v'=gd t v)→(∃ l',f ((s,v')::l')∧∀ q v,look q l'=some v→(∃ e∈r,e.s=q∧((e.p=[]∧v=e.v)∨v=gd e.t e.v))∨(look q l=some v∧∀ e∈r,e.s≠q)) →
   ∃ l',f l'∧∀ q u,look q l'=some u→(∃ e∈(⟨s,j,p,t,v⟩:gi)::r,e.s=q∧((e.p=[]∧u=e.v)∨u=gd e.t e.v))∨(look q l=some u∧∀ e∈(⟨s,j,p,t,v⟩:gi)::r,e.s≠q):=by
   rintro v' hv ⟨l',h1,h2⟩;refine⟨_,h1,fun q u hq=>?_⟩;rw[bI] at hq
   cases e:q == s with
   | true=>
    rw[e] at hq;have e1:v'=u:=atD hq;subst e1;exact .inl ⟨_,atE ..,(by simpa using e:q=s).symm,hv⟩
   | false=>
    rw[e] at hq;rcases h2 q u hq with⟨e',h3,h4⟩|⟨h3,h4⟩
    ·exact .inl ⟨e',atC _ h3,h4⟩
    ·refine .inr ⟨h3,fun e' he'=>?_⟩;rcases atB.1 he' with rfl|he'
     ·exact fun h=>(by simpa using e:q≠s) h.symm
     ·exact h4 e' he'
  cases p with
  | nil=>exact key v (.inl ⟨rfl,rfl⟩) (mR (f:=fun l'=>f ((s,v)::l')) h)
  | cons x p=>
   have h:bif isN (look s l) then oM r l f else oM r l fun l'=>f ((s,gd t v)::l'):=h
   cases hn:isN (look s l) with
   | false=>
    rw[hn] at h;exact key _ (.inr rfl) (mR (f:=fun l'=>f ((s,gd t v)::l')) h)
   | true=>
    rw[hn] at h
    have hnone:look s l=none:=by
     cases hl:look s l with
     | none=>rfl
     | some u=>rw[hl] at hn;cases hn
    obtain⟨l',h1,h2⟩:=mR h;refine⟨l',h1,fun q u hq=>?_⟩;rcases h2 q u hq with⟨e',h3,h4⟩|⟨h3,h4⟩
    ·exact .inl ⟨e',atC _ h3,h4⟩
    ·refine .inr ⟨h3,fun e' he'=>?_⟩;rcases atB.1 he' with rfl|he'
     ·intro hs;have hs:s=q:=hs;rw[← hs,hnone] at h3;cases h3
     ·exact h4 e' he'
def vc(B:Nat)(w0:World)(N:Nat)(l:Slots):List Oper→Nat→List gi→List Bx→List Rw→World→(Slots→List Bx→List Rw→World→Prop)→Prop
 | [],_,m,bs,rs,w,K=>oM m l fun l'=>K l' bs rs w
 | o::r,n,m,bs,rs,w,K=>Ov B w0 N l o n m bs rs w fun m' bs' rs' w'=>vc B w0 N l r (n+1) m' bs' rs' w' K
structure Inv (ops:Array Oper) (a:Act) (N:Nat) (l:Slots) (m:List gi) (n:Nat):Prop where
 fr:Fr a N
 L:jk m n
 dst:∀ e∈m,(ops[e.j]?).bind (·.dst)=some e.s
 at_:∀ e∈m,At a e.s (gd e.t e.v)
 base:∀ q v,(∀ e∈m,e.s≠q)→look q l=some v→At a q v
section
variable {ops:Array Oper} {a a':Act} {N:Nat} {l:Slots} {m:List gi} {n:Nat} {o:Oper}
theorem Inv.start(F:Fs a N l):Inv ops a N l [] 0:=⟨F.fr,.nil 0,by simp,by simp,fun q v _ h=>F.at_ q v h⟩
theorem Inv.E(I:Inv ops a N l m n){x:Operand}{π:Pa}{v:Value}(h:Et l m π x v)(hc:∀ y∈π,Cond m y):a.eval x=v:=by
 cases x with
 | tmp q=>
  rcases h with⟨e,he,rfl,rfl,hs⟩|⟨h1,h2⟩
  ·have ht:e.t=true:=(I.L.tv e he).2 fun y hy=>hc y (zy hs y hy)
   exact((I.at_ e he).on ht).ev
  ·exact(I.base q v h1 h2).ev
 | const u=>exact h
 | global=>exact h.elim
 | func f=>exact h
theorem Inv.put(I:Inv ops a N l m n)(ho:ops[n]?=some o){d:Nat}(hd:o.dst=some d)(hfr:jw d m=true){π:Pa}(hp:∀ x∈π,∃ e∈m,e.j=x.1){t:Bool}(ht:t=true↔∀ x∈π,Cond m x){v:Value}(p:Put a d (gd t v) a'):Inv ops a' N l (⟨d,n,π,t,v⟩::m) (n+1):=by
 have hne:=Rj hfr;refine⟨p.fr I.fr,I.L.put hp ht,?_,?_,?_⟩
 ·intro e he;rcases atB.1 he with rfl|he
  ·simp[ho,hd]
  ·exact I.dst e he
 ·intro e he;rcases atB.1 he with rfl|he
  ·exact p.now
  ·exact p.old (by simpa using hne e he) (I.at_ e he)
 ·intro q u hq hl;exact p.old (by have:=hq _ (atE ..);simp only at this;simpa using fun e=>this e.symm) (I.base q u (fun e he=>hq e (atC _ he)) hl)
theorem Inv.next(I:Inv ops a N l m n):Inv ops a N l m (n+1):=⟨I.fr,I.L.mono (Nat.le_succ n),I.dst,I.at_,I.base⟩
theorem Inv.fsK(I:Inv ops a N l m n){f:Slots→Prop}(h:oM m l f):∃ l',f l'∧Fs a N l':=by
 obtain⟨l',h1,h2⟩:=mR h;refine⟨l',h1,I.fr,fun q v hq=>?_⟩;rcases h2 q v hq with⟨e,he,rfl,h3⟩|⟨h3,h4⟩
 ·rcases h3 with⟨hp,rfl⟩|rfl
  ·exact(I.at_ e he).on ((I.L.tv e he).2 (by rw[hp];simp))
  ·exact I.at_ e he
 ·exact I.base q v h4 h3
theorem O6(hL:jk m n){g:Option (Nat×Bool)}{f:Pa→Bool→Prop}(h:gK m g f):∃ π t,f π t∧(∀ x∈π,∃ e∈m,e.j=x.1)∧(t=true↔∀ x∈π,Cond m x)∧(π=[]→t=true) ∧
 ((g=none∧t=true)∨∃ e∈m,∃ b c,g=some (e.j,b)∧e.v=.bool c∧(t=true↔e.t=true∧c=b)):=by
 unfold gK at h;split at h
 ·exact⟨_,_,h,by simp,by simp,fun _=>rfl,.inl ⟨rfl,rfl⟩⟩
 ·rename_i j b;obtain⟨e,he,rfl,h⟩:=aaY h;split at h
  ·rename_i c hv;have h:=aaw h;obtain⟨h1,h2,h3⟩:=hL.guard he hv (b:=b);exact⟨_,_,h,h1,h2,fun h=>(by cases h),.inr ⟨e,he,b,c,rfl,hv,h3⟩⟩
  ·exact h.elim
theorem q5{t:Bool}(hg:(o.guard=none∧t=true)∨∃ e∈m,∃ b c,o.guard=some (e.j,b)∧e.v=.bool c∧(t=true↔e.t=true∧c=b))
 (hd:∀ e∈m,(∃ b,o.guard=some (e.j,b))→(ops[e.j]?).bind (·.dst)=some e.s∧At a e.s (gd e.t e.v)):Region.wanted o (yielded ops a.tmps)=t:=by
 rcases hg with⟨h1,rfl⟩|⟨e,he,b,c,hg,hv,h3⟩
 ·exact jU h1
 ·obtain⟨hds,hat⟩:=hd e he ⟨b,hg⟩;rw[hv] at hat
  cases t with
  | true=>
   obtain⟨h4,rfl⟩:=h3.1 rfl;exact IW hg hds (hat.on h4)
  | false=>
   cases h4:e.t with
   | false=>
    rw[h4] at hat
    exact QB hg hds hat
   | true=>
    have hne:¬ c=b:=fun e2=>by
     have:=h3.2 ⟨h4,e2⟩;cases this
    exact DT hg hds (hat.on h4) (by cases c<;>cases b<;>simp_all)
theorem afb(I:Inv ops a N l m n){f:Pa→Bool→Prop}(h:gK m o.guard f):∃ π t,f π t∧(∀ x∈π,∃ e∈m,e.j=x.1)∧(t=true↔∀ x∈π,Cond m x)∧Region.wanted o (yielded ops a.tmps)=t∧(π=[]→t=true):=by
 obtain⟨π,t,h1,h2,h3,h4,h5⟩:=O6 I.L h;exact⟨π,t,h1,h2,h3,q5 h5 fun e he _=>⟨I.dst e he,I.at_ e he⟩,h4⟩
theorem iC{dst:Option Nat}{f:Nat→Prop}(h:dK N m dst f):∃ d,dst=some d∧Nat.blt d N=true∧jw d m=true∧f d:=by
 unfold dK at h;split at h
 ·rename_i d
  cases h1:Nat.blt d N with
  | false=>rw[h1] at h;exact h.elim
  | true=>
   rw[h1] at h
   cases h2:jw d m with
   | false=>rw[h2] at h;exact h.elim
   | true=>rw[h2] at h;exact⟨d,rfl,h1,h2,h⟩
 ·exact h.elim
theorem mZ{π:Pa}{p:Prop}(h:Sp π p):π=[]∧p:=by
 unfold Sp at h;split at h
 ·exact⟨rfl,h⟩
 ·exact h.elim
theorem bJ{b:Bool}{p:Prop}(h:bif b then p else False):b=true∧p:=by
 cases b with
 | true=>exact⟨rfl,h⟩
 | false=>exact h.elim
end
section
variable {ops:Array Oper} {a:Act} {N:Nat} {l:Slots} {m:List gi} {n:Nat} {o:Oper} {B:Nat} {w0 w:World} {bs:List Bx} {rs:List Rw} {k:List gi→List Bx→List Rw→World→Prop} {rest:List Oper} {Q:Exit→Act→World→Prop} {π:Pa} {t:Bool} {d:Nat} {v:Value}
theorem agG(hw:Region.wanted o (yielded ops a.tmps)=t)(hr:t=true→(execOp a.eval o).run Tryz.prog w=.ok (.value v) w)(hd:o.dst=some d)(hf:Fr a N)(hN:Nat.blt d N=true)(next:∀ a',Put a d (gd t v) a'→wpList Tryz.prog ops Q rest a' w):wpList Tryz.prog ops Q (o::rest) a w:=by
 cases t with
 | true=>exact oA hw (hr rfl) hd hf (by simpa using hN) next
 | false=>exact Ae hw hd hf (by simpa using hN) next
theorem uP{a:Act}:∀ {xs:List Operand} {vs:List Value},vJ a xs vs→xs.map a.eval=vs
 | _,_,.nil=>rfl
 | _,_,.cons h r=>by rw[List.map_cons,uP r];exact congrArg (·::_) h
theorem jB{a:Act}{xs:Array Operand}{vs:List Value}(h:vJ a xs.toList vs):xs.map a.eval=vs.toArray:=by
 apply Array.toList_inj.1;rw[Array.toList_map];exact uP h
theorem Inv.evs(I:Inv ops a N l m n){xs:List Operand}{vs:List Value}(h:CO (Et l m π) xs vs)(hc:∀ y∈π,Cond m y):vJ a xs vs:=w_ h hc fun _ _ _ _ h hc=>I.E h hc
theorem AZ{f:FuncId}(h1:Nat.blt f NF=true)(h2:jl f Sx=false):zJ Tryz.prog f=true:=by
 have:=atO.1 afA f (by simpa using h1);rw[h2,Bool.or_false] at this;exact this
theorem IX{f:FuncId}(hf:zJ Tryz.prog f=true){x:Operand}{xs:Array Operand}{ts:Array TypeId}{first cap args:Array Value}(ho:o.op=.call { callee:=.value x,args:=xs,argTypes:=ts })(hx:a.eval x=.func (.func f) first cap)(ha:first++xs.map a.eval++cap=args):(execOp a.eval o).run Tryz.prog w=.ok (.enter f args) w:=by
 unfold zJ at hf;split at hf
 ·rename_i fn hfn;rw[atP,Bool.not_eq_true'] at hf;obtain⟨c,hc⟩:=Option.isSome_iff_exists.1 hf.2;exact FV ho hx hfn hf.1 hc ha
 ·cases hf
theorem ZY(I:Inv ops a N l m n)(M:aY B w0 w bs rs)(ho:ops[n]?=some o)(hp:∀ x∈π,∃ e∈m,e.j=x.1)(ht:t=true↔∀ x∈π,Cond m x)(hw:Region.wanted o (yielded ops a.tmps)=t)(h0:π=[]→t=true){f:FuncId}{vs:List Value}
 (h:cK B w0 N o n m bs rs w k π t f vs) (hrun:t=true→zJ Tryz.prog f=true→(execOp a.eval o).run Tryz.prog w=.ok (.enter f vs.toArray) w)
 (next:∀ a' m' bs' rs' w',Inv ops a' N l m' (n+1)→aY B w0 w' bs' rs'→k m' bs' rs' w'→wpList Tryz.prog ops Q rest a' w'):wpList Tryz.prog ops Q (o::rest) a w:=by
 unfold cK at h
 cases hm:jl f Sx with
 | true=>rw[hm] at h;exact h.elim
 | false=>
  rw[hm] at h;obtain⟨hb,h⟩:=bJ h;obtain⟨d,hd,hN,hfr,h⟩:=iC h;have hok:=AZ hb hm;rcases h with⟨v,h⟩|h
  ·obtain⟨h1,h2⟩:=gY h
   cases t with
   | true=>
    refine kI hw (hrun rfl hok) (xD (h1 rfl)) hd I.fr (by simpa using hN) fun u a' w' h3 p=>?_
    obtain⟨rfl,h3⟩:=h3;exact next a' _ _ _ _ (I.put ho hd hfr hp ht p) (M.keep h3) (h2 w' (M.keep h3))
   | false=>exact Ae hw hd I.fr (by simpa using hN) fun a' p=>next a' _ _ _ _ (I.put ho hd hfr hp ht p) M (h2 w M)
  ·split at h
   ·obtain⟨R,h1,h2⟩:=h;obtain rfl:=h0 rfl;refine kI hw (hrun rfl hok) h1 hd I.fr (by simpa using hN) fun u a' w' h3 p=>?_
    obtain⟨bs',rs',M',h4⟩:=h2 u w' h3;exact next a' _ _ _ _ (I.put (t:=true) (v:=u) ho hd hfr (by simp) (by simp) p) M' h4
   ·obtain⟨R,h1,h2,h5⟩:=h
    cases t with
    | true=>
     refine kI hw (hrun rfl hok) (h1 rfl) hd I.fr (by simpa using hN) fun u a' w' h3 p=>?_
     obtain⟨bs',rs',M',h4⟩:=h5 u w' h3;exact next a' _ _ _ _ (I.put (t:=true) (v:=u) ho hd hfr hp ht p) M' h4
    | false=>
     obtain⟨v,hv⟩:=h2 rfl;obtain⟨bs',rs',M',h4⟩:=h5 v w hv;exact Ae hw hd I.fr (by simpa using hN) fun a' p=>next a' _ _ _ _ (I.put (t:=false) (v:=v) ho hd hfr hp ht p) M' h4
theorem WI(I:Inv ops a N l m n)(ho:ops[n]?=some o)(hw:Region.wanted o (yielded ops a.tmps)=true)(h:FB B w0 N l o n m w k)
 (next:∀ a' m' bs' rs' w',Inv ops a' N l m' (n+1)→aY B w0 w' bs' rs'→k m' bs' rs' w'→wpList Tryz.prog ops Q rest a' w'):wpList Tryz.prog ops Q (o::rest) a w:=by
 obtain⟨vs,h1,h⟩:=kr h;have ou:=I.evs h1 (by simp);split at h
 ·rename_i d hd;obtain⟨hN,h⟩:=bJ h;obtain⟨hfr,R,h2,h3⟩:=bJ h;obtain⟨v,w',h4,h5⟩:=h2 a o rfl rfl ou;obtain⟨bs',rs',M',h6⟩:=h3 v w' h5;exact oA hw h4 hd I.fr (by simpa using hN) fun a' p=>next a' _ _ _ _ (I.put (t:=true) (v:=v) ho hd hfr (by simp) (by simp) p) M' h6
 ·rename_i hd;obtain⟨R,h2,h3⟩:=h;obtain⟨w',h4,h5⟩:=h2 a o rfl rfl ou;obtain⟨bs',rs',M',h6⟩:=h3 w' h5;exact W6 hw h4 hd (next a _ _ _ _ I.next M' h6)
theorem Uz{D:TD}{g off:Nat}{kk:Value→Prop}(M:aY B w0 w bs rs)(h:ldK π t bs w D g off kk){ty:TypeId}(hD:jo Tryz.prog ty D=true):∃ v,kk v∧(t=true→∀ w',atG w.heap.size w w'→∀ (a:Act) (o:Oper) (x:Operand),o.op=.load ty x→a.eval x=.pointer (some ⟨g,off,none⟩)→(execOp a.eval o).run Tryz.prog w'=.ok (.value v) w'):=by
 unfold ldK at h
 cases h1:D.one' with
 | true=>
  rw[h1] at h;obtain⟨dd,hu,hd⟩:=Tt hD h1;rcases h with⟨i,h⟩|⟨v,h⟩
  ·obtain⟨⟨b,T,cs⟩,hb,h⟩:=gN h;obtain⟨hT,h⟩:=bJ h;obtain⟨h2,h3⟩:=gY h;obtain⟨v,h4,h5⟩:=gN h3;refine⟨v,h5,fun bD w' hb' a o x ho hx=>?_⟩;obtain rfl:=h2 bD;exact bW ho hx hu (by cases dd<;>first|rfl|cases hd) (((M.keep hb').b i hb hT).cell off▸by simpa using h4)
  ·obtain⟨h2,h3⟩:=gY h;exact⟨v,h3,fun bD w' hb' a o x ho hx=>bW ho hx hu (by cases dd<;>first|rfl|cases hd) (atw hb' (h2 bD))⟩
 | false=>
  rw[h1] at h;obtain⟨dd,hu,hd,hs⟩:=zx hD h1;rcases h with⟨i,h⟩|⟨cs,h⟩
  ·obtain⟨⟨b,T,cs⟩,hb,h⟩:=gN h;obtain⟨hT,h⟩:=bJ h;obtain⟨h2,h3⟩:=gY h;obtain⟨h4,h5⟩:=JY h3;obtain⟨h6,h7⟩:=Il h5;refine⟨_,h7,fun bD w' hb' a o x ho hx=>?_⟩;obtain rfl:=h2 bD;refine gW _ ho hx hu (by cases dd<;>first|rfl|cases hd) (hs.trans ?_) (Ag ((M.keep hb').b i hb hT) ?_)
   ·rw[atQ,Nat.min_eq_left h6]
   ·rw[atQ,Nat.min_eq_left h6]
  ·obtain⟨h2,h3⟩:=gY h;obtain⟨h4,h5⟩:=iF h3;exact⟨_,h5,fun bD w' hb' a o x ho hx=>gW cs ho hx hu (by cases dd<;>first|rfl|cases hd) (hs.trans (by rw[h4])) fun j u hu=>atw hb' (h2 bD j u hu)⟩
theorem XI{w':World}{B e n cap kk off j g:Nat}{xs l:List Value}{cur:Array Value}(hg:B≤g)(hnc:n≤cap)(hcm:cap≤maxLen)(hcs:cur.size=cap*kk)(ht:cur.toList.take (n*kk)=xs)(hoff:off=j*kk)(hj:j<n)(hl:l.length=kk)
 (h':Whole w' g e (splice cur off l)):w'.ownsRow B e kk (.slice (some ⟨g,0,none⟩) n cap) n (xs.take off++l++xs.drop (off+kk)):=by
 have h1:off+kk≤n*kk:=by rw[hoff,← Nat.succ_mul];exact atS _ hj
 have h2:n*kk≤cap*kk:=atS _ hnc;have hx:xs.length=n*kk:=by rw[← ht,atQ,Array.length_toList,hcs];omega
 refine⟨by simp[hx,hl];omega,.inr ⟨g,cap,_,rfl,hg,h',hnc,hcm,by rw[yd,hcs],?_⟩⟩;rw[jG _ _ _ (by rw[hcs,hl];omega),hl,← ht];have hlen:(cur.toList.take off++l).length=off+kk:=by rw[atx,atQ,Array.length_toList,hl,hcs];omega
 rw[List.take_append,List.take_of_length_le (by rw[hlen];omega),hlen,List.take_take,Nat.min_eq_left (by omega),List.drop_take]
theorem aaA{D:TD}{g off:Nat}{kk:List Rw→Prop}(M:aY B w0 w bs rs)(h:stR B w0 rs D g off v kk){ty:TypeId}(hD:jo Tryz.prog ty D=true)(hw:Region.wanted o (yielded ops a.tmps)=true){x y:Operand}(ho:o.op=.store ty x y)(hx:a.eval x=.pointer (some ⟨g,off,none⟩))(hy:a.eval y=v)(hd:o.dst=none)
 (next:∀ rs' w',aY B w0 w' bs rs'→kk rs'→wpList Tryz.prog ops Q rest a w'):wpList Tryz.prog ops Q (o::rest) a w:=by
 obtain⟨i,j,e,n,cap,xs,⟨hi,hoff,hj⟩,h1,hW,h⟩:=h;obtain⟨h2,h3⟩:=iF h;have h4:=zB h3;obtain⟨g',cap',cur,hv,hg,hH,hn,hm,hs,ht⟩:=uF (M.r i hi) (Nat.zero_lt_of_lt hj);injection hv with e1 e2 e3;injection e1 with e1;injection e1 with e1;subst e1 e3
 have hfit:off+(bg v).length≤cur.size:=by
  have h5:off+iW D≤n*iW D:=by rw[hoff,← Nat.succ_mul];exact atS _ hj
  rw[h2,hs];exact atH h5 (atS _ hn)
 exact pQ hw ho hx hy hH (kY v) hfit ((zw hD).trans (by rw[h2])) h1 rfl hd fun w' s h'=>next _ w' (M.grow i hi (XI hg hn hm hs ht hoff hj h2 h') s.grown (.inl rfl) hW) h4
theorem aaB{D:TD}{g off:Nat}{kk:List Bx→Prop}(M:aY B w0 w bs rs)(h:stK B w0 bs D g off v kk){ty:TypeId}(hD:jo Tryz.prog ty D=true)(hw:Region.wanted o (yielded ops a.tmps)=true){x y:Operand}(ho:o.op=.store ty x y)(hx:a.eval x=.pointer (some ⟨g,off,none⟩))(hy:a.eval y=v)(hd:o.dst=none)
 (next:∀ bs' w',aY B w0 w' bs' rs→kk bs'→wpList Tryz.prog ops Q rest a w'):wpList Tryz.prog ops Q (o::rest) a w:=by
 obtain⟨i,h⟩:=h;obtain⟨⟨b,T,cs⟩,hb,h⟩:=gN h;obtain⟨hT,h⟩:=bJ h
 have key:(b=g∧(bg v).all (·.oneCell')=true)→(Nat.beq T 52=false∨w0.heap.size≤B)→qx (bg v) (iW D) (Ix cs.toList off (bg v) fun cs'=>AF bs i (b,T,cs'.toArray) kk)→wpList Tryz.prog ops Q (o::rest) a w:=by
  rintro⟨rfl,h1⟩ hW h;obtain⟨h2,h3⟩:=iF h;obtain⟨h4,h5⟩:=Xo h3;have h6:=zB h5;rw[Array.length_toList] at h4
  have hsp:splice cs off (bg v)=(cs.toList.take off++bg v++cs.toList.drop (off+(bg v).length)).toArray:=by
   apply Array.toList_inj.1;rw[jG _ _ _ h4]
  refine pQ hw ho hx hy (M.b i hb hT) (kY v) h4 ((zw hD).trans (by rw[h2])) h1 hsp hd fun w' s h'=>next _ w' (M.sto i hb s h' hT hW) h6
 cases hq:Nat.beq T 52 with
 | true=>
  rw[hq] at h;obtain⟨⟨h1,h2⟩,h3⟩:=h;exact key h1 (.inr h2) h3
 | false=>
  rw[hq] at h;exact key h.1 (.inl hq) h.2
end
theorem Ab(off:Nat):∀ (l:List Value) (j:Nat) (cs:Array Value),(l.zipIdx j).foldl (fun cs (c,j)=>cs.setIfInBounds (off+j) c) cs=splice cs (off+j) l
 | [],_,_=>rfl
 | v::r,j,cs=>by
  rw[List.zipIdx_cons,List.foldl_cons,Ab off r (j+1)];rfl
def BZ:Nat→List Value→List (Nat×Value)
 | _,[]=>[]
 | i,v::r=>(i,v)::BZ (i+1) r
theorem Ay(cs:Array Value):∀ (o:Nat) (l r:List Value),splice (splice cs o l) (o+l.length) r=splice cs o (l++r)
 | _,[],_=>rfl
 | o,v::l,r=>by
  show splice (splice (cs.setIfInBounds o v) (o+1) l) (o+(l.length+1)) r=splice (cs.setIfInBounds o v) (o+1) (l++r);rw[← Ay _ (o+1) l r];congr 1;omega
theorem JM(k:Nat):∀ (vs:List Value) (i:Nat) (cells:Array Value),(∀ v∈vs,v.cells.size=k)→(i+vs.length)*k≤cells.size →
 Instr.fill (fun i=>some (i*k,k)) cells (BZ i vs)=some (splice cells (i*k) (vs.flatMap fun v=>v.cells.toList))
 | [],_,_,_,_=>rfl
 | v::r,i,cells,h,hs=>by
  have hv:=h v (atE ..)
  have hk:i*k+k≤cells.size:=by
   refine atH ?_ hs;rw[← Nat.succ_mul];exact atS _ (by simp)
  have hst:v.cells.zipIdx.foldl (fun cs (c,j)=>cs.setIfInBounds (i*k+j) c) cells=splice cells (i*k) v.cells.toList:=by
   rw[← Array.foldl_toList,Array.toList_zipIdx];exact Ab (i*k) v.cells.toList 0 cells
  show(if v.cells.size≠k||i*k+v.cells.size>cells.size then none else Instr.fill (fun i=>some (i*k,k)) (v.cells.zipIdx.foldl (fun cs (c,j)=>cs.setIfInBounds (i*k+j) c) cells) (BZ (i+1) r))=_
  rw[hst,if_neg (by rw[hv];simp;omega),JM k r (i+1) _ (fun u hu=>h u (atC _ hu)) (by
   rw[yd];refine atH (Nat.le_of_eq ?_) hs;congr 1;simp only[List.length_cons];omega)]
  rw[List.flatMap_cons,← Ay];have:(i+1)*k=i*k+v.cells.toList.length:=by rw[Nat.succ_mul,Array.length_toList,hv]
  rw[this]
theorem GS{kk:Nat}:∀ {vs:List Value} {f:List Value→Prop},YD kk vs f→f (vs.flatMap fun v=>v.cells.toList)∧∀ v∈vs,v.cells.size=kk
 | [],_,h=>⟨h,by simp⟩
 | v::r,f,h=>by
  have h1:=u7 h;obtain⟨h2,h3⟩:=iF h1;obtain⟨h4,h5⟩:=GS h3;refine⟨by rw[List.flatMap_cons];exact iG h4,fun u hu=>?_⟩;rcases atB.1 hu with rfl|hu
  ·simpa using h2
  ·exact h5 u hu
theorem DP{a:Act}:∀ {i:Nat} {ps:List (Nat×Operand)} {vs:List Value},sV i ps=true→vJ a (ps.map (·.2)) vs→ps.map (fun(i,x)=>(i,a.eval x))=BZ i vs
 | _,[],_,_,h=>by cases h;rfl
 | i,(j,x)::r,vs,hp,h=>by
  cases h with
  | cons h1 h2=>
   unfold sV at hp
   cases hb:Nat.beq i j with
   | false=>rw[hb] at hp;cases hp
   | true=>
    rw[hb] at hp;rw[List.map_cons,DP hp h2,← atT hb];simp only[BZ,h1]
theorem Yu{a:Act}{xs:List Operand}{vs:List Value}(h:vJ a xs vs):vs.length=xs.length:=by
 rw[← uP h,atU]
section
variable {ops:Array Oper} {a:Act} {N:Nat} {l:Slots} {m:List gi} {n:Nat} {o:Oper} {B:Nat} {w0 w:World} {bs:List Bx} {rs:List Rw} {k:List gi→List Bx→List Rw→World→Prop} {rest:List Oper} {Q:Exit→Act→World→Prop}
theorem q7{ty len e kk Pt:Nat}{parts:Array (Nat×Operand)}(ho:o.op=.buildSlice ty len parts)(hD:jo Tryz.prog ty (.sl e kk Pt)=true)(hp:sV 0 parts.toList=true)(hl:parts.toList.length=len)(h0:0<len*kk)(h1:len*kk≤2^24)
 {vs:List Value} (ou:vJ a (parts.toList.map (·.2)) vs) (hc:∀ v∈vs,v.cells.size=kk) :
 (execOp a.eval o).run Tryz.prog w=.ok (.value (.slice (some ⟨w.heap.size,0,none⟩) len len)) (w.alloc (.cells (vs.flatMap fun v=>v.cells.toList).toArray e)):=by
 obtain⟨hu,hi⟩:=DF hD;obtain⟨ti,z,i1,i2,i3,i4,i5⟩:=ng hi;have hvl:vs.length=len:=by rw[Yu ou,atU,hl]
 have hcl:(vs.flatMap fun v=>v.cells.toList).length=len*kk:=by
  rw[← hvl];clear ou hvl
  induction vs with
  | nil=>simp
  | cons v r ih=>
   rw[List.flatMap_cons,atx,ih (fun u hu=>hc u (atC _ hu)),Array.length_toList,hc v (atE ..),List.length_cons,Nat.succ_mul,Nat.add_comm]
 refine oP (z:=z) (pv:=(BZ 0 vs).toArray) ho hu (Bt hi) (by rw[i1];exact i2) h1 h0 ?_ ?_
 ·apply Array.toList_inj.1;rw[Array.toList_map];exact DP hp ou
 ·have hsz:((Array.range (len*kk)).map (z.cells[·%z.cells.size]!)).size=len*kk:=by simp
  show Instr.fill _ _ (BZ 0 vs)=_;rw[JM kk vs 0 _ hc (by rw[hsz,Nat.zero_add,hvl];exact Nat.le_refl _),Nat.zero_mul,jm _ _ (by rw[hsz,hcl])]
theorem LX{ty e kk Pt:Nat}(ho:o.op=.buildSlice ty 0 #[])(hD:jo Tryz.prog ty (.sl e kk Pt)=true):
 (execOp a.eval o).run Tryz.prog w=.ok (.value (.slice (some ⟨w.heap.size,0,none⟩) 0 0)) (w.alloc (.cells #[] e)):=by
 obtain⟨hu,hi⟩:=DF hD;obtain⟨ti,z,i1,-⟩:=ng hi
 have h:(Instr.buildSlice ty 0 #[]).run Tryz.prog w=.ok (.slice (some ⟨w.heap.size,0,none⟩) 0 0) (w.alloc (.cells #[] e)):=by
  simp[Instr.buildSlice,run_underlying hu,sizeOf,typeInfo,i1,newRow,Instr.fill];exact congrArg (fun x=>w.alloc (Obj.cells x e)) (Array.eq_empty_of_size_eq_zero (by simp))
 unfold execOp;simp only[ho,atz,Array.map_empty,h,Result.andThen_ok,Sem.run_pure]
theorem zA(I:Inv ops a N l m n)(M:aY B w0 w bs rs)(ho:ops[n]?=some o)(h:Ov B w0 N l o n m bs rs w k)
 (next:∀ a' m' bs' rs' w',Inv ops a' N l m' (n+1)→aY B w0 w' bs' rs'→k m' bs' rs' w'→wpList Tryz.prog ops Q rest a' w'):wpList Tryz.prog ops Q (o::rest) a w:=by
 obtain⟨π,t,h,hp,ht,hw,h0⟩:=afb I h
 have hval:∀ {d:Nat} {v:Value},o.dst=some d→Nat.blt d N=true→jw d m=true→(t=true→(execOp a.eval o).run Tryz.prog w=.ok (.value v) w)→k (⟨d,n,π,t,v⟩::m) bs rs w→wpList Tryz.prog ops Q (o::rest) a w:=
  fun hd hN hfr hr hk=>agG hw hr hd I.fr hN fun a' p=>next a' _ _ _ _ (I.put ho hd hfr hp ht p) M hk
 have U7:∀ {op:Op} {d:Nat},o.op=op→o.dst=some d→Nat.blt d N=true→jw d m=true→pop l m π t (fun v=>k (⟨d,n,π,t,v⟩::m) bs rs w) op→wpList Tryz.prog ops Q (o::rest) a w:=fun hop hd hN hfr h=>by
  obtain⟨v,h1,h2⟩:=Mb I.L ht h;exact hval hd hN hfr (fun bD=>h2 a w o hop (fun x _ π' v h hc=>I.E h hc) bD) h1
 have hnew:∀ {d:Nat} {f:Nat→Value} {ty:TypeId} {cs:Array Value},π=[]→Nat.blt ty 9000=true→(execOp a.eval o).run Tryz.prog w=.ok (.value (f w.heap.size)) (w.alloc (.cells cs ty))→o.dst=some d→Nat.blt d N=true→jw d m=true →
  (∀ g w',aY B w0 w' ((g,ty,cs)::bs) rs→k (⟨d,n,[],true,f g⟩::m) ((g,ty,cs)::bs) rs w')→wpList Tryz.prog ops Q (o::rest) a w:=fun hπ hty hr hd hN hfr hk=>
  Af (hw.trans (h0 hπ)) hr hd I.fr (by simpa using hN) fun g a' w' nn p=>next a' _ _ _ _ (I.put (t:=true) ho hd hfr (by simp) (by simp) p) (M.new nn hty) (hk g w' (M.new nn hty))
 split at h
 ·rename_i ty x hop;obtain⟨d,hd,hN,hfr,h⟩:=iC h;obtain⟨u,h1,h⟩:=cA h;rcases oG h with⟨g,off,rfl,hq⟩|h
  case inr=>
   obtain⟨h2,h3⟩:=VD h;exact hval hd hN hfr (fun bD=>(h2 bD).elim) h3
  obtain⟨D,hD,h⟩:=jP hq;obtain⟨v,h2,h3⟩:=Uz M h hD;exact hval hd hN hfr (fun bD=>h3 bD w (Below.refl _ _) a o x hop (I.E h1 (ht.1 bD))) h2
 ·rename_i ty x y hop;obtain⟨rfl,h⟩:=mZ h;obtain rfl:=h0 rfl;split at h
  ·rename_i hd;rcases h with h|h|h
   ·obtain⟨u,h1,h⟩:=cA h;obtain⟨v,h2,h⟩:=cA h;rcases oG h with⟨g,off,rfl,hq⟩|h
    case inr=>exact h.elim
    obtain⟨D,hD,h⟩:=jP hq;exact aaB M h hD hw hop (I.E h1 (by simp)) (I.E h2 (by simp)) hd fun bs' w' M' h=>next a _ _ _ _ I.next M' (h w' M')
   ·obtain⟨u,h1,h⟩:=cA h;obtain⟨v,h2,h⟩:=cA h;rcases oG h with⟨g,off,rfl,hq⟩|h
    case inr=>exact h.elim
    obtain⟨D,hD,h⟩:=jP hq;exact aaA M h hD hw hop (I.E h1 (by simp)) (I.E h2 (by simp)) hd fun rs' w' M' h=>next a _ _ _ _ I.next M' (h w' M')
   ·exact WI I ho hw h next
  ·exact h.elim
 ·rename_i ty hop;obtain⟨hπ,h⟩:=mZ h;obtain⟨d,hd,hN,hfr,z,hz,h⟩:=iC h;obtain⟨hty,h⟩:=bJ h;exact hnew (f:=fun n=>.pointer (some ⟨n,0,none⟩)) hπ hty (uT hop hz) hd hN hfr (u7 h)
 ·rename_i ty x hop;obtain⟨hπ,h⟩:=mZ h;subst hπ;obtain⟨d,hd,hN,hfr,h⟩:=iC h;obtain⟨u,h1,h⟩:=cA h;obtain⟨hty,h⟩:=bJ h;exact hnew (f:=fun n=>.pointer (some ⟨n,0,none⟩)) rfl hty (Pn hop (I.E h1 (by simp))) hd hN hfr (u7 h)
 ·rename_i ty len parts hop;obtain⟨hπ,h⟩:=mZ h;subst hπ;obtain⟨d,hd,hN,hfr,h⟩:=iC h;obtain⟨D,hD,h⟩:=jP h;split at h
  ·obtain⟨hps,h⟩:=bJ h;obtain⟨hl,hz⟩:=iF h
   cases b0:Nat.blt 0 (len*_) with
   | false=>
    rw[b0,cond_false] at hz;obtain⟨e0,hz⟩:=bJ hz;obtain⟨b2,hy⟩:=bJ hz;obtain rfl:len=0:=atT e0;obtain rfl:parts=#[]:=by apply Array.toList_inj.1;exact List.eq_nil_of_length_eq_zero hl
    exact hnew (f:=fun n=>.slice (some ⟨n,0,none⟩) 0 0) rfl b2 (LX hop hD) hd hN hfr hy
   | true=>
    rw[b0] at hz;obtain⟨b1,hz⟩:=bJ hz;obtain⟨b2,hz⟩:=bJ hz;obtain⟨vs,h1,hz⟩:=kr hz;obtain⟨h2,h3⟩:=GS hz;exact hnew (f:=fun n=>.slice (some ⟨n,0,none⟩) len len) rfl b2 (q7 hop hD hps hl (by simpa using b0) (by simpa using b1) (I.evs h1 (by simp)) h3) hd hN hfr h2
  ·exact h.elim
 ·rename_i c hop;split at h
  ·rename_i f qC;obtain⟨vs,h1,h⟩:=kr h;refine ZY I M ho hp ht hw h0 h (fun bD hok=>?_) next
   have e3:c={ callee:=.value (.func f),args:=c.args,argTypes:=c.argTypes }:=by cases c;simp only at qC;rw[qC]
   exact rC hok (hop.trans (congrArg Op.call e3)) (jB (I.evs h1 (ht.1 bD)))
  ·rename_i y hy qC;obtain⟨u,h1,h⟩:=cA h;split at h
   ·rename_i f first cap
    obtain⟨vs,h2,h⟩:=kr h;have h:=iG (iG h);refine ZY I M ho hp ht hw h0 h (fun bD hok=>?_) next
    have e3:c={ callee:=.value y,args:=c.args,argTypes:=c.argTypes }:=by cases c;simp only at qC;rw[qC]
    refine IX hok (hop.trans (congrArg Op.call e3)) (I.E h1 (ht.1 bD)) ?_;rw[jB (I.evs h2 (ht.1 bD))];apply Array.toList_inj.1;simp
   ·exact h.elim
  ·rename_i qC;obtain⟨rfl,h⟩:=mZ h;obtain rfl:=h0 rfl;split at h
   ·rename_i s x hargs;split at h
    ·rename_i ty ty' ahz;obtain⟨hty,hq⟩:=bJ h;obtain rfl:=atT hty;obtain⟨d,hd,hN,hfr,h⟩:=iC hq;obtain⟨v,h1,h⟩:=cA h;obtain⟨u,h2,h⟩:=cA h;obtain⟨D,hD,h⟩:=jP h;split at h
     ·rename_i e kk Pt;obtain⟨hkk,RO,Qo,i,nn,xs,mm,news,hM,hri,hsl,h63,hW,h⟩:=bJ h;have e1:c.args=#[s,x]:=Array.toList_inj.1 hargs;have e2:c.argTypes=#[ty,ty]:=Array.toList_inj.1 ahz;have e3:c={ callee:=.builtin .append,args:=#[s,x],argTypes:=#[ty,ty] }:=by cases c;simp only at qC e1 e2;rw[qC,e1,e2]
      obtain⟨hu,hi⟩:=DF hD;exact kpP hw (hop.trans (congrArg Op.call e3)) hu hi hkk (hM M) i hri (I.E h1 (by simp)) (I.E h2 (by simp)) hsl h63 hd I.fr hN (fun v' a' w' p M'=>next a' _ _ _ _ (I.put (t:=true) (v:=v') ho hd hfr (by simp) (by simp) p) M' (zB (h v' w') M')) hW
     ·exact h.elim
    ·exact h.elim
   ·exact h.elim
  ·obtain⟨d,hd,hN,hfr,h⟩:=iC h;exact U7 hop hd hN hfr h
  ·obtain⟨rfl,h⟩:=mZ h;obtain rfl:=h0 rfl;exact WI I ho hw h next
 all_goals first
  | (obtain⟨rfl,h⟩:=mZ h
     obtain rfl:=h0 rfl;exact WI I ho hw h next)
  | (obtain⟨d,hd,hN,hfr,h⟩:=iC h
     exact U7 rfl hd hN hfr h)
theorem Y3{K:Slots→List Bx→List Rw→World→Prop}:∀ {L:List Oper} {n:Nat} {a:Act} {m:List gi} {bs:List Bx} {rs:List Rw} {w:World},(∀ i o,L[i]?=some o→ops[n+i]?=some o)→Inv ops a N l m n→aY B w0 w bs rs→vc B w0 N l L n m bs rs w K →
 (∀ a l' bs' rs' w',Fs a N l'→aY B w0 w' bs' rs'→K l' bs' rs' w'→Q .normal a w')→wpList Tryz.prog ops Q L a w
 | [],_,_,_,_,_,_,_,I,M,h,next=>by
  obtain⟨l',h1,F⟩:=I.fsK h;exact atN (next _ _ _ _ _ F M h1)
 | o::r,n,_,_,_,_,_,rP,I,M,h,next=>by
  refine zA I M (by simpa using rP 0 o rfl) h fun a' m' bs' rs' w' I' M' h'=>?_
  exact Y3 (fun i o hi=>by have:=rP (i+1) o (by simpa using hi);rwa [show n+1+i=n+(i+1) by omega]) I' M' h' next
theorem EL{K:Slots→List Bx→List Rw→World→Prop}{C:Act→World→Prop}:∀ {L:List Oper} {n:Nat} {a:Act} {m:List gi} {bs:List Bx} {rs:List Rw} {w:World},(∀ i o,L[i]?=some o→ops[n+i]?=some o)→Inv ops a N l m n→aY B w0 w bs rs→vc B w0 N l L n m bs rs w K →
 (∀ a l' bs' rs' w',Fs a N l'→aY B w0 w' bs' rs'→K l' bs' rs' w'→C a w')→dD Tryz.prog ops C L a w
 | [],_,_,_,_,_,_,_,I,M,h,next=>by
  obtain⟨l',h1,F⟩:=I.fsK h;exact next _ _ _ _ _ F M h1
 | o::r,n,_,_,_,_,_,rP,I,M,h,next=>by
  intro Q' hQ;refine zA I M (by simpa using rP 0 o rfl) h fun a' m' bs' rs' w' I' M' h'=>?_
  exact atN (hQ _ _ (EL (fun i o hi=>by have:=rP (i+1) o (by simpa using hi);rwa [show n+1+i=n+(i+1) by omega]) I' M' h' next))
end
def blk:Value→Option Nat
 | .pointer (some p)=>some p.block
 | .slice (some p) _ _=>some p.block
 | _=>none
def afz(w:World)(v:Value):Prop:=∀ b,blk v=some b→w.heap.size≤b
def Far(v u:Value):Prop:=∀ b,blk v=some b→blk u≠some b
theorem Far.symm{v u:Value}(h:Far v u):Far u v:=fun b hb hv=>h b hv hb
section
variable {Q':Exit→Act→World→Prop} {a:Act} {w:World} {g:Good} {s:Nat} {p:Prop}
theorem pa(hP:∀ v a' w',atG w.heap.size w w'→g v w'→(p→afz w v)→Put a s v a'→Q' .normal a' w'):∀ v a' w',atG w.heap.size w w'→(fun v u=>g v u∧afz w v:Good) v w'→Put a s v a'→Q' .normal a' w':=fun v a' w' h1 h2 h3=>hP v a' w' h1 h2.1 (fun _=>h2.2) h3
end
def ad3(o:Oper):Nat:=match o.op with
 | .assign _=>3
 | .move _|.pick _ _ _|.nilCheck _|.load _ _|.binOp _ _ _ _ _|.unOp _ _ _|.fieldAddr _ _ _|.indexAddr _ _ _|.index _ _ _|.extract _ _|.convert _ _ _|.makeFunc _ _ _|.build _ _|.field _ _ _|.buildSlice _ _ _|.slice _ _ _ _ _=>0
 | .alloc _|.box _ _=>1
 | .call c=>(match c.callee with|.value _=>0|.builtin .len=>0|.builtin .min=>0|.builtin .max=>0|_=>2)
 | _=>2
def mM(d:Nat):List Operand→Bool
 | []=>false
 | .tmp q::r=>bif Nat.beq d q then true else mM d r
 | _::r=>mM d r
def Y6(o:Oper):List (List Operand)→Bool
 | []=>false
 | x::r=>(match o.dst with|some d=>bif mM d x then true else Y6 o r|none=>false)
def dkN:Bool→List (List Operand)→List Oper→Nat
 | _,_,[]=>0
 | u,seen,o::r=>match ad3 o with
  | 0=>dkN u (iz o.op::seen) r+1
  | 1=>(match u with|true=>0|false=>dkN true (iz o.op::seen) r+1)
  | 3=>bif Y6 o seen then 0 else dkN u (iz o.op::seen) r+1
  | _=>0
def iq(k:Nat)(L:List Oper):List Nat:=(L.take k).filterMap (·.dst)
def aco(slots:List Nat)(o:Oper):Operand→Bool
 | .tmp q=>!slots.contains q||o.after.toList.any fun e=>Region.binds .any e&&(slots[e.on]? == some q)
 | _=>true
def FY(slots:List Nat)(o:Oper):Bool:=(iz o.op).all (aco slots o)&&(match o.guard with
 | none=>true
 | some (j,_)=>o.after.toList.any fun e=>Region.binds .any e&&(e.on == j))
def afo(N:Nat)(L:List Oper)(k:Nat):Bool:=
 ordered 0 L&&(vY k L&&((L.take k).all (fun o=>o.dst.isSome)&&((L.take k).all (FY (iq k L))&&((iq k L).all (fun s=>decide (s<N))&&decide (iq k L).Nodup))))
def VE(ds:List Nat):Slots→(Slots→Prop)→Prop
 | [],f=>f []
 | (s,v)::r,f=>bif jl s ds then VE ds r f else VE ds r fun l=>f ((s,v)::l)
theorem nV{x:Nat}{l:List Nat}:jl x l=true↔x∈l:=by
 induction l with
 | nil=>simp[jl]
 | cons y r ih=>
  unfold jl
  cases h:Nat.beq x y with
  | true=>simp[atT h]
  | false=>
   have hne:x≠y:=fun e=>by rw[e,Nat.beq_refl] at h;cases h
   simp[ih,hne]
theorem BL{ds:List Nat}:∀ {l:Slots} {f:Slots→Prop},VE ds l f→∃ l',f l'∧∀ q,look q l'=bif jl q ds then none else look q l
 | [],f,h=>⟨[],h,fun q=>by cases jl q ds<;>rfl⟩
 | (s,v)::r,f,h=>by
  unfold VE at h
  cases hm:jl s ds with
  | true=>
   rw[hm] at h;obtain⟨l',h1,h2⟩:=BL h;refine⟨l',h1,fun q=>?_⟩;rw[h2,bI]
   cases hq:jl q ds with
   | true=>rfl
   | false=>
    have:(q == s)=false:=by
     cases e:q == s with
     | false=>rfl
     | true=>have e':q=s:=by simpa using e
             rw[e',hm] at hq;cases hq
    rw[this];rfl
  | false=>
   rw[hm] at h;obtain⟨l',h1,h2⟩:=BL h;refine⟨_,h1,fun q=>?_⟩;rw[bI,bI,h2]
   cases e:q == s with
   | false=>rfl
   | true=>
    have e':q=s:=by simpa using e
    rw[e',hm];rfl
structure AlD where
 d:Nat
 j:Nat
 ty:TypeId
 cs:Array Value
 sl:Option Nat
structure kQ where
 d:Nat
 j:Nat
 R:Value→World→Prop
def alV(s:Option Nat)(g:Nat):Value:=match s with
 | none=>.pointer (some ⟨g,0,none⟩)
 | some len=>.slice (some ⟨g,0,none⟩) len len
section
variable (B:Nat) (w0:World) (N:Nat) (l:Slots) (bs:List Bx) (rs:List Rw) (w:World) (K:Slots→List Bx→List Rw→World→Prop)
def cD(o:Oper)(n:Nat)(m:List gi)(π:Pa)(t:Bool)(f:FuncId)(vs:List Value)(k:gi→Prop):Prop:=bif jl f Sx then False else bif Nat.blt f NF then dK N m o.dst fun d=>∃ v,ob π t (∀ w',atG w.heap.size w w'→aY B w0 w' bs rs→Calls Tryz.prog f vs.toArray w' fun e w''=>e=.returned v∧atG w'.heap.size w' w'') (k ⟨d,n,π,t,v⟩)
 else False
def gR(π:Pa)(t:Bool)(R:Value→World→Prop):Value→World→Prop:=match π with
 | []=>R
 | _::_=>fun v w=>t=true→R v w
def cRl(o:Oper)(n:Nat)(m:List gi)(π:Pa)(t:Bool)(f:FuncId)(vs:List Value)(k:kQ→Prop):Prop:=bif jl f Sx then False else bif Nat.blt f NF then dK N m o.dst fun d=>∃ R:Value→World→Prop,eN R∧ob π t (∀ w',atG w.heap.size w w'→aY B w0 w' bs rs→Calls Tryz.prog f vs.toArray w' fun e w''=>∃ v,e=.returned v∧(R v w''∧atG w'.heap.size w' w'')) (k ⟨d,n,gR π t R⟩)
 else False
def acz(R:World→Prop)(P:Option (World→Prop)):Option (World→Prop):=match P with
 | none=>some R
 | some P=>some fun w=>R w∧P w
def QZ(P:Option (World→Prop))(w:World)(q:Prop):Prop:=match P with
 | none=>q
 | some P=>P w→q
def L5(xs:List Operand):List kQ→List gi→Option (World→Prop)→(List gi→Option (World→Prop)→Prop)→Prop
 | [],m,P,f=>f m P
 | ⟨d,j,R⟩::r,m,P,f=>bif mM d xs then ∀ u,L5 xs r (⟨d,j,[],true,u⟩::m) (acz (R u) P) f else L5 xs r m P f
def L6(xs:List Operand):List kQ→(List kQ→Prop)→Prop
 | [],f=>f []
 | ⟨d,j,R⟩::r,f=>bif mM d xs then L6 xs r f else L6 xs r fun r'=>f (⟨d,j,R⟩::r')
def TS(xs:List Operand):List kQ→Bool
 | []=>false
 | A::r=>bif mM A.d xs then true else TS xs r
def cU(o:Oper)(n:Nat)(m:List gi)(π:Pa)(t:Bool)(f:FuncId)(xs:List Operand)(rel:List kQ)(k:gi→List kQ→Prop):Prop:=bif jl f Sx then False else bif Nat.blt f NF then bif TS xs rel then dK N m o.dst fun d=>∃ v,L5 xs rel m none (fun m' P=>OE l m' π xs fun vs=>(t=true→∀ w',atG w.heap.size w w'→aY B w0 w' bs rs→QZ P w' (Calls Tryz.prog f vs.toArray w' fun e w''=>e=.returned v∧atG w'.heap.size w' w'')))∧L6 xs rel fun r=>k ⟨d,n,π,t,v⟩ r
 else False else False
def cV(o:Oper)(n:Nat)(m:List gi)(π:Pa)(t:Bool)(f:FuncId)(xs:List Operand)(rel:List kQ)(k:List kQ→Prop):Prop:=bif jl f Sx then False else bif Nat.blt f NF then bif TS xs rel then dK N m o.dst fun d=>∃ R':Value→World→Prop,eN R'∧L5 xs rel m none (fun m' P=>OE l m' π xs fun vs=>(t=true→∀ w',atG w.heap.size w w'→aY B w0 w' bs rs→QZ P w' (Calls Tryz.prog f vs.toArray w' fun e w''=>∃ v,e=.returned v∧(R' v w''∧atG w'.heap.size w' w''))))∧L6 xs rel fun r=>k (⟨d,n,gR π t R'⟩::r)
 else False else False
def obI(π:Pa)(t:Bool)(p:Prop):Prop:=match π with
 | []=>p
 | _::_=>t=true→p
theorem aaO{π:Pa}{t:Bool}{p:Prop}(h:obI π t p)(ht:t=true):p:=by
 cases π with
 | nil=>exact h
 | cons=>exact h ht
def fD(o:Oper)(n:Nat)(m:List gi)(π:Pa)(t:Bool)(rel:List kQ)(k:List kQ→Prop):Prop:=dK N m o.dst fun d=>∃ R':Value→World→Prop,eN R'∧L5 (iz o.op) rel m none (fun m' P=>OE l m' π (iz o.op) fun vs=>obI π t (∀ (w1:World) (a:Act) (o':Oper),atG w.heap.size w w1→aY B w0 w1 bs rs→QZ P w1 (o'.op=o.op→vJ a (iz o.op) vs →
  ∃ v w2,(execOp a.eval o').run Tryz.prog w1=.ok (.value v) w2∧R' v w2∧atG w1.heap.size w1 w2)))∧L6 (iz o.op) rel fun r=>k (⟨d,n,gR π t R'⟩::r)
def alN(a:Option AlD)(p:Prop):Prop:=match a with
 | none=>p
 | some _=>False
abbrev WH:=List Oper→Nat→List gi→Option AlD→List kQ→Bool→Prop
def aaI:List kQ→List gi→Option (World→Prop)→(List gi→Option (World→Prop)→Prop)→Prop
 | [],m,P,f=>f m P
 | ⟨d,j,R⟩::r,m,P,f=>bif jw d m then ∀ u,aaI r (⟨d,j,[],true,u⟩::m) (acz (R u) P) f else False
def vF:WH:=fun L n m al rel _=>aaI rel m none fun m' P=>match al with
 | none=>∀ w',QZ P w' (atG w.heap.size w w'→aY B w0 w' bs rs→vc B w0 N l L n m' bs rs w' K)
 | some ⟨d,j,ty,cs,s⟩=>bif jw d m' then ∀ g w',QZ P w' (atG w.heap.size w w'→aY B w0 w' ((g,ty,cs)::bs) rs→vc B w0 N l L n (⟨d,j,[],true,alV s g⟩::m') ((g,ty,cs)::bs) rs w' K) else False
section
variable (F:WH)
def vd:Nat→List Oper→Nat→List gi→Option AlD→List kQ→Bool→Prop
 | 0,L,n,m,al,rel,us=>F L n m al rel us
 | _+1,[],_,_,_,_,_=>False
 | k+1,o::r,n,m,al,rel,us=>gK m o.guard fun π t=>match o.op with
  | .load ty x=>dK N m o.dst fun d=>qm l m π x fun u=>E6 u (zT π t fun v=>vd k r (n+1) (⟨d,n,π,t,v⟩::m) al rel us) fun g off=>C5 ty (fun D=>ldK π t bs w D g off fun v=>vd k r (n+1) (⟨d,n,π,t,v⟩::m) al rel us) TT
  | .alloc ty=>Sp π (alN al (dK N m o.dst fun d=>∃ z,(Tryz.prog.info? ty).bind (·.zero)=some z∧bif Nat.blt ty 9000 then RL z fun cs=>vd k r (n+1) m (some ⟨d,n,ty,cs,none⟩) rel us else False))
  | .box ty x=>Sp π (alN al (dK N m o.dst fun d=>qm l m π x fun u=>bif Nat.blt ty 9000 then RL u fun cs=>vd k r (n+1) m (some ⟨d,n,ty,cs,none⟩) rel us else False))
  | .buildSlice ty len parts=>(Sp π (alN al (dK N m o.dst fun d=>C5 ty (fun D=>match D with
   | .sl e kk _=>bif sV 0 parts.toList then qx parts.toList len (bif Nat.blt 0 (len*kk) then bif Nat.ble (len*kk) 16777216 then bif Nat.blt e 9000 then OE l m π (parts.toList.map (·.2)) fun vs=>YD kk vs fun cs=>vd k r (n+1) m (some ⟨d,n,e,cs.toArray,some len⟩) rel us
    else False else False else False) else False
   | _=>False) TT))∨fD B w0 N l bs rs w o n m π t rel (fun rel=>vd k r (n+1) m al rel true))
  | .call c=>(match c.callee with
   | .value (.func f)=>(OE l m π c.args.toList fun vs=>cD B w0 N bs rs w o n m π t f vs fun e=>vd k r (n+1) (e::m) al rel us) ∨
    cU B w0 N l bs rs w o n m π t f c.args.toList rel (fun e rel=>vd k r (n+1) (e::m) al rel us) ∨
    (OE l m π c.args.toList fun vs=>cRl B w0 N bs rs w o n m π t f vs fun A=>vd k r (n+1) m al (A::rel) true) ∨
    cV B w0 N l bs rs w o n m π t f c.args.toList rel (fun rel=>vd k r (n+1) m al rel true)
   | .value y=>qm l m π y fun u=>(match u with
    | .func (.func f) first cap=>OE l m π c.args.toList fun vs=>rU first.toList vs fun xs=>rU xs cap.toList fun ys=>cD B w0 N bs rs w o n m π t f ys fun e=>vd k r (n+1) (e::m) al rel us
    | _=>False)
   | _=>dK N m o.dst fun d=>pop l m π t (fun v=>vd k r (n+1) (⟨d,n,π,t,v⟩::m) al rel us) (.call c))
  | op=>bif TS (iz op) rel then fD B w0 N l bs rs w o n m π t rel (fun rel=>vd k r (n+1) m al rel true) else dK N m o.dst fun d=>pop l m π t (fun v=>vd k r (n+1) (⟨d,n,π,t,v⟩::m) al rel us) op
end
end
structure G_ (slots:List Nat) (gp:List Good) (m:List gi) (n:Nat):Prop where
 L:jk m n
 len:gp.length=n
 at_:∀ e∈m,slots[e.j]?=some e.s∧gp[e.j]?=some (bZ (gd e.t e.v))
theorem G_.put{slots:List Nat}{gp:List Good}{m:List gi}{n:Nat}(D:G_ slots gp m n){d:Nat}(hs:slots[n]?=some d){π:Pa}(hp:∀ x∈π,∃ e∈m,e.j=x.1){t:Bool}(ht:t=true↔∀ x∈π,Cond m x){v:Value}:G_ slots (gp++[bZ (gd t v)]) (⟨d,n,π,t,v⟩::m) (n+1):=by
 refine⟨D.L.put hp ht,by simp[D.len],fun e he=>?_⟩;rcases atB.1 he with rfl|he
 ·exact⟨hs,by simp[← D.len]⟩
 ·obtain⟨h1,h2⟩:=D.at_ e he;exact⟨h1,by rw[atV (atJ.1 h2).1];exact h2⟩
theorem G_.skip{slots:List Nat}{gp:List Good}{m:List gi}{n:Nat}(D:G_ slots gp m n)(g:Good):G_ slots (gp++[g]) m (n+1):=
 ⟨D.L.mono (Nat.le_succ n),by simp[D.len],fun e he=>⟨(D.at_ e he).1,by rw[atV (atJ.1 (D.at_ e he).2).1];exact(D.at_ e he).2⟩⟩
theorem qq{d:Nat}:∀ {xs:List Operand},mM d xs=true→Operand.tmp d∈xs
 | .tmp q::r,h=>by
  unfold mM at h
  cases hb:Nat.beq d q with
  | true=>rw[atT hb];exact atE ..
  | false=>rw[hb] at h;exact atC _ (qq h)
 | .const _::r,h=>atC _ (qq h)
 | .global _::r,h=>atC _ (qq h)
 | .func _::r,h=>atC _ (qq h)
theorem FX{slots:List Nat}{o:Oper}(jZ:FY slots o=true)(hnd:slots.Nodup){j d:Nat}(hj:slots[j]?=some d)(hx:Operand.tmp d∈iz o.op):∃ gr,(⟨j,gr⟩:Edge)∈o.after.toList∧Region.binds .any ⟨j,gr⟩=true:=by
 unfold FY at jZ;rw[atP,atO] at jZ;have h3:=jZ.1 _ hx;simp only[aco] at h3;have h5:slots.contains d=true:=by simpa using atF hj
 rw[h5,Bool.not_true,Bool.false_or,List.any_eq_true] at h3;obtain⟨ed,h6,h7⟩:=h3;rw[atP,beq_iff_eq] at h7;have h8:ed.on=j:=lI hnd h7.2 hj;obtain⟨on,gr⟩:=ed;simp only at h8;subst h8;exact⟨gr,h6,h7.1⟩
theorem Yt{l:Slots}{m:List gi}{π:Pa}{a:Act}{xs:List Operand}{vs:List Value}(h:CO (Et l m π) xs vs)(E:∀ x∈xs,∀ v,Et l m π x v→a.eval x=v):vJ a xs vs:=by
 induction h with
 | nil=>exact .nil
 | cons h1 _ ih=>exact .cons (E _ (atE ..) _ h1) (ih fun x hx=>E x (atC _ hx))
theorem J2{slots:List Nat}{gp G':List Good}{m:List gi}{n:Nat}(D:G_ slots gp m n)(hnd:slots.Nodup){ops:Array Oper}(rP:∀ (i:Nat) (s:Nat),slots[i]?=some s→(ops[i]?).bind (fun o=>o.dst)=some s){o:Oper}(jZ:FY slots o=true){l:Slots}(hl:∀ q v,look q l=some v→slots.contains q=false){a a0:Act}{N:Nat}(F0:Fs a0 N l){w:World}
 (D8:∀ k,(∃ gr,(⟨k,gr⟩:Edge)∈o.after.toList∧Region.binds .any ⟨k,gr⟩=true)→∀ s g,slots[k]?=some s→(gp++G')[k]?=some g→∃ v,At a s v∧g v w)
 (hrest:∀ j u,slots.contains j=false→At a0 j u→At a j u) :
 (∀ x∈iz o.op,∀ π' v,Et l m π' x v→(∀ y∈π',Cond m y)→a.eval x=v) ∧
 ∀ e∈m,(∃ b,o.guard=some (e.j,b))→(ops[e.j]?).bind (·.dst)=some e.s∧At a e.s (gd e.t e.v):=by
 unfold FY at jZ;rw[atP,atO] at jZ
 have hat:∀ e∈m,(∃ gr,(⟨e.j,gr⟩:Edge)∈o.after.toList∧Region.binds .any ⟨e.j,gr⟩=true)→At a e.s (gd e.t e.v):=fun e he hk=>by
  obtain⟨h1,h2⟩:=D.at_ e he;obtain⟨v,h3,rfl⟩:=D8 _ hk _ _ h1 (by rw[atV (atJ.1 h2).1];exact h2);exact h3
 constructor
 ·intro x hx π' v O1 hc
  cases x with
  | tmp q=>
   rcases O1 with⟨e,he,rfl,rfl,hs⟩|⟨h1,h2⟩
   ·have ht:e.t=true:=(D.L.tv e he).2 fun y hy=>hc y (zy hs y hy)
    refine((hat e he ?_).on ht).ev;have h3:=jZ.1 _ hx;simp only[aco] at h3;obtain⟨h4,-⟩:=D.at_ e he;have h5:slots.contains e.s=true:=by simpa using atF h4
    rw[h5,Bool.not_true,Bool.false_or,List.any_eq_true] at h3;obtain⟨ed,h6,h7⟩:=h3;rw[atP,beq_iff_eq] at h7;have h8:ed.on=e.j:=lI hnd h7.2 h4;obtain⟨on,gr⟩:=ed;simp only at h8;subst h8;exact⟨gr,h6,h7.1⟩
   ·exact(hrest q v (hl q v h2) (F0.at_ q v h2)).ev
  | const u=>exact O1
  | global=>exact O1.elim
  | func f=>exact O1
 ·rintro e he ⟨b,hg⟩;refine⟨rP _ _ (D.at_ e he).1,hat e he ?_⟩;have h3:=jZ.2;rw[hg] at h3;simp only[List.any_eq_true,atP,beq_iff_eq] at h3;obtain⟨⟨on,gr⟩,h6,h7,h8⟩:=h3;simp only at h8;subst h8;exact⟨gr,h6,h7⟩
structure Fin (slots:List Nat) (G:List Good) (m:List gi) (al:Option AlD) (rel:List kQ) (us:Bool) (n:Nat) (w:World):Prop where
 D:G_ slots G m n
 al_:∀ A,al=some A→slots[A.j]?=some A.d∧G[A.j]?=some (Made w (alV A.sl) A.ty A.cs)∧Nat.blt A.ty 9000=true∧A.j<n∧∀ e∈m,e.j≠A.j
 cov:al=none→us=false→∀ i,i<n→∃ e∈m,e.j=i
 L4:∀ A∈rel,slots[A.j]?=some A.d∧G[A.j]?=some A.R∧A.j<n∧(∀ e∈m,e.j≠A.j)∧∀ C,al=some C→C.j≠A.j
 wv:(rel.map (·.j)).Nodup
section
variable {slots:List Nat} {gp:List Good} {m:List gi} {al:Option AlD} {rel rel':List kQ} {us:Bool} {n:Nat} {w:World}
theorem Fin.sub(F:Fin slots gp m al rel us n w)(h:rel'.Sublist rel):Fin slots gp m al rel' us n w:=⟨F.D,F.al_,F.cov,fun A hA=>F.L4 A (h.subset hA),(h.map _).nodup F.wv⟩
theorem Cz{g g':Good}{j:Nat}(h:gp[j]?=some g):(gp++[g'])[j]?=some g:=by rw[atV (atJ.1 h).1];exact h
theorem Fin.put(F:Fin slots gp m al rel us n w){g:Good}{e0:gi}(h0:e0.j=n)(D:G_ slots (gp++[g]) (e0::m) (n+1)):Fin slots (gp++[g]) (e0::m) al rel us (n+1) w:=by
 refine⟨D,fun A hA=>?_,fun ha hr i hi=>?_,fun A hA=>?_,F.wv⟩
 ·obtain⟨c1,c2,c3,c4,c5⟩:=F.al_ A hA;refine⟨c1,Cz c2,c3,by omega,fun e he=>?_⟩;rcases atB.1 he with rfl|he
  ·omega
  ·exact c5 e he
 ·by_cases h:i=n
  ·exact⟨e0,atE ..,h0.trans h.symm⟩
  ·obtain⟨e,h1,h2⟩:=F.cov ha hr i (by omega);exact⟨e,atC _ h1,h2⟩
 ·obtain⟨c1,c2,c4,c5,c6⟩:=F.L4 A hA;refine⟨c1,Cz c2,by omega,fun e he=>?_,c6⟩;rcases atB.1 he with rfl|he
  ·omega
  ·exact c5 e he
theorem Fin.ai9(F:Fin slots gp m al rel us n w){d:Nat}{R:Value→World→Prop}(hs:slots[n]?=some d):Fin slots (gp++[R]) m al (⟨d,n,R⟩::rel) true (n+1) w:=by
 refine⟨F.D.skip _,fun A hA=>?_,(fun _ h=>by cases h),fun A hA=>?_,?_⟩
 ·obtain⟨c1,c2,c3,c4,c5⟩:=F.al_ A hA;exact⟨c1,Cz c2,c3,by omega,c5⟩
 ·rcases atB.1 hA with rfl|hA
  ·refine⟨hs,by simp[← F.D.len],Nat.lt_succ_self n,fun e he=>?_,fun C hC=>?_⟩
   ·have:=F.D.L.lt e he;simp only;omega
   ·have:=(F.al_ C hC).2.2.2.1;simp only;omega
  ·obtain⟨c1,c2,c4,c5,c6⟩:=F.L4 A hA;exact⟨c1,Cz c2,by omega,c5,c6⟩
 ·rw[List.map_cons,List.nodup_cons];refine⟨fun h=>?_,F.wv⟩;obtain⟨A,hA,e⟩:=aty.1 h;have:=(F.L4 A hA).2.2.1;simp only at e;omega
theorem Fin.ai_(F:Fin slots gp m none rel us n w){d:Nat}{ty:TypeId}{cs:Array Value}{s:Option Nat}(hs:slots[n]?=some d)(hty:Nat.blt ty 9000=true):Fin slots (gp++[Made w (alV s) ty cs]) m (some ⟨d,n,ty,cs,s⟩) rel us (n+1) w:=by
 refine⟨F.D.skip _,fun A hA=>?_,(fun h=>by cases h),fun A hA=>?_,F.wv⟩
 ·obtain rfl:=atD hA;refine⟨hs,by simp[← F.D.len],hty,Nat.lt_succ_self n,fun e he=>?_⟩;have:=F.D.L.lt e he;simp only;omega
 ·obtain⟨c1,c2,c4,c5,c6⟩:=F.L4 A hA;refine⟨c1,Cz c2,by omega,c5,fun C hC=>?_⟩;obtain rfl:=atD hC;simp only;omega
theorem uy{xs:List Operand}:∀ {rel:List kQ} {f:List kQ→Prop},L6 xs rel f→∃ rel',f rel'∧rel'.Sublist rel
 | [],_,h=>⟨[],h,.slnil⟩
 | ⟨d,j,R⟩::r,f,h=>by
  unfold L6 at h
  cases hb:mM d xs with
  | true=>
   rw[hb] at h;obtain⟨r',h1,h2⟩:=uy h;exact⟨r',h1,h2.cons _⟩
  | false=>
   rw[hb] at h;obtain⟨r',h1,h2⟩:=uy (f:=fun r'=>f (⟨d,j,R⟩::r')) h;exact⟨_,h1,h2.cons_cons _⟩
theorem ux{xs:List Operand}{a:Act}{w1:World}{f:List gi→Option (World→Prop)→Prop}:∀ {rel:List kQ} {m:List gi} {P:Option (World→Prop)},(∀ p,P=some p→p w1)→(∀ A∈rel,mM A.d xs=true→∃ u,At a A.d u∧A.R u w1)→L5 xs rel m P f →
 ∃ m' P',f m' P'∧(∀ p,P'=some p→p w1)∧(∀ e∈m',e∈m∨At a e.s e.v)∧∀ e∈m,e∈m'
 | [],m,P,hP,_,h=>⟨m,P,h,hP,fun e he=>.inl he,fun _ he=>he⟩
 | ⟨d,j,R⟩::r,m,P,hP,hr,h=>by
  unfold L5 at h
  cases hb:mM d xs with
  | false=>
   rw[hb] at h;exact ux hP (fun A hA=>hr A (atC _ hA)) h
  | true=>
   rw[hb] at h;obtain⟨u,h1,h2⟩:=hr _ (atE ..) hb
   have hP':∀ p,acz (R u) P=some p→p w1:=fun p hp=>by
    cases P with
    | none=>obtain rfl:=atD hp;exact h2
    | some q=>obtain rfl:=atD hp;exact⟨h2,hP q rfl⟩
   obtain⟨m',P',k1,k2,k3,k4⟩:=ux hP' (fun A hA=>hr A (atC _ hA)) (h u);refine⟨m',P',k1,k2,fun e he=>?_,fun e he=>k4 e (atC _ he)⟩;rcases k3 e he with h|h
   ·rcases atB.1 h with rfl|h
    ·exact .inr h1
    ·exact .inl h
   ·exact .inr h
theorem uK{P:Option (World→Prop)}{w:World}{q:Prop}(h:QZ P w q)(hP:∀ p,P=some p→p w):q:=by
 cases P with
 | none=>exact h
 | some p=>exact h (hP p rfl)
theorem afa{π:Pa}{t:Bool}{R:Value→World→Prop}{v:Value}{w:World}(h:R v w):gR π t R v w:=by
 cases π with
 | nil=>exact h
 | cons=>exact fun _=>h
theorem abS{π:Pa}{R:Value→World→Prop}{v:Value}{w:World}(h:π≠[]):gR π false R v w:=by
 cases π with
 | nil=>exact absurd rfl h
 | cons=>exact fun h=>by cases h
theorem UD{π:Pa}{t:Bool}{R:Value→World→Prop}(h:eN R):eN (gR π t R):=by
 cases π with
 | nil=>exact h
 | cons=>exact fun v w w' h1 hb ht=>h v w w' (h1 ht) hb
end
section
variable {N:Nat} {l:Slots} {B:Nat} {w0 w:World} {bs:List Bx} {rs:List Rw} {F:WH} {slots:List Nat} {ops:Array Oper} {a0:Act}
def Z2(N:Nat)(l:Slots)(B:Nat)(w0 w:World)(bs:List Bx)(rs:List Rw)(F:WH)(slots:List Nat)(ops:Array Oper)(a0:Act)(gp:List Good)(L:List Oper)(k n:Nat):Prop:=
 ∃ G' m' al' rel' us',j8 (gp++G')∧G'.length=k∧kZ Tryz.prog ops slots (gp++G') (atG w.heap.size w) a0 N (L.take k) G'∧Fin slots (gp++G') m' al' rel' us' (n+k) w∧vd B w0 N l bs rs w F 0 (L.drop k) (n+k) m' al' rel' us'
theorem Y2(M:aY B w0 w bs rs)(hnd:slots.Nodup)(rP:∀ (i s:Nat),slots[i]?=some s→(ops[i]?).bind (fun o=>o.dst)=some s)(hl:∀ q v,look q l=some v→slots.contains q=false)(F0:Fs a0 N l):
 ∀ {k:Nat} {L:List Oper} {n:Nat} {m:List gi} {al:Option AlD} {rel:List kQ} {us:Bool} {gp:List Good},vd B w0 N l bs rs w F k L n m al rel us→Fin slots gp m al rel us n w→(∀ i o,(L.take k)[i]?=some o→FY slots o=true∧slots[n+i]?=o.dst)→k≤L.length→j8 gp →
  Z2 N l B w0 w bs rs F slots ops a0 gp L k n:=by
 intro k
 induction k with
 | zero=>intro L n m al rel us gp h hF _ _ hla;exact⟨[],m,al,rel,us,by simpa using hla,rfl,trivial,by simpa using hF,h⟩
 | succ k ih=>
  intro L n m al rel us gp h hF jZ hkl hla
  cases L with
  | nil=>simp at hkl
  | cons o r=>
   have ah1:k≤r.length:=by simpa using hkl
   have Zs:=jZ 0 o (by simp)
   have aeL:∀ i o,(r.take k)[i]?=some o→FY slots o=true∧slots[n+1+i]?=o.dst:=fun i o' hi=>by
    have:=jZ (i+1) o' (by simpa using hi)
    rwa [show n+1+i=n+(i+1) by omega]
   have one:∀ (g:Good) (m1:List gi) (al1:Option AlD) (uz:List kQ) (us1:Bool),eN g→Fin slots (gp++[g]) m1 al1 uz us1 (n+1) w→vd B w0 N l bs rs w F k r (n+1) m1 al1 uz us1 →
    (∀ (a:Act) (w1:World) (Q':Exit→Act→World→Prop),Fr a N→atG w.heap.size w w1 →
     (∀ x∈iz o.op,∀ π' v,Et l m π' x v→(∀ y∈π',Cond m y)→a.eval x=v)→(∀ e∈m,(∃ b,o.guard=some (e.j,b))→(ops[e.j]?).bind (·.dst)=some e.s∧At a e.s (gd e.t e.v)) →
     (∀ A∈rel,mM A.d (iz o.op)=true→∃ u,At a A.d u∧A.R u w1) →
     (∀ v a' w',atG w1.heap.size w1 w'→g v w'→Put a (o.dst.getD 0) v a'→Q' .normal a' w')→wpList Tryz.prog ops Q' [o] a w1) →
    Z2 N l B w0 w bs rs F slots ops a0 gp (o::r) (k+1) n:=by
    intro g m1 al1 uz us1 hg hF1 h1 hst
    have ah0:j8 (gp++[g]):=by
     clear ih h hF hF1 h1 hst
     induction gp with
     | nil=>exact⟨hg,trivial⟩
     | cons x r ih=>exact⟨hla.1,ih hla.2⟩
    obtain⟨G',m',al',rel',us',k1,k2,k3,k4,k5⟩:=ih h1 hF1 aeL ah1 ah0;refine⟨g::G',m',al',rel',us',by simpa using k1,by simp[k2],⟨?_,by simpa using k3⟩,by simpa[show n+(k+1)=n+1+k by omega] using k4,by simpa[show n+(k+1)=n+1+k by omega] using k5⟩;intro a w1 Q' hf hb D8 hrest hK;obtain⟨E,hgu⟩:=J2 hF.D hnd rP Zs.1 hl F0 (G':=g::G') D8 hrest;refine hst a w1 Q' hf hb E hgu (fun A hA hop=>?_) hK;obtain⟨c1,c2,c4,c5,-⟩:=hF.L4 A hA;refine D8 A.j ?_ _ _ c1 (by rw[atV (atJ.1 c2).1];exact c2);exact FX Zs.1 hnd c1 (qq hop)
   obtain⟨π,t,h,hp,ht,h0,hgd⟩:=O6 hF.D.L h;have U5:∀ {d:Nat},o.dst=some d→slots[n]?=some d:=fun hd=>by have:=Zs.2;rw[hd] at this;simpa using this
   have off:∀ {d:Nat} {a:Act} {w1:World} {g:Good} {Q':Exit→Act→World→Prop},Region.wanted o (yielded ops a.tmps)=false→o.dst=some d→Nat.blt d N=true→Fr a N→g undef w1→(∀ v a' w',atG w1.heap.size w1 w'→g v w'→Put a (o.dst.getD 0) v a'→Q' .normal a' w')→wpList Tryz.prog ops Q' [o] a w1:=
    fun hw hd hN hf hg hK=>Ae hw hd hf (by simpa using hN) fun a' p=>atN (hK undef a' _ (Below.refl _ _) hg (by rw[hd];exact p))
   have val:∀ {d:Nat} {v:Value} {uz:List kQ},uz.Sublist rel→o.dst=some d→Nat.blt d N=true→vd B w0 N l bs rs w F k r (n+1) (⟨d,n,π,t,v⟩::m) al uz us →
    (t=true→∀ (a:Act) (w1:World) (Q':Exit→Act→World→Prop),Fr a N→atG w.heap.size w w1→Region.wanted o (yielded ops a.tmps)=true→(∀ x∈iz o.op,∀ π' v,Et l m π' x v→(∀ y∈π',Cond m y)→a.eval x=v) →
     (∀ A∈rel,mM A.d (iz o.op)=true→∃ u,At a A.d u∧A.R u w1)→(∀ v' a' w',atG w1.heap.size w1 w'→bZ v v' w'→Put a (o.dst.getD 0) v' a'→Q' .normal a' w')→wpList Tryz.prog ops Q' [o] a w1) →
    Z2 N l B w0 w bs rs F slots ops a0 gp (o::r) (k+1) n:=by
    intro d v uz hsub hd hN h1 hr;refine one (bZ (gd t v)) _ _ _ _ (ak _) ((hF.sub hsub).put rfl (hF.D.put (U5 hd) hp ht)) h1 fun a w1 Q' hf hb E hgu hrel hK=>?_
    have hw:=q5 hgd hgu
    cases t with
    | true=>exact hr rfl a w1 Q' hf hb hw E hrel hK
    | false=>exact off hw hd hN hf rfl hK
   have U7:∀ {op:Op} {d:Nat},o.op=op→o.dst=some d→Nat.blt d N=true→pop l m π t (fun v=>vd B w0 N l bs rs w F k r (n+1) (⟨d,n,π,t,v⟩::m) al rel us) op→Z2 N l B w0 w bs rs F slots ops a0 gp (o::r) (k+1) n:=fun hop hd hN h=>by
    obtain⟨v,h1,h2⟩:=Mb hF.D.L ht h;exact val (.refl _) hd hN h1 fun bD a w1 Q' hf hb hw E _ hK=>dv hw (h2 a w1 o hop (hop▸E) bD) hd hf hN hK rfl
   have new:∀ {d:Nat} {ty:TypeId} {cs:Array Value} {s:Option Nat},π=[]→al=none→o.dst=some d→Nat.blt d N=true→Nat.blt ty 9000=true→vd B w0 N l bs rs w F k r (n+1) m (some ⟨d,n,ty,cs,s⟩) rel us →
    (∀ (a:Act) (w1:World),(∀ x∈iz o.op,∀ π' v,Et l m π' x v→(∀ y∈π',Cond m y)→a.eval x=v)→(execOp a.eval o).run Tryz.prog w1=.ok (.value (alV s w1.heap.size)) (w1.alloc (.cells cs ty))) →
    Z2 N l B w0 w bs rs F slots ops a0 gp (o::r) (k+1) n:=by
    intro d ty cs s hπ hal hd hN hty h1 hr;subst hal;refine one (Made w (alV s) ty cs) _ _ _ _ (MG _ _ _ _) (hF.ai_ (U5 hd) hty) h1 fun a w1 Q' hf hb E hgu _ hK=>?_
    have hw:=(q5 hgd hgu).trans (h0 hπ);exact dn (f:=alV s) hw (hr a w1 E) hd hf hN hK fun b w' nn=>Uv hb b w' nn
   have ZX:∀ {f:FuncId} {vs:List Value},cD B w0 N bs rs w o n m π t f vs (fun e=>vd B w0 N l bs rs w F k r (n+1) (e::m) al rel us) →
    (t=true→zJ Tryz.prog f=true→∀ (a:Act) (w1:World),(∀ x∈iz o.op,∀ π' v,Et l m π' x v→(∀ y∈π',Cond m y)→a.eval x=v)→(execOp a.eval o).run Tryz.prog w1=.ok (.enter f vs.toArray) w1) →
    Z2 N l B w0 w bs rs F slots ops a0 gp (o::r) (k+1) n:=by
    intro f vs h hr;unfold cD at h
    cases hm:jl f Sx with
    | true=>rw[hm] at h;exact h.elim
    | false=>
     rw[hm] at h;obtain⟨hb,h⟩:=bJ h;obtain⟨d,hd,hN,hfr,v,h⟩:=iC h;obtain⟨h1,h2⟩:=gY h;have hok:=AZ hb hm;exact val (.refl _) hd hN h2 fun bD a w1 Q' hf hb hw E _ hK=>dc hw (hr bD hok a w1 E) (h1 bD w1 hb (M.keep hb)) hd hf hN hK fun _=>rfl
   have newR:∀ {d:Nat} {R':Value→World→Prop} {uz:List kQ},uz.Sublist rel→o.dst=some d→Nat.blt d N=true→eN R'→vd B w0 N l bs rs w F k r (n+1) m al (⟨d,n,gR π t R'⟩::uz) true →
    (t=true→∀ (a:Act) (w1:World) (Q':Exit→Act→World→Prop),Fr a N→atG w.heap.size w w1→Region.wanted o (yielded ops a.tmps)=true→(∀ x∈iz o.op,∀ π' v,Et l m π' x v→(∀ y∈π',Cond m y)→a.eval x=v) →
     (∀ A∈rel,mM A.d (iz o.op)=true→∃ u,At a A.d u∧A.R u w1)→(∀ v' a' w',atG w1.heap.size w1 w'→R' v' w'→Put a (o.dst.getD 0) v' a'→Q' .normal a' w')→wpList Tryz.prog ops Q' [o] a w1) →
    Z2 N l B w0 w bs rs F slots ops a0 gp (o::r) (k+1) n:=by
    intro d R' uz hsub hd hN hR' h2 hst;refine one (gR π t R') _ _ _ _ (UD hR') ((hF.sub hsub).ai9 (U5 hd)) h2 fun a w1 Q' hf hb E hgu hrel hK=>?_
    have hw:=q5 hgd hgu
    cases t with
    | true=>exact hst rfl a w1 Q' hf hb hw E hrel fun v a' w' hb' hv hp=>hK v a' w' hb' (afa hv) hp
    | false=>exact off hw hd hN hf (abS fun h=>by cases h0 h) hK
   have evR:∀ {a:Act} {m':List gi} {xs:List Operand} {vs:List Value} {π':Pa},(∀ y∈π',Cond m y)→(∀ e∈m',e∈m∨At a e.s e.v)→(∀ e∈m,e∈m')→CO (Et l m' π') xs vs→(∀ x∈xs,x∈iz o.op) →
    (∀ x∈iz o.op,∀ π' v,Et l m π' x v→(∀ y∈π',Cond m y)→a.eval x=v)→vJ a xs vs:=fun {a m' xs vs π'} hc h1 h2 h3 hx E=>Yt h3 fun x hxs v O1=>by
    cases x with
    | tmp q=>
     rcases O1 with⟨e,he,rfl,rfl,hsub⟩|⟨h5,h6⟩
     ·rcases h1 e he with he|he
      ·exact E _ (hx _ hxs) π' _ (.inl ⟨e,he,rfl,rfl,hsub⟩) hc
      ·exact he.ev
     ·exact E _ (hx _ hxs) π' _ (.inr ⟨fun e he=>h5 e (h2 e he),h6⟩) hc
    | const u=>exact O1
    | global=>exact O1.elim
    | func f=>exact O1
   have hfD:fD B w0 N l bs rs w o n m π t rel (fun rel=>vd B w0 N l bs rs w F k r (n+1) m al rel true)→Z2 N l B w0 w bs rs F slots ops a0 gp (o::r) (k+1) n:=fun hB=>by
    unfold fD at hB;obtain⟨d,hd,hN,hfr,R',hR',h1,h2⟩:=iC hB;obtain⟨uz,h2,hsub⟩:=uy h2;refine newR hsub hd hN hR' h2 fun bD a w1 Q' hf hb hw E hrel hK=>?_
    obtain⟨m',P',k1,k2,k3,k4⟩:=ux (fun _ h=>by cases h) hrel h1;obtain⟨vs,h3,h4⟩:=kr k1;obtain⟨v,w2,h5,h6,h7⟩:=uK (aaO h4 bD w1 a o hb (M.keep hb)) k2 rfl (evR (ht.1 bD) k3 k4 h3 (fun x hx=>hx) E);exact oA hw h5 hd hf (by simpa using hN) fun a' p=>atN (hK v a' w2 h7 h6 (by rw[hd];exact p))
   split at h
   ·rename_i ty x hop;obtain⟨d,hd,hN,hfr,h⟩:=iC h;obtain⟨u,h1,h⟩:=cA h;rcases oG h with⟨g,off',rfl,hq⟩|h
    case inr=>
     obtain⟨h2,h3⟩:=VD h;exact val (.refl _) hd hN h3 fun bD=>(h2 bD).elim
    obtain⟨D,hD,h⟩:=jP hq;obtain⟨v,h2,h3⟩:=Uz M h hD;exact val (.refl _) hd hN h2 fun bD a w1 Q' hf hb hw E _ hK=>dv hw (h3 bD w1 hb a o x hop (E x (by rw[hop];simp[iz]) _ _ h1 (ht.1 bD))) hd hf hN hK rfl
   ·rename_i ty hop;obtain⟨hπ,h⟩:=mZ h
    cases al with
    | some A=>exact h.elim
    | none=>
     obtain⟨d,hd,hN,hfr,z,hz,h⟩:=iC h;obtain⟨hty,h⟩:=bJ h;exact new hπ rfl hd hN hty (u7 h) fun a w1 _=>uT hop hz
   ·rename_i ty x hop;obtain⟨hπ,h⟩:=mZ h
    cases al with
    | some A=>exact h.elim
    | none=>
     obtain⟨d,hd,hN,hfr,h⟩:=iC h;obtain⟨u,h1,h⟩:=cA h;obtain⟨hty,h⟩:=bJ h;exact new hπ rfl hd hN hty (u7 h) fun a w1 E=>Pn hop (E x (by rw[hop];simp[iz]) _ _ h1 (by rw[hπ];simp))
   ·rename_i ty len parts hop;rcases h with hA|hB
    case inr=>exact hfD hB
    obtain⟨hπ,hA⟩:=mZ hA
    cases al with
    | some A=>exact hA.elim
    | none=>
     obtain⟨d,hd,hN,hfr,h⟩:=iC hA;obtain⟨D,hD,h⟩:=jP h;split at h
     ·obtain⟨hps,h⟩:=bJ h;obtain⟨hlen,h⟩:=iF h;obtain⟨b0,h⟩:=bJ h;obtain⟨b1,h⟩:=bJ h;obtain⟨b2,h⟩:=bJ h;obtain⟨vs,h1,h⟩:=kr h;obtain⟨h2,h3⟩:=GS h;exact new hπ rfl hd hN b2 h2 fun a w1 E=>q7 hop hD hps hlen (by simpa using b0) (by simpa using b1) (w_ h1 (by rw[hπ];simp) (by rw[hop] at E;exact E)) h3
     ·exact h.elim
   ·rename_i c hop;split at h
    ·rename_i f qC;have e3:c={ callee:=.value (.func f),args:=c.args,argTypes:=c.argTypes }:=by cases c;simp only at qC;rw[qC]
     have U8:iz o.op=c.args.toList:=by rw[hop];simp only[iz,qC];rfl
     rcases h with h|h|h|h
     case inr.inr.inr=>
      unfold cV at h
      cases hm:jl f Sx with
      | true=>rw[hm] at h;exact h.elim
      | false=>
       rw[hm] at h;obtain⟨hb,h⟩:=bJ h;obtain⟨hu,h⟩:=bJ h;have hok:=AZ hb hm;obtain⟨d,hd,hN,hfr,R',hR',h1,h2⟩:=iC h;obtain⟨uz,h2,hsub⟩:=uy h2;refine newR hsub hd hN hR' h2 fun bD a w1 Q' hf hb hw E hrel hK=>?_
       obtain⟨m',P',k1,k2,k3,k4⟩:=ux (fun _ h=>by cases h) (fun A hA hx=>hrel A hA (by rw[U8];exact hx)) h1;obtain⟨vs,h3,h4⟩:=kr k1;exact dx hw (rC hok (hop.trans (congrArg Op.call e3)) (jB (evR (ht.1 bD) k3 k4 h3 (by rw[U8];exact fun x hx=>hx) E))) (uK (h4 bD w1 hb (M.keep hb)) k2) hd hf hN hK
     case inr.inl=>
      unfold cU at h
      cases hm:jl f Sx with
      | true=>rw[hm] at h;exact h.elim
      | false=>
       rw[hm] at h;obtain⟨hb,h⟩:=bJ h;obtain⟨hu,h⟩:=bJ h;have hok:=AZ hb hm;obtain⟨d,hd,hN,hfr,v,h1,h2⟩:=iC h;obtain⟨uz,h2,hsub⟩:=uy h2;refine val hsub hd hN h2 fun bD a w1 Q' hf hb hw E hrel hK=>?_
       obtain⟨m',P',k1,k2,k3,k4⟩:=ux (fun _ h=>by cases h) (fun A hA hx=>hrel A hA (by rw[U8];exact hx)) h1;obtain⟨vs,h3,h4⟩:=kr k1;exact dc hw (rC hok (hop.trans (congrArg Op.call e3)) (jB (evR (ht.1 bD) k3 k4 h3 (by rw[U8];exact fun x hx=>hx) E))) (uK (h4 bD w1 hb (M.keep hb)) k2) hd hf hN hK fun _=>rfl
     case inr.inr.inl=>
      obtain⟨vs,h1,h⟩:=kr h;unfold cRl at h
      cases hm:jl f Sx with
      | true=>rw[hm] at h;exact h.elim
      | false=>
       rw[hm] at h;obtain⟨hb,h⟩:=bJ h;have hok:=AZ hb hm;obtain⟨d,hd,hN,hfr,R,hR,h⟩:=iC h;obtain⟨hc,h2⟩:=gY h;exact newR (.refl _) hd hN hR h2 fun bD a w1 Q' hf hb hw E _ hK=>dx hw (rC hok (hop.trans (congrArg Op.call e3)) (jB (w_ h1 (ht.1 bD) fun x hx=>E x (by rw[U8];exact hx)))) (hc bD w1 hb (M.keep hb)) hd hf hN hK
     obtain⟨vs,h1,h⟩:=kr h;refine ZX h fun bD hok a w1 E=>?_
     exact rC hok (hop.trans (congrArg Op.call e3)) (jB (w_ h1 (ht.1 bD) fun x hx=>E x (by rw[hop];simp only[iz,qC];exact hx)))
    ·rename_i y hy qC;obtain⟨u,h1,h⟩:=cA h;split at h
     ·rename_i f first cap
      obtain⟨vs,h2,h⟩:=kr h;have h:=iG (iG h);refine ZX h fun bD hok a w1 E=>?_
      have e3:c={ callee:=.value y,args:=c.args,argTypes:=c.argTypes }:=by cases c;simp only at qC;rw[qC]
      have aeu:iz o.op=y::c.args.toList:=by
       rw[hop];simp only[iz,qC];cases y<;>first|rfl|exact absurd rfl (hy _)
      refine IX hok (hop.trans (congrArg Op.call e3)) (E y (by rw[aeu];exact atE ..) _ _ h1 (ht.1 bD)) ?_;rw[jB (w_ h2 (ht.1 bD) fun x hx=>E x (by rw[aeu];exact atC _ hx))];apply Array.toList_inj.1;simp
     ·exact h.elim
    ·obtain⟨d,hd,hN,hfr,h⟩:=iC h;exact U7 hop hd hN h
   all_goals
    cases hu:TS (iz o.op) rel with
    | true=>rw[hu] at h;exact hfD h
    | false=>
     rw[hu] at h;obtain⟨d,hd,hN,hfr,h⟩:=iC h;exact U7 rfl hd hN h
end
def tG(o:Oper)(j:Nat):Bool:=o.after.toList.any fun e=>Region.binds .any e&&(e.on == j)
def pOp(o:Oper):Bool:=o.guard.isNone
def adG(N:Nat)(L:List Oper)(k:Nat):Bool:=
 ordered 0 L&&((L.take (k+2)).all (fun o=>o.dst.isSome)&&((L.take k).all (FY (iq (k+2) L))&&((iq (k+2) L).all (fun s=>decide (s<N))&&(decide (iq (k+2) L).Nodup&&(decide (L.length=k+4) &&
  ((L.drop k).all pOp&&((L.drop (k+2)).all (FY (iq (k+2) L)))))))))
section
variable (B:Nat) (w0:World) (N:Nat) (l:Slots) (bs:List Bx) (rs:List Rw) (w:World) (K:Slots→List Bx→List Rw→World→Prop)
def vP:WH:=fun L _ m al _ us=>match L,al,us with
 | [a1,a2,s1,s2],none,false=>(match a1.op,a2.op,s1.op,s2.op with
  | .alloc zu,.alloc zq,.store t1 (.tmp x1) y1,.store t2 (.tmp x2) y2=>dK N m a1.dst fun d1=>dK N m a2.dst fun d2=>bif Nat.beq x1 d1 then bif Nat.beq x2 d2 then (match s1.dst,s2.dst with
   | none,none=>∃ z1 z2,((Tryz.prog.info? zu).bind (·.zero)=some z1∧(Tryz.prog.info? zq).bind (·.zero)=some z2)∧qm l m [] y1 fun u1=>qm l m [] y2 fun u2=>C5 t1 (fun D1=>C5 t2 (fun D2=>bif Nat.blt zu 9000 then bif Nat.blt zq 9000 then qx (bg u1) (iW D1) (qx (bg z1) (iW D1) (qx (bg u2) (iW D2) (qx (bg z2) (iW D2)
     (((bg u1).all (·.oneCell')=true∧(bg u2).all (·.oneCell')=true)∧∀ g1 g2 w',atG w.heap.size w w'→aY B w0 w' ((g1,zu,(bg u1).toArray)::(g2,zq,(bg u2).toArray)::bs) rs →
       oM m l fun l'=>K ((d1,.pointer (some ⟨g1,0,none⟩))::(d2,.pointer (some ⟨g2,0,none⟩))::l') ((g1,zu,(bg u1).toArray)::(g2,zq,(bg u2).toArray)::bs) rs w')))) else False else False) TT) TT
   | _,_=>False) else False else False
  | _,_,_,_=>False)
 | _,_,_=>False
end
structure PI (L:List Oper) (k:Nat) (slots:List Nat) (G:List Good) (N:Nat) (a0:Act) (w:World) (d1 d2 zu zq:Nat) (z1 z2 c1 c2:Array Value) (Lf:Nat→Bool) (b:Act) (u:World):Prop where
 fr:Fr b N
 inv:atG w.heap.size w u
 done:∀ i,i<k→Lf i=true→∀ s g,slots[i]?=some s→G[i]?=some g→∃ v,At b s v∧g v u
 rest:∀ j x,slots.contains j=false→At a0 j x→At b j x
 o1:Lf (k+2)=true→Lf k=true
 o2:Lf (k+3)=true→Lf (k+1)=true
 one:Lf k=true→∃ g,At b d1 (.pointer (some ⟨g,0,none⟩))∧w.heap.size≤g∧Whole u g zu (if Lf (k+2)=true then c1 else z1)
 two:Lf (k+1)=true→∃ g,At b d2 (.pointer (some ⟨g,0,none⟩))∧w.heap.size≤g∧Whole u g zq (if Lf (k+3)=true then c2 else z2)
 ne:Lf k=true→Lf (k+1)=true→∀ g,At b d1 (.pointer (some ⟨g,0,none⟩))→At b d2 (.pointer (some ⟨g,0,none⟩))→False
theorem At.Ri{a:Act}{s:Nat}{v u:Value}(h:At a s v)(h':At a s u):v=u:=atD (h.symm.trans h')
theorem ru{g g':Nat}(h:Value.pointer (some ⟨g,0,none⟩)=.pointer (some ⟨g',0,none⟩)):g=g':=by
 injection h with h;injection h with h;injection h
section
variable {B:Nat} {w0 w:World} {N:Nat} {l:Slots} {bs:List Bx} {rs:List Rw} {K:Slots→List Bx→List Rw→World→Prop} {Q:Exit→Act→World→Prop} {a:Act} {id:Nat} {L:List Oper}
theorem fW{Lf:Nat→Bool}{i j:Nat}(h:j≠i):upd Lf i j=Lf j:=by
 have:(j == i)=false:=by simpa using h
 simp[upd,this]
theorem Ic{Lf:Nat→Bool}{i:Nat}:upd Lf i i=true:=by simp[upd]
theorem Me{k:Nat}{slots:List Nat}{G:List Good}{d1 d2 zu zq:Nat}{u1 u2 z1 z2:Value}{a1 a2 s1 s2:Oper}{t1 t2:TypeId}{y1 y2:Operand}{D1 D2:TD}
 (hL:L.length=k+4) (hnd:slots.Nodup) (hsl:slots.length=k+2) (hlt:∀ s∈slots,s<N)
 (hG:G.length=k) (Yg:∀ g∈G,∃ v,g=bZ v) (hst:kZ Tryz.prog L.toArray slots G (atG w.heap.size w) a N (L.take k) G)
 (eS:ordered 0 L=true) (qA:∀ (i:Nat) (o:Oper),i<k+2→L[i]?=some o→slots[i]?=o.dst)
 (e1:L[k]?=some a1) (e2:L[k+1]?=some a2) (e3:L[k+2]?=some s1) (e4:L[k+3]?=some s2)
 (p1:a1.op=.alloc zu) (p2:a2.op=.alloc zq) (p3:s1.op=.store t1 (.tmp d1) y1) (p4:s2.op=.store t2 (.tmp d2) y2)
 (g1:a1.guard=none) (g2:a2.guard=none) (g3:s1.guard=none) (g4:s2.guard=none) (q1:a1.dst=some d1) (q2:a2.dst=some d2) (q3:s1.dst=none) (q4:s2.dst=none)
 (hz1:(Tryz.prog.info? zu).bind (·.zero)=some z1) (hz2:(Tryz.prog.info? zq).bind (·.zero)=some z2)
 (hD1:jo Tryz.prog t1 D1=true) (hD2:jo Tryz.prog t2 D2=true) (n1:(bg u1).length=iW D1) (n2:(bg z1).length=iW D1) (n3:(bg u2).length=iW D2) (n4:(bg z2).length=iW D2)
 (c1:(bg u1).all (·.oneCell')=true) (c2:(bg u2).all (·.oneCell')=true)
 (hy1:∀ (b:Act) (u:World) (Lf:Nat→Bool),PI L k slots G N a w d1 d2 zu zq z1.cells z2.cells (bg u1).toArray (bg u2).toArray Lf b u→(∀ e∈s1.after.toList,Region.binds .any e=true→Lf e.on=true)→b.eval y1=u1∧Lf k=true)
 (hy2:∀ (b:Act) (u:World) (Lf:Nat→Bool),PI L k slots G N a w d1 d2 zu zq z1.cells z2.cells (bg u1).toArray (bg u2).toArray Lf b u→(∀ e∈s2.after.toList,Region.binds .any e=true→Lf e.on=true)→b.eval y2=u2∧Lf (k+1)=true) :
 ∀ (i:Nat) (o:Oper),L[i]?=some o→∀ (Lf:Nat→Bool) (b:Act) (u:World) (Q':Exit→Act→World→Prop),PI L k slots G N a w d1 d2 zu zq z1.cells z2.cells (bg u1).toArray (bg u2).toArray Lf b u→Lf i=false →
  (∀ e∈o.after.toList,Region.binds .any e=true→Lf e.on=true)→(∀ b u,PI L k slots G N a w d1 d2 zu zq z1.cells z2.cells (bg u1).toArray (bg u2).toArray (upd Lf i) b u→Q' .normal b u)→wpList Tryz.prog L.toArray Q' [o] b u:=by
 have Xy:slots[k]?=some d1:=by rw[qA k a1 (by omega) e1,q1]
 have Xx:slots[k+1]?=some d2:=by rw[qA (k+1) a2 (by omega) e2,q2]
 have aei:∀ {i j s s':Nat},slots[i]?=some s→slots[j]?=some s'→i≠j→s≠s':=fun h1 h2 hne e=>hne (lI hnd (e▸h1) h2)
 have ZC:∀ (i:Nat) (g:Good),G[i]?=some g→i<k∧eN g:=fun i g hg=>⟨hG▸(atJ.1 hg).1,by obtain⟨v,rfl⟩:=Yg g (atF hg);exact ak v⟩
 have hN:∀ {i s:Nat},slots[i]?=some s→s<N:=fun h=>hlt _ (atF h)
 have hin:∀ {i s:Nat},slots[i]?=some s→slots.contains s=true:=fun h=>by simpa using atF h
 have upT:∀ {Lf:Nat→Bool} {i j:Nat},Lf j=true→upd Lf i j=true:=fun h=>by simp[upd,h]
 have put:∀ {i s:Nat} {v:Value} {Lf:Nat→Bool} {b b':Act} {u u':World},PI L k slots G N a w d1 d2 zu zq z1.cells z2.cells (bg u1).toArray (bg u2).toArray Lf b u→i<k+2→slots[i]?=some s→Lf i=false→Put b s v b'→atG u.heap.size u u' →
  (∀ g,G[i]?=some g→g v u')→(i=k→∃ g,v=.pointer (some ⟨g,0,none⟩)∧w.heap.size≤g∧Whole u' g zu z1.cells∧u.heap.size≤g)→(i=k+1→∃ g,v=.pointer (some ⟨g,0,none⟩)∧w.heap.size≤g∧Whole u' g zq z2.cells∧u.heap.size≤g) →
  PI L k slots G N a w d1 d2 zu zq z1.cells z2.cells (bg u1).toArray (bg u2).toArray (upd Lf i) b' u':=by
  intro i s v Lf b b' u u' I hi hs WQ hp hb hg hk1 hk2;have old:∀ {j s':Nat} {x:Value},slots[j]?=some s'→j≠i→At b s' x→At b' s' x:=fun h1 hne h2=>hp.old (by simpa using aei h1 hs hne) h2
  have hx2:upd Lf i (k+2)=Lf (k+2):=fW (by omega);have hx3:upd Lf i (k+3)=Lf (k+3):=fW (by omega);refine⟨hp.fr I.fr,I.inv.trans (hb.mono I.inv.size),?_,?_,?_,?_,?_,?_,?_⟩
  ·intro j hj uN s' g hs' hg';by_cases hji:j=i
   ·subst hji;obtain rfl:s=s':=atD (hs.symm.trans hs');exact⟨v,hp.now,hg g hg'⟩
   ·rw[fW hji] at uN;obtain⟨x,h1,h2⟩:=I.done j hj uN s' g hs' hg';exact⟨x,old hs' hji h1,(ZC j g hg').2 _ _ _ h2 hb⟩
  ·intro j x hj hx;have:j≠s:=fun e=>by rw[e,hin hs] at hj;cases hj
   exact hp.old (by simpa using this) (I.rest j x hj hx)
  ·intro h;rw[hx2] at h;exact upT (I.o1 h)
  ·intro h;rw[hx3] at h;exact upT (I.o2 h)
  ·intro h;by_cases hik:i=k
   ·subst hik;obtain rfl:s=d1:=atD (hs.symm.trans Xy);obtain⟨g,rfl,h1,h2,-⟩:=hk1 rfl
    have h3:Lf (i+2)=false:=by
     cases h4:Lf (i+2) with
     | false=>rfl
     | true=>rw[I.o1 h4] at WQ;cases WQ
    exact⟨g,hp.now,h1,by rw[hx2,h3];exact h2⟩
   ·rw[fW (Ne.symm hik)] at h;obtain⟨g,h1,h2,h3⟩:=I.one h;exact⟨g,old Xy (Ne.symm hik) h1,h2,by rw[hx2];exact Whole.under hb h3 h3.lt⟩
  ·intro h;by_cases hik:i=k+1
   ·subst hik;obtain rfl:s=d2:=atD (hs.symm.trans Xx);obtain⟨g,rfl,h1,h2,-⟩:=hk2 rfl
    have h3:Lf (k+3)=false:=by
     cases h4:Lf (k+3) with
     | false=>rfl
     | true=>rw[I.o2 h4] at WQ;cases WQ
    exact⟨g,hp.now,h1,by rw[hx3,h3];exact h2⟩
   ·rw[fW (Ne.symm hik)] at h;obtain⟨g,h1,h2,h3⟩:=I.two h;exact⟨g,old Xx (Ne.symm hik) h1,h2,by rw[hx3];exact Whole.under hb h3 h3.lt⟩
  ·intro ha hb' g h1 h2;by_cases hik:i=k
   ·subst hik;obtain rfl:s=d1:=atD (hs.symm.trans Xy);obtain⟨g',rfl,-,-,h5⟩:=hk1 rfl;rw[fW (by omega)] at hb';obtain⟨g2,h6,-,h7⟩:=I.two hb';obtain rfl:=ru (hp.now.Ri h1);obtain rfl:=ru ((old Xx (by omega) h6).Ri h2);have:=h7.lt;omega
   ·by_cases abt:i=k+1
    ·subst abt;obtain rfl:s=d2:=atD (hs.symm.trans Xx);obtain⟨g',rfl,-,-,h5⟩:=hk2 rfl;rw[fW (by omega)] at ha;obtain⟨g2,h6,-,h7⟩:=I.one ha;obtain rfl:=ru (hp.now.Ri h2);obtain rfl:=ru ((old Xy (by omega) h6).Ri h1);have:=h7.lt;omega
    ·rw[fW (Ne.symm hik)] at ha;rw[fW (Ne.symm abt)] at hb';obtain⟨x1,h3,-,-⟩:=I.one ha;obtain⟨x2,h4,-,-⟩:=I.two hb';obtain rfl:=ru ((old Xy (Ne.symm hik) h3).Ri h1);obtain rfl:=ru ((old Xx (Ne.symm abt) h4).Ri h2);exact I.ne ha hb' _ h3 h4
 have sto:∀ {Lf:Nat→Bool} {b:Act} {u u':World} {i g:Nat},PI L k slots G N a w d1 d2 zu zq z1.cells z2.cells (bg u1).toArray (bg u2).toArray Lf b u→w.heap.size≤g→vH u u' g→(i=k+2∧Lf k=true∧At b d1 (.pointer (some ⟨g,0,none⟩))∧Whole u' g zu (bg u1).toArray)∨(i=k+3∧Lf (k+1)=true∧At b d2 (.pointer (some ⟨g,0,none⟩))∧Whole u' g zq (bg u2).toArray) →
  PI L k slots G N a w d1 d2 zu zq z1.cells z2.cells (bg u1).toArray (bg u2).toArray (upd Lf i) b u':=by
  intro Lf b u u' i g I hg s hcase;refine⟨I.fr,I.inv.trans (s.below hg),?_,I.rest,?_,?_,?_,?_,?_⟩
  ·intro j hj uN s' g' hs' hg';rw[fW (by rcases hcase with⟨rfl,-⟩|⟨rfl,-⟩<;>omega)] at uN;obtain⟨x,h1,h2⟩:=I.done j hj uN s' g' hs' hg';obtain⟨v,rfl⟩:=Yg g' (atF hg');exact⟨x,h1,h2⟩
  ·intro h;rcases hcase with⟨rfl,hk,-⟩|⟨rfl,-⟩
   ·exact upT hk
   ·rw[fW (by omega)] at h;exact upT (I.o1 h)
  ·intro h;rcases hcase with⟨rfl,-⟩|⟨rfl,hk,-⟩
   ·rw[fW (by omega)] at h;exact upT (I.o2 h)
   ·exact upT hk
  ·intro h;rcases hcase with⟨rfl,hk,hat,hW⟩|⟨rfl,hk,hat,hW⟩
   ·exact⟨g,hat,hg,by rw[Ic,if_pos rfl];exact hW⟩
   ·rw[fW (by omega)] at h;obtain⟨x,h1,h2,h3⟩:=I.one h;refine⟨x,h1,h2,?_⟩;rw[fW (by omega)];exact s.whole h3 fun e=>I.ne h hk x h1 (e▸hat)
  ·intro h;rcases hcase with⟨rfl,hk,hat,hW⟩|⟨rfl,hk,hat,hW⟩
   ·rw[fW (by omega)] at h;obtain⟨x,h1,h2,h3⟩:=I.two h;refine⟨x,h1,h2,?_⟩;rw[fW (by omega)];exact s.whole h3 fun e=>I.ne hk h x (e▸hat) h1
   ·exact⟨g,hat,hg,by rw[Ic,if_pos rfl];exact hW⟩
  ·intro h1 h2;have hne:k≠i∧k+1≠i:=by rcases hcase with⟨rfl,-⟩|⟨rfl,-⟩<;>omega
   rw[fW hne.1] at h1;rw[fW hne.2] at h2;exact I.ne h1 h2
 intro i o ho Lf b u Q' I WQ jZ hK;have hil:=(atJ.1 ho).1;rw[hL] at hil;by_cases hik:i<k
 ·obtain⟨s,hs⟩:∃ s,slots[i]?=some s:=⟨_,atA (by omega)⟩;have hd:o.dst=some s:=by rw[← qA i o (by omega) ho,hs]
  refine FW (L.take k) G hst i o (by rw[List.getElem?_take,if_pos hik];exact ho) b u Q' I.fr I.inv (fun j ⟨gr,hj,hb⟩ s g hs hg=>?_) I.rest ?_
  ·have hji:j<i:=by have:=lE 0 L eS i o ho _ hj hb;simpa using this
   exact I.done j (by omega) (jZ _ hj hb) s g hs hg
  ·intro v b' u' hb hg hp;rw[hd] at hp;exact hK b' u' (put I (by omega) hs WQ hp hb (fun g h=>hg g h) (fun e=>by omega) (fun e=>by omega))
 ·by_cases h0:i=k
  ·subst h0;obtain rfl:a1=o:=atD (e1.symm.trans ho);exact Af (f:=fun n=>.pointer (some ⟨n,0,none⟩)) (jU g1) (uT p1 hz1) q1 I.fr (hN Xy) fun g b' u' n p=>atN (hK _ _ (put I (by omega) Xy WQ p n.below (fun g' hg'=>absurd (ZC _ _ hg').1 (by omega)) (fun _=>⟨g,rfl,n.at_▸I.inv.size,n.whole,n.at_▸Nat.le_refl _⟩) (fun e=>by omega)))
  ·by_cases h1:i=k+1
   ·subst h1;obtain rfl:a2=o:=atD (e2.symm.trans ho);exact Af (f:=fun n=>.pointer (some ⟨n,0,none⟩)) (jU g2) (uT p2 hz2) q2 I.fr (hN Xx) fun g b' u' n p=>atN (hK _ _ (put I (by omega) Xx WQ p n.below (fun g' hg'=>absurd (ZC _ _ hg').1 (by omega)) (fun e=>by omega) (fun _=>⟨g,rfl,n.at_▸I.inv.size,n.whole,n.at_▸Nat.le_refl _⟩)))
   ·by_cases h2:i=k+2
    ·subst h2;obtain rfl:s1=o:=atD (e3.symm.trans ho);obtain⟨hv,hk⟩:=hy1 b u Lf I jZ;obtain⟨g,hat,hge,hW⟩:=I.one hk;rw[WQ] at hW;have hsz:z1.cells.size=(bg u1).length:=by rw[← Array.length_toList,kY,n2,n1]
     exact pQ (jU g3) p3 hat.ev hv hW (kY u1) (by rw[Nat.zero_add,if_neg (by decide),hsz];exact Nat.le_refl _) ((zw hD1).trans (by rw[n1])) c1 rfl q3 fun u' s hW'=>atN (hK _ _ (sto I hge s (.inl ⟨rfl,hk,hat,by rw[if_neg (by decide)] at hW';rw[jm _ _ hsz] at hW';exact hW'⟩)))
    ·obtain rfl:i=k+3:=by omega
     obtain rfl:s2=o:=atD (e4.symm.trans ho);obtain⟨hv,hk⟩:=hy2 b u Lf I jZ;obtain⟨g,hat,hge,hW⟩:=I.two hk;rw[WQ] at hW;have hsz:z2.cells.size=(bg u2).length:=by rw[← Array.length_toList,kY,n4,n3]
     exact pQ (jU g4) p4 hat.ev hv hW (kY u2) (by rw[Nat.zero_add,if_neg (by decide),hsz];exact Nat.le_refl _) ((zw hD2).trans (by rw[n3])) c2 rfl q4 fun u' s hW'=>atN (hK _ _ (sto I hge s (.inr ⟨rfl,hk,hat,by rw[if_neg (by decide)] at hW';rw[jm _ _ hsz] at hW';exact hW'⟩)))
end
def slK:Nat→List Oper→(List Nat→Prop)→Prop
 | 0,_,f=>f []
 | k+1,o::r,f=>(match o.dst with|some d=>slK k r fun s=>f (d::s)|none=>False)
 | _+1,[],_=>False
theorem LK:∀ {k:Nat} {L:List Oper} {f:List Nat→Prop},slK k L f→k≤L.length∧(L.take k).map (fun o=>o.dst)=(iq k L).map some∧f (iq k L)
 | 0,_,_,h=>⟨Nat.zero_le _,by simp[iq],by simpa[iq,slK] using h⟩
 | k+1,o::r,f,h=>by
  unfold slK at h;split at h
  ·rename_i d hd;obtain⟨h1,h2,h3⟩:=LK h;have e:iq (k+1) (o::r)=d::iq k r:=by simp[iq,hd]
   rw[e];exact⟨by simpa using h1,by simp[hd,h2],h3⟩
  ·exact h.elim
 | _+1,[],_,h=>h.elim
def vr(B:Nat)(w0:World)(N:Nat)(L:List Oper)(l:Slots)(bs:List Bx)(rs:List Rw)(w:World)(K:Slots→List Bx→List Rw→World→Prop):Prop:=
 afo N L (dkN false [] L)=true∧slK (dkN false [] L) L fun ds=>VE ds l fun l'=>vd B w0 N l' bs rs w (vF B w0 N l' bs rs w K) (dkN false [] L) L 0 [] none [] false
section
variable {B:Nat} {w0 w:World} {N:Nat} {l:Slots} {bs:List Bx} {rs:List Rw} {K:Slots→List Bx→List Rw→World→Prop} {Q:Exit→Act→World→Prop} {a:Act} {id:Nat} {L:List Oper}
theorem Rx{m:List gi}{n:Nat}(h:jk m n){d j:Nat}(hj:j<n)(hu:∀ e∈m,e.j≠j){v:Value}:jk (⟨d,j,[],true,v⟩::m) n:=by
 have key:∀ x,(∃ e∈m,e.j=x.1)→(Cond (⟨d,j,[],true,v⟩::m) x↔Cond m x):=fun x ⟨e',h4,h5⟩=>by
  constructor
  ·rintro⟨e,he,h1,h2,h3⟩;rcases atB.1 he with rfl|he
   ·exact absurd (h5.trans h1.symm) (hu e' h4)
   ·exact⟨e,he,h1,h2,h3⟩
  ·rintro⟨e,he,h1⟩;exact⟨e,atC _ he,h1⟩
 refine⟨?_,?_,?_,?_⟩
 ·intro e he;rcases atB.1 he with rfl|he
  ·exact hj
  ·exact h.lt e he
 ·intro e he e' he' hjj;rcases atB.1 he with rfl|he<;>rcases atB.1 he' with rfl|he'
  ·rfl
  ·exact absurd hjj.symm (hu e' he')
  ·exact absurd hjj (hu e he)
  ·exact h.uniq e he e' he' hjj
 ·intro e he x hx;rcases atB.1 he with rfl|he
  ·cases hx
  ·obtain⟨e',h1,h2⟩:=h.pm e he x hx;exact⟨e',atC _ h1,h2⟩
 ·intro e he;rcases atB.1 he with rfl|he
  ·simp
  ·rw[h.tv e he];exact⟨fun h' x hx=>(key x (h.pm e he x hx)).2 (h' x hx),fun h' x hx=>(key x (h.pm e he x hx)).1 (h' x hx)⟩
theorem adr(F:Fs a N l)(M:aY B w0 w bs rs)(h:vr B w0 N L l bs rs w K)(next:∀ a l' bs' rs' w',Fs a N l'→aY B w0 w' bs' rs'→K l' bs' rs' w'→Q .normal a w'):(Code.region id L.toArray true).wp Tryz.prog Q a w:=by
 obtain⟨hok,h⟩:=h;obtain⟨hkl,hsl,h⟩:=LK h;obtain⟨l',h,hlk⟩:=BL h;generalize dkN false [] L=k at hok hkl hsl h hlk;generalize gG:iq k L=slots at hsl h hlk;unfold afo at hok;simp only[atP,decide_eq_true_eq,atO,gG] at hok;obtain⟨eS,htail,qA,jZ,hbd,hnd⟩:=hok
 have hlen:slots.length=k:=by
  have:=congrArg List.length hsl;simp only[atU,atQ] at this;omega
 have hat:∀ (i:Nat) (o:Oper),(L.take k)[i]?=some o→slots[i]?=o.dst:=fun i o hi=>by
  have h1:=congrArg (fun x=>x[i]?) hsl;simp only[atK,hi,Option.map_some] at h1
  cases hs:slots[i]? with
  | none=>rw[hs] at h1;cases h1
  | some s=>rw[hs] at h1;exact(atD h1).symm
 have rP:∀ (i s:Nat),slots[i]?=some s→(L.toArray[i]?).bind (fun o=>o.dst)=some s:=fun i s hs=>by
  have hi:i<k:=hlen▸(atJ.1 hs).1;have hiL:i<L.length:=Nat.lt_of_lt_of_le hi hkl;have h1:(L.take k)[i]?=some L[i]:=by rw[List.getElem?_take,if_pos hi,atA hiL]
  have h2:=hat i _ h1;rw[hs] at h2;simp[hiL,← h2]
 have hl':∀ q v,look q l'=some v→slots.contains q=false∧look q l=some v:=fun q v hq=>by
  rw[hlk] at hq
  cases hm:jl q slots with
  | true=>rw[hm] at hq;cases hq
  | false=>
   rw[hm] at hq;refine⟨?_,hq⟩
   cases hc:slots.contains q with
   | false=>rfl
   | true=>
    have:q∈slots:=by simpa using hc
    rw[nV.2 this] at hm;cases hm
 have F0:Fs a N l':=⟨F.fr,fun q v hq=>F.at_ q v (hl' q v hq).2⟩
 obtain⟨G,m,al,rel,us,hla,ZC,hst,hF,hv⟩:=Y2 (ops:=L.toArray) M hnd rP (fun q v hq=>(hl' q v hq).1) F0 (gp:=[]) h ⟨⟨.nil 0,rfl,by simp⟩,(fun _ h=>by cases h),(fun _ _ i h=>absurd h (Nat.not_lt_zero i)),(fun _ h=>by cases h),.nil⟩
  (fun i o hi=>⟨jZ o (atF hi),by rw[Nat.zero_add];exact hat i o hi⟩) hkl trivial
 rw[List.nil_append] at hla hst hF;rw[Nat.zero_add] at hF hv;refine pP k slots G (atG w.heap.size w) (by kernel_rfl) eS htail hsl hnd (by simpa using hbd) (by rw[ZC,hlen]) F.fr (Below.refl _ _).drew (fun _ _ h hb=>h.trans (hb.mono h.size)) hla ?_ ?_
 ·exact hst
 ·intro a' w' D;have hgood:∀ (i s:Nat) (g:Good),slots[i]?=some s→G[i]?=some g→∃ v,At a' s v∧g v w':=fun i s g hs hg=>D.done i rfl s g hs hg
  have I0:Inv L.toArray a' N l' m k:=by
   refine⟨D.fr,hF.D.L,fun e he=>rP _ _ (hF.D.at_ e he).1,fun e he=>?_,fun q v _ hq=>D.rest q v (hl' q v hq).1 (F0.at_ q v hq)⟩;obtain⟨v,h1,rfl⟩:=hgood _ _ _ (hF.D.at_ e he).1 (hF.D.at_ e he).2;exact h1
  have hrest:∀ i o,(L.drop k)[i]?=some o→L.toArray[k+i]?=some o:=fun i o hi=>by simpa using hi
  have hput:∀ {m':List gi} {d j:Nat} {v:Value},Inv L.toArray a' N l' m' k→j<k→(∀ e∈m',e.j≠j)→slots[j]?=some d→At a' d v→Inv L.toArray a' N l' (⟨d,j,[],true,v⟩::m') k:=by
   intro m' d j v I0 c4 c5 c1 h1;refine⟨I0.fr,Rx I0.L c4 c5,?_,?_,?_⟩
   ·intro e he;rcases atB.1 he with rfl|he
    ·exact rP _ _ c1
    ·exact I0.dst e he
   ·intro e he;rcases atB.1 he with rfl|he
    ·exact h1
    ·exact I0.at_ e he
   ·intro q u hq hl;exact I0.base q u (fun e he=>hq e (atC _ he)) hl
  have hfin:∀ {rel':List kQ} {m':List gi} {P:Option (World→Prop)} {f:List gi→Option (World→Prop)→Prop},Inv L.toArray a' N l' m' k→(∀ A∈rel',A.j<k∧slots[A.j]?=some A.d∧(∀ e∈m',e.j≠A.j)∧(∀ C,al=some C→C.j≠A.j)∧∃ u,At a' A.d u∧A.R u w')→(rel'.map (·.j)).Nodup→(∀ C,al=some C→∀ e∈m',e.j≠C.j)→(∀ p,P=some p→p w')→aaI rel' m' P f →
   ∃ m'' P',f m'' P'∧(∀ p,P'=some p→p w')∧Inv L.toArray a' N l' m'' k∧∀ C,al=some C→∀ e∈m'',e.j≠C.j:=by
   intro rel'
   induction rel' with
   | nil=>intro m' P f I _ _ hC hP h;exact⟨m',P,h,hP,I,hC⟩
   | cons A r ih=>
    intro m' P f I hA hn hC hP h;obtain⟨d,j,R⟩:=A;obtain⟨hfr,h⟩:=bJ h;obtain⟨b4,b1,b5,b6,u,k1,k2⟩:=hA _ (atE ..);rw[List.map_cons,List.nodup_cons] at hn;refine ih (hput I b4 b5 b1 k1) (fun A' hA'=>?_) hn.2 (fun C hC' e he=>?_) (fun p hp=>?_) (h u)
    ·obtain⟨c4,c1,c5,c6,c7⟩:=hA A' (atC _ hA');refine⟨c4,c1,fun e he=>?_,c6,c7⟩;rcases atB.1 he with rfl|he
     ·exact fun e=>hn.1 (aty.2 ⟨A',hA',e.symm⟩)
     ·exact c5 e he
    ·rcases atB.1 he with rfl|he
     ·exact fun e=>b6 C hC' e.symm
     ·exact hC C hC' e he
    ·cases P with
     | none=>obtain rfl:=atD hp;exact k2
     | some q=>obtain rfl:=atD hp;exact⟨k2,hP q rfl⟩
  obtain⟨m',P',k1,k2,I1,hC⟩:=hfin I0 (fun A hA=>by
   obtain⟨b1,b2,b4,b5,b6⟩:=hF.L4 A hA;exact⟨b4,b1,b5,b6,hgood _ _ _ b1 b2⟩) hF.wv (fun C hC e he=>(hF.al_ C hC).2.2.2.2 e he) (fun _ h=>by cases h) hv
  cases al with
  | none=>exact EL hrest I1 (M.keep D.inv) (uK (k1 w') k2 D.inv (M.keep D.inv)) next
  | some A=>
   obtain⟨d,j,ty,cs,s⟩:=A;obtain⟨c1,c2,c3,c4,c5⟩:=hF.al_ _ rfl;obtain⟨hfr,k1⟩:=bJ k1;obtain⟨v,h1,g,rfl,h2,h3⟩:=hgood _ _ _ c1 c2;have M':=M.newAt D.inv h2 h3 c3;exact EL hrest (hput I1 c4 (hC _ rfl) c1 h1) M' (uK (k1 g w') k2 D.inv M') next
end
def kP:List Oper→Nat
 | _::y::z::u::v::r=>kP (y::z::u::v::r)+1
 | _=>0
def vp(B:Nat)(w0:World)(N:Nat)(L:List Oper)(l:Slots)(bs:List Bx)(rs:List Rw)(w:World)(K:Slots→List Bx→List Rw→World→Prop):Prop:=
 adG N L (kP L)=true∧slK (kP L+2) L fun ds=>VE ds l fun l'=>vd B w0 N l' bs rs w (vP B w0 N l' bs rs w K) (kP L) L 0 [] none [] false
section
variable {B:Nat} {w0 w:World} {N:Nat} {l:Slots} {bs:List Bx} {rs:List Rw} {K:Slots→List Bx→List Rw→World→Prop} {Q:Exit→Act→World→Prop} {a:Act} {id:Nat} {L:List Oper}
theorem Jj{P:Program}{ops:Array Oper}{I:(Nat→Bool)→Act→World→Prop}{l:List Oper}
 (h:∀ (i:Nat) (o:Oper),l[i]?=some o→∀ (Lf:Nat→Bool) (b:Act) (u:World) (Q':Exit→Act→World→Prop),I Lf b u→Lf i=false→(∀ e∈o.after.toList,Region.binds .any e=true→Lf e.on=true)→(∀ b u,I (upd Lf i) b u→Q' .normal b u)→wpList P ops Q' [o] b u) :
 ∀ (r:List Oper) (m:Nat),(∀ i o,r[i]?=some o→l[m+i]?=some o)→jj P ops I m r:=by
 intro r
 induction r with
 | nil=>intro m _;trivial
 | cons o r ih=>
  intro m hr;refine⟨h m o (hr 0 o rfl),ih (m+1) fun i o' ho'=>?_⟩;have:=hr (i+1) o' (by simpa using ho')
  rwa [show m+1+i=m+(i+1) by omega]
theorem ads(F:Fs a N l)(M:aY B w0 w bs rs)(h:vp B w0 N L l bs rs w K)(next:∀ a l' bs' rs' w',Fs a N l'→aY B w0 w' bs' rs'→K l' bs' rs' w'→Q .normal a w'):(Code.region id L.toArray true).wp Tryz.prog Q a w:=by
 obtain⟨hok,h⟩:=h;obtain⟨hkl,hsl,h⟩:=LK h;obtain⟨l',h,hlk⟩:=BL h;generalize kP L=k at hok hkl hsl h hlk;generalize gG:iq (k+2) L=slots at hsl h hlk;unfold adG at hok;simp only[atP,decide_eq_true_eq,atO,gG] at hok;obtain⟨eS,qA,jZ,hbd,hnd,hlen,hgd,O3⟩:=hok
 have Zm:slots.length=k+2:=by
  have:=congrArg List.length hsl;simp only[atU,atQ] at this;omega
 have Vi:∀ (i:Nat) (o:Oper),i<k+2→L[i]?=some o→slots[i]?=o.dst:=fun i o hi ho=>by
  have h1:=congrArg (fun x=>x[i]?) hsl;simp only[atK,List.getElem?_take,if_pos hi,ho,Option.map_some] at h1
  cases hs:slots[i]? with
  | none=>rw[hs] at h1;cases h1
  | some s=>rw[hs] at h1;exact(atD h1).symm
 have rP:∀ (i s:Nat),slots[i]?=some s→(L.toArray[i]?).bind (fun o=>o.dst)=some s:=fun i s hs=>by
  have hi:i<k+2:=Zm▸(atJ.1 hs).1;have hiL:i<L.length:=by omega
  have h2:=Vi i _ hi (atA hiL);rw[hs] at h2;simp[hiL,← h2]
 have hl':∀ q v,look q l'=some v→slots.contains q=false∧look q l=some v:=fun q v hq=>by
  rw[hlk] at hq
  cases hm:jl q slots with
  | true=>rw[hm] at hq;cases hq
  | false=>
   rw[hm] at hq;refine⟨?_,hq⟩
   cases hc:slots.contains q with
   | false=>rfl
   | true=>
    have:q∈slots:=by simpa using hc
    rw[nV.2 this] at hm;cases hm
 have F0:Fs a N l':=⟨F.fr,fun q v hq=>F.at_ q v (hl' q v hq).2⟩
 obtain⟨G,m,al,rel,us,hla,ZC,hst,hF,hv⟩:=Y2 (ops:=L.toArray) M hnd rP (fun q v hq=>(hl' q v hq).1) F0 (gp:=[]) h ⟨⟨.nil 0,rfl,by simp⟩,(fun _ h=>by cases h),(fun _ _ i h=>absurd h (Nat.not_lt_zero i)),(fun _ h=>by cases h),.nil⟩
  (fun i o hi=>⟨jZ o (atF hi),by
   have hik:i<k:=by have:=(atJ.1 hi).1;rw[atQ] at this;omega
   rw[Nat.zero_add];exact Vi i o (by omega) (by rw[List.getElem?_take,if_pos hik] at hi;exact hi)⟩) (by omega) trivial
 rw[List.nil_append] at hla hst hF;rw[Nat.zero_add] at hF hv;replace hv:vP B w0 N l' bs rs w K (L.drop k) k m al rel us:=hv;unfold vP at hv;split at hv
 case h_2=>exact hv.elim
 rename_i a1 a2 s1 s2 Zr;split at hv
 case h_2=>exact hv.elim
 rename_i zu zq t1 x1 y1 t2 x2 y2 p1 p2 p3 p4;obtain⟨d1,q1,b1,b1',hv⟩:=iC hv;obtain⟨d2,q2,b2,b2',hv⟩:=iC hv;obtain⟨hx1,hv⟩:=bJ hv;obtain⟨hx2,hv⟩:=bJ hv;obtain rfl:=atT hx1;obtain rfl:=atT hx2;split at hv
 case h_2=>exact hv.elim
 rename_i q3 q4;obtain⟨z1,z2,⟨hz1,hz2⟩,hv⟩:=hv;obtain⟨u1,r1,hv⟩:=cA hv;obtain⟨u2,r2,hv⟩:=cA hv;obtain⟨D1,hD1,hv⟩:=jP hv;obtain⟨D2,hD2,hv⟩:=jP hv;obtain⟨t9,hv⟩:=bJ hv;obtain⟨t9',hv⟩:=bJ hv;obtain⟨n1,hv⟩:=iF hv;obtain⟨n2,hv⟩:=iF hv;obtain⟨n3,hv⟩:=iF hv;obtain⟨n4,⟨c1,c2⟩,hv⟩:=iF hv;have at_:∀ i o,(L.drop k)[i]?=some o→L[k+i]?=some o:=fun i o hi=>by simpa using hi
 rw[Zr] at at_ hgd;have e1:=at_ 0 a1 rfl;have e2:=at_ 1 a2 rfl;have e3:=at_ 2 s1 rfl;have e4:=at_ 3 s2 rfl;have g1:a1.guard=none:=by have:=hgd a1 (by simp);simpa[pOp] using this
 have g2:a2.guard=none:=by have:=hgd a2 (by simp);simpa[pOp] using this
 have g3:s1.guard=none:=by have:=hgd s1 (by simp);simpa[pOp] using this
 have g4:s2.guard=none:=by have:=hgd s2 (by simp);simpa[pOp] using this
 have hd2:L.drop (k+2)=[s1,s2]:=by rw[← List.drop_drop,Zr];rfl
 rw[hd2] at O3
 have Yg:∀ g∈G,∃ v,g=bZ v:=fun g hg=>by
  obtain⟨i,hi⟩:=List.getElem?_of_mem hg;obtain⟨e,he,rfl⟩:=hF.cov rfl rfl i (ZC▸(atJ.1 hi).1);have:=(hF.D.at_ e he).2;rw[hi] at this;exact⟨_,atD this⟩
 have Xy:slots[k]?=some x1:=by rw[Vi k a1 (by omega) e1,q1]
 have Xx:slots[k+1]?=some x2:=by rw[Vi (k+1) a2 (by omega) e2,q2]
 have ev:∀ {y:Operand} {u:Value} {s:Oper},Et l' m [] y u→s∈[s1,s2]→y∈iz s.op→∀ (b:Act) (u':World) (Lf:Nat→Bool),PI L k slots G N a w x1 x2 zu zq z1.cells z2.cells (bg u1).toArray (bg u2).toArray Lf b u'→(∀ e∈s.after.toList,Region.binds .any e=true→Lf e.on=true)→b.eval y=u:=by
  intro y u s O1 hs hy b u' Lf I hdp
  cases y with
  | tmp q=>
   rcases O1 with⟨e,he,rfl,rfl,hsub⟩|⟨h1,h2⟩
   ·have ht:e.t=true:=(hF.D.L.tv e he).2 fun y hy=>absurd (zy hsub y hy) (by simp)
    obtain⟨f1,f2⟩:=hF.D.at_ e he;obtain⟨gr,f3,f4⟩:=FX (O3 s hs) hnd f1 hy;obtain⟨v,f5,rfl⟩:=I.done e.j (hF.D.L.lt e he) (hdp _ f3 f4) _ _ f1 f2;exact(f5.on ht).ev
   ·exact(I.rest q u (hl' q u h2).1 (F0.at_ q u h2)).ev
  | const c=>exact O1
  | global=>exact O1.elim
  | func f=>exact O1
 refine fV (by kernel_rfl) eS (PI L k slots G N a w x1 x2 zu zq z1.cells z2.cells (bg u1).toArray (bg u2).toArray) ?_ (Jj (Me hlen hnd Zm (fun s hs=>by simpa using hbd s hs) ZC Yg hst eS Vi e1 e2 e3 e4 p1 p2 p3 p4 g1 g2 g3 g4 q1 q2 q3 q4 hz1 hz2 hD1 hD2 n1 n2 n3 n4 c1 c2
  (fun b u Lf I hdp=>⟨ev r1 (by simp) (by rw[p3];simp[iz]) b u Lf I hdp,by obtain⟨gr,f3,f4⟩:=FX (O3 s1 (by simp)) hnd Xy (by rw[p3];simp[iz]);exact hdp _ f3 f4⟩)
  (fun b u Lf I hdp=>⟨ev r2 (by simp) (by rw[p4];simp[iz]) b u Lf I hdp,by obtain⟨gr,f3,f4⟩:=FX (O3 s2 (by simp)) hnd Xx (by rw[p4];simp[iz]);exact hdp _ f3 f4⟩)) L 0 (fun i o ho=>by simpa using ho)) ?_
 ·exact⟨F.fr,(Below.refl _ _).drew,(fun _ _ h=>by cases h),fun _ _ _ h=>h,(fun h=>by cases h),(fun h=>by cases h),(fun h=>by cases h),(fun h=>by cases h),fun h=>by cases h⟩
 ·intro Lf a' w' I hall;obtain⟨v1,f1,f2,f3⟩:=I.one (hall _ (by omega));obtain⟨v2,f4,f5,f6⟩:=I.two (hall _ (by omega));rw[if_pos (hall _ (by omega))] at f3 f6;have hne:v1≠v2:=fun e=>I.ne (hall _ (by omega)) (hall _ (by omega)) v1 f1 (e▸f4)
  have M':aY B w0 w' ((v1,zu,(bg u1).toArray)::(v2,zq,(bg u2).toArray)::bs) rs:=M.Fg I.inv (b1:=(v1,zu,(bg u1).toArray)) (b2:=(v2,zq,(bg u2).toArray)) (.inl ⟨t9,f3⟩) f2 (.inl ⟨t9',f6⟩) f5 hne
  have I0:Inv L.toArray a' N l' m k:=by
   refine⟨I.fr,hF.D.L,fun e he=>rP _ _ (hF.D.at_ e he).1,fun e he=>?_,fun q v _ hq=>I.rest q v (hl' q v hq).1 (F0.at_ q v hq)⟩;obtain⟨v,h1,rfl⟩:=I.done e.j (hF.D.L.lt e he) (hall _ (by have:=hF.D.L.lt e he;omega)) _ _ (hF.D.at_ e he).1 (hF.D.at_ e he).2;exact h1
  obtain⟨l'',k1,F'⟩:=I0.fsK (hv v1 v2 w' I.inv M');exact next _ _ _ _ _ ((F'.add f4).add f1) M' k1
end
abbrev KK:=Exit→Slots→List Bx→List Rw→World→Prop
def doK:List Oper→List Nat→(List Nat→Prop)→Prop
 | [],acc,f=>f acc
 | o::r,acc,f=>(match o.dst with|some d=>doK r (d::acc) f|none=>doK r acc f)
theorem V8{f:List Nat→Prop}:∀ {L:List Oper} {acc:List Nat},doK L acc f→∃ ds,f ds
 | [],acc,h=>⟨acc,h⟩
 | o::r,acc,h=>by
  unfold doK at h;split at h<;>exact V8 h
def Yy:Code→List Nat→(List Nat→Prop)→Prop
 | .region _ ops _,acc,f=>doK ops.toList acc f
 | .seq a b,acc,f=>Yy a acc fun acc=>Yy b acc f
 | .cond _ a b,acc,f=>Yy a acc fun acc=>Yy b acc f
 | .block _ c,acc,f=>Yy c acc f
 | .loop c,acc,f=>Yy c acc f
 | _,acc,f=>f acc
theorem qN:∀ {c:Code} {acc:List Nat} {f:List Nat→Prop},Yy c acc f→∃ ds,f ds
 | .region _ _ _,_,_,h=>V8 h
 | .seq a b,_,_,h=>by obtain⟨_,h⟩:=qN (c:=a) h;exact qN (c:=b) h
 | .cond _ a b,_,_,h=>by obtain⟨_,h⟩:=qN (c:=a) h;exact qN (c:=b) h
 | .block _ c,_,_,h=>qN (c:=c) h
 | .loop c,_,_,h=>qN (c:=c) h
 | .skip,_,_,h=>⟨_,h⟩
 | .rangeFunc _ _ _ _,_,_,h=>⟨_,h⟩
 | .exit _,_,_,h=>⟨_,h⟩
 | .scope _,_,_,h=>⟨_,h⟩
 | .label _,_,_,h=>⟨_,h⟩
 | .goto _,_,_,h=>⟨_,h⟩
 | .ret,_,_,h=>⟨_,h⟩
 | .refuse _,_,_,h=>⟨_,h⟩
def Zh:List Nat→Slots→(Slots→Prop)→Prop
 | _,[],f=>f []
 | ds,(s,v)::r,f=>bif jl s ds then Zh ds r f else Zh (s::ds) r fun l=>f ((s,v)::l)
theorem wS:∀ {l:Slots} {ds:List Nat} {f:Slots→Prop},Zh ds l f→∃ l',f l'∧(∀ q v,look q l'=some v→look q l=some v)∧∀ q∈ds,look q l'=none
 | [],ds,f,h=>⟨[],h,fun _ _ h=>h,fun _ _=>rfl⟩
 | (s,v)::r,ds,f,h=>by
  unfold Zh at h
  cases hm:jl s ds with
  | true=>
   rw[hm] at h;obtain⟨l',h1,h2,h3⟩:=wS h;refine⟨l',h1,fun q u hq=>?_,h3⟩;rw[bI]
   cases e:q == s with
   | true=>
    have e':q=s:=by simpa using e
    rw[h3 q (e'▸nV.1 hm)] at hq;cases hq
   | false=>exact h2 q u hq
  | false=>
   rw[hm] at h;obtain⟨l',h1,h2,h3⟩:=wS h;refine⟨_,h1,fun q u hq=>?_,fun q hq=>?_⟩
   ·rw[bI] at hq ⊢
    cases e:q == s with
    | true=>rw[e] at hq;exact hq
    | false=>rw[e] at hq;exact h2 q u hq
   ·rw[bI]
    cases e:q == s with
    | true=>
     have e':q=s:=by simpa using e
     rw[nV.2 (e'▸hq)] at hm;cases hm
    | false=>exact h3 q (atC _ hq)
def apS:Slots→Slots→Slots
 | [],r=>r
 | x::l,r=>x::apS l r
theorem I9{q:Nat}{r:Slots}:∀ {l:Slots} {v:Value},look q (apS l r)=some v→look q l=some v∨look q r=some v
 | [],_,h=>.inr h
 | (s,u)::l,v,h=>by
  rw[apS,bI] at h;rw[bI]
  cases e:q == s with
  | true=>rw[e] at h;exact .inl h
  | false=>rw[e] at h;exact I9 h
theorem Fs.kept{a:Act}{N:Nat}{l C kl:Slots}(F:Fs a N l)(hs:Sub l C)(hk:∀ q v,look q kl=some v→look q l=some v):Fs a N (apS C kl):=by
 refine⟨F.fr,fun q v h=>?_⟩;rcases I9 h with h|h
 ·exact(F.sub hs).at_ q v h
 ·exact F.at_ q v (hk q v h)
def fid:Code→Option Nat
 | .region id _ _=>some id
 | .seq a b=>(match fid a with|some i=>some i|none=>fid b)
 | .block _ c=>fid c
 | .loop c=>fid c
 | .cond _ a _=>fid a
 | _=>none
def jn(i:Option Nat)(J:List Nat):Bool:=match i with
 | some i=>jl i J
 | none=>false
def inS(B:Nat)(w0:World){ι:Type}(C:ι→Slots)(zk:ι→List Bx)(vE:ι→List Rw)(R:ι→World→Prop)(l:Slots)(bs:List Bx)(rs:List Rw)(w:World)(x:ι):Prop:=
 Sub l (C x)∧(aY B w0 w bs rs→aY B w0 w (zk x) (vE x)∧R x w)
section
variable (B:Nat) (w0:World) (N:Nat) (J:List Nat)
def Ti:Code→Slots→List Bx→List Rw→World→KK→Prop
 | .skip,l,bs,rs,w,K=>K .normal l bs rs w
 | .label _,l,bs,rs,w,K=>K .normal l bs rs w
 | .exit id,l,bs,rs,w,K=>K (.exit id) l bs rs w
 | .ret,l,bs,rs,w,K=>K .ret l bs rs w
 | .region id ops dr,l,bs,rs,w,K=>(match dr with
  | false=>vc B w0 N l ops.toList 0 [] bs rs w (K .normal)
  | true=>vr B w0 N ops.toList l bs rs w (K .normal)∨vp B w0 N ops.toList l bs rs w (K .normal) ∨
   (∀ (a:Act) (Q:Exit→Act→World→Prop),Fs a N l→aY B w0 w bs rs→(∀ a' l' bs' rs' w',Fs a' N l'→aY B w0 w' bs' rs'→K .normal l' bs' rs' w'→Q .normal a' w')→(Code.region id ops true).wp Tryz.prog Q a w))
 | .seq x y,l,bs,rs,w,K=>bif jn (fid y) J then
  Yy x [] fun ds=>Zh ds l fun kl=>∃ (ι:Type) (C:ι→Slots) (zk:ι→List Bx) (vE:ι→List Rw) (R:ι→World→Prop),
   Ti x l bs rs w (fun e l' bs' rs' w'=>match e with
    | .normal=>Zh ds l' fun kl'=>kl'=kl∧∃ x,inS B w0 C zk vE R l' bs' rs' w' x
    | e=>K e l' bs' rs' w') ∧
   ∀ x w',aY B w0 w' (zk x) (vE x)→R x w'→Ti y (apS (C x) kl) (zk x) (vE x) w' K
  else Ti x l bs rs w fun e l' bs' rs' w'=>match e with
   | .normal=>Ti y l' bs' rs' w' K
   | e=>K e l' bs' rs' w'
 | .cond c x y,l,bs,rs,w,K=>qm l [] [] c fun v=>match v with
  | .bool b=>(b=true→Ti x l bs rs w K)∧(b=false→Ti y l bs rs w K)
  | _=>False
 | .block id c,l,bs,rs,w,K=>Ti c l bs rs w fun e l' bs' rs' w'=>match e with
  | .exit i=>bif Nat.beq i id then K .normal l' bs' rs' w' else K (.exit i) l' bs' rs' w'
  | e=>K e l' bs' rs' w'
 | .loop c,l,bs,rs,w,K=>Yy c [] fun ds=>Zh ds l fun kl=>∃ (ι:Type) (C:ι→Slots) (zk:ι→List Bx) (vE:ι→List Rw) (R:ι→World→Prop) (μ:ι→Nat) (x:ι),
  inS B w0 C zk vE R l bs rs w x ∧
  ∀ x w',aY B w0 w' (zk x) (vE x)→R x w'→Ti c (apS (C x) kl) (zk x) (vE x) w' fun e l' bs' rs' w''=>match e with
   | .normal=>Zh ds l' fun kl'=>kl'=kl∧∃ x',inS B w0 C zk vE R l' bs' rs' w'' x'∧μ x'<μ x
   | e=>K e l' bs' rs' w''
 | _,_,_,_,_,_=>False
end
theorem aaq{B:Nat}{w0:World}{N:Nat}{J:List Nat}:∀ {c:Code} {l:Slots} {bs:List Bx} {rs:List Rw} {w:World} {K:KK} {Q:Exit→Act→World→Prop} {a:Act},Ti B w0 N J c l bs rs w K→Fs a N l→aY B w0 w bs rs →
 (∀ e a l bs rs w,Fs a N l→aY B w0 w bs rs→K e l bs rs w→Q e a w)→c.wp Tryz.prog Q a w:=by
 intro c
 induction c with
 | skip=>intro l bs rs w K Q a h F M hQ;exact wp_skip (hQ _ _ _ _ _ _ F M h)
 | label=>intro l bs rs w K Q a h F M hQ;exact wp_label (hQ _ _ _ _ _ _ F M h)
 | exit=>intro l bs rs w K Q a h F M hQ;exact wp_exit (hQ _ _ _ _ _ _ F M h)
 | ret=>intro l bs rs w K Q a h F M hQ;exact wp_ret (hQ _ _ _ _ _ _ F M h)
 | region id ops dr=>
  intro l bs rs w K Q a h F M hQ
  cases dr with
  | false=>exact wp_region_list (Y3 (ops:=ops) (fun i o hi=>by simpa using hi) (Inv.start F) M h fun a l' bs' rs' w' F' M' hk=>hQ _ _ _ _ _ _ F' M' hk)
  | true=>
   rcases h with h|h|h
   ·have:=adr (id:=id) F M h (Q:=Q) fun a l' bs' rs' w' F' M' hk=>hQ _ _ _ _ _ _ F' M' hk
    rwa [Array.toArray_toList] at this
   ·have:=ads (id:=id) F M h (Q:=Q) fun a l' bs' rs' w' F' M' hk=>hQ _ _ _ _ _ _ F' M' hk
    rwa [Array.toArray_toList] at this
   ·exact h a Q F M fun a l' bs' rs' w' F' M' hk=>hQ _ _ _ _ _ _ F' M' hk
 | seq x y ihx ihy=>
  intro l bs rs w K Q a h F M hQ;unfold Ti at h
  cases hj:jn (fid y) J with
  | false=>
   rw[hj] at h;refine wp_seq (ihx h F M fun e a l' bs' rs' w' F' M' hk=>?_)
   cases e with
   | normal=>exact ihy hk F' M' hQ
   | _=>exact hQ _ _ _ _ _ _ F' M' hk
  | true=>
   rw[hj] at h;obtain⟨ds,h⟩:=qN h;obtain⟨kl,⟨ι,C,zk,vE,R,h1,h2⟩,-,-⟩:=wS h;refine wp_seq (ihx h1 F M fun e a l' bs' rs' w' F' M' hk=>?_)
   cases e with
   | normal=>
    obtain⟨kl',⟨rfl,x,hs,hR⟩,hkl,-⟩:=wS hk;obtain⟨M',hR⟩:=hR M';exact ihy (h2 x w' M' hR) (F'.kept hs hkl) M' hQ
   | _=>exact hQ _ _ _ _ _ _ F' M' hk
 | cond c x y ihx ihy=>
  intro l bs rs w K Q a h F M hQ;obtain⟨v,h1,h⟩:=cA h;have hv:a.eval c=v:=(Inv.start (ops:=#[]) F).E h1 (by simp)
  cases v with
  | bool b=>exact wp_cond_split hv (fun hb=>ihx (h.1 hb) F M hQ) (fun hb=>ihy (h.2 hb) F M hQ)
  | _=>exact h.elim
 | block id c ih=>
  intro l bs rs w K Q a h F M hQ;refine wp_block (ih h F M fun e a l' bs' rs' w' F' M' hk=>?_)
  cases e with
  | exit i=>
   show if i=id then Q .normal a w' else Q (.exit i) a w'
   have hk:bif Nat.beq i id then K .normal l' bs' rs' w' else K (.exit i) l' bs' rs' w':=hk
   cases hb:Nat.beq i id with
   | true=>
    rw[hb] at hk;rw[if_pos (atT hb)];exact hQ _ _ _ _ _ _ F' M' hk
   | false=>
    rw[hb] at hk;rw[if_neg fun e=>by rw[e,Nat.beq_refl] at hb;cases hb];exact hQ _ _ _ _ _ _ F' M' hk
  | _=>exact hQ _ _ _ _ _ _ F' M' hk
 | loop c ih=>
  intro l bs rs w K Q a h F M hQ;obtain⟨ds,h⟩:=qN h;obtain⟨kl,⟨ι,C,zk,vE,R,μ,x,⟨hs,hR⟩,h2⟩,hkl,-⟩:=wS h;obtain⟨M,hR⟩:=hR M;refine eH (fun x a w=>Fs a N (apS (C x) kl)∧aY B w0 w (zk x) (vE x)∧R x w) μ x ⟨F.kept hs hkl,M,hR⟩ ?_;rintro x a w ⟨F,M,hR⟩;refine ih (h2 x w M hR) F M fun e a l' bs' rs' w' F' M' hk=>?_
  cases e with
  | normal=>
   obtain⟨kl',⟨rfl,x',⟨hs,hR⟩,hμ⟩,hkl,-⟩:=wS hk;obtain⟨M',hR⟩:=hR M';exact⟨x',⟨F'.kept hs hkl,M',hR⟩,hμ⟩
  | _=>exact hQ _ _ _ _ _ _ F' M' hk
 | rangeFunc=>intro l bs rs w K Q a h;exact h.elim
 | scope=>intro l bs rs w K Q a h;exact h.elim
 | goto=>intro l bs rs w K Q a h;exact h.elim
 | refuse=>intro l bs rs w K Q a h;exact h.elim
def rsK(l:Slots):List ResultVar→(List Value→Prop)→Prop
 | [],f=>f []
 | .tmp s::r,f=>(match look s l with|some v=>rsK l r fun vs=>f (v::vs)|none=>False)
 | _::_,_=>False
theorem TN{a:Act}{N:Nat}{l:Slots}(F:Fs a N l):∀ {rv:List ResultVar} {f:List Value→Prop},rsK l rv f→∃ vs,f vs∧CO (fun r v=>∃ s,r=.tmp s∧At a s v) rv vs
 | [],_,h=>⟨[],h,.nil⟩
 | .tmp s::r,f,h=>by
  unfold rsK at h;split at h
  ·rename_i v hv;obtain⟨vs,h1,h2⟩:=TN F h;exact⟨_,h1,.cons ⟨s,rfl,F.at_ s v hv⟩ h2⟩
  ·exact h.elim
 | .cell _ _::_,_,h=>h.elim
def mE:List Value→Value
 | [v]=>v
 | vs=>.tuple vs.toArray
def Wi(bs:List Bx)(g n:Nat)(k:List Value→Prop):Prop:=∃ i,sZ bs i fun b=>bif Nat.blt b.2.1 9000 then b.1=g∧qx b.2.2.toList n (k b.2.2.toList) else False
def Pq(l:Slots)(bs:List Bx)(s:Nat)(ty:TypeId)(k:List Value→Prop):Prop:=match look s l with
 | some v=>E6 v False fun g off=>bif Nat.beq off 0 then C5 ty (fun D=>match D with|.st n _=>Wi bs g n k|.arr n _ m=>Wi bs g (n*m) k|_=>False) TT else False
 | none=>False
theorem Ki{bs:List Bx}{rs:List Rw}{g n:Nat}{k:List Value→Prop}{B:Nat}{w0 w:World}(M:aY B w0 w bs rs)(h:Wi bs g n k):∃ t cs,Whole w g t cs∧n=cs.size∧k cs.toList:=by
 obtain⟨i,hq⟩:=h;obtain⟨⟨b,T,cs⟩,hb,hq1⟩:=gN hq;obtain⟨hT,h2,hq2⟩:=bJ hq1;obtain⟨hl,hq3⟩:=iF hq2;obtain rfl:b=g:=h2;exact⟨T,cs,M.b i hb hT,by rw[← hl,Array.length_toList],hq3⟩
theorem Kj{l:Slots}{bs:List Bx}{rs:List Rw}{s:Nat}{ty:TypeId}{k:List Value→Prop}{B:Nat}{w0 w:World}(M:aY B w0 w bs rs)(h:Pq l bs s ty k):
 ∃ (g:Nat) (cs:Array Value),look s l=some (.pointer (some ⟨g,0,none⟩))∧(loadVar ty ⟨g,0,none⟩).run Tryz.prog w=.ok (.agg cs) w∧k cs.toList:=by
 unfold Pq at h;split at h
 ·rename_i v hv;rcases oG h with⟨g,off,rfl,hq⟩|h
  case inr=>exact h.elim
  obtain⟨h0,hq'⟩:=bJ hq;obtain rfl:off=0:=atT h0;obtain⟨D,hD,hq⟩:=jP hq';split at hq
  ·obtain⟨t,cs,hW,hn,hk⟩:=Ki M hq;obtain⟨fs,hu,hs,-⟩:=Ts hD;exact⟨_,_,hv,run_loadVar_row w g t ty cs (0,0) (.struct fs) hW hu rfl (by rw[hs,hn]),hk⟩
  ·obtain⟨t,cs,hW,hn,hk⟩:=Ki M hq;obtain⟨hu,-,hs⟩:=Lx hD;exact⟨_,_,hv,run_loadVar_row w g t ty cs (0,0) _ hW hu rfl (by rw[hs,hn]),hk⟩
  ·exact hq.elim
 ·exact h.elim
def XD(B:Nat)(w0:World)(R:Ending→World→Prop)(l:Slots)(bs:List Bx)(rs:List Rw)(w:World):List ResultVar→Prop
 | [.cell s ty]=>Pq l bs s ty fun cs=>aY B w0 w bs rs→R (.returned (.agg cs.toArray)) w
 | [.cell s ty,.tmp u]=>(match look u l with|some v=>Pq l bs s ty fun cs=>aY B w0 w bs rs→R (.returned (.tuple #[.agg cs.toArray,v])) w|none=>False)
 | L=>bif Nat.ble L.length 3 then rsK l L fun vs=>aY B w0 w bs rs→R (.returned (mE vs)) w else False
def agU(fn:Func)(B:Nat)(w0:World)(R:Ending→World→Prop):KK:=fun e l bs rs w=>match e with
 | .normal=>XD B w0 R l bs rs w fn.results.toList
 | .ret=>XD B w0 R l bs rs w fn.results.toList
 | _=>False
theorem XC{fn:Func}{R:Ending→World→Prop}{a:Act}{w:World}{N:Nat}(h3:Nat.ble fn.results.toList.length 3=true)(hf:Fr a N){vs:List Value}(h:CO (fun r v=>∃ s,r=.tmp s∧At a s v) fn.results.toList vs)(hR:R (.returned (mE vs)) w):bodyPost Tryz.prog fn R .ret a w:=by
 generalize hl:fn.results.toList=L at h h3;have hres:fn.results=L.toArray:=by rw[← hl]
 clear hl
 match h with
 | .nil=>exact Oa hres hf hR
 | .cons ⟨s,e,h1⟩ .nil=>subst e;exact S8 hres hf h1 hR
 | .cons ⟨s,e,h1⟩ (.cons ⟨s',e',h2⟩ .nil)=>subst e e';exact N_ hres hf h1 h2 hR
 | .cons ⟨s,e,h1⟩ (.cons ⟨s',e',h2⟩ (.cons ⟨s'',e'',h4⟩ .nil))=>subst e e' e'';exact W7 hres hf h1 h2 h4 hR
 | .cons _ (.cons _ (.cons _ (.cons _ _)))=>simp at h3
theorem OC{fn:Func}{R:Ending→World→Prop}{a:Act}{N:Nat}{l:Slots}{bs:List Bx}{rs:List Rw}{B:Nat}{w0 w:World}(F:Fs a N l)(M:aY B w0 w bs rs)(h:XD B w0 R l bs rs w fn.results.toList):bodyPost Tryz.prog fn R .ret a w:=by
 generalize hL:fn.results.toList=L at h;unfold XD at h;split at h
 ·rename_i s ty;have hr:fn.results=#[.cell s ty]:=by rw[← Array.toList_inj,hL]
  obtain⟨g,cs,hv,hl,h⟩:=Kj M h;refine⟨F.fr.defers,_,?_,h M⟩;have h2:a.tmps.getD s undef=.pointer (some ⟨g,0,none⟩):=F.e s hv;rw[atW] at h2;simp[results,hr,h2,asAddr,hl]
 ·rename_i s ty u;have hr:fn.results=#[.cell s ty,.tmp u]:=by rw[← Array.toList_inj,hL]
  split at h
  ·rename_i v hv2;obtain⟨g,cs,hv,hl,h⟩:=Kj M h;refine⟨F.fr.defers,_,?_,h M⟩;have h2:a.tmps.getD s undef=.pointer (some ⟨g,0,none⟩):=F.e s hv;have k2:a.tmps.getD u undef=v:=F.e u hv2;rw[atW] at h2 k2;simp[results,hr,h2,k2,asAddr,hl]
  ·exact h.elim
 ·subst hL;obtain⟨h3,hk⟩:=bJ h;obtain⟨vs,h1,h2⟩:=TN F hk;exact XC h3 F.fr h2 (h1 M)
theorem cL{f:FuncId}{fn:Func}{c:Code}{N:Nat}(J:List Nat){vs:List Value}{R:Ending→World→Prop}{w0:World}(hf:Tryz.prog.funcs[f]?=some fn)(hb:fn.body=some c)(hn:fn.ntmps=N)(hN:Nat.ble vs.length N=true)
 (h:Ti w0.heap.size w0 N J c (ens 0 vs) [] [] w0 (agU fn w0.heap.size w0 R)):Calls Tryz.prog f vs.toArray w0 R:=by
 refine en hf hb hn (by simpa using hN) rfl fun a F=>aaq h F (Mm.start w0) fun e a l bs rs w F M hk=>?_
 cases e with
 | normal=>exact aan (OC F M hk)
 | ret=>exact OC F M hk
 | _=>exact hk.elim
theorem an{p q:Prop}(h:p)(k:q):p∧q:=⟨h,k⟩
theorem ei{α:Sort _}{p:α→Prop}{x:α}(h:p x):∃ x,p x:=⟨x,h⟩
theorem ia{p:Nat→Nat→Nat→Prop}{b off i:Nat}(h:p b off i):∃ b off i,p b off i:=⟨b,off,i,h⟩
theorem lb{p:Nat→Prop}{X:Prop}(i:Nat)(h:p i):(∃ i,p i)∨X:=.inl ⟨i,h⟩
theorem lc{α:Type}{p:α→Prop}{X:Prop}{x:α}(h:p x):X∨∃ x,p x:=.inr ⟨x,h⟩
theorem cl{p:Value→Prop}{X:Prop}{v:Value}(h:p v):(∃ v,p v)∨X:=.inl ⟨v,h⟩
theorem cg{p:(Value→World→Prop)→Prop}{X:Prop}{R:Value→World→Prop}(h:p R):X∨∃ R,p R:=.inr ⟨R,h⟩
theorem cw{B:Nat}{w0 w:World}{bs:List Bx}{rs:List Rw}{X:Prop}{f:FuncId}{args:Array Value}{e kk n:Nat}{xs:List Value}{K:Value→List Bx→List Rw→World→Prop}(M:aY B w0 w bs rs)
 (hc:Calls Tryz.prog f args w fun r w'=>∃ u,r=.returned u∧(w'.ownsRow w.heap.size e kk u n xs∧atG w.heap.size w w')) (h:∀ u w',aY B w0 w' bs (⟨u,e,kk,n,xs⟩::rs)→K u bs (⟨u,e,kk,n,xs⟩::rs) w') :
 X∨∃ R:Value→World→Prop,(Calls Tryz.prog f args w fun e w'=>∃ v,e=.returned v∧R v w')∧∀ v w',R v w'→∃ bs' rs',aY B w0 w' bs' rs'∧K v bs' rs' w':=
 .inr ⟨_,hc,fun u w' hR=>⟨_,_,M.BG (r:=⟨u,e,kk,n,xs⟩) hR.2 hR.1,h u w' (M.BG (r:=⟨u,e,kk,n,xs⟩) hR.2 hR.1)⟩⟩
theorem dr{p q X:Prop}(h:p)(k:q):(p∧q)∨X:=.inl ⟨h,k⟩
theorem dp{p q X Y:Prop}(h:p)(k:q):X∨(p∧q)∨Y:=.inr (.inl ⟨h,k⟩)
theorem cr{X Y Z:Prop}{p:(Value→World→Prop)→Prop}(R:Value→World→Prop)(h:p R):X∨Y∨(∃ R,p R)∨Z:=.inr (.inr (.inl ⟨R,h⟩))
theorem cv{X Y Z:Prop}{p:(Value→World→Prop)→Prop}(R:Value→World→Prop)(h:p R):X∨Y∨Z∨∃ R,p R:=.inr (.inr (.inr ⟨R,h⟩))
theorem cu{X Y:Prop}{p:Value→Prop}{v:Value}(h:p v):X∨(∃ v,p v)∨Y:=.inr (.inl ⟨v,h⟩)
theorem kB{a:Act}{x:Operand}{xs:List Operand}{v:Value}{vs:List Value}:vJ a (x::xs) (v::vs)→a.eval x=v
 | .cons h _=>h
theorem qX{a:Act}{x y:Operand}{xs:List Operand}{u v:Value}{vs:List Value}:vJ a (x::y::xs) (u::v::vs)→a.eval y=v
 | .cons _ (.cons h _)=>h
theorem ajq{a:Act}{x y z:Operand}{xs:List Operand}{u v s:Value}{vs:List Value}:vJ a (x::y::z::xs) (u::v::s::vs)→a.eval z=s
 | .cons _ (.cons _ (.cons h _))=>h
theorem bl{p q:Prop}(h:p):p∨q:=.inl h
theorem br{X:Prop}{p:(Value→World→Prop)→Prop}(R:Value→World→Prop)(h:p R):X∨∃ R,p R:=.inr ⟨R,h⟩
def acO(w:World)(e:TypeId)(R:Value→World→Prop):Value→World→Prop:=fun v w2=>∃ u g,v=.slice (some ⟨g,0,none⟩) 1 1∧Whole w2 g e #[u]∧w.heap.size≤g∧u.ownBlock≠some g∧R u w2
theorem MI{w:World}{e:TypeId}{R:Value→World→Prop}(h:eN R):eN (acO w e R):=fun _ _ _ ⟨u,g,h1,h2,h3,h5,h4⟩ hb=>⟨u,g,h1,Whole.under hb h2 h2.lt,h3,h5,h _ _ _ h4 hb⟩
theorem b1{B:Nat}{w0 w:World}{bs:List Bx}{rs:List Rw}{t e b:Nat}{x:Operand}{R:Value→World→Prop}{u:Value}(hR:eN R)(h1:∀ u w,R u w→u.cells=#[u])(h2:∀ u w q,R u w→u.ownBlock=some q→q<w.heap.size)(hD:jo Tryz.prog t (.sl e 1 b)=true):
 ∀ (w1:World) (a:Act) (o':Oper),atG w.heap.size w w1→aY B w0 w1 bs rs→R u w1→o'.op=.buildSlice t 1 #[(0,x)]→vJ a (iz (.buildSlice t 1 #[(0,x)])) [u] →
  ∃ v w2,(execOp a.eval o').run Tryz.prog w1=.ok (.value v) w2∧acO w e R v w2∧atG w1.heap.size w1 w2:=fun w1 a o' hb _ hu hop ou=>by
 have hc:=h1 u w1 hu;have hr:=q7 (w:=w1) hop hD rfl rfl (by decide) (by decide) ou (by simp[hc]);have hbl:atG w1.heap.size w1 (w1.alloc (.cells ([u].flatMap fun v=>v.cells.toList).toArray e)):=(Below.refl _ w1).alloc (Nat.le_refl _) _;have hl:([u].flatMap fun v=>v.cells.toList).toArray=#[u]:=by simp[hc]
 refine⟨_,_,hr,⟨u,w1.heap.size,rfl,hl▸Whole.new w1 e _,hb.size,fun hq=>Nat.lt_irrefl _ (h2 u w1 _ hu hq),hR _ _ _ hu hbl⟩,hbl⟩
def Ds(w:World)(e n:Nat)(cs:List Value):Value→World→Prop:=fun v w2=>∃ g,v=.slice (some ⟨g,0,none⟩) n n∧Whole w2 g e cs.toArray∧w.heap.size≤g
theorem lM{w:World}{e n:Nat}{cs:List Value}:eN (Ds w e n cs):=fun _ _ _ ⟨g,h1,h2,h3⟩ hb=>⟨g,h1,Whole.under hb h2 h2.lt,h3⟩
theorem bK{w:World}{t e kk b len:Nat}{parts:Array (Nat×Operand)}{vs:List Value}{p:World→Prop}(hD:jo Tryz.prog t (.sl e kk b)=true)(hp:sV 0 parts.toList=true)(hl:parts.toList.length=len)(h0:0<len*kk)(h1:len*kk≤2^24)(hc:∀ v∈vs,v.cells.size=kk){cs:List Value}(hcs:(vs.flatMap fun v=>v.cells.toList)=cs)
 (w1:World) (a:Act) (o':Oper) (hb:atG w.heap.size w w1) (_:p w1) (hop:o'.op=.buildSlice t len parts) (ou:vJ a (iz (.buildSlice t len parts)) vs) :
  ∃ v w2,(execOp a.eval o').run Tryz.prog w1=.ok (.value v) w2∧Ds w e len cs v w2∧atG w1.heap.size w1 w2:=by
 subst hcs;exact⟨_,_,q7 (w:=w1) hop hD hp hl h0 h1 ou hc,⟨w1.heap.size,rfl,Whole.new w1 e _,hb.size⟩,(Below.refl _ w1).alloc (Nat.le_refl _) _⟩
theorem aY.perm{B:Nat}{w0 w:World}{bs:List Bx}{rs rs':List Rw}(M:aY B w0 w bs rs)(hp:rs.Perm rs'):aY B w0 w bs rs':=by
 refine⟨M.below,M.le,M.old,M.box,M.lo,M.nd,fun r h=>M.row r (hp.mem_iff.2 h),fun r h=>M.far r (hp.mem_iff.2 h),(hp.pairwise_iff fun {r s} h=>?_).1 M.wv⟩;rcases h with h|h
 ·cases hs:s.v.ownBlock with
  | none=>exact .inl rfl
  | some q=>exact .inr (by rw[h];simp)
 ·exact .inr fun e=>h e.symm
theorem aY.XS{B:Nat}{w0 w w':World}{bs:List Bx}{rs:List Rw}(M:aY B w0 w bs rs)(hb:atG w.heap.size w w'){g:Nat}{t:TypeId}{cs:Array Value}(h:Whole w' g t cs)(hg:w.heap.size≤g){r:Rw}(ho:w'.ownsRow w.heap.size r.e r.k r.v r.n r.xs)(hne:r.v.ownBlock≠some g)(ht:Nat.blt t 9000=true:=by rfl):
 aY B w0 w' ((g,t,cs)::bs) (r::rs):=by
 refine(M.newAt hb h hg ht).G1 (oH ho M.big) ?_ ?_
 ·intro b hb' e;rcases atB.1 hb' with rfl|hb'
  ·exact hne e
  ·have:=(ho.lt _ e).1;have:=(M.box b hb').lt;omega
 ·intro s hs
  cases hso:r.v.ownBlock with
  | none=>exact .inl rfl
  | some q=>
   refine .inr fun e=>?_
   have h1:=(ho.lt q hso).1;have h2:=((M.row s hs).lt q (by rw[← e])).2;omega
theorem sr{X Y:Prop}{B:Nat}{w0:World}{rs:List Rw}{D:TD}{g off e n cap:Nat}{xs:List Value}{v:Value}{k:List Rw→Prop}(i j:Nat)(h:rs[i]?=some ⟨.slice (some ⟨g,0,none⟩) n cap,e,iW D,n,xs⟩∧off=j*iW D∧j<n)(h1:(bg v).all (·.oneCell')=true)
 (h2:qx (bg v) (iW D) (AF rs i ⟨.slice (some ⟨g,0,none⟩) n cap,e,iW D,n,xs.take off++bg v++xs.drop (off+iW D)⟩ k)) (hW:Nat.beq e 52=false∨w0.heap.size≤B:=by first|exact .inl rfl|exact .inr (Nat.le_refl _)):X∨stR B w0 rs D g off v k∨Y:=
 .inr (.inl ⟨i,j,e,n,cap,xs,h,h1,hW,h2⟩)
theorem mz{B:Nat}{w0 w:World}{bs:List Bx}{rs:List Rw}{t e ty b n:Nat}{z:Value}{x y:Operand}{κ κ':IntKind}{l:Int}{K:Value→List Bx→List Rw→World→Prop}(M:aY B w0 w bs rs)(hu:Tryz.prog.underlying t=some (.slice e))(hi:iP (Tryz.prog.info? e) 1 b=true)(hz:(Tryz.prog.info? e).bind (·.zero)=some z)(h1:z.cells=#[z])(hl:l=(n:Int))(hb:b*n≤281474976710656∧n≤maxLen)
 (h:∀ g w',aY B w0 w' bs (⟨.slice (some ⟨g,0,none⟩) n n,e,1,n,List.replicate n z⟩::rs)→K (.slice (some ⟨g,0,none⟩) n n) bs (⟨.slice (some ⟨g,0,none⟩) n n,e,1,n,List.replicate n z⟩::rs) w') :
 ∃ R:Value→World→Prop,(∀ (a:Act) (o':Oper),o'.op=.makeSlice t x y→o'.type=ty→vJ a (iz (.makeSlice t x y)) [.int κ l,.int κ' l]→∃ v w',(execOp a.eval o').run Tryz.prog w=.ok (.value v) w'∧R v w')∧∀ v w',R v w'→∃ bs' rs',aY B w0 w' bs' rs'∧K v bs' rs' w':=by
 subst hl;obtain⟨i,z',i1,i2,i3,i4,i5⟩:=ng hi;rw[i1] at hz;have hzz:i.zero=some z:=hz;obtain⟨w',hr,ho,hg⟩:=run_make_full (P:=Tryz.prog) w w.heap.size t e i z 1 hu i1 hzz i3 κ κ' n (by rw[i4];exact hb.1) hb.2 (Nat.le_refl _);rw[h1,Nat.mul_one,toList_madeCells_one] at ho;have hB:atG w.heap.size w w':=(Below.refl w.heap.size w).grown hg (Nat.le_refl _) (fun q hq=>by cases hq);refine⟨fun v w''=>v=.slice (some ⟨w.heap.size,0,none⟩) n n∧w''=w',fun a o' hop _ ou=>⟨_,_,?_,rfl,rfl⟩,?_⟩
 ·unfold execOp;simp[hop,kB ou,qX ou,hr]
 ·rintro v w'' ⟨rfl,rfl⟩;have M':=M.BG (r:=⟨.slice (some ⟨w.heap.size,0,none⟩) n n,e,1,n,List.replicate n z⟩) hB ho;exact⟨_,_,M',h _ _ M'⟩
theorem ap{B:Nat}{w0 w:World}{bs RO:List Bx}{rs Qo:List Rw}{u v:Value}{e kk Pt nn mm:Nat}{xs news:List Value}{k:Value→List Bx→List Rw→World→Prop}(i:Nat)(hM:aY B w0 w bs rs→aY B w0 w RO Qo)(hr:Qo[i]?=some ⟨v,e,kk,nn,xs⟩)(hs:SliceAt w u kk mm news)
 (hb:nn+mm≤maxLen∧(nn+mm)*Pt≤140737488355328) (h:∀ v' w',AF Qo i ⟨v',e,kk,nn+mm,xs++news⟩ fun rs'=>aY B w0 w' RO rs'→k v' RO rs' w') (hW:Nat.beq e 52=false∨w0.heap.size≤B:=by first|exact .inl rfl|exact .inr (Nat.le_refl _)):apO B w0 bs rs w u v e kk Pt k:=
 ⟨RO,Qo,i,nn,xs,mm,news,hM,hr,hs,hb,hW,h⟩
theorem lp{p:(ι:Type)→(ι→Slots)→(ι→List Bx)→(ι→List Rw)→(ι→World→Prop)→(ι→Nat)→ι→Prop}{ι:Type}(C:ι→Slots)(zk:ι→List Bx)(vE:ι→List Rw)(R:ι→World→Prop)(μ:ι→Nat)(x:ι)(h:p ι C zk vE R μ x):
 ∃ (ι:Type) (C:ι→Slots) (zk:ι→List Bx) (vE:ι→List Rw) (R:ι→World→Prop) (μ:ι→Nat) (x:ι),p ι C zk vE R μ x:=⟨ι,C,zk,vE,R,μ,x,h⟩
theorem lq{p:(ι:Type)→(ι→Slots)→(ι→List Bx)→(ι→List Rw)→(ι→World→Prop)→(ι→Nat)→ι→Prop}{ι:Type}(C:ι→Slots){bs:List Bx}(vE:ι→List Rw)(R:ι→World→Prop)(μ:ι→Nat)(x:ι)(h:p ι C (fun _=>bs) vE R μ x):
 ∃ (ι:Type) (C:ι→Slots) (zk:ι→List Bx) (vE:ι→List Rw) (R:ι→World→Prop) (μ:ι→Nat) (x:ι),p ι C zk vE R μ x:=⟨ι,C,_,vE,R,μ,x,h⟩
theorem lr{p:(ι:Type)→(ι→Slots)→(ι→List Bx)→(ι→List Rw)→(ι→World→Prop)→(ι→Nat)→ι→Prop}{ι:Type}(C:ι→Slots){bs:List Bx}{rs:List Rw}(R:ι→World→Prop)(μ:ι→Nat)(x:ι)(h:p ι C (fun _=>bs) (fun _=>rs) R μ x):
 ∃ (ι:Type) (C:ι→Slots) (zk:ι→List Bx) (vE:ι→List Rw) (R:ι→World→Prop) (μ:ι→Nat) (x:ι),p ι C zk vE R μ x:=⟨ι,C,_,_,R,μ,x,h⟩
theorem bk{B:Nat}{w0 w:World}{ι:Type}{C:ι→Slots}{zk:ι→List Bx}{vE:ι→List Rw}{R:ι→World→Prop}{l kl:Slots}{bs:List Bx}{rs:List Rw}{μ:ι→Nat}{m:Nat}(x:ι)(hs:Sub l (C x))(hM:aY B w0 w bs rs→aY B w0 w (zk x) (vE x)∧R x w)(hm:μ x<m):
 kl=kl∧∃ x,inS B w0 C zk vE R l bs rs w x∧μ x<m:=⟨rfl,x,⟨hs,hM⟩,hm⟩
end Go.Proofs.YtdcofoaihmongaaGreat

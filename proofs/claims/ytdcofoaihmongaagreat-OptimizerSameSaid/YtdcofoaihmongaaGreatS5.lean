import Derived.Ground.Names2Prog
import Derived.Shelf.Slices.CompactS
import Derived.Shelf.Slices.In.SortNone
import Derived.Shelf.Sort.Plain
import Derived.Sort.OwnSorted
import Derived.Test.YtdcofoaihmongaaGreatS4
open Bool renaming and_eq_true→awy
open Go renaming wp_seq_k→awq,wpList_nil→awr
open Go.RowKit renaming Below→awp
open Int renaming toNat_of_nonneg→awz
open List renaming length_map→awj,mem_append→awl,mem_singleton→awm,length_append→awn,mem_map→awo,getElem?_eq_some_iff→aws,getElem?_eq_getElem→awt,mem_of_getElem?→awv,mem_cons→aww,mem_cons_self→awx,mem_cons_of_mem→awA,length_take→awB,take_length→awC,flatMap_append→awD,all_eq_true→awE
open Nat renaming le_trans→awk,zero_le→awu
open Option.some renaming inj→awF
set_option maxRecDepth 100000
set_option maxHeartbeats 8000000
namespace Go.Proofs.YtdcofoaihmongaaGreat
open Go Go.Proofs Go.Shelf
def JY:Go.Shelf.Ren:=⟨fun|190=>269|125=>208|258=>296|128=>262|129=>263|302=>307|303=>308|304=>309|305=>310|306=>311|307=>312|308=>313|309=>314|310=>315|333=>319|329=>290|330=>291|334=>320|335=>321|336=>322|344=>325|n=>n,fun|31=>28|9=>9|3=>3|46=>246|0=>0|51=>50|53=>52|4=>4|183=>325|182=>324|131=>161|5=>5|218=>352|222=>356|228=>362|229=>363|n=>n,fun|n=>n⟩
theorem PW:Go.Proofs.Lays.n190 Tryz.prog JY:={
 mixed:=by kernel_rfl
 f125:=Tryz.func208.trans (congrArg some (by kernel_rfl))
 f128:=Tryz.func262.trans (congrArg some (by kernel_rfl))
 f129:=Tryz.func263.trans (congrArg some (by kernel_rfl))
 f190:=Tryz.func269.trans (congrArg some (by kernel_rfl))
 f258:=Tryz.func296.trans (congrArg some (by kernel_rfl))
 f302:=Tryz.func307.trans (congrArg some (by kernel_rfl))
 f303:=Tryz.func308.trans (congrArg some (by kernel_rfl))
 f304:=Tryz.func309.trans (congrArg some (by kernel_rfl))
 f305:=Tryz.func310.trans (congrArg some (by kernel_rfl))
 f306:=Tryz.func311.trans (congrArg some (by kernel_rfl))
 f307:=Tryz.func312.trans (congrArg some (by kernel_rfl))
 f308:=Tryz.func313.trans (congrArg some (by kernel_rfl))
 f309:=Tryz.func314.trans (congrArg some (by kernel_rfl))
 f310:=Tryz.func315.trans (congrArg some (by kernel_rfl))
 f329:=Tryz.func290.trans (congrArg some (by kernel_rfl))
 f330:=Tryz.func291.trans (congrArg some (by kernel_rfl))
 f333:=Tryz.func319.trans (congrArg some (by kernel_rfl))
 f334:=Tryz.func320.trans (congrArg some (by kernel_rfl))
 f335:=Tryz.func321.trans (congrArg some (by kernel_rfl))
 f336:=Tryz.func322.trans (congrArg some (by kernel_rfl))
 f344:=Tryz.func325.trans (congrArg some (by kernel_rfl))
 t0:=Tryz.underlying0
 a0:=Tryz.isAgg0
 z0:=Tryz.sizeOf0
 v0:=Tryz.zeroValue0
 t3:=Tryz.underlying3
 a3:=Tryz.isAgg3
 z3:=Tryz.sizeOf3
 v3:=Tryz.zeroValue3
 t4:=Tryz.underlying4
 a4:=Tryz.isAgg4
 z4:=Tryz.sizeOf4
 v4:=Tryz.zeroValue4
 t5:=Tryz.underlying5
 a5:=Tryz.isAgg5
 z5:=Tryz.sizeOf5
 v5:=Tryz.zeroValue5
 t9:=Tryz.underlying9
 a9:=Tryz.isAgg9
 z9:=Tryz.sizeOf9
 v9:=Tryz.zeroValue9
 t31:=Tryz.underlying28
 a31:=Tryz.isAgg28
 z31:=Tryz.sizeOf28
 v31:=Tryz.zeroValue28
 t46:=Tryz.underlying246
 a46:=Tryz.isAgg246
 z46:=Tryz.sizeOf246
 v46:=Tryz.zeroValue246
 t51:=Tryz.underlying50
 a51:=Tryz.isAgg50
 z51:=Tryz.sizeOf50
 v51:=Tryz.zeroValue50
 t53:=Tryz.underlying52
 a53:=Tryz.isAgg52
 z53:=Tryz.sizeOf52
 v53:=Tryz.zeroValue52
 t131:=Tryz.underlying161
 a131:=Tryz.isAgg161
 z131:=Tryz.sizeOf161
 v131:=Tryz.zeroValue161
 t182:=Tryz.underlying324
 a182:=Tryz.isAgg324
 z182:=Tryz.sizeOf324
 v182:=Tryz.zeroValue324
 t183:=Tryz.underlying325
 a183:=Tryz.isAgg325
 z183:=Tryz.sizeOf325
 v183:=Tryz.zeroValue325
 t218:=Tryz.underlying352
 a218:=Tryz.isAgg352
 z218:=Tryz.sizeOf352
 v218:=Tryz.zeroValue352
 t222:=Tryz.underlying356
 a222:=Tryz.isAgg356
 z222:=Tryz.sizeOf356
 v222:=Tryz.zeroValue356
 t228:=Tryz.underlying362
 a228:=Tryz.isAgg362
 z228:=Tryz.sizeOf362
 v228:=Tryz.zeroValue362
 t229:=Tryz.underlying363
 a229:=Tryz.isAgg363
 z229:=Tryz.sizeOf363
 v229:=Tryz.zeroValue363 }
def JX:Go.Shelf.Ren:=⟨fun|194=>270|n=>n,fun|31=>28|9=>9|3=>3|4=>4|0=>0|n=>n,fun|n=>n⟩
theorem PV:Go.Proofs.Lays.n194 Tryz.prog JX:={
 mixed:=by kernel_rfl
 f194:=Tryz.func270.trans (congrArg some (by kernel_rfl))
 t0:=Tryz.underlying0
 a0:=Tryz.isAgg0
 z0:=Tryz.sizeOf0
 v0:=Tryz.zeroValue0
 t3:=Tryz.underlying3
 a3:=Tryz.isAgg3
 z3:=Tryz.sizeOf3
 v3:=Tryz.zeroValue3
 t4:=Tryz.underlying4
 a4:=Tryz.isAgg4
 z4:=Tryz.sizeOf4
 v4:=Tryz.zeroValue4
 t9:=Tryz.underlying9
 a9:=Tryz.isAgg9
 z9:=Tryz.sizeOf9
 v9:=Tryz.zeroValue9
 t31:=Tryz.underlying28
 a31:=Tryz.isAgg28
 z31:=Tryz.sizeOf28
 v31:=Tryz.zeroValue28 }
open Go.Sort Go.RowKit in
theorem slices_Sort_string(blk off cap:Nat)(ss:List (List UInt8))(w:World)(hH:Holds encStr w blk off ss.toArray)(hblk:blk<w.heap.size)(hsz:ss.length<4611686018427387904):
 Calls Tryz.prog 269 #[.slice (some ⟨blk,off,none⟩) ss.length cap] w fun e w'=>e=.returned (.tuple #[])∧∃ n os,w'=grow (putRow encStr (Sort.ahead w n) blk off (ss.mergeSort fun x y=>decide (x≤y)).toArray) os:=Any.slices_Sort_string PW blk off cap ss w hH hblk hsz
theorem slices_Sort_string_none(p:Option Addr)(cap:Nat)(w:World):
 Calls Tryz.prog 269 #[.slice p 0 cap] w fun e w'=>e=.returned (.tuple #[])∧w'=w:=Any.slices_Sort_string_none PW p cap w
open Go.Sort Go.RowKit in
theorem slices_Compact_string(blk off cap:Nat)(zs:List (List UInt8))(w:World)(hH:Holds encStr w blk off zs.toArray)(hsz:zs.length≤9223372036854775807)(hcap:zs.length≤cap):
 Calls Tryz.prog 270 #[.slice (some ⟨blk,off,none⟩) zs.length cap] w fun e w'=>e=.returned (.slice (some ⟨blk,off,none⟩) (Lib.compact zs).length cap)∧∃ q,w'=putRow encStr (Sort.ahead w q) blk off (Lib.compact zs++List.replicate (zs.length-(Lib.compact zs).length) []).toArray:=Any.slices_Compact_string PV blk off cap zs w hH hsz hcap
theorem slices_Compact_string_empty(a:Option Addr)(cap:Nat)(w:World):
 Calls Tryz.prog 270 #[.slice a 0 cap] w fun e w'=>e=.returned (.slice a 0 cap)∧w'=w:=Any.slices_Compact_string_empty PV a cap w
open Go.Sort Go.RowKit
def dM(s:ByteArray):List UInt8:=s.data.toList
def Yc(b:List UInt8):ByteArray:=⟨b.toArray⟩
theorem ot(s:ByteArray):Yc (dM s)=s:=by cases s;simp[Yc,dM]
def uQ(l:List ByteArray):List ByteArray:=((l.map dM).mergeSort fun x y=>decide (x≤y)).map Yc
def mI(l:List ByteArray):List ByteArray:=(Lib.compact (l.map dM)).map Yc
theorem Fj(l:List ByteArray):l.flatMap aT=(l.map dM).map encStr:=by
 induction l with
 | nil=>rfl
 | cons s l ih=>rw[List.flatMap_cons,List.map_cons,List.map_cons,← ih];show Value.string s::_=Value.string (Yc (dM s))::_;rw[ot];rfl
theorem Fg(l:List (List UInt8)):(l.map Yc).flatMap aT=l.map encStr:=by
 induction l with
 | nil=>rfl
 | cons s l ih=>rw[List.map_cons,List.flatMap_cons,List.map_cons,← ih];rfl
theorem S_(w:World)(base:Nat)(v:Value)(n:Nat)(l:List ByteArray)(hn:n=l.length)(h:w.ownsRow base 9 1 v n (l.flatMap aT))(hz:n≤100000001):
 Calls Tryz.prog 269 #[v] w fun e w'=>∃ z,e=.returned z∧w'.ownsRow base 9 1 v n ((uQ l).flatMap aT)∧w.grownBy w' v.ownBlock:=by
 subst hn;unfold uQ;rw[Fj] at h;rw[Fg];rcases h.2 with⟨rfl,h0⟩|⟨g,cap,cur,rfl,hg,hh,h1,h2,h3,h4⟩
 ·have:l=[]:=List.eq_nil_of_length_eq_zero h0;subst this;refine(slices_Sort_string_none none 0 w).mono ?_;rintro e w' ⟨rfl,rfl⟩;exact⟨_,rfl,by simpa using h,World.grownBy.refl _ _⟩
 ·have hl:(l.map dM).length=l.length:=awj ..;rw[← hl] at h1 ⊢;refine(slices_Sort_string g 0 cap (l.map dM) w (holds_of_block hh (by rw[Nat.mul_one,← hl] at h4;exact h4)) (Array.getElem?_eq_some_iff.1 hh).1 (by rw[hl];omega)).mono ?_;rintro e w' ⟨rfl,n,os,rfl⟩;exact⟨_,rfl,ownsRow_sorted (List.length_mergeSort _) hg hh h1 h2 h3,grownBy_sorted _⟩
theorem zZ:∀ l:List (List UInt8),(Lib.compact l).length≤l.length:=fun l=>by
 unfold Lib.compact Lib.compactUpTo;rw[awj];exact awk (List.length_filter_le _ _) (by rw[List.length_range];omega)
theorem kI(d:Array (List UInt8))(x:List UInt8):∀ m,(x∈Lib.compactUpTo d m↔∃ j,j<m∧d[j]! = x)
 | 0=>by simp[Lib.compactUpTo]
 | m+1=>by
  rw[Lib.compactUpTo_succ,awl,kI d x m];constructor
  ·rintro(⟨j,hj,h⟩|h)
   ·exact⟨j,by omega,h⟩
   ·split at h
    ·exact⟨m,by omega,(awm.1 h).symm⟩
    ·cases h
  ·rintro⟨j,hj,h⟩;by_cases hk:Lib.keeps d m=true
   ·by_cases hjm:j=m
    ·subst hjm;right;rw[if_pos hk];exact awm.2 h.symm
    ·exact .inl ⟨j,by omega,h⟩
   ·left;by_cases hjm:j=m
    ·subst hjm;have h3:¬ (j=0∨d[j]!≠d[j-1]!):=fun h4=>hk (decide_eq_true h4)
     have h4:j≠0:=fun e=>h3 (.inl e)
     have h5:d[j]! = d[j-1]!:=Classical.byContradiction fun e=>h3 (.inr e)
     exact⟨j-1,by omega,by rw[← h5,h]⟩
    ·exact⟨j,by omega,h⟩
theorem zH(l:List (List UInt8))(x:List UInt8):x∈Lib.compact l↔x∈l:=by
 unfold Lib.compact;rw[kI];constructor
 ·rintro⟨j,hj,rfl⟩;rw[getElem!_pos l.toArray j (by simpa using hj)];simp
 ·intro h;obtain⟨j,hj,rfl⟩:=List.getElem_of_mem h;exact⟨j,hj,by rw[getElem!_pos l.toArray j (by simpa using hj)];simp⟩
theorem WG(w:World):grow w #[]=w:=by simp[grow]
theorem Im(w:World)(base:Nat)(v:Value)(n:Nat)(l:List ByteArray)(hn:n=l.length)(h:w.ownsRow base 9 1 v n (l.flatMap aT))(hz:n≤100000001):
 Calls Tryz.prog 270 #[v] w fun e w'=>∃ v',e=.returned v'∧w'.ownsRow base 9 1 v' (mI l).length ((mI l).flatMap aT)∧w.grownBy w' v.ownBlock∧v'.ownBlock=v.ownBlock:=by
 subst hn;unfold mI;rw[Fj] at h;rw[Fg];rcases h.2 with⟨rfl,h0⟩|⟨g,cap,cur,rfl,hg,hh,h1,h2,h3,h4⟩
 ·have:l=[]:=List.eq_nil_of_length_eq_zero h0;subst this;refine(slices_Compact_string_empty none 0 w).mono ?_;rintro e w' ⟨rfl,rfl⟩;refine⟨_,rfl,?_,World.grownBy.refl _ _,rfl⟩;rw[show([]:List ByteArray).map dM=[] from rfl,show Lib.compact ([]:List (List UInt8))=[] from rfl];simpa using h
 ·have hl:(l.map dM).length=l.length:=awj ..;have hc:=zZ (l.map dM);rw[← hl] at h1 ⊢;refine(slices_Compact_string g 0 cap (l.map dM) w (holds_of_block hh (by rw[Nat.mul_one,← hl] at h4;exact h4)) (by rw[hl];omega) h1).mono ?_;rintro e w' ⟨rfl,q,rfl⟩;have hb:=heap_sorted (n:=q) (os:=#[]) (Lib.compact (l.map dM)++List.replicate ((l.map dM).length-(Lib.compact (l.map dM)).length) []).toArray hh;have hgr:=grownBy_sorted (w:=w) (g:=g) (n:=q) (os:=#[]) (Lib.compact (l.map dM)++List.replicate ((l.map dM).length-(Lib.compact (l.map dM)).length) []).toArray;rw[WG] at hb hgr;refine⟨_,rfl,⟨by simp,.inr ⟨g,cap,_,by rw[awj],hg,hb,by rw[awj];omega,h2,by simp[putCells,h3],?_⟩⟩,hgr,rfl⟩;have ht:=take_putCells cur (Lib.compact (l.map dM)++List.replicate ((l.map dM).length-(Lib.compact (l.map dM)).length) []) (by rw[awn,List.length_replicate];omega);have ht2:=congrArg (List.take (Lib.compact (l.map dM)).length) ht;rw[List.take_take,List.map_append,List.take_left' (awj ..),Nat.min_eq_left (by rw[awn];omega)] at ht2;rw[awj,Nat.mul_one];exact ht2
theorem Rc(l:List ByteArray)(s:ByteArray):s∈uQ l↔s∈l:=by
 unfold uQ;constructor
 ·intro h;obtain⟨b,hb,rfl⟩:=awo.1 h;rw[List.mem_mergeSort] at hb;obtain⟨t,ht,rfl⟩:=awo.1 hb;rw[ot];exact ht
 ·intro h;exact awo.2 ⟨dM s,List.mem_mergeSort.2 (List.mem_map_of_mem h),ot s⟩
theorem Rf(l:List ByteArray):(uQ l).length=l.length:=by unfold uQ;rw[awj,List.length_mergeSort,awj]
theorem G6(l:List ByteArray)(s:ByteArray):s∈mI l↔s∈l:=by
 unfold mI;constructor
 ·intro h;obtain⟨b,hb,rfl⟩:=awo.1 h;obtain⟨t,ht,rfl⟩:=awo.1 ((zH _ _).1 hb);rw[ot];exact ht
 ·intro h;exact awo.2 ⟨dM s,(zH _ _).2 (List.mem_map_of_mem h),ot s⟩
def cQ(e:ak):List ByteArray:=mI (uQ (bf e))
theorem pJ(e:ak)(s:ByteArray):s∈cQ e↔s∈bf e:=by unfold cQ;rw[G6,Rc]
end Go.Proofs.YtdcofoaihmongaaGreat
namespace Go.Proofs.YtdcofoaihmongaaGreat
open Go Go.RowKit
theorem YO{e:ak}{t k:Nat}{v:Value}{rs:List Rw}:(⟨v,t,k,0+(bf e).length,[]++(bf e).flatMap aT⟩::rs:List Rw)=⟨v,t,k,(bf e).length,(bf e).flatMap aT⟩::rs:=by rw[Nat.zero_add,List.nil_append]
theorem eV.len2{d:Nat}{e:ak}(h:eV d e):(bf e).length≤2^d:=by
 induction h with
 | @name d s h1 h2=>rw[bf,bF];exact Nat.one_le_two_pow
 | @not d k h1 ih=>rw[bf,bF,bF,Nat.pow_succ];simp only[List.nil_append,List.append_nil];omega
 | @bin d op k l h1 h2 h3 h4 ih1 ih2=>rw[bf,bF,bF,bF,Nat.pow_succ];simp only[List.nil_append,List.append_nil,awn];omega
theorem eV.len{d:Nat}{e:ak}(h:eV d e)(hd:d≤12):(bf e).length≤4096:=awk h.len2 (Nat.pow_le_pow_right (by decide:0<2) hd)
theorem Ou(w0:World)(cs:List Value)(e:ak)(d:Nat)(hE:aZ w0 cs e)(hB:eV d e)(hd:d≤12):Calls Tryz.prog 229 #[.agg cs.toArray] w0 (fun(r:Ending) (w':World)=>∃ v',r=.returned v'∧(w'.ownsRow w0.heap.size 9 1 v' (cQ e).length ((cQ e).flatMap aT)∧awp w0.heap.size w0 w')):=by
 have hln:=hB.len hd;have hE0:=hE;obtain⟨_,_,rfl,hnn,hkk⟩:=hE0.open;obtain⟨pa9,pc9,rfl,hnk,hnm,acn⟩:=SliceAt.form hnn (by decide);obtain⟨qa,qc,rfl,hkc,hkm,hcell⟩:=aq.form hkk (by decide);have ct:=hr1 Tryz.prog Tryz.f229 (fun(r:Ending) (w':World)=>∃ v',r=.returned v'∧(w'.ownsRow w0.heap.size 9 1 v' (cQ e).length ((cQ e).flatMap aT)∧awp w0.heap.size w0 w')) 13 2 rfl;refine en Tryz.func229 rfl Tryz.ntmps229 rfl (vs:=[.agg #[.int .i64 e.op,.int .i64 e.a,.int .i64 e.rel,.int .i64 e.b,.slice pa9 e.names.length pc9,.int .u64 e.set.a,.int .u64 e.set.b,.int .u64 e.set.c,.int .u64 e.set.d,.slice qa e.kids.length qc]]) rfl fun _ F=>?_
 have M:=Mm.start w0;refine awq fun K1 jq=>ah<|PZ (on rfl) rfl (F.u rf) rfl F rfl M fun g1 _ _ F M=>xA (v:=.slice none 0 0) F rf rf rf fun _ F=>awr<|jq _ _ ?_
 refine awq fun K2 jW=>awq fun K3 pR=>ah<|xW F (M.b 0 rfl) rf rf rf O9 rf sF rf fun _ F=>xC F M rf rf ah1 (args1 (F.u rf)) (Ox _ _ e d (hE.keep M.below) hB hd) fun _ _ F M=>ke (on rfl) (Xe rfl (F.u rf) rfl) rfl F rfl (show Value.bool (!decide ((0:Int)=0))=_ from rfl) fun _ F=>awr<|pR _ _ ?_
 refine wp_cond_false (F.e 6 rfl) ?_;refine wp_skip<|jW _ _ ?_;refine awq fun K4 p9=>ah<|xW F (M.b 0 rfl) rf rf rf O9 rf sF rf fun _ F=>kt (on rfl) (fO rfl Tryz.func268 aal rfl (args2 rfl (F.u rf))) (KQ e w0 _ _ _ d _ _ _ _ (M.bB 9 1) hE hB (by omega)) rfl F rfl fun v9 _ w9 hR F=>?_
 have M:=hR.cast rfl (YO (e:=e));refine xA F rf rf rf fun _ F=>awr<|p9 _ _ ?_
 refine awq fun K5 q5=>ah<|xM F rf rf rf fun _ F=>kt (on rfl) (fO rfl Tryz.func269 ae0 rfl (args1 (F.u rf))) (S_ _ w0.heap.size _ _ (bf e) rfl (M.r 0 rfl) (by omega)) rfl F rfl fun z9 _ w9 hR F=>?_
 have M:=M.grow 0 rfl hR.1 hR.2 (.inl rfl);refine awr<|q5 _ _ ?_;refine awq fun K6 tu=>ah<|xM F rf rf rf fun _ F=>kt (on rfl) (fO rfl Tryz.func270 aeZ rfl (args1 (F.u rf))) (Im _ w0.heap.size _ _ (uQ (bf e)) (Rf _).symm (M.r 0 rfl) (by omega)) rfl F rfl fun v8 _ w9 hR F=>?_
 have M:=M.grow 0 rfl hR.1 hR.2.1 (.inl hR.2.2);refine xA F rf rf rf fun _ F=>awr<|tu _ _ ?_
 refine wp_ret<|ct _ _ _ _ F rfl ?_;exact⟨_,rfl,M.r 0 rfl,M.below⟩
theorem Mf{n:Nat}(h:n≤5):0≤aG n+1-1∧aG n+1-1≤18446744073709551615:=by
 rcases(show n=0∨n=1∨n=2∨n=3∨n=4∨n=5 by omega) with rfl|rfl|rfl|rfl|rfl|rfl<;>exact⟨by decide,by decide⟩
def mQ(l:List ByteArray)(s:ByteArray):Nat:=l.findIdx (fun y=>decide (s=y))
theorem Y5{l:List ByteArray}{x:ByteArray}{m:Nat}{y:ByteArray}(hy:l[m]?=some y)(h:∀ j z,j<m→l[j]?=some z→x≠z)(e:x=y):(m:Int)=(mQ l x:Int):=by
 unfold mQ;obtain⟨hm,hy'⟩:=aws.1 hy;rw[(List.findIdx_eq hm).2 ⟨by rw[hy'];simpa using e,fun j hj=>by simpa using h j (l[j]) hj (awt (by omega))⟩]
theorem V5{l:List ByteArray}{x:ByteArray}{m:Nat}(hm:m=l.length)(h:∀ j z,j<m→l[j]?=some z→x≠z)(hx:x∈l):False:=by
 obtain⟨j,hj,e⟩:=List.getElem_of_mem hx;exact h j x (by omega) (by rw[awt hj,e]) rfl
theorem nj{l:List ByteArray}{x:ByteArray}(hx:x∈l):mQ l x<l.length:=List.findIdx_lt_length.2 ⟨x,hx,by simp⟩
theorem Sc{l:List ByteArray}{x y:ByteArray}{m:Nat}(hy:l[m]?=some y)(h:∀ j z,j<m→l[j]?=some z→x≠z)(hne:x≠y):∀ j z,j<m+1→l[j]?=some z→x≠z:=fun j z hj hz=>by
 by_cases e:j=m
 ·subst e;rw[hy] at hz;cases hz;exact hne
 ·exact h j z (by omega) hz
def RG(op:Int):Nat:=if op=3 then 297 else if op=4 then 298 else if op=6 then 299 else 300
def LD(op x y:Int):Int:=if op=3 then bits .and .u64 x y else if op=4 then bits .or .u64 x y else if op=6 then bits .xor .u64 18446744073709551615 (bits .xor .u64 x y) else bits .xor .u64 x y
def UN(ns:List ByteArray)(op:Int)(names:List ByteArray)(l:List Int):Int:=
 if op=1 then eP (mQ ns (names.getD 0 ⟨#[]⟩):Int) 64 else if op=2 then bits .xor .u64 18446744073709551615 (l.getD 0 0) else LD op (l.getD 0 0) (l.getD 1 0)
mutual
def fW(ns:List ByteArray):ak→Int
 | .node op _ _ _ names _ kids=>UN ns op names (Q8 ns kids)
def Q8(ns:List ByteArray):List ak→List Int
 | []=>[]
 | k::l=>fW ns k::Q8 ns l
end
theorem FN(ns:List ByteArray)(e:ak):fW ns e=UN ns e.op e.names (Q8 ns e.kids):=by cases e;rw[fW];rfl
theorem uP(ns:List ByteArray):∀ (l:List ak) (i:Nat) {y:ak},l[i]?=some y→(Q8 ns l).getD i 0=fW ns y
 | [],_,_,h=>by simp at h
 | k::l,0,y,h=>by
  rw[Q8];obtain rfl:k=y:=by simpa using h
  rfl
 | k::l,i+1,y,h=>by
  rw[Q8];simpa using uP ns l i (by simpa using h)
theorem Zx{x y:ByteArray}(h:(x.toList == y.toList)=true):x=y:=of_decide_eq_true ((pE x y).symm.trans h)
theorem adi{x y:ByteArray}(h:(x.toList == y.toList)=false):x≠y:=of_decide_eq_false ((pE x y).symm.trans h)
theorem S9(w0:World)(nB:Nat)(hn:nB≤5):Calls Tryz.prog 230 #[.int .i64 (nB:Int)] w0 (fun(r:Ending) (w':World)=>r=.returned (.int .u64 (aG nB))∧awp w0.heap.size w0 w'):=by
 have hn6:=nt6 hn;refine bP [] (fn:=Tryz.f230) Tryz.func230 rfl Tryz.ntmps230 rfl<|ei (x:=.int .i64 ((2^nB:Nat):Int))<|an (fun a w o ho hv=>(ku ho (dU hv) (fE hv) (by omega) (show _≤((64:Nat):Int) by omega)).trans (by rw[nt1 hn]))<|an (fun h=>absurd h (by simp only[decide_eq_true_eq];omega)) fun _=>ei (x:=.int .u64 ((2^nB:Nat):Int))<|an (fun a w o ho hv=>(ku ho (dU hv) (fE hv) (by omega) (show _≤((64:Nat):Int) by omega)).trans (by rw[nt3 hn]))<|ei (x:=.int .u64 (aG nB+1))<|an (fun a w o ho hv=>(ku ho (dU hv) (fE hv) (Int.natCast_nonneg _) (Int.ofNat_le.2 (awk hn6 (by decide)))).trans (by rw[nt4 hn]))<|an (Mf hn) fun M=>⟨congrArg (fun q:Int=>Ending.returned (.int .u64 q)) (show aG nB+1-1=aG nB by omega),M.below⟩
theorem Vd(w0:World)(x y:Int):Calls Tryz.prog 297 #[.agg #[.int .u64 x,.int .u64 y]] w0 (fun(r:Ending) (w':World)=>r=.returned (.int .u64 (bits .and .u64 x y))∧awp w0.heap.size w0 w'):=
 bP [] (fn:=Tryz.f297) Tryz.func297 rfl Tryz.ntmps297 rfl<|fun _ _ _=>lb 0<|an rfl<|lb 0<|an rfl<|ei (x:=bits .and .u64 x y)<|an rfl fun M=>⟨rfl,M.below⟩
theorem YG(w0:World)(x y:Int):Calls Tryz.prog 298 #[.agg #[.int .u64 x,.int .u64 y]] w0 (fun(r:Ending) (w':World)=>r=.returned (.int .u64 (bits .or .u64 x y))∧awp w0.heap.size w0 w'):=
 bP [] (fn:=Tryz.f298) Tryz.func298 rfl Tryz.ntmps298 rfl<|fun _ _ _=>lb 0<|an rfl<|lb 0<|an rfl<|ei (x:=bits .or .u64 x y)<|an rfl fun M=>⟨rfl,M.below⟩
theorem RA(w0:World)(x y:Int):Calls Tryz.prog 299 #[.agg #[.int .u64 x,.int .u64 y]] w0 (fun(r:Ending) (w':World)=>r=.returned (.int .u64 (bits .xor .u64 18446744073709551615 (bits .xor .u64 x y)))∧awp w0.heap.size w0 w'):=
 bP [] (fn:=Tryz.f299) Tryz.func299 rfl Tryz.ntmps299 rfl<|fun _ _ _=>lb 0<|an rfl<|lb 0<|an rfl<|ei (x:=bits .xor .u64 x y)<|an rfl<|ei (x:=.int .u64 (bits .xor .u64 18446744073709551615 (bits .xor .u64 x y)))<|an (fun _ _ _ ho hv=>Qm ho (dU hv)) fun M=>⟨rfl,M.below⟩
theorem JE(w0:World)(x y:Int):Calls Tryz.prog 300 #[.agg #[.int .u64 x,.int .u64 y]] w0 (fun(r:Ending) (w':World)=>r=.returned (.int .u64 (bits .xor .u64 x y))∧awp w0.heap.size w0 w'):=
 bP [] (fn:=Tryz.f300) Tryz.func300 rfl Tryz.ntmps300 rfl<|fun _ _ _=>lb 0<|an rfl<|lb 0<|an rfl<|ei (x:=bits .xor .u64 x y)<|an rfl fun M=>⟨rfl,M.below⟩
theorem F7(w0:World)(op:Int):Calls Tryz.prog 273 #[.int .i64 op] w0 (fun(r:Ending) (w':World)=>r=.returned (.func (.func (RG op)) #[] #[])∧awp w0.heap.size w0 w'):=by
 exact bP [] (fn:=Tryz.f273) Tryz.func273 rfl Tryz.ntmps273 rfl<|an (fun a=>fun M=>⟨congrArg (fun n:Nat=>Ending.returned (.func (.func n) #[] #[])) (by unfold RG;simp_all),M.below⟩) fun a=>an (fun b=>fun M=>⟨congrArg (fun n:Nat=>Ending.returned (.func (.func n) #[] #[])) (by unfold RG;simp_all),M.below⟩) fun b=>an (fun c=>fun M=>⟨congrArg (fun n:Nat=>Ending.returned (.func (.func n) #[] #[])) (by unfold RG;simp_all),M.below⟩) fun c=>fun M=>⟨congrArg (fun n:Nat=>Ending.returned (.func (.func n) #[] #[])) (by unfold RG;simp_all),M.below⟩
theorem NU(w0:World)(v:Value)(l:List ByteArray)(h:SliceAt w0 v 1 l.length (l.flatMap aT))(x:ByteArray)(hx:x∈l):Calls Tryz.prog 272 #[v,.string x] w0 (fun(r:Ending) (w':World)=>r=.returned (.int .i64 ((mQ l x:Int)))∧awp w0.heap.size w0 w'):=by
 obtain⟨_,_,rfl,-,hm5,-⟩:=SliceAt.form h (by decide);refine bP [] (fn:=Tryz.f272) Tryz.func272 rfl Tryz.ntmps272 rfl<|lr (ι:=Nat) (fun m=>[(8,.int .i64 (m:Int))]) (fun m _=>m≤l.length∧∀ j z,j<m→l[j]?=some z→x≠z) (fun m=>l.length-m) 0 (an ⟨⟨rfl,trivial⟩,fun M=>⟨M,awu _,fun j z h=>absurd h (Nat.not_lt_zero j)⟩⟩ ?_);intro m w M ⟨hm,hno⟩;refine an (fun h1=>?_) fun h1 M=>?_
 ·have hlt:m<l.length:=by simp at h1;omega
  obtain⟨y,hy⟩:∃ y,l[m]?=some y:=⟨_,awt hlt⟩;obtain⟨b,o,e,hc⟩:=SliceAt.elt h (fun _=>rfl) (by decide) hy hlt;refine ia<|an ⟨e,rfl,hlt⟩<|lc (x:=.string y)<|an (bY M.below hc 0 _ rfl)<|?_;refine an (fun h2 M=>⟨ri (Y5 hy hno (Zx h2)).symm,M.below⟩) fun h2=>?_
  exact an (by omega)<|bk (m+1) ⟨rfl,trivial⟩ (fun M=>⟨M,by omega,Sc hy hno (adi h2)⟩) (by dsimp only;omega)
 ·exact(V5 (by simp at h1;omega) hno hx).elim
theorem Oq(w0:World)(bi:Int)(hb0:0≤bi)(hb1:bi≤60)(nB:Nat)(hn:nB≤5):Calls Tryz.prog 271 #[.int .i64 bi,.int .i64 (nB:Int)] w0 (fun(r:Ending) (w':World)=>∃ v,r=.returned v∧((bR w' w0.heap.size v (eP bi 64))∧awp w0.heap.size w0 w')):=by
 have hn6:=nt6 hn;refine bP [] (fn:=Tryz.f271) Tryz.func271 rfl Tryz.ntmps271 rfl<|ei (x:=.int .i64 ((2^nB:Nat):Int))<|an (fun a w o ho hv=>(ku ho (dU hv) (fE hv) (by omega) (show _≤((64:Nat):Int) by omega)).trans (by rw[nt1 hn]))<|ei (x:=.int .i64 0)<|an (fun a w o ho hv=>(Xc ho (dU hv) (fE hv) (by decide)).trans (by rw[nt2 hn]))<|fbp (Mm.start w0) (v:=.int .i64 1) (fun a o ho hv=>Di ho (dU hv) (fE hv))<|mz1 (Mm.start w0) ahQ Ka TY rfl (by decide) fun g w1 M1=>lp (ι:=Nat×Int) (fun(t,x)=>[(15,.int .i64 (t:Int))]) (fun(t,x)=>[(g,52,#[.int .u64 x])]) (fun _=>[]) (fun(t,x) _=>t≤1∧(t=0→x=0)∧(t=1→x=eP bi 64)) (fun(t,x)=>1-t) (0,0) (an ⟨⟨rfl,trivial⟩,fun M=>⟨M,awu _,(fun _=>rfl),fun h=>by cases h⟩⟩ ?_)
 rintro⟨t,x⟩ w M ⟨ht,hx0,hx1⟩;refine an (fun h=>?_) fun h M=>⟨_,rfl,⟨_,rfl,(by have hW:=M.b 0 rfl;rw[hx1 (by simp at h;omega)] at hW;exact hW),M.lo _ (awv (i:=0) rfl)⟩,M.below⟩
 obtain rfl:t=0:=by simp at h;omega
 obtain rfl:=hx0 rfl;refine lp (ι:=Nat×Int) (fun(k,x)=>[(18,.int .i64 (k:Int))]) (fun(k,x)=>[(g,52,#[.int .u64 x])]) (fun _=>[]) (fun(k,x) _=>k≤64∧x=eP bi k) (fun(k,x)=>64-k) (0,0) (an ⟨⟨rfl,trivial⟩,fun M=>⟨M,awu _,rfl⟩⟩ ?_);rintro⟨k,x⟩ w M ⟨hk,rfl⟩;refine an (fun h=>?_) fun h=>?_
 ·have hlt:k<64:=by simp at h;omega
  refine an (by omega)<|an (by omega)<|ei<|an (fun a w o ho hv=>Qj ho (dU hv) (fE hv) hb0 (show _≤((64:Nat):Int) by omega))<|ei<|an rfl<|an (fun h2=>?_) fun h2=>?_
  ·have hbit:jY bi k=true:=h2;exact dr (by kernel_rfl)<|ia (i:=0)<|an ⟨rfl,rfl,by decide⟩<|lb 0<|an rfl<|ei<|an (fun a w o ho hv=>ku ho (dU hv) (fE hv) (by omega) (show _≤((64:Nat):Int) by omega))<|ei<|an (Dw hbit).symm<|ia (i:=0)<|an ⟨rfl,rfl,by decide⟩<|fun w3 pQ M3=>lb 0<|an ⟨⟨rfl,rfl⟩,Nat.le_refl _⟩ fun w4 M4=>an (by omega)<|bk (k+1,eP bi (k+1)) ⟨rfl,trivial⟩ (fun M=>⟨M,by omega,rfl⟩) (by dsimp only;omega)
  ·have hbit:jY bi k=false:=h2;exact an (by omega)<|bk (k+1,eP bi k) ⟨rfl,trivial⟩ (fun M=>⟨M,by omega,(Fl hbit).symm⟩) (by dsimp only;omega)
 ·obtain rfl:k=64:=by simp at h;omega
  exact an (by omega)<|bk (1,eP bi 64) ⟨rfl,trivial⟩ (fun M=>⟨M,by omega,(fun h=>by cases h),fun _=>rfl⟩) (by dsimp only;omega)
inductive OpW (op:Int):Prop
 | and (h:RG op=297) (hb:∀ x y,LD op x y=bits .and .u64 x y)
 | or (h:RG op=298) (hb:∀ x y,LD op x y=bits .or .u64 x y)
 | same (h:RG op=299) (hb:∀ x y,LD op x y=bits .xor .u64 18446744073709551615 (bits .xor .u64 x y))
 | diff (h:RG op=300) (hb:∀ x y,LD op x y=bits .xor .u64 x y)
theorem opW(op:Int):OpW op:=by
 by_cases h3:op=3
 ·exact .and (by unfold RG;rw[if_pos h3]) (fun x y=>by unfold LD;rw[if_pos h3])
 by_cases h4:op=4
 ·exact .or (by unfold RG;rw[if_neg h3,if_pos h4]) (fun x y=>by unfold LD;rw[if_neg h3,if_pos h4])
 by_cases h6:op=6
 ·exact .same (by unfold RG;rw[if_neg h3,if_neg h4,if_pos h6]) (fun x y=>by unfold LD;rw[if_neg h3,if_neg h4,if_pos h6])
 ·exact .diff (by unfold RG;rw[if_neg h3,if_neg h4,if_neg h6]) (fun x y=>by unfold LD;rw[if_neg h3,if_neg h4,if_neg h6])
theorem yT.aar{d:Nat}{e:ak}(h:yT d e)(h1:e.op≠1):0<e.kids.length:=by
 have h2:=h.kids;have h3:uF e.op≠0:=fun h4=>h1 (h.op1.1 h4)
 omega
theorem yT.aaq{d:Nat}{e:ak}(h:eV d e)(h1:e.op≠1)(h2:e.op≠2):1<e.kids.length:=by
 cases h with
 | name _ _=>exact absurd rfl h1
 | not _=>exact absurd rfl h2
 | bin _ _ _ _=>exact Nat.lt_succ_self 1
theorem fu{e k:ak}(hk:k∈e.kids){s:ByteArray}(hs:s∈bf k):s∈bf e:=by
 rw[dR];refine List.mem_append_right _ ?_
 have:∀ l:List ak,k∈l→s∈bF l:=fun l=>by
  induction l with
  | nil=>intro h;cases h
  | cons a l ih=>
   intro h;rw[bF];rcases aww.1 h with rfl|h
   ·exact List.mem_append_left _ hs
   ·exact List.mem_append_right _ (ih h)
 exact this _ hk
theorem Jl{ns:List ByteArray}{e:ak}{sn:ByteArray}(h1:e.op=1)(hs:e.names=[sn]):fW ns e=eP (mQ ns sn:Int) 64:=by
 rw[FN,UN,if_pos h1,hs];rfl
theorem Pg{ns:List ByteArray}{e y:ak}(h1:e.op≠1)(h2:e.op=2)(hy:e.kids[0]?=some y):fW ns e=bits .xor .u64 18446744073709551615 (fW ns y):=by
 rw[FN,UN,if_neg h1,if_pos h2,uP _ _ _ hy]
theorem Ph{ns:List ByteArray}{e y z:ak}(h1:e.op≠1)(h2:e.op≠2)(hy:e.kids[0]?=some y)(hz:e.kids[1]?=some z):fW ns e=LD e.op (fW ns y) (fW ns z):=by
 rw[FN,UN,if_neg h1,if_neg h2,uP _ _ _ hy,uP _ _ _ hz]
theorem Q7(ns:List ByteArray)(hn:ns.length≤5):∀ (e:ak) (w0:World) (cs:List Value) (d:Nat),aZ w0 cs e→eV d e→∀ lv:Value,SliceAt w0 lv 1 ns.length (ns.flatMap aT)→(∀ s∈bf e,s∈ns)→Calls Tryz.prog 231 #[.agg cs.toArray,lv] w0 (fun(r:Ending) (w':World)=>∃ v,r=.returned v∧((bR w' w0.heap.size v (fW ns e))∧awp w0.heap.size w0 w')):=by
 refine ak.ind fun e ih=>?_
 intro w0 cs d hE hB lv hL hns;have hb:=hB.facts;obtain⟨nv,kv,rfl,D7,hk⟩:=hE.open;obtain⟨_,_,rfl,-,hng⟩:=aF.get D7;obtain⟨_,_,rfl,-,EX,-⟩:=aq.form hk (by decide);obtain⟨_,_,rfl,-⟩:=SliceAt.form hL (by decide);refine bP [] (fn:=Tryz.f231) Tryz.func231 rfl Tryz.ntmps231 rfl<|fun g1 w1 M1=>lb 0<|an rfl<|an (fun h=>?_) fun h=>?_
 ·have h1:e.op=1:=by simpa using h
  obtain⟨sn,AR,hsI,hsO⟩:=hb.nm (hb.op1.2 h1);have iY:sn∈ns:=hns sn (by rw[dR,AR];exact List.mem_append_left _ (awm.2 rfl));have XP:=nj iY;obtain⟨b,o,e1,hc⟩:=hng 0 sn (by rw[AR];rfl);exact lb 0<|an rfl<|ia (i:=0)<|an ⟨e1,rfl,by rw[AR];exact Nat.zero_lt_one⟩<|lc (x:=.string sn)<|an (cell_later M1.below hc)<|cl<|an (NU _ _ ns (hL.keep M1.below) sn iY) fun w2 M2=>cst M2 (Oq _ (mQ ns sn:Int) (by omega) (by omega) ns.length hn) fun g w M M=>⟨_,rfl,⟨_,rfl,by have hW:=M.b 0 rfl;rw[Jl h1 AR];exact hW,M.lo _ (awv (i:=0) rfl)⟩,M.below⟩
 have h1:e.op≠1:=by simpa using h
 have Wi:=hb.aar h1;obtain⟨y,hy⟩:∃ y,e.kids[0]?=some y:=⟨_,awt Wi⟩;have qV:=awv hy;obtain⟨b,o,_,e1,sy,hc⟩:=aq.elt hk (by decide) hy;obtain⟨nv',kv',rfl,-⟩:=sy.open;obtain⟨dy,-,hBy⟩:=hb.kid y qV;refine lb 0<|an rfl<|ia (i:=0)<|an ⟨e1,rfl,Wi⟩<|lc<|an (bY M1.below hc)<|cst M1 (ih y qV _ _ dy (sy.keep M1.below) hBy _ (hL.keep M1.below) (fun t ht=>hns t (fu qV ht))) fun gy w3 M3=>lb 1<|an rfl<|an (fun h2=>?_) fun h2=>?_
 ·refine lp (ι:=Nat×Int) (fun(t,x)=>[(33,.int .i64 (t:Int))]) (fun(t,x)=>(gy,52,#[.int .u64 x])::_) (fun _=>[]) (fun(t,x) _=>t≤1∧(t=0→x=fW ns y)∧(t=1→x=bits .xor .u64 18446744073709551615 (fW ns y))) (fun(t,x)=>1-t) (0,fW ns y) (an ⟨⟨rfl,trivial⟩,fun M=>⟨M,by decide,fun _=>rfl,fun h=>by cases h⟩⟩ ?_);rintro⟨t,x⟩ w M ⟨ht,hx0,hx1⟩;refine an (fun h=>?_) fun h M=>⟨_,rfl,⟨_,rfl,by have hW:=M.b 0 rfl;rw[Pg h1 (by simpa using h2) hy,← hx1 (by simp at h;omega)];exact hW,M.lo _ (awv (i:=0) rfl)⟩,M.below⟩
  obtain rfl:t=0:=by simp at h;omega
  obtain rfl:=hx0 rfl;exact ia (i:=0)<|an ⟨rfl,rfl,by decide⟩<|lb 0<|an rfl<|ei (x:=.int .u64 (bits .xor .u64 18446744073709551615 (fW ns y)))<|an (fun a w o ho hv=>Qm ho (dU hv))<|ia (i:=0)<|an ⟨rfl,rfl,by decide⟩<|lb 0<|an ⟨⟨rfl,rfl⟩,Nat.le_refl _⟩ fun w M=>an (by omega)<|bk (1,bits .xor .u64 18446744073709551615 (fW ns y)) ⟨rfl,trivial⟩ (fun M=>⟨M,by omega,(fun h=>by cases h),fun _=>rfl⟩) (by dsimp only;omega)
 have h2:e.op≠2:=by simpa using h2
 have hlz:=yT.aaq hB h1 h2;obtain⟨z,hz⟩:∃ z,e.kids[1]?=some z:=⟨_,awt hlz⟩;have hzm:=awv hz;obtain⟨bz,oz,_,e2,hEz,hcz⟩:=aq.elt hk (by decide) hz;obtain⟨nvz,kvz,rfl,-⟩:=hEz.open;obtain⟨dz,-,hBz⟩:=hb.kid z hzm;rcases opW e.op with⟨hf,hop⟩|⟨hf,hop⟩|⟨hf,hop⟩|⟨hf,hop⟩
 all_goals
  refine lb 1<|an rfl<|cl<|an (hf▸F7 _ e.op :) fun w4 M4=>lb 1<|an rfl<|ia (i:=1)<|an ⟨e2,rfl,hlz⟩<|lc<|an (bY M4.below hcz)<|cst M4 (ih z hzm _ _ dz (hEz.keep M4.below) hBz _ (hL.keep M4.below) (fun t ht=>hns t (fu hzm ht))) fun gz w5 M5=>lp (ι:=Nat×Int) (fun(t,x)=>[(56,.int .i64 (t:Int))]) (fun(t,x)=>_::(gy,52,#[.int .u64 x])::_) (fun _=>[]) (fun(t,x) _=>t≤1∧(t=0→x=fW ns y)∧(t=1→x=LD e.op (fW ns y) (fW ns z))) (fun(t,x)=>1-t) (0,fW ns y) (an ⟨⟨rfl,trivial⟩,fun M=>⟨M,by decide,fun _=>rfl,fun h=>by cases h⟩⟩ ?_)
  rintro⟨t,x⟩ w M ⟨ht,hx0,hx1⟩;refine an (fun h=>?_) fun h M=>⟨_,rfl,⟨_,rfl,by have hW:=M.b 1 rfl;rw[Ph h1 h2 hy hz,← hx1 (by simp at h;omega)];exact hW,M.lo _ (awv (i:=1) rfl)⟩,M.below⟩
  obtain rfl:t=0:=by simp at h;omega
  obtain rfl:=hx0 rfl;exact ia (i:=0)<|an ⟨rfl,rfl,by decide⟩<|lb 0<|an rfl<|ia (i:=0)<|an ⟨rfl,rfl,by decide⟩<|lb 1<|an rfl<|ei (x:=.agg #[.int .u64 (fW ns y),.int .u64 (fW ns z)])<|an (bd (by kernel_rfl))<|cl (v:=.int .u64 (LD e.op (fW ns y) (fW ns z)))<|an (by rw[hop];first|exact Vd _ _ _|exact YG _ _ _|exact RA _ _ _|exact JE _ _ _) fun w6 M6=>ia (i:=0)<|an ⟨rfl,rfl,by decide⟩<|lb 1<|an ⟨⟨rfl,rfl⟩,Nat.le_refl _⟩ fun w M=>an (by omega)<|bk (1,LD e.op (fW ns y) (fW ns z)) ⟨rfl,trivial⟩ (fun M=>⟨M,by omega,(fun h=>by cases h),fun _=>rfl⟩) (by dsimp only;omega)
theorem eV.some{d:Nat}{e:ak}(h:eV d e):0<(bf e).length:=by
 induction h with
 | name _ _=>rw[bf];simp
 | not _ ih=>rw[bf,bF,bF];simpa using ih
 | bin _ _ _ _ ih _=>rw[bf,bF];simp only[List.nil_append,awn];omega
theorem eV.aeB{d:Nat}{e:ak}(h:eV d e):0<(cQ e).length:=by
 obtain⟨s,hs⟩:∃ s,s∈bf e:=by
  have:=h.some
  cases hl:bf e with
  | nil=>rw[hl] at this;cases this
  | cons a l=>exact⟨a,awx ..⟩
 exact List.length_pos_of_mem ((pJ e s).2 hs)
def fS(e:ak):Bool:=decide (bits .and .u64 (fW (cQ e) e) (aG (cQ e).length)=aG (cQ e).length)
def oP(e:ak):Bool:=decide (bits .and .u64 (fW (cQ e) e) (aG (cQ e).length)=0)
theorem G4(w0:World)(cs:List Value)(e:ak)(d:Nat)(hE:aZ w0 cs e)(hBE:eV d e)(hd:d≤12)(hn:(cQ e).length≤5):Calls Tryz.prog 171 #[.agg cs.toArray] w0 (fun(r:Ending) (w':World)=>r=.returned (.tuple #[.bool (fS e),.bool (fS e||oP e)])∧awp w0.heap.size w0 w'):=by
 have hn0:=hBE.aeB;have hE0:=hE;obtain⟨_,_,rfl,hnn,hkk⟩:=hE0.open;obtain⟨_,_,rfl,-⟩:=aF.get hnn;obtain⟨_,_,rfl,-⟩:=aq.form hkk (by decide);refine bP [] (fn:=Tryz.f171) Tryz.func171 rfl Tryz.ntmps171 rfl<|fun g1 w1 M1=>lb 0<|an rfl<|IK M1 (Ou _ _ e d (hE.keep M1.below) hBE hd) fun ta tc w2 M2=>?_
 refine an (fun h=>?_) fun _=>?_
 ·exfalso;simp only[Bool.or_eq_true,decide_eq_true_eq] at h;omega
 refine cl<|an (S9 _ (cQ e).length hn) fun w3 M3=>lb 0<|an rfl<|cst M3 (Q7 (cQ e) hn e _ _ d (hE.keep M3.below) hBE _ (SliceAt.bq (M3.r 0 rfl) (FR _)) (fun t ht=>(pJ e t).2 ht)) fun gt w4 M4=>?_
 refine lr (ι:=Nat×Bool×Bool) (fun(t,x,z)=>[(6,.bool x),(7,.bool z),(27,.int .i64 (t:Int))]) (fun(t,x,z) _=>t≤1∧(t=0→x=true∧z=true)∧(t=1→x=fS e∧z=oP e)) (fun(t,x,z)=>1-t) (0,true,true) (an ⟨⟨rfl,rfl,rfl,trivial⟩,fun M=>⟨M,awu _,fun _=>⟨rfl,rfl⟩,fun h=>by cases h⟩⟩ ?_);rintro⟨t,x,z⟩ w M ⟨ht,h0,h1⟩;refine an (fun h=>?_) fun h M=>?_
 ·obtain rfl:t=0:=by simp at h;omega
  obtain⟨rfl,rfl⟩:=h0 rfl;refine ia (i:=0)<|an ⟨rfl,rfl,by decide⟩<|lb 0<|an rfl<|ei (x:=bits .and .u64 (fW (cQ e) e) (aG (cQ e).length))<|an (fun _=>rfl)<|ei (x:=bits .and .u64 (fW (cQ e) e) (aG (cQ e).length))<|an (fun _=>rfl)<|?_;exact an (by omega)<|bk (1,fS e,oP e) ⟨rfl,rfl,rfl,trivial⟩ (fun M=>⟨M,by omega,(fun h=>by cases h),fun _=>⟨rfl,rfl⟩⟩) (by dsimp only;omega)
 ·obtain⟨rfl,rfl⟩:=h1 (by simp at h;omega);exact⟨by cases fS e<;>rfl,M.below⟩
def isNum(nB:Nat)(op a:Int):Bool:=decide (op=1)&&decide (0≤a)&&decide (a<(nB:Int))
mutual
def aI(bl:List dP):ak→ak
 | .node op a _ _ _ _ kids=>if isNum bl.length op a=true then .node op 0 0 0 [((bl[a.toNat]?).map (·.name)).getD ⟨#[]⟩] ay.zero [] else .node op 0 0 0 [] ay.zero (Vo bl kids)
def Vo(bl:List dP):List ak→List ak
 | []=>[]
 | k::l=>aI bl k::Vo bl l
end
theorem j9(bl:List dP):∀ l,Vo bl l=l.map (aI bl)
 | []=>by rw[Vo];rfl
 | k::l=>by rw[Vo,List.map_cons,j9 bl l]
theorem PN{bl:List dP}{e:ak}{k:Nat}{y:dP}(h1:e.op=1)(ha:e.a=(k:Int))(hk:k<bl.length)(hy:bl[k]?=some y):aI bl e=.node e.op 0 0 0 [y.name] ay.zero []:=by
 cases e with
 | node op a rel b names set kids=>
  have h1:op=1:=h1;have ha:a=(k:Int):=ha;rw[aI,if_pos (by unfold isNum;simp[h1,ha,hk]),ha,Int.toNat_natCast,hy];rfl
theorem Vm{bl:List dP}{e:ak}(h:¬ (e.op=1∧0≤e.a∧e.a<(bl.length:Int))):aI bl e=.node e.op 0 0 0 [] ay.zero (e.kids.map (aI bl)):=by
 cases e with
 | node op a rel b names set kids=>
  have h:¬ (op=1∧0≤a∧a<(bl.length:Int)):=h;rw[aI,if_neg (by unfold isNum;simp only[awy,decide_eq_true_eq];exact fun h2=>h ⟨h2.1.1,h2.1.2,h2.2⟩),j9];rfl
theorem Vn{bl:List dP}{l:List ak}{m:Nat}{y:ak}(hy:l[m]?=some y):(l.map (aI bl))[m]?=some (aI bl y):=by rw[List.getElem?_map,hy];rfl
theorem Ga(p:aA)(_:p.Ok):∀ (e:ak) (w0:World) (cs:List Value),aZ w0 cs e→mO e→∀ (c0 c1 c2 c3 c4 c5 c6 c7 c8 c9 aQ aL aK aP aO aN aM:Value),aJ w0 c0 c1 c2 c3 c4 c5 c6 c7 c8 c9 aQ aL aK aP aO aN aM p→Calls Tryz.prog 172 #[.agg cs.toArray,.agg #[c0,c1,c2,c3,c4,c5,c6,c7,c8,c9,aQ,aL,aK,aP,aO,aN,aM]] w0 (fun(r:Ending) (w':World)=>∃ v,r=.returned v∧(wD w0 (aI p.bools e) v w'∧awp w0.heap.size w0 w')):=by
 refine ak.ind fun e ih=>?_
 intro w0 cs hE iY c0 c1 c2 c3 c4 c5 c6 c7 c8 c9 aQ aL aK aP aO aN aM hp;obtain⟨nv,kv,rfl,D7,hkv⟩:=hE.open;obtain⟨_,_,rfl,-⟩:=aF.get D7;obtain⟨_,_,rfl,-,hkm,-⟩:=aq.form hkv (by decide);obtain⟨_,_,_,_,_,_,_,_,_,_,_,_,_,_,_,_,_,_,_,_,_,_,_,_,_,_,_,_,_,_,_,_,_,_,rfl,rfl,rfl,rfl,rfl,rfl,rfl,rfl,rfl,rfl,rfl,rfl,rfl,rfl,rfl,rfl,rfl⟩:=hp.open;refine bP [] (fn:=Tryz.f172) Tryz.func172 rfl Tryz.ntmps172 rfl<|fun g1 w1 M1=>fun g2 w2 M2=>ei<|an sE fun g3 w3 M3=>lb 2<|an rfl<|lb 2<|an (fun _=>rfl)<|lb 2<|an (fun _=>rfl)<|lb 1<|an (fun _=>rfl)<|an (fun h=>?_) fun h=>?_
 ·obtain⟨⟨h1,h2⟩,h3⟩:(e.op=1∧0≤e.a)∧e.a<p.bools.length:=by simpa using h
  obtain⟨y,hy⟩:∃ y,p.bools[e.a.toNat]?=some y:=⟨_,awt (by omega)⟩;obtain⟨b,o,e1,hc⟩:=SliceAt.elt hp.bools (fun _=>rfl) (by decide) hy (by omega);rw[PN h1 (k:=e.a.toNat) (by omega) (by omega) hy];exact sp [0,1,2,3,4,5,6,7,8] (.step 9 (.step 10 (.last 11))) [0,1] (by kernel_rfl)<|lb 0<|an rfl<|lb 1<|an rfl<|lb 0<|an rfl<|ia<|an ⟨e1,(awz h2).symm,by omega⟩<|lc (x:=.string y.name)<|an (fun u hu=>bY hu hc 0 _ rfl)<|fun w hb M=>fun g w M=>an rfl<|ei (x:=.agg #[.int .i64 e.op,.int .i64 0,.int .i64 0,.int .i64 0,.slice (some ⟨g,0,none⟩) 1 1,.int .u64 0,.int .u64 0,.int .u64 0,.int .u64 0,.slice none 0 0])<|an (bd (by kernel_rfl))<|an rfl<|lb 1<|an ⟨rfl,rfl⟩ fun w M=>ei (x:=1)<|an rfl fun M=>⟨_,rfl,⟨_,_,_,_,[⟨.slice none 0 0,89,10,0,[]⟩,⟨.slice (some ⟨g,0,none⟩) 1 1,9,1,1,[.string y.name]⟩],rfl,bV.node (es:=[]) rfl rfl (awA _ (awm.2 rfl)) (awx ..) rfl (by simp) (by simp),((M.Dv 1 1 (by simp[maxLen]) rfl).bB 89 10).bC⟩,M.below⟩
 rw[Vm (fun h'=>by simp[h'.1,h'.2.1,h'.2.2] at h)];refine lb 2<|an rfl<|ei (x:=.agg #[.int .i64 e.op,.int .i64 0,.int .i64 0,.int .i64 0,.slice none 0 0,.int .u64 0,.int .u64 0,.int .u64 0,.int .u64 0,.slice none 0 0])<|an (bd (by kernel_rfl))<|ei<|an sE fun g5 w5 M5=>lb 0<|an ⟨rfl,rfl⟩ fun w6 M6=>lb 3<|an rfl<|?_
 refine lp (ι:=Nat×Value×List (List Value)×List Rw) (fun(m,u,es,T)=>[(41,.int .i64 (m:Int))]) (fun(m,u,es,T)=>(g5,89,#[.int .i64 e.op,.int .i64 0,.int .i64 0,.int .i64 0,.slice none 0 0,.int .u64 0,.int .u64 0,.int .u64 0,.int .u64 0,u])::_) (fun(m,u,es,T)=>⟨u,89,10,m,es.flatten⟩::⟨.slice none 0 0,9,1,0,[]⟩::T) (fun(m,u,es,T) _=>m≤e.kids.length∧es.length=m∧(∀ x∈es,x.length=10)∧∀ (i:Nat) x y,es[i]?=some x→(e.kids.map (aI p.bools))[i]?=some y→bV T x y) (fun(m,u,es,T)=>e.kids.length-m) (0,.slice none 0 0,[],[]) (an ⟨⟨rfl,trivial⟩,fun M=>⟨(M.bB 9 1).bB 89 10,awu _,rfl,(fun _ h=>by cases h),fun i x y h=>by simp at h⟩⟩ ?_);rintro⟨m,u,es,T⟩ w M ⟨hm,hl,he,hR⟩;refine an (fun h=>?_) fun h=>?_
 ·have hlt:m<e.kids.length:=by simp at h;omega
  obtain⟨y,hy⟩:∃ y,e.kids[m]?=some y:=⟨_,awt hlt⟩;have qV:=awv hy;obtain⟨b,o,_,e1,sy,hc⟩:=aq.elt hkv (by decide) hy;obtain⟨_,_,rfl,hn',hk'⟩:=sy.open;obtain⟨_,_,rfl,-⟩:=aF.get hn';obtain⟨_,_,rfl,-⟩:=aq.form hk' (by decide);have hkl:=iY.parts.2.1;refine ia<|an ⟨e1,rfl,hlt⟩<|lc<|an (bY M.below hc)<|ei<|an sE fun g6 w7 M7=>lb 0<|an ⟨rfl,rfl⟩ fun w8 M8=>sp [0,1,2,3,7] (.step 4 (.step 5 (.step 6 (.last 8)))) [1,3,4] (by kernel_rfl)<|lb 1<|an rfl<|lb 2<|an rfl<|lb 0<|an rfl<|fun w9 P8 M9=>cg<|an (ih y qV _ _ (sy.keep M9.below) (iY.parts.2.2 y qV) _ _ _ _ _ _ _ _ _ _ _ _ _ _ _ _ _ (hp.keep M9.below)) fun v qq ⟨⟨na,nc,ka,kc,T9,hv,E1,Gt⟩,z_⟩=>⟨_,_,M9.bQ z_ Gt,?_⟩
  subst hv;exact an rfl<|fun g7 zS M11=>an rfl<|Ej 0 id rfl (M11.slice 0 rfl (k:=10) (n:=1) rfl rfl (by simp[maxLen])) ⟨by unfold maxLen;omega,by omega⟩ fun va vc DZ Bn=>an rfl<|lb 2<|an ⟨rfl,rfl⟩ fun Jb wz=>an (by omega)<|bk (m+1,.slice va (m+1) vc,es++[[.int .i64 (aI p.bools y).op,.int .i64 (aI p.bools y).a,.int .i64 (aI p.bools y).rel,.int .i64 (aI p.bools y).b,.slice na (aI p.bools y).names.length nc,.int .u64 (aI p.bools y).set.a,.int .u64 (aI p.bools y).set.b,.int .u64 (aI p.bools y).set.c,.int .u64 (aI p.bools y).set.d,.slice ka (aI p.bools y).kids.length kc]],T++T9) ⟨rfl,trivial⟩ (fun M=>⟨(M.only (.cons _ (.cons _ (.refl _))) (.refl _)).cast rfl (by dsimp only;rw[← fN];rfl),by omega,by rw[awn,hl];rfl,jf he rfl,rS (R:=bV) (fun _ _ _ _ hs h=>bV.mono hs h) hl hR (Vn hy) (fun r hr=>awl.2 (.inl hr)) (E1.mono fun r hr=>awl.2 (.inr hr))⟩) (by dsimp only;omega)
 obtain rfl:m=e.kids.length:=by simp at h;omega
 obtain⟨x1,y1,rfl⟩:=M.form 0 rfl;refine lb 0<|an rfl<|lb 1<|an ⟨rfl,rfl⟩ fun w M=>ei (x:=1)<|an rfl fun M=>⟨_,rfl,⟨none,0,x1,y1,_,(by rw[show(ak.node e.op 0 0 0 [] ay.zero (e.kids.map (aI p.bools))).kids.length=e.kids.length from awj ..];rfl),?_,M.bC⟩,M.below⟩
 rw[show(ak.node e.op 0 0 0 [] ay.zero (e.kids.map (aI p.bools))).kids.length=e.kids.length from awj ..];exact bV.node (names:=[]) (set:=ay.zero) (es:=es) rfl rfl (awA _ (awx ..)) (by rw[awj];exact awx ..) (by rw[awj];exact hl) he fun i x y h1 h2=>(hR i x y h1 h2).mono fun r hr=>awA _ (awA _ hr)
def f_(x n:Int):Nat→List Int→Int
 | _,[]=>0
 | i,y::l=>if y=x then (i:Int)+1 else if y=n then -(i:Int)-1 else f_ x n (i+1) l
theorem Kt{x n y:Int}{m:Nat}{l:List Int}(hy:l[m]?=some y)(h1:y≠x)(h2:y≠n):f_ x n m (l.drop m)=f_ x n (m+1) (l.drop (m+1)):=by
 obtain⟨hm,rfl⟩:=aws.1 hy;rw[List.drop_eq_getElem_cons hm,f_,if_neg h1,if_neg h2]
theorem aaP{x n y:Int}{m:Nat}{l:List Int}(hy:l[m]?=some y)(h1:y=x):f_ x n m (l.drop m)=(m:Int)+1:=by
 obtain⟨hm,rfl⟩:=aws.1 hy;rw[List.drop_eq_getElem_cons hm,f_,if_pos h1]
theorem aaQ{x n y:Int}{m:Nat}{l:List Int}(hy:l[m]?=some y)(h1:y≠x)(h2:y=n):f_ x n m (l.drop m)=-(m:Int)-1:=by
 obtain⟨hm,rfl⟩:=aws.1 hy;rw[List.drop_eq_getElem_cons hm,f_,if_neg h1,if_pos h2]
theorem Qb{x n:Int}{m:Nat}{l:List Int}(hm:m=l.length):f_ x n m (l.drop m)=0:=by rw[hm,List.drop_length,f_]
def jN(N:List ((Unit×Int)×Nat)):List Int:=N.map fun z=>z.1.2
theorem Um{N:List ((Unit×Int)×Nat)}{m:Nat}{z:(Unit×Int)×Nat}(h:N[m]?=some z):(jN N)[m]?=some z.1.2:=by unfold jN;rw[List.getElem?_map,h];rfl
theorem wR(N:List ((Unit×Int)×Nat)):(jN N).length=N.length:=awj ..
theorem rV{w:World}{g:Nat}{x:Int}(h:Whole w g 52 #[.int .u64 x]):SliceAt w (.slice (some ⟨g,0,none⟩) 1 1) 1 [x].length ([x].flatMap O8):=zj (cs:=[.int .u64 x]) h rfl (fun u hu=>by rw[awm.1 hu];rfl)
theorem Sx(w0:World)(v:Value)(N:List ((Unit×Int)×Nat))(hs:SliceAt w0 v 1 N.length (N.flatMap sR))(hN:cG w0 0 N)(hl:N.length≤100000)(gx gn:Nat)(x n:Int)(hX:Whole w0 gx 52 #[.int .u64 x])(hNx:Whole w0 gn 52 #[.int .u64 n]):Calls Tryz.prog 174 #[v,.slice (some ⟨gx,0,none⟩) 1 1,.slice (some ⟨gn,0,none⟩) 1 1] w0 (fun(r:Ending) (w':World)=>r=.returned (.int .i64 (f_ x n 0 (jN N)))∧awp w0.heap.size w0 w'):=by
 obtain⟨_,_,rfl,-⟩:=hs.form (by decide);refine bP [] (fn:=Tryz.f174) Tryz.func174 rfl Tryz.ntmps174 rfl<|lr (ι:=Nat) (fun m=>[(11,.int .i64 (m:Int))]) (fun m _=>m≤N.length∧f_ x n 0 (jN N)=f_ x n m ((jN N).drop m)) (fun m=>N.length-m) 0 (an ⟨⟨rfl,trivial⟩,fun M=>⟨M,awu _,rfl⟩⟩ ?_);intro m w M ⟨hm,hI⟩;refine an (fun h=>?_) fun h M=>⟨ri (hI.trans (Qb (by rw[wR];simp at h;omega))),M.below⟩
 have hlt:m<N.length:=by simp at h;omega
 obtain⟨z,hz⟩:∃ z,N[m]?=some z:=⟨_,awt hlt⟩;obtain⟨b,o,e,hc⟩:=SliceAt.elt hs (fun _=>rfl) (by decide) hz hlt;have hzw:=(hN z (awv hz)).1;have hy:=Um hz;refine ia<|an ⟨e,rfl,hlt⟩<|lc (x:=.slice (some ⟨z.2,0,none⟩) 1 1)<|an (bY M.below hc 0 _ rfl)<|cl<|an (ru _ _ _ [z.1.2] [x] (rV (Whole.under M.below hzw hzw.lt)) (rV (Whole.under M.below hX hX.lt))) fun w1 M1=>?_
 refine an (fun h1=>an (by omega) fun M=>⟨ri (hI.trans (aaP hy (by simpa using h1))),M.below⟩) fun h1=>?_
 have h1:z.1.2≠x:=by simpa using h1
 refine cl<|an (ru _ _ _ [z.1.2] [n] (rV (Whole.under M1.below hzw hzw.lt)) (rV (Whole.under M1.below hNx hNx.lt))) fun w2 M2=>?_
 refine an (fun h2=>an (by omega)<|an (by omega) fun M=>⟨ri (by rw[hI,aaQ hy h1 (by simpa using h2)];omega),M.below⟩) fun h2=>?_
 exact an (by omega)<|bk (m+1) ⟨rfl,trivial⟩ (fun M=>⟨M,by omega,hI.trans (Kt hy h1 (by simpa using h2))⟩) (by dsimp only;omega)
theorem aV.WH{B:Nat}{w0 w w':World}{bs bs':List Bx}{rs rs':List Rw}(M:aV B w0 w bs rs)(N:aV w.heap.size w w' bs' rs'):aV B w0 w' (bs'++bs) (rs++rs'):=by
 have hb:=N.below;have M':=M.keep hb;have R:=M.bQ hb N.bC;refine⟨M'.below,M'.le,M'.old,fun b h=>?_,fun b h=>?_,?_,R.row,fun r hr b h=>?_,R.wJ⟩
 ·rcases awl.1 h with h|h
  ·exact N.box b h
  ·exact M'.box b h
 ·rcases awl.1 h with h|h
  ·exact awk M.big (N.lo b h)
  ·exact M'.lo b h
 ·rw[List.map_append];refine List.nodup_append.2 ⟨N.nd,M.nd,?_⟩;intro x hx y hy e;obtain⟨b,hb1,rfl⟩:=awo.1 hx;obtain⟨c,hc1,rfl⟩:=awo.1 hy;have h1:=N.lo b hb1;have h2:=(M.box c hc1).lt;omega
 ·rcases awl.1 h with h|h
  ·rcases awl.1 hr with hr|hr
   ·intro e;have h1:=((M.row r hr).lt _ e).2;have h2:=N.lo b h;omega
   ·exact N.far r hr b h
  ·exact R.far r hr b h
def ef{α:Type}(f:Int→Option α)(k:Int)(v:α):Int→Option α:=fun j=>if j=k then some v else f j
def Bm{α:Type}(c:α→Value)(L:List (Int×Value))(f:Int→Option α):Prop:=∀ k,jT L k=(f k).map c
theorem Bm.nil{α:Type}(c:α→Value):Bm c [] (fun _=>none):=fun _=>rfl
theorem Bm.put{α:Type}{c:α→Value}{L:List (Int×Value)}{f:Int→Option α}(h:Bm c L f)(k:Int)(v:α):Bm c ((k,c v)::iq L k) (ef f k v):=fun j=>by
 rw[AB];unfold ef;by_cases e:j=k
 ·rw[if_pos e,if_pos e];rfl
 ·rw[if_neg e,if_neg e,h j]
theorem Bm.get{α:Type}{c:α→Value}{L:List (Int×Value)}{f:Int→Option α}(h:Bm c L f)(k:Int)(z:α):(jT L k).getD (c z)=c ((f k).getD z):=by
 rw[h k];cases f k<;>rfl
def eS(c:Int):Int:=if c<0-c then 0-c else c
def mV(l:List aj)(f:Int→Option Bool):Int→Option Bool:=l.foldl (fun g y=>ef g (eS y.cond) true) f
def oq(l:List bE)(f:Int→Option Bool):Int→Option Bool:=l.foldl (fun g y=>ef g (eS y.cond) true) f
def iu(p:aA):Int→Option Bool:=oq p.trans (mV p.rules fun _=>none)
theorem Mh{l:List aj}{f:Int→Option Bool}{m:Nat}{y:aj}(hy:l[m]?=some y):mV (l.take (m+1)) f=ef (mV (l.take m) f) (eS y.cond) true:=by
 unfold mV;rw[bp hy,List.foldl_append];rfl
theorem Mg{l:List bE}{f:Int→Option Bool}{m:Nat}{y:bE}(hy:l[m]?=some y):oq (l.take (m+1)) f=ef (oq (l.take m) f) (eS y.cond) true:=by
 unfold oq;rw[bp hy,List.foldl_append];rfl
structure pZ where
 rI:Int→Option Int
 ev:Int→Option Bool
 nv:Int→Option Bool
 seen:List Int
 kids:List ak
def dh(i:Nat)(k:Int)(s:pZ):pZ:={ s with rI:=ef (ef s.rI ((i:Int)+1) k) (0-((i:Int)+1)) (0-k) }
def eU(p:aA)(i:Nat)(e:ak)(s:pZ):pZ:=
 if (fS (aI p.bools e)||oP (aI p.bools e))=true then { s with ev:=ef (ef s.ev ((i:Int)+1) (fS (aI p.bools e))) (0-((i:Int)+1)) (!fS (aI p.bools e)),nv:=ef (ef s.nv ((i:Int)+1) (!fS (aI p.bools e))) (0-((i:Int)+1)) (fS (aI p.bools e)) }
 else if (iu p ((i:Int)+1)).getD false=false then s
 else
  let x:=bJ (aG p.bools.length) p.bools.length e
  let k:=f_ x (notM (aG p.bools.length) x) 0 s.seen
  if k=0 then dh i ((s.seen.length:Int)+1) { s with seen:=s.seen++[x],kids:=s.kids++[e] } else dh i k s
def jI(p:aA)(i:Nat):List ak→pZ→pZ
 | [],s=>s
 | e::l,s=>jI p (i+1) l (eU p i e s)
def cs0:pZ:=⟨fun _=>none,fun _=>none,fun _=>none,[],[]⟩
def bn(p:aA)(m:Nat):pZ:=jI p 0 (p.conds.take m) cs0
theorem Dn(p:aA):∀ (l:List ak) (i:Nat) (s:pZ) (e:ak),jI p i (l++[e]) s=eU p (i+l.length) e (jI p i l s)
 | [],i,s,e=>rfl
 | y::l,i,s,e=>by
  rw[List.cons_append,jI,jI,Dn p l (i+1) _ e,List.length_cons];congr 1;omega
theorem kW{p:aA}{m:Nat}{e:ak}(hy:p.conds[m]?=some e):bn p (m+1)=eU p m e (bn p m):=by
 obtain⟨hm,-⟩:=aws.1 hy;unfold bn;rw[bp hy,Dn,awB,Nat.min_eq_left (by omega),Nat.zero_add]
theorem QD{c:Int}(h1:-1000000≤c)(h2:c≤1000000):iX (eS c):=by unfold eS;split<;>constructor<;>omega
theorem rD{p:aA}{m:Nat}{e:ak}(hy:p.conds[m]?=some e)(h:(fS (aI p.bools e)||oP (aI p.bools e))=true):bn p (m+1)={ bn p m with ev:=ef (ef (bn p m).ev ((m:Int)+1) (fS (aI p.bools e))) (0-((m:Int)+1)) (!fS (aI p.bools e)),nv:=ef (ef (bn p m).nv ((m:Int)+1) (!fS (aI p.bools e))) (0-((m:Int)+1)) (fS (aI p.bools e)) }:=by rw[kW hy,eU,if_pos h]
theorem vV{p:aA}{m:Nat}{e:ak}(hy:p.conds[m]?=some e)(h:(fS (aI p.bools e)||oP (aI p.bools e))=false)(hu:(iu p ((m:Int)+1)).getD false=false):bn p (m+1)=bn p m:=by rw[kW hy,eU,if_neg (by rw[h];decide),if_pos hu]
theorem Dl{p:aA}{m:Nat}{e:ak}(hy:p.conds[m]?=some e)(h:(fS (aI p.bools e)||oP (aI p.bools e))=false)(hu:(iu p ((m:Int)+1)).getD false=true)(hk:f_ (bJ (aG p.bools.length) p.bools.length e) (notM (aG p.bools.length) (bJ (aG p.bools.length) p.bools.length e)) 0 (bn p m).seen=0):bn p (m+1)=dh m (((bn p m).seen.length:Int)+1) { bn p m with seen:=(bn p m).seen++[bJ (aG p.bools.length) p.bools.length e],kids:=(bn p m).kids++[e] }:=by
 rw[kW hy,eU,if_neg (by rw[h];decide),if_neg (by rw[hu];decide)];dsimp only;rw[if_pos hk]
theorem Dk{p:aA}{m:Nat}{e:ak}(hy:p.conds[m]?=some e)(h:(fS (aI p.bools e)||oP (aI p.bools e))=false)(hu:(iu p ((m:Int)+1)).getD false=true)(hk:f_ (bJ (aG p.bools.length) p.bools.length e) (notM (aG p.bools.length) (bJ (aG p.bools.length) p.bools.length e)) 0 (bn p m).seen≠0):bn p (m+1)=dh m (f_ (bJ (aG p.bools.length) p.bools.length e) (notM (aG p.bools.length) (bJ (aG p.bools.length) p.bools.length e)) 0 (bn p m).seen) (bn p m):=by
 rw[kW hy,eU,if_neg (by rw[h];decide),if_neg (by rw[hu];decide)];dsimp only;rw[if_neg hk]
theorem Qo(p:aA):∀ (l:List ak) (i:Nat) (s:pZ),(jI p i l s).seen.length≤s.seen.length+l.length∧(s.kids.length=s.seen.length→(jI p i l s).kids.length=(jI p i l s).seen.length)
 | [],i,s=>⟨Nat.le_refl _,fun h=>h⟩
 | e::l,i,s=>by
  have h1:(eU p i e s).seen.length≤s.seen.length+1∧(s.kids.length=s.seen.length→(eU p i e s).kids.length=(eU p i e s).seen.length):=by
   unfold eU;split
   ·exact⟨Nat.le_succ _,fun h=>h⟩
   ·split
    ·exact⟨Nat.le_succ _,fun h=>h⟩
    ·dsimp only;split
     ·exact⟨by simp[dh],fun h=>by simp[dh,h]⟩
     ·exact⟨Nat.le_succ _,fun h=>h⟩
  have h2:=Qo p l (i+1) (eU p i e s);rw[jI,List.length_cons];exact⟨by omega,fun h=>h2.2 (h1.2 h)⟩
theorem Dm(p:aA)(m:Nat):(bn p m).seen.length≤m∧(bn p m).kids.length=(bn p m).seen.length:=by
 have h:=Qo p (p.conds.take m) 0 cs0;have h2:(p.conds.take m).length≤m:=List.length_take_le _ _;have h3:=h.1;exact⟨awk h3 (by show 0+_≤m;omega),h.2 rfl⟩
theorem yA(x n:Int):∀ (l:List Int) (i:Nat),-((i:Int)+l.length)≤f_ x n i l∧f_ x n i l≤(i:Int)+l.length
 | [],i=>by rw[f_];constructor<;>simp<;>omega
 | y::l,i=>by
  have h:=yA x n l (i+1);rw[f_,List.length_cons];split
  ·constructor<;>omega
  ·split
   ·constructor<;>omega
   ·constructor<;>omega
theorem NH{T T9:List Rw}{es:List (List Value)}{ks:List ak}{x:List Value}{y:ak}(hl:es.length=ks.length)(h:∀ (i:Nat) x y,es[i]?=some x→ks[i]?=some y→bV T x y)(hx:bV T9 x y):
 ∀ (i:Nat) x' y',(es++[x])[i]?=some x'→(ks++[y])[i]?=some y'→bV (T++T9) x' y':=fun i x' y' h1 h2=>by
 by_cases hi:i<es.length
 ·rw[List.getElem?_append_left hi] at h1;rw[List.getElem?_append_left (by omega)] at h2;exact(h i x' y' h1 h2).mono fun r hr=>awl.2 (.inl hr)
 ·have hlt:=(aws.1 h1).1;rw[awn,List.length_singleton] at hlt;obtain rfl:i=es.length:=by omega
  rw[List.getElem?_append_right (Nat.le_refl _),Nat.sub_self] at h1;rw[hl,List.getElem?_append_right (Nat.le_refl _),Nat.sub_self] at h2;obtain rfl:x=x':=by simpa using h1
  obtain rfl:y=y':=by simpa using h2
  exact hx.mono fun r hr=>awl.2 (.inr hr)
theorem Mb{α:Type}(N:List ((α×Int)×Nat)):∀ u∈N.flatMap sR,u.oneCell'=true:=fun u hu=>by
 obtain⟨z,-,hz⟩:=List.mem_flatMap.1 hu;simp only[sR,awm] at hz;rw[hz];rfl
def adM(p:aA)(w0:World)(v:Value)(w':World):Prop:=∃ (mA mB mC:Nat) (LA LB LC:List (Int×Value)) (a:Option Addr) (c:Nat) (es:List (List Value)) (T:List Rw),v=.agg #[.map (some mA),.map (some mB),.map (some mC),.slice a (bn p p.conds.length).kids.length c]∧Mm w0 w' [(mC,9003,eC LC),(mB,9003,eC LB),(mA,9003,eC LA)] (⟨.slice a (bn p p.conds.length).kids.length c,89,10,(bn p p.conds.length).kids.length,es.flatten⟩::T)∧Bm (Value.int .i64) LA (bn p p.conds.length).rI∧Bm Value.bool LB (bn p p.conds.length).ev∧Bm Value.bool LC (bn p p.conds.length).nv∧es.length=(bn p p.conds.length).kids.length∧(∀ x∈es,x.length=10)∧(∀ (i:Nat) x y,es[i]?=some x→(bn p p.conds.length).kids[i]?=some y→bV T x y)
theorem Ru{w:World}{B g:Nat}{x:Value}(h:w.ownsRow B 52 1 (.slice (some ⟨g,0,none⟩) 1 1) 1 [x]):Whole w g 52 #[x]:=by
 obtain⟨-,⟨h,-⟩|⟨g',cap,cur,hv,-,hg,-,-,hs,ht⟩⟩:=h
 ·cases h
 ·cases hv;rw[List.take_of_length_le (by simp[hs])] at ht;obtain rfl:cur=#[x]:=by rw[← ht]
  exact hg
def abp(z:(Unit×Int)×Nat):Rw:=⟨.slice (some ⟨z.2,0,none⟩) 1 1,52,1,1,[.int .u64 z.1.2]⟩
theorem YT{B:Nat}{w0 w:World}{bs:List Bx}{rs T:List Rw}{N:List ((Unit×Int)×Nat)}(M:aV B w0 w bs rs)(h:∀ z∈N,abp z∈T)(hs:∀ r∈T,r∈rs):cG w 0 N:=fun z hz=>⟨Ru (M.row _ (hs _ (h z hz))),awu _⟩
theorem Ms(w0:World)(c0 c1 c2 c3 c4 c5 c6 c7 c8 c9 aQ aL aK aP aO aN aM:Value)(p:aA)(hp:aJ w0 c0 c1 c2 c3 c4 c5 c6 c7 c8 c9 aQ aL aK aP aO aN aM p)(hok:p.Ok)(iY:nE p)(hn:p.bools.length≤5)(hcl:p.conds.length≤900)(Zi:∀ y∈p.rules,-1000000≤y.cond∧y.cond≤1000000)(Zh:∀ y∈p.trans,-1000000≤y.cond∧y.cond≤1000000)(acY:∀ e∈p.conds,∃ d,d≤12∧eV d (aI p.bools e)∧(cQ (aI p.bools e)).length≤5):Calls Tryz.prog 87 #[.agg #[c0,c1,c2,c3,c4,c5,c6,c7,c8,c9,aQ,aL,aK,aP,aO,aN,aM]] w0 (fun(r:Ending) (w':World)=>∃ v,r=.returned v∧adM p w0 v w'):=by
 obtain⟨_,_,_,_,_,_,_,_,_,_,_,_,_,_,_,_,_,_,_,_,_,_,_,_,_,_,_,_,_,_,_,_,_,_,rfl,rfl,rfl,rfl,rfl,rfl,rfl,rfl,rfl,rfl,rfl,rfl,rfl,rfl,rfl,rfl,rfl⟩:=hp.open;obtain⟨_,_,-,-,hmR,-⟩:=SliceAt.form hp.rules (by decide);obtain⟨_,_,-,-,hmT,-⟩:=SliceAt.form hp.trans (by decide);refine bP [] (fn:=Tryz.f87) Tryz.func87 rfl Tryz.ntmps87 rfl<|fun g1 w1 M1=>ei<|an T6 fun g2 w2 M2=>mmk M2 fun mu w3 M3=>lb 2<|an rfl<|lp (ι:=Nat×List (Int×Value)) (fun(m,L)=>[(22,.int .i64 (m:Int))]) (fun(m,L)=>(mu,9003,eC L)::_) (fun _=>[]) (fun(m,L) _=>m≤p.rules.length∧Bm Value.bool L (mV (p.rules.take m) fun _=>none)) (fun(m,L)=>p.rules.length-m) (0,[]) (an ⟨⟨rfl,trivial⟩,fun M=>⟨M,awu _,Bm.nil _⟩⟩ ?_)
 rintro⟨m,L⟩ w M ⟨hm,hU⟩;refine an (fun h=>?_) fun h=>?_
 ·have hlt:m<p.rules.length:=by simp at h;omega
  obtain⟨y,hy⟩:∃ y,p.rules[m]?=some y:=⟨_,awt hlt⟩;obtain⟨b,o,e,hc⟩:=SliceAt.elt hp.rules (fun _=>rfl) (by decide) hy hlt;have hcb:=Zi y (awv hy);exact ia<|an ⟨e,rfl,hlt⟩<|lc<|an (bY M.below hc)<|ei<|an mP fun g3 w4 M4=>lb 0<|an ⟨rfl,rfl⟩ fun w5 M5=>lb 0<|an rfl<|lb 0<|an rfl<|an (by omega)<|fbp M5 (v:=.int .i64 (eS y.cond)) (fun a o ho hv=>Di ho (dU hv) (fE hv))<|Vw M5 1 rfl BI (QD hcb.1 hcb.2) fun w6 M6=>an (by omega)<|bk (m+1,(eS y.cond,.bool true)::iq L (eS y.cond)) ⟨rfl,trivial⟩ (fun M=>⟨M.only (.cons _ (.refl _)) (.refl _),by omega,by rw[Mh hy];exact hU.put _ true⟩) (by dsimp only;omega)
 obtain rfl:m=p.rules.length:=by simp at h;omega
 rw[awC] at hU;clear M M1 M2 M3 hm h;refine lb 2<|an rfl<|lp (ι:=Nat×List (Int×Value)) (fun(m,L)=>[(37,.int .i64 (m:Int))]) (fun(m,L)=>(mu,9003,eC L)::_) (fun _=>[]) (fun(m,L) _=>m≤p.trans.length∧Bm Value.bool L (oq (p.trans.take m) (mV p.rules fun _=>none))) (fun(m,L)=>p.trans.length-m) (0,L) (an ⟨⟨rfl,trivial⟩,fun M=>⟨M,awu _,hU⟩⟩ ?_);clear hU L;rintro⟨m,L⟩ w M ⟨hm,hU⟩;refine an (fun h=>?_) fun h=>?_
 ·have hlt:m<p.trans.length:=by simp at h;omega
  obtain⟨y,hy⟩:∃ y,p.trans[m]?=some y:=⟨_,awt hlt⟩;obtain⟨b,o,e,hc⟩:=SliceAt.elt hp.trans (fun _=>rfl) (by decide) hy hlt;have hcb:=Zh y (awv hy);exact ia<|an ⟨e,rfl,hlt⟩<|lc<|an (bY M.below hc)<|ei<|an LK fun g3 w4 M4=>lb 0<|an ⟨rfl,rfl⟩ fun w5 M5=>lb 0<|an rfl<|lb 0<|an rfl<|an (by omega)<|fbp M5 (v:=.int .i64 (eS y.cond)) (fun a o ho hv=>Di ho (dU hv) (fE hv))<|Vw M5 1 rfl BI (QD hcb.1 hcb.2) fun w6 M6=>an (by omega)<|bk (m+1,(eS y.cond,.bool true)::iq L (eS y.cond)) ⟨rfl,trivial⟩ (fun M=>⟨M.only (.cons _ (.refl _)) (.refl _),by omega,by rw[Mg hy];exact hU.put _ true⟩) (by dsimp only;omega)
 obtain rfl:m=p.trans.length:=by simp at h;omega
 rw[awC] at hU;replace hU:Bm Value.bool L (iu p):=hU;refine mmk M fun mA wA MA=>mmk MA fun mB wB MB=>mmk MB fun mC wC MC=>ei (x:=.agg #[.map (some mA),.map (some mB),.map (some mC),.slice none 0 0])<|an (bd (by kernel_rfl))<|ei<|an T6 fun g5 w7 M7=>lb 0<|an ⟨rfl,rfl⟩ fun w8 M8=>lb 6<|an rfl<|cg<|an (nN _ _ _ _ _ _ _ _ _ _ _ _ _ _ _ _ _ _ p.bools.length _ hn) fun v w9 ⟨⟨tp,mb,hv,hT,_,h1,_⟩,P8⟩=>⟨_,_,M8.newAt P8 hT h1,?_⟩
 subst hv;clear M MA MB MC M7 M8 hT hm h P8
 refine lb 7<|an rfl<|lp (ι:=Nat×List (Int×Value)×List (Int×Value)×List (Int×Value)×List ((Unit×Int)×Nat)×Value×Value×List (List Value)×List Rw) (fun(m,LA,LB,LC,N,vs,vk,es,T)=>[(10,vs),(58,.int .i64 (m:Int))]) (fun(m,LA,LB,LC,N,vs,vk,es,T)=>_::(g5,159,#[.map (some mA),.map (some mB),.map (some mC),vk])::(mC,9003,eC LC)::(mB,9003,eC LB)::(mA,9003,eC LA)::_) (fun(m,LA,LB,LC,N,vs,vk,es,T)=>⟨vs,139,1,N.length,N.flatMap sR⟩::⟨vk,89,10,N.length,es.flatten⟩::T)
  (fun(m,LA,LB,LC,N,vs,vk,es,T) _=>m≤p.conds.length∧Bm (Value.int .i64) LA (bn p m).rI∧Bm Value.bool LB (bn p m).ev∧Bm Value.bool LC (bn p m).nv∧jN N=(bn p m).seen∧(∀ z∈N,abp z∈T)∧es.length=N.length∧(∀ x∈es,x.length=10)∧∀ (i:Nat) x y,es[i]?=some x→(bn p m).kids[i]?=some y→bV T x y) (fun(m,_)=>p.conds.length-m) (0,[],[],[],[],.slice none 0 0,.slice none 0 0,[],[])
  (an ⟨⟨rfl,rfl,trivial⟩,fun M=>⟨(M.bB 89 10).bB 139 1,awu _,Bm.nil _,Bm.nil _,Bm.nil _,rfl,(fun _ h=>by cases h),rfl,(fun _ h=>by cases h),fun i x y h=>by simp at h⟩⟩ ?_)
 rintro⟨m,LA,LB,LC,N,vs,vk,es,T⟩ w M ⟨hm,hA,hB,hC,hNw,hNr,hes,vI,hR⟩;have hcs:=Dm p m;have hsl:N.length=(bn p m).seen.length:=by rw[← hNw,wR]
 refine an (fun h=>?_) fun h=>?_
 ·have hlt:m<p.conds.length:=by simp at h;omega
  obtain⟨e,hy⟩:∃ e,p.conds[m]?=some e:=⟨_,awt hlt⟩;have hye:=awv hy;obtain⟨b,o,_,e1,hE,hc⟩:=aq.elt hp.conds (by decide) hy;obtain⟨_,_,rfl,hn',hk'⟩:=hE.open;obtain⟨_,_,rfl,-⟩:=aF.get hn';obtain⟨_,_,rfl,-⟩:=aq.form hk' (by decide);have hsE:=iY.Qp e hye;obtain⟨d,hd,hBE,hnN⟩:=acY e hye;refine ia<|an ⟨e1,rfl,hlt⟩<|lc<|an (bY M.below hc)<|ei<|an sE fun g6 qq jZ=>lb 0<|an ⟨rfl,rfl⟩ fun zS M11=>an (by omega)<|lb 0<|an rfl<|lb 8<|an rfl<|cg<|an (Ga p hok e _ _ (hE.keep M11.below) hsE _ _ _ _ _ _ _ _ _ _ _ _ _ _ _ _ _ (hp.keep M11.below)) fun v DZ ⟨⟨na,nc,ka,kc,T9,hv,E1,Gt⟩,Kl⟩=>⟨_,_,M11.keep Kl,?_⟩
  subst hv;have Bn:=M11.keep Kl;refine cl<|an (G4 _ _ (aI p.bools e) d (E1.at_ Gt) hBE hd hnN) fun Jb wz=>an (fun hc0=>?_) fun hc0=>?_
  ·refine sp [0,1,2,3,4,5,6,7,8] (.step 9 (.last 10)) [6] (by kernel_rfl)<|lb 0<|an rfl<|lb 0<|an rfl<|fun Uv apY IL=>Vw IL 4 rfl BI (by constructor<;>omega) fun O4 Fp=>an rfl<|Vw Fp 3 rfl BI (by constructor<;>omega) fun X8 LI=>sp [0,1,2,3,4,5,6,7,8,9,10] (.step 11 (.last 12)) [6] (by kernel_rfl)<|lb 0<|an rfl<|an (by omega)<|lb 0<|an rfl<|an (by omega)<|fun X7 apW XI=>Vw XI 4 rfl BI (by constructor<;>omega) fun w18 XH=>an rfl<|Vw XH 3 rfl BI (by constructor<;>omega) fun w19 ZX=>an (by omega)<|bk (m+1,LA,_,_,N,vs,vk,es,T) ⟨rfl,rfl,trivial⟩ (fun M=>⟨M.only (.cons _ (.refl _)) (.refl _),by omega,by rw[rD hy hc0];exact hA,by rw[rD hy hc0];exact(hB.put _ _).put _ _,by rw[rD hy hc0];exact(hC.put _ _).put _ _,by rw[rD hy hc0];exact hNw,hNr,hes,vI,by rw[rD hy hc0];exact hR⟩) (by dsimp only;omega)
  refine ml1 wz 6 rfl BI (fun _=>rfl) (by constructor<;>omega) fun IL=>?_
  rw[hU.get];refine an (fun hu=>?_) fun hu=>?_
  ·have hu0:(iu p ((m:Int)+1)).getD false=false:=by simpa using hu
   exact an (by omega)<|bk (m+1,LA,LB,LC,N,vs,vk,es,T) ⟨rfl,rfl,trivial⟩ (fun M=>⟨M.only (.cons _ (.refl _)) (.refl _),by omega,by rw[vV hy hc0 hu0];exact hA,by rw[vV hy hc0 hu0];exact hB,by rw[vV hy hc0 hu0];exact hC,by rw[vV hy hc0 hu0];exact hNw,hNr,hes,vI,by rw[vV hy hc0 hu0];exact hR⟩) (by dsimp only;omega)
  have hu0:(iu p ((m:Int)+1)).getD false=true:=by simpa using hu
  refine lb 0<|an rfl<|cst IL (wT e _ _ tp mb _ _ _ _ _ _ _ _ _ _ _ _ _ _ _ _ _ p.bools.length _ _ hn (IL.b 1 rfl) (hE.keep IL.below)) fun gw O4 Fp=>cst Fp (Az _ tp mb _ _ _ _ _ _ _ _ _ _ _ _ _ _ _ _ _ p.bools.length _ _ (Fp.b 2 rfl) gw _ (Fp.b 0 rfl)) fun gq X8 LI=>?_
  have hnr:=YT LI hNr fun r hr=>awA _ (awA _ hr)
  refine cl<|an (Sx _ _ N (SliceAt.bq (LI.r 0 rfl) (Mb N)) hnr (by omega) gw gq _ _ (LI.b 1 rfl) (LI.b 0 rfl)) fun X7 XI=>?_
  have hfb:=yA (bJ (aG p.bools.length) p.bools.length e) (notM (aG p.bools.length) (bJ (aG p.bools.length) p.bools.length e)) (jN N) 0;rw[wR] at hfb;refine an (fun hk=>?_) fun hk=>?_
  ·have hk0:f_ (bJ (aG p.bools.length) p.bools.length e) (notM (aG p.bools.length) (bJ (aG p.bools.length) p.bools.length e)) 0 (bn p m).seen=0:=by rw[← hNw];exact of_decide_eq_true hk
   refine sp [1,4,5,6] (.alt (.step 0 (.step 2 (.step 3 (.step 7 (.step 8 (.step 9 (.step 10 (.step 11 (.last 12))))))))) (.step 2 (.step 0 (.step 3 (.step 7 (.step 8 (.step 9 (.step 10 (.step 11 (.last 12)))))))))) [6,8] (by kernel_rfl)<|lb 0<|an rfl<|lb 1<|an rfl<|fun w18 afX XH=>an (an rfl<|fun g7 w19 ZX=>an rfl<|?_) (fun g7 w19 ZX=>an rfl<|an rfl<|?_)
   all_goals
    refine Ej 0 id rfl (ZX.slice 0 rfl (k:=1) (n:=1) rfl rfl (by simp[maxLen])) ⟨by unfold maxLen;omega,by omega⟩ fun va vc w20 M20=>an rfl<|cg<|an (Nf e _ _ (hE.keep M20.below) hsE) fun v w21 ⟨⟨xn,xc,xk,xd,T7,hv,hT7,hR7⟩,ajo⟩=>⟨_,_,M20.bQ ajo hR7,?_⟩
    subst hv;refine an rfl<|fun g9 w22 M22=>an rfl<|Ej 1 id rfl (M22.slice 0 rfl (k:=10) (n:=1) rfl rfl (by simp[maxLen])) ⟨by unfold maxLen;omega,by omega⟩ fun vb vd w23 M23=>an rfl<|an rfl<|an rfl<|lb 6<|an ⟨rfl,rfl⟩ fun w24 M24=>?_
    refine sp [0,1,2,3,4,5,6,7,8,9] (.step 10 (.last 11)) [6] (by kernel_rfl)<|lb 0<|an rfl<|lb 0<|an rfl<|an (by omega)<|an (by omega)<|fun w25 apV M25=>Vw M25 9 rfl QW (by constructor<;>omega) fun w26 M26=>an rfl<|Vw M26 9 rfl QW (by constructor<;>omega) fun w27 M27=>an (by omega)<|bk (m+1,_,LB,LC,N++[(((),bJ (aG p.bools.length) p.bools.length e),gw)],.slice va (N.length+1) vc,.slice vb (N.length+1) vd,es++[[.int .i64 e.op,.int .i64 e.a,.int .i64 e.rel,.int .i64 e.b,.slice xn e.names.length xc,.int .u64 e.set.a,.int .u64 e.set.b,.int .u64 e.set.c,.int .u64 e.set.d,.slice xk e.kids.length xd]],abp (((),bJ (aG p.bools.length) p.bools.length e),gw)::(T++T7)) ⟨rfl,rfl,trivial⟩ (fun M=>⟨(((M.only (.cons _ (.cons _ (.cons _ (.cons_cons _ (.cons _ (.refl _)))))) (.refl _)).Dv 1 1 (by simp[maxLen]) rfl).perm (List.perm_middle (l₁:=[_,_])).symm).cast rfl (by dsimp only;rw[awD,awn,← fN];rfl),by omega,?_,by rw[Dl hy hc0 hu0 hk0];exact hB,by rw[Dl hy hc0 hu0 hk0];exact hC,?_,?_,by rw[awn,awn,hes];rfl,jf vI rfl,?_⟩) (by dsimp only;omega)
    ·rw[Dl hy hc0 hu0 hk0];show Bm _ _ (ef (ef (bn p m).rI _ (((bn p m).seen.length:Int)+1)) _ (0-(((bn p m).seen.length:Int)+1)));rw[← hsl];exact(hA.put _ _).put _ _
    ·rw[Dl hy hc0 hu0 hk0];show jN (N++[_])=(bn p m).seen++[_];rw[← hNw];unfold jN;rw[List.map_append];rfl
    ·intro z hz;rcases awl.1 hz with hz|hz
     ·exact awA _ (awl.2 (.inl (hNr z hz)))
     ·rw[awm.1 hz];exact awx ..
    ·rw[Dl hy hc0 hu0 hk0];exact fun i x y h1 h2=>(NH (hes.trans (hsl.trans hcs.2.symm)) hR hT7 i x y h1 h2).mono fun r hr=>awA _ hr
  ·have hk0:f_ (bJ (aG p.bools.length) p.bools.length e) (notM (aG p.bools.length) (bJ (aG p.bools.length) p.bools.length e)) 0 (bn p m).seen≠0:=by rw[← hNw];exact of_decide_eq_false hk
   exact sp [0,1,2,3,4,5,6,7,8,9] (.step 10 (.last 11)) [6] (by kernel_rfl)<|lb 0<|an rfl<|lb 0<|an rfl<|an (by omega)<|an (by omega)<|fun w18 afX XH=>Vw XH 7 rfl QW (by constructor<;>omega) fun w19 ZX=>an rfl<|Vw ZX 7 rfl QW (by constructor<;>omega) fun w20 M20=>an (by omega)<|bk (m+1,_,LB,LC,N,vs,vk,es,T) ⟨rfl,rfl,trivial⟩ (fun M=>⟨M.only (.cons _ (.cons _ (.cons _ (.refl _)))) (.refl _),by omega,by rw[Dk hy hc0 hu0 hk0,← hNw];exact(hA.put _ _).put _ _,by rw[Dk hy hc0 hu0 hk0];exact hB,by rw[Dk hy hc0 hu0 hk0];exact hC,by rw[Dk hy hc0 hu0 hk0];exact hNw,hNr,hes,vI,by rw[Dk hy hc0 hu0 hk0];exact hR⟩) (by dsimp only;omega)
 obtain rfl:m=p.conds.length:=by simp at h;omega
 have hkl:=hsl.trans hcs.2.symm;obtain⟨va,vc,rfl⟩:=M.form 1 rfl;exact lb 1<|an rfl<|lb 6<|an ⟨rfl,rfl⟩ fun w21 M21=>ei (x:=6)<|an rfl fun M=>⟨_,rfl,mA,mB,mC,LA,LB,LC,va,vc,es,T,by rw[← hkl],by rw[← hkl];exact M.only (.cons _ (.cons _ (.cons_cons _ (.cons_cons _ (.cons_cons _ (.cons _ (.cons _ (.cons _ .slnil)))))))) (.cons _ (.refl _)),hA,hB,hC,hes.trans hkl,vI,hR⟩
def bN(sc:pZ)(k:Int):Int×Bool:=if (sc.ev k).getD false=true then (0,true) else ((sc.rI k).getD 0,!((sc.nv k).getD false))
theorem zJ(w0:World)(mA mB mC:Nat)(LA LB LC:List (Int×Value))(kv:Value)(sc:pZ)(hMA:aU w0 Tryz.prog 3 mA (LA.map ival))(hMB:aU w0 Tryz.prog 3 mB (LB.map ival))(hMC:aU w0 Tryz.prog 3 mC (LC.map ival))(hA:Bm (Value.int .i64) LA sc.rI)(hB:Bm Value.bool LB sc.ev)(hC:Bm Value.bool LC sc.nv)(k:Int)(hk:iX k):Calls Tryz.prog 88 #[.agg #[.map (some mA),.map (some mB),.map (some mC),kv],.int .i64 k] w0 (fun(r:Ending) (w':World)=>r=.returned (.tuple #[.int .i64 (bN sc k).1,.bool (bN sc k).2])∧awp w0.heap.size w0 w'):=by
 have ct:=NX Tryz.prog Tryz.f88 (fun(r:Ending) (w':World)=>r=.returned (.tuple #[.int .i64 (bN sc k).1,.bool (bN sc k).2])∧awp w0.heap.size w0 w') 19 4 5 rfl;refine en Tryz.func88 rfl Tryz.ntmps88 rfl (vs:=[.agg #[(.map (some mA)),(.map (some mB)),(.map (some mC)),kv],.int .i64 k]) rfl fun _ F=>?_
 have M:=Mm.start w0;refine awq fun K1 jq=>ah<|PZ (on rfl) rfl (F.u rf) rfl F rfl M fun g1 _ _ F M=>xA (v:=.int .i64 0) F rf rf rf fun _ F=>xA (v:=.bool false) F rf rf rf fun _ F=>awr<|jq _ _ ?_
 refine awq fun K2 jW=>awq fun K3 pR=>ah<|xF 1 F rf rf rf abz rf Z_ rf fun _ F=>xL F (M.b 0 rfl) rf rf rf BI rf rf fun _ F=>xM F rf rf rf fun _ F=>
  ke (on rfl) (rB (z:=.bool false) BI (by kernel_rfl) (hMB.kept (M.below.block _ hMB.lt)) rfl (F.u rf) (F.u rf) (by exact hk)) rfl F rfl (show _=(.bool ((sc.ev k).getD false):Value) from hB.get k false) fun _ F=>
  awr<|
  pR _ _ ?_
 refine wp_cond_split (F.e 9 rfl) (fun hc2=>?_) (fun hc2=>?_)
 ·have he:((sc.ev k).getD false)=true:=hc2;refine awq fun K4 p9=>ah<|xA (v:=.int .i64 0) F rf rf rf fun _ F=>xA (v:=.bool true) F rf rf rf fun _ F=>awr<|p9 _ _ ?_
  refine wp_ret<|ct _ _ _ _ _ F rfl rfl ?_;exact⟨by unfold bN;rw[if_pos he],M.below⟩
 ·have he:((sc.ev k).getD false)=false:=hc2;refine wp_skip<|jW _ _ ?_;refine awq fun K5 q5=>?_
  refine rd 11 [10,11,12,13,14,15,16,17,18,4,5] [kU (.pointer (some ⟨g1,0,none⟩)),kU ((.map (some mA))),kU (.int .i64 k),kU (.int .i64 ((sc.rI k).getD 0)),kU (.pointer (some ⟨g1,2,none⟩)),kU ((.map (some mC))),kU (.int .i64 k),kU (.bool ((sc.nv k).getD false)),kU (.bool (!((sc.nv k).getD false))),kU (.int .i64 ((sc.rI k).getD 0)),kU (.bool (!((sc.nv k).getD false)))] (by kernel_rfl) (by kernel_rfl) (by kernel_rfl) rfl (by decide) rfl rfl F ⟨bg _,bg _,bg _,bg _,bg _,bg _,bg _,bg _,bg _,bg _,bg _,trivial⟩ ⟨?_,?_,?_,?_,?_,?_,?_,?_,?_,?_,?_,trivial⟩ ?_
  ·exact fun a w Q' hf hi H G hK=>dv (on rfl) (kV rfl (G 2 _ rfl (F.g 2 rfl)).ev abz rfl aey) rfl hf rfl hK rfl
  ·exact fun a w Q' hf hi H G hK=>dv (on rfl) (dB rfl (iA (H 0 ⟨.data,by simp,rfl⟩ _ _ rfl rfl)).ev QW rfl (((M.keep hi).b 0 rfl).c1 0)) rfl hf rfl hK rfl
  ·exact fun a w Q' hf hi H G hK=>dv (on rfl) (eO rfl (G 1 _ rfl (F.g 1 rfl)).ev) rfl hf rfl hK rfl
  ·exact fun a w Q' hf hi H G hK=>dv (on rfl) (rB (z:=.int .i64 0) QW (by kernel_rfl) (hMA.kept ((M.keep hi).below.block _ hMA.lt)) rfl (iA (H 1 ⟨.data,by simp,rfl⟩ _ _ rfl rfl)).ev (iA (H 2 ⟨.data,by simp,rfl⟩ _ _ rfl rfl)).ev (by exact hk)) rfl hf rfl hK (Eq.symm (show _=(.int .i64 ((sc.rI k).getD 0):Value) from hA.get k 0))
  ·exact fun a w Q' hf hi H G hK=>dv (on rfl) (kV rfl (G 2 _ rfl (F.g 2 rfl)).ev abz rfl Z_) rfl hf rfl hK rfl
  ·exact fun a w Q' hf hi H G hK=>dv (on rfl) (dB rfl (iA (H 4 ⟨.data,by simp,rfl⟩ _ _ rfl rfl)).ev BI rfl (((M.keep hi).b 0 rfl).c1 2)) rfl hf rfl hK rfl
  ·exact fun a w Q' hf hi H G hK=>dv (on rfl) (eO rfl (G 1 _ rfl (F.g 1 rfl)).ev) rfl hf rfl hK rfl
  ·exact fun a w Q' hf hi H G hK=>dv (on rfl) (rB (z:=.bool false) BI (by kernel_rfl) (hMC.kept ((M.keep hi).below.block _ hMC.lt)) rfl (iA (H 5 ⟨.data,by simp,rfl⟩ _ _ rfl rfl)).ev (iA (H 6 ⟨.data,by simp,rfl⟩ _ _ rfl rfl)).ev (by exact hk)) rfl hf rfl hK (Eq.symm (show _=(.bool ((sc.nv k).getD false):Value) from hC.get k false))
  ·exact fun a w Q' hf hi H G hK=>dv (on rfl) (qd rfl (iA (H 7 ⟨.data,by simp,rfl⟩ _ _ rfl rfl)).ev) rfl hf rfl hK rfl
  ·exact fun a w Q' hf hi H G hK=>dv (on rfl) (oO rfl (iA (H 3 ⟨.data,by simp,rfl⟩ _ _ rfl rfl)).ev) rfl hf rfl hK rfl
  ·exact fun a w Q' hf hi H G hK=>dv (on rfl) (oO rfl (iA (H 8 ⟨.data,by simp,rfl⟩ _ _ rfl rfl)).ev) rfl hf rfl hK rfl
  (repeat clear F);intro _ _ LG F D
  obtain⟨_,h,rfl⟩:=D 9 _ _ rfl rfl;have F:=F.add h;obtain⟨_,h,rfl⟩:=D 10 _ _ rfl rfl;have F:=F.add h;have M:=M.keep LG;clear D LG;refine q5 _ _ ?_;refine wp_ret<|ct _ _ _ _ _ F rfl rfl ?_;exact⟨by unfold bN;rw[if_neg (by rw[he];decide)],M.below⟩
def cR(sc:pZ)(y:aj):Option aj:=if (bN sc y.cond).2=true then some { y with cond:=(bN sc y.cond).1 } else none
def cT(sc:pZ)(y:bE):Option bE:=if (bN sc y.cond).2=true then some { y with cond:=(bN sc y.cond).1 } else none
def KN(p:aA)(sc:pZ):aA:={ p with conds:=sc.kids,rules:=p.rules.filterMap (cR sc),trans:=p.trans.filterMap (cT sc) }
def aR(p:aA):aA:=KN p (bn p p.conds.length)
theorem Qc{α β:Type}{f:α→Option β}{l:List α}{m:Nat}{y:α}(hy:l[m]?=some y)(h:f y=none):(l.take (m+1)).filterMap f=(l.take m).filterMap f:=by
 rw[bp hy,List.filterMap_append,List.filterMap_cons,h];simp
theorem Gy{α β:Type}{f:α→Option β}{l:List α}{m:Nat}{y:α}{z:β}(hy:l[m]?=some y)(h:f y=some z):(l.take (m+1)).filterMap f=(l.take m).filterMap f++[z]:=by
 rw[bp hy,List.filterMap_append,List.filterMap_cons,h];simp
theorem Gz{α β:Type}{f:α→Option β}(l:List α)(m:Nat):((l.take m).filterMap f).length≤m:=awk (List.length_filterMap_le _ _) (List.length_take_le _ _)
theorem RowsIn.sub{B:Nat}{w:World}{T T':List Rw}(h:RowsIn B w T)(hs:T'.Sublist T):RowsIn B w T':=⟨fun r hr=>h.1 r (hs.subset hr),h.2.sublist hs⟩
theorem rE(w0:World)(c0 c1 c2 c3 c4 c5 c6 c7 c8 c9 aQ aL aK aP aO aN aM:Value)(p:aA)(hp:aJ w0 c0 c1 c2 c3 c4 c5 c6 c7 c8 c9 aQ aL aK aP aO aN aM p)(hok:p.Ok)(iY:nE p)(hn:p.bools.length≤5)(hcl:p.conds.length≤900)(Zi:∀ y∈p.rules,-1000000≤y.cond∧y.cond≤1000000)(Zh:∀ y∈p.trans,-1000000≤y.cond∧y.cond≤1000000)(acY:∀ e∈p.conds,∃ d,d≤12∧eV d (aI p.bools e)∧(cQ (aI p.bools e)).length≤5)(hrl:p.rules.length≤100000)(Y9:p.trans.length≤100000):Calls Tryz.prog 34 #[.agg #[c0,c1,c2,c3,c4,c5,c6,c7,c8,c9,aQ,aL,aK,aP,aO,aN,aM]] w0 (fun(r:Ending) (w':World)=>∃ v,r=.returned v∧(En w0 (aR p) v w'∧awp w0.heap.size w0 w')):=by
 obtain⟨_,_,_,_,_,_,_,_,_,_,_,_,_,_,_,_,_,_,_,_,_,_,_,_,_,_,_,_,_,_,_,_,_,_,rfl,rfl,rfl,rfl,rfl,rfl,rfl,rfl,rfl,rfl,rfl,rfl,rfl,rfl,rfl,rfl,rfl⟩:=hp.open;refine bP [] (fn:=Tryz.f34) Tryz.func34 rfl Tryz.ntmps34 rfl<|fun g1 w1 M1=>ei<|an kE fun g2 w2 M2=>lb 1<|an rfl<|cg<|an (Ms _ _ _ _ _ _ _ _ _ _ _ _ _ _ _ _ _ _ p (hp.keep M2.below) hok iY hn hcl Zi Zh acY) fun v w3 hC=>?_
 obtain⟨mA,mB,mC,LA,LB,LC,ca,cc,es,T,hv,hM,hmA,hmB,hmC,CS,vI,hT⟩:=hC;refine⟨_,_,M2.WH hM,?_⟩;subst hv;have M3:=M2.WH hM;unfold aR;generalize bn p p.conds.length=sc at *;refine ei<|an T6 fun g3 w4 M4=>lb 0<|an ⟨rfl,rfl⟩ fun w5 M5=>lb 5<|an rfl<|cg<|an (yI _ _ _ _ _ _ _ _ _ _ _ _ _ _ _ _ _ _ p (hp.keep M5.below) iY) fun v w6 ⟨⟨x0,n0,x1,n1,x2,n2,x3,n3,x4,n4,x5,n5,x6,n6,x7,n7,x8,n8,x9,n9,x10,n10,qh,n11,qg,n12,Lz,n13,Lx,n14,Lw,n15,Lv,n16,TC,hv,hRC,hPC⟩,LH⟩=>⟨_,_,M5.bQ LH hRC,?_⟩
 subst hv;refine ei<|an kE fun g4 w7 M7=>lb 0<|an ⟨rfl,rfl⟩ fun w8 M8=>lb 1<|an rfl<|lb 0<|an ⟨rfl,rfl⟩ fun w9 M9=>lb 0<|an ⟨rfl,rfl⟩ fun qq jZ=>lb 0<|an ⟨rfl,rfl⟩ fun zS M11=>?_
 clear M1 M2 M3 M4 M5 M7 M8 M9 jZ M11 hM hRC;refine lb 6<|an rfl<|lp (ι:=Nat×Value×List aj) (fun(m,v,L)=>[(25,.int .i64 (m:Int))]) (fun(m,v,L)=>(g4,39,#[.slice x0 p.classes.length n0,.slice x1 p.types.length n1,.slice x2 p.attrs.length n2,.slice x3 p.roles.length n3,.slice x4 p.users.length n4,.slice x5 p.bools.length n5,.slice x6 p.aW.length n6,.slice x7 p.cats.length n7,.slice ca sc.kids.length cc,v,.slice none 0 0,.slice qh p.aS.length n11,.slice qg p.ranges.length n12,.slice Lz p.cons.length n13,.slice Lx p.bL.length n14,.slice Lw p.files.length n15,.slice Lv p.asserts.length n16])::_) (fun(m,v,L)=>⟨v,56,13,L.length,L.flatMap aj.cells⟩::_) (fun(m,v,L) _=>m≤p.rules.length∧L=(p.rules.take m).filterMap (cR sc)) (fun(m,v,L)=>p.rules.length-m) (0,.slice none 0 0,[]) (an ⟨⟨rfl,trivial⟩,fun M=>⟨M.bB 56 13,awu _,rfl⟩⟩ ?_);rintro⟨m,v,L⟩ w M ⟨hm,hL⟩;refine an (fun h=>?_) fun h=>?_
 ·have hlt:m<p.rules.length:=by simp at h;omega
  obtain⟨y,hy⟩:∃ y,p.rules[m]?=some y:=⟨_,awt hlt⟩;obtain⟨b,o,e,hc⟩:=SliceAt.elt hp.rules (fun _=>rfl) (by decide) hy hlt;have hcb:=Zi y (awv hy);have hfl:=Gz (f:=cR sc) p.rules m;rw[← hL] at hfl;exact ia<|an ⟨e,rfl,hlt⟩<|lc<|an (bY M.below hc)<|ei<|an mP fun g5 DZ Bn=>lb 0<|an ⟨rfl,rfl⟩ fun Jb wz=>lb 2<|an rfl<|lb 0<|an rfl<|cl<|an (zJ _ mA mB mC LA LB LC _ sc (wz.map 5 rfl) (wz.map 4 rfl) (wz.map 3 rfl) hmA hmB hmC y.cond ⟨by omega,by omega⟩) fun Uv IL=>an (fun hb2=>lb 0<|an ⟨rfl,rfl⟩ fun O4 Fp=>lb 1<|an rfl<|lb 0<|an rfl<|fun g6 X8 LI=>Ej 0 id rfl (LI.slice 0 rfl (k:=13) (n:=1) rfl rfl (by simp[maxLen])) ⟨by unfold maxLen;omega,by omega⟩ fun va vc X7 XI=>lb 2<|an ⟨rfl,rfl⟩ fun w18 XH=>an (by omega)<|bk (m+1,.slice va (L.length+1) vc,L++[{ y with cond:=(bN sc y.cond).1 }]) ⟨rfl,trivial⟩ (fun M=>⟨(M.only (.cons _ (.cons _ (.refl _))) (.refl _)).cast rfl (by dsimp only;rw[awn,awD];rfl),by omega,by rw[Gy hy (show cR sc y=some { y with cond:=(bN sc y.cond).1 } by unfold cR;rw[if_pos hb2]),hL]⟩) (by dsimp only;omega)) fun hb2=>an (by omega)<|bk (m+1,v,L) ⟨rfl,trivial⟩ (fun M=>⟨M.only (.cons _ (.refl _)) (.refl _),by omega,by rw[Qc hy (show cR sc y=none by unfold cR;rw[if_neg (by rw[hb2];decide)]),hL]⟩) (by dsimp only;omega)
 obtain rfl:m=p.rules.length:=by simp at h;omega
 rw[awC] at hL;subst hL;obtain⟨xa9,xc9,rfl⟩:=M.form 0 rfl;clear M h hm;refine lb 6<|an rfl<|lp (ι:=Nat×Value×List bE) (fun(m,v,L)=>[(49,.int .i64 (m:Int))]) (fun(m,v,L)=>(g4,39,#[.slice x0 p.classes.length n0,.slice x1 p.types.length n1,.slice x2 p.attrs.length n2,.slice x3 p.roles.length n3,.slice x4 p.users.length n4,.slice x5 p.bools.length n5,.slice x6 p.aW.length n6,.slice x7 p.cats.length n7,.slice ca sc.kids.length cc,.slice xa9 (p.rules.filterMap (cR sc)).length xc9,v,.slice qh p.aS.length n11,.slice qg p.ranges.length n12,.slice Lz p.cons.length n13,.slice Lx p.bL.length n14,.slice Lw p.files.length n15,.slice Lv p.asserts.length n16])::_) (fun(m,v,L)=>⟨v,84,13,L.length,L.flatMap bE.cells⟩::_) (fun(m,v,L) _=>m≤p.trans.length∧L=(p.trans.take m).filterMap (cT sc)) (fun(m,v,L)=>p.trans.length-m) (0,.slice none 0 0,[]) (an ⟨⟨rfl,trivial⟩,fun M=>⟨M.bB 84 13,awu _,rfl⟩⟩ ?_);rintro⟨m,v,L⟩ w M ⟨hm,hL⟩;refine an (fun h=>?_) fun h=>?_
 ·have hlt:m<p.trans.length:=by simp at h;omega
  obtain⟨y,hy⟩:∃ y,p.trans[m]?=some y:=⟨_,awt hlt⟩;obtain⟨b,o,e,hc⟩:=SliceAt.elt hp.trans (fun _=>rfl) (by decide) hy hlt;have hcb:=Zh y (awv hy);have hfl:=Gz (f:=cT sc) p.trans m;rw[← hL] at hfl;exact ia<|an ⟨e,rfl,hlt⟩<|lc<|an (bY M.below hc)<|ei<|an LK fun g5 DZ Bn=>lb 0<|an ⟨rfl,rfl⟩ fun Jb wz=>lb 2<|an rfl<|lb 0<|an rfl<|cl<|an (zJ _ mA mB mC LA LB LC _ sc (wz.map 5 rfl) (wz.map 4 rfl) (wz.map 3 rfl) hmA hmB hmC y.cond ⟨by omega,by omega⟩) fun Uv IL=>an (fun hb2=>lb 0<|an ⟨rfl,rfl⟩ fun O4 Fp=>lb 1<|an rfl<|lb 0<|an rfl<|fun g6 X8 LI=>Ej 0 id rfl (LI.slice 0 rfl (k:=13) (n:=1) rfl rfl (by simp[maxLen])) ⟨by unfold maxLen;omega,by omega⟩ fun va vc X7 XI=>lb 2<|an ⟨rfl,rfl⟩ fun w18 XH=>an (by omega)<|bk (m+1,.slice va (L.length+1) vc,L++[{ y with cond:=(bN sc y.cond).1 }]) ⟨rfl,trivial⟩ (fun M=>⟨(M.only (.cons _ (.cons _ (.refl _))) (.refl _)).cast rfl (by dsimp only;rw[awn,awD];rfl),by omega,by rw[Gy hy (show cT sc y=some { y with cond:=(bN sc y.cond).1 } by unfold cT;rw[if_pos hb2]),hL]⟩) (by dsimp only;omega)) fun hb2=>an (by omega)<|bk (m+1,v,L) ⟨rfl,trivial⟩ (fun M=>⟨M.only (.cons _ (.refl _)) (.refl _),by omega,by rw[Qc hy (show cT sc y=none by unfold cT;rw[if_neg (by rw[hb2];decide)]),hL]⟩) (by dsimp only;omega)
 obtain rfl:m=p.trans.length:=by simp at h;omega
 rw[awC] at hL;subst hL;obtain⟨ahH,ahG,rfl⟩:=M.form 0 rfl;clear M h hm;refine lb 0<|an rfl<|lb 5<|an ⟨rfl,rfl⟩ fun w M=>ei (x:=5)<|an rfl fun M=>?_
 exact⟨_,rfl,⟨_,_,_,_,_,_,_,_,_,_,_,_,_,_,_,_,_,_,_,_,_,_,_,_,_,_,_,_,_,_,_,_,_,_,_,rfl,M.bC,fun B u qZ=>{ hPC B u (qZ.sub (.cons _ (.cons _ (List.sublist_append_right _ _)))) with conds:=qI (uX (R:=bV _) (qZ.1 _ (awv (i:=2) rfl)) rfl CS vI (fun i x y h1 h2=>bV.mono (fun r hr=>show r∈[_,_]++(([]++(_::T))++TC) from awl.2 (.inr (awl.2 (.inl (awA _ hr))))) (hT i x y h1 h2)) fun _ _ h=>bV.one h) fun _ _ h=>bV.at_ qZ h,rules:=SliceAt.bq (qZ.1 _ (awv (i:=1) rfl)) (dA fun _=>rfl),trans:=SliceAt.bq (qZ.1 _ (awv (i:=0) rfl)) (dA fun _=>rfl) }⟩,M.below⟩
structure LJ (p:aA):Prop where
 ok:p.Ok
 sm:nE p
 bools:p.bools.length≤5
 conds:p.conds.length≤900
 ny:∀ y∈p.rules,-1000000≤y.cond∧y.cond≤1000000
 nw:∀ y∈p.trans,-1000000≤y.cond∧y.cond≤1000000
 be:∀ e∈p.conds,∃ d,d≤12∧eV d (aI p.bools e)∧(cQ (aI p.bools e)).length≤5
 rules:p.rules.length≤100000
 trans:p.trans.length≤100000
structure RdH (p:aA):Prop where
 ok:p.Ok
 sm:nE p
 bools:p.bools.length≤5
 conds:p.conds.length≤1000
 rules:p.rules.length≤900
structure RuH (p:aA):Prop where
 ok:p.Ok
 sm:nE p
 rules:p.rules.length≤1000
theorem RowsIn.right{B:Nat}{w:World}{A C:List Rw}(h:RowsIn B w (A++C)):RowsIn B w C:=⟨fun r hr=>h.1 r (awl.2 (.inr hr)),(List.pairwise_append.1 h.2).2.1⟩
theorem RowsIn.left{B:Nat}{w:World}{A C:List Rw}(h:RowsIn B w (A++C)):RowsIn B w A:=⟨fun r hr=>h.1 r (awl.2 (.inl hr)),(List.pairwise_append.1 h.2).1⟩
def iM(p:aA):List Int:=(vf p).map fun(k:Nat)=>(k:Int)
theorem EF{w:World}{B:Nat}{v:Value}{p:aA}(h:w.ownsRow B 3 1 v (vf p).length (ints (vf p))):SliceAt w v 1 (iM p).length ((iM p).flatMap anyI):=by
 have h2:=SliceAt.bq h (vC _);have e1:(iM p).length=(vf p).length:=awj ..
 have e2:(iM p).flatMap anyI=ints (vf p):=by
  unfold iM
  induction vf p with
  | nil=>rfl
  | cons a l ih=>rw[List.map_cons,List.flatMap_cons,ih];rfl
 rw[e1,e2];exact h2
theorem En.low{wb w:World}{p:aA}{v:Value}{u:World}(h:En w p v u)(hi:wb.heap.size≤w.heap.size):En wb p v u:=by
 obtain⟨x0,n0,x1,n1,x2,n2,x3,n3,x4,n4,x5,n5,x6,n6,x7,n7,x8,n8,x9,n9,x10,n10,qh,n11,qg,n12,Lz,n13,Lx,n14,Lw,n15,Lv,n16,T,e,h1,h2⟩:=h;exact⟨x0,n0,x1,n1,x2,n2,x3,n3,x4,n4,x5,n5,x6,n6,x7,n7,x8,n8,x9,n9,x10,n10,qh,n11,qg,n12,Lz,n13,Lx,n14,Lw,n15,Lv,n16,T,e,h1.low hi,h2⟩
def jx(p:aA):aA:=aR (fL (sO (aR p) (iM (aR p))))
theorem vu(w0:World)(c0 c1 c2 c3 c4 c5 c6 c7 c8 c9 aQ aL aK aP aO aN aM:Value)(p:aA)(hp:aJ w0 c0 c1 c2 c3 c4 c5 c6 c7 c8 c9 aQ aL aK aP aO aN aM p)(h1:LJ p)(h2:RdH (aR p))(h3:RuH (sO (aR p) (iM (aR p))))(h4:LJ (fL (sO (aR p) (iM (aR p))))):Calls Tryz.prog 22 #[.agg #[c0,c1,c2,c3,c4,c5,c6,c7,c8,c9,aQ,aL,aK,aP,aO,aN,aM]] w0 (fun(r:Ending) (w':World)=>∃ v,r=.returned v∧(En w0 (jx p) v w'∧awp w0.heap.size w0 w')):=by
 obtain⟨_,_,_,_,_,_,_,_,_,_,_,_,_,_,_,_,_,_,_,_,_,_,_,_,_,_,_,_,_,_,_,_,_,_,rfl,rfl,rfl,rfl,rfl,rfl,rfl,rfl,rfl,rfl,rfl,rfl,rfl,rfl,rfl,rfl,rfl⟩:=hp.open;unfold jx;refine bP [] (fn:=Tryz.f22) Tryz.func22 rfl Tryz.ntmps22 rfl<|fun g1 w1 M1=>ei<|an kE fun g2 w2 M2=>lb 1<|an rfl<|cg<|an (rE _ _ _ _ _ _ _ _ _ _ _ _ _ _ _ _ _ _ p (hp.keep M2.below) h1.ok h1.sm h1.bools h1.conds h1.ny h1.nw h1.be h1.rules h1.trans) fun v w3 ⟨⟨x0a,n0a,x1a,n1a,x2a,n2a,x3a,n3a,x4a,n4a,x5a,n5a,x6a,n6a,x7a,n7a,x8a,n8a,x9a,n9a,amI,an5,amE,an1,amA,anX,amw,anT,ams,anP,amo,anL,amk,anH,Ta,hv,hTa,hPa⟩,pQ⟩=>⟨_,_,M2.bQ pQ hTa,?_⟩
 subst hv;generalize aR p=q at *;refine ei<|an kE fun g3 w4 M4=>lb 0<|an ⟨rfl,rfl⟩ fun w5 M5=>sp [0,1] (.step 2 (.step 3 (.last 4))) [2] (by kernel_rfl)<|lb 0<|an rfl<|lb 0<|an rfl<|fun w6 LH M6=>IK M6 (tg _ _ _ _ _ _ _ _ _ _ _ _ _ _ _ _ _ _ q (hPa _ _ M6.bC) h2.ok h2.bools h2.conds h2.rules) fun la lc w7 M7=>an rfl<|cg<|an (I7 _ _ _ _ _ _ _ _ _ _ _ _ _ _ _ _ _ _ q (hPa _ _ ⟨fun r hr=>M7.bC.1 r (awA _ hr),(List.pairwise_cons.1 M7.bC.2).2⟩) h2.ok h2.sm _ (iM q) (EF (mZ (M7.r 0 rfl) (awu _)))) fun v w8 ⟨⟨x0b,n0b,x1b,n1b,x2b,n2b,x3b,n3b,x4b,n4b,x5b,n5b,x6b,n6b,x7b,n7b,x8b,n8b,x9b,n9b,amH,an4,amD,an0,amz,anW,amv,anS,amr,anO,amn,anK,amj,anG,Tb,hv,DT,hPb⟩,Wq⟩=>⟨_,_,M7.bQ Wq DT,?_⟩
 subst hv;generalize sO q (iM q)=q2 at *;refine an rfl<|lb 0<|an ⟨rfl,rfl⟩ fun w9 M9=>lb 0<|an rfl<|cg<|an (M_ _ _ _ _ _ _ _ _ _ _ _ _ _ _ _ _ _ _ q2 (hPb _ _ M9.bC.right) h3.ok h3.sm h3.rules) fun v qq ⟨⟨x0c,n0c,x1c,n1c,x2c,n2c,x3c,n3c,x4c,n4c,x5c,n5c,x6c,n6c,x7c,n7c,x8c,n8c,x9c,n9c,amG,an3,amC,anZ,amy,anV,amu,anR,amq,anN,amm,anJ,ami,anF,Tc,hv,hTc,hPc⟩,z_⟩=>⟨_,_,M9.bQ z_ hTc,?_⟩
 subst hv;have jZ:=M9.bQ z_ hTc;generalize fL q2=q3 at *;refine cg<|an (rE _ _ _ _ _ _ _ _ _ _ _ _ _ _ _ _ _ _ q3 (hPc _ _ jZ.bC.right) h4.ok h4.sm h4.bools h4.conds h4.ny h4.nw h4.be h4.rules h4.trans) fun v zS ⟨⟨x0d,n0d,x1d,n1d,x2d,n2d,x3d,n3d,x4d,n4d,x5d,n5d,x6d,n6d,x7d,n7d,x8d,n8d,x9d,n9d,amF,an2,amB,anY,amx,anU,amt,anQ,amp,anM,aml,anI,amh,anE,Td,hv,hTd,hPd⟩,yp⟩=>⟨_,_,jZ.bQ yp hTd,?_⟩
 subst hv;exact lb 1<|an ⟨rfl,rfl⟩ fun w M=>ei (x:=1)<|an rfl fun M=>⟨_,rfl,⟨_,_,_,_,_,_,_,_,_,_,_,_,_,_,_,_,_,_,_,_,_,_,_,_,_,_,_,_,_,_,_,_,_,_,_,rfl,M.bC,fun B u h=>hPd B u h.right⟩,M.below⟩
def Ju(l:List Int):Int:=l.foldl (fun a x=>bits .or .u64 a (IntKind.u64.wrap (1*2^(x:Int).toNat))) 0
theorem Rh{l:List Int}{m:Nat}{y:Int}(hy:l[m]?=some y):Ju (l.take (m+1))=bits .or .u64 (Ju (l.take m)) (IntKind.u64.wrap (1*2^(y:Int).toNat)):=by
 unfold Ju;rw[bp hy,List.foldl_append];rfl
theorem Yr(w0:World)(v:Value)(l:List Int)(h:SliceAt w0 v 1 l.length (l.flatMap anyI))(hl:∀ y∈l,0≤y∧y<64):Calls Tryz.prog 127 #[v] w0 (fun(r:Ending) (w':World)=>r=.returned (.agg #[.int .u64 (Ju l),.int .u64 0,.int .u64 0,.int .u64 0])∧awp w0.heap.size w0 w'):=by
 obtain⟨la,lk,rfl,hk,hm,-⟩:=SliceAt.form h (by decide);refine bP [] (fn:=Tryz.f127) Tryz.func127 rfl Tryz.ntmps127 rfl<|ei<|an tE fun g1 w1 M1=>ei<|an tE fun g2 w2 M2=>lp (ι:=Nat) (fun m=>[(4,.int .i64 (m:Int))]) (fun m=>(g2,54,#[.int .u64 (Ju (l.take m)),.int .u64 0,.int .u64 0,.int .u64 0])::_) (fun _=>[]) (fun m _=>m≤l.length) (fun m=>l.length-m) 0 (an ⟨⟨rfl,trivial⟩,fun M=>⟨M,awu _⟩⟩ ?_)
 intro m w M hm2;refine an (fun h2=>?_) fun h2=>?_
 ·have hlt:m<l.length:=by simp at h2;omega
  obtain⟨y,hy⟩:∃ y,l[m]?=some y:=⟨_,awt hlt⟩;obtain⟨b,o,e,hc⟩:=SliceAt.elt h (fun _=>rfl) (by decide) hy hlt;have hy2:=hl y (awv hy);obtain⟨r,hr,rfl⟩:∃ r:Nat,r<64∧y=((64*0+r:Nat):Int):=⟨y.toNat,by omega,by omega⟩
  have hn:Ju (l.take (m+1))=bits .or .u64 (Ju (l.take m)) ((2^r:Nat):Int):=by
   rw[Rh hy,Int.toNat_natCast,Int.one_mul,show 64*0+r=r by omega,Bq hr]
  exact dr (by kernel_rfl)<|ia<|an ⟨e,rfl,hlt⟩<|lc (x:=.int .i64 ((64*0+r:Nat):Int))<|an (bY M.below hc 0 _ rfl)<|ei<|an (fun a w o ho hv=>JC (q:=0) (by decide) hr ho (dU hv) (fE hv))<|ia<|an ⟨e,rfl,hlt⟩<|lc (x:=.int .i64 ((64*0+r:Nat):Int))<|an (bY M.below hc 0 _ rfl)<|ei<|an (fun a w o ho hv=>JC (q:=0) (by decide) hr ho (dU hv) (fE hv))<|ei<|an ⟨rfl,by decide⟩<|lb 0<|an rfl<|ia<|an ⟨e,rfl,hlt⟩<|lc (x:=.int .i64 ((64*0+r:Nat):Int))<|an (bY M.below hc 0 _ rfl)<|ei<|an (fun a w o ho hv=>aeJ hr ho (dU hv) (fE hv))<|ei<|an (fun a w o ho hv=>aeC hr ho (dU hv) (fE hv))<|ei<|an hn.symm<|ei<|an ⟨rfl,by decide⟩<|fun w4 hb4 M4=>lb 0<|an ⟨rfl,rfl⟩ fun w5 M5=>an (by omega)<|bk (m+1) ⟨rfl,trivial⟩ (fun M=>⟨M,by omega⟩) (by dsimp only;omega)
 ·obtain rfl:m=l.length:=by simp at h2;omega
  exact lb 0<|an rfl<|lb 1<|an ⟨rfl,rfl⟩ fun w5 M5=>ei (x:=1)<|an rfl fun M=>⟨by dsimp only;rw[awC],M.below⟩
def je:iH:=⟨⟨#[111,98,106,101,99,116,95,114]⟩,ay.zero,ay.zero⟩
theorem Oi(r:iH)(w:World):(Op.equalIn 10000 188 (.agg #[.string r.name,.int .u64 r.types.a,.int .u64 r.types.b,.int .u64 r.types.c,.int .u64 r.types.d,.int .u64 r.next.a,.int .u64 r.next.b,.int .u64 r.next.c,.int .u64 r.next.d]) (.agg #[.string ⟨#[111,98,106,101,99,116,95,114]⟩,.int .u64 0,.int .u64 0,.int .u64 0,.int .u64 0,.int .u64 0,.int .u64 0,.int .u64 0,.int .u64 0])).run Tryz.prog w=.ok (decide (r=je)) w:=by
 rw[show(10000:Nat)=9997+3 from rfl,WU];congr 1;rw[Bool.eq_iff_iff];obtain⟨n,⟨a,b,c,d⟩,⟨a',b',c',d'⟩⟩:=r;simp only[decide_eq_true_eq,je,ay.zero,ay.mk.injEq,iH.mk.injEq,and_assoc];refine and_congr_right fun _=>?_
 omega
def Pr(nT nR:Nat)(before:List ByteArray)(y:iH):Int:=
 if bM [y.name] before=0 then
  (if y.types.within (ay.all nT)=false then 3 else if xw nR y.next=false then 3 else 0)
 else bM [y.name] before
def Cb(p:aA)(i:Nat):Int:=match p.roles[i]? with
 | some y=>Pr p.types.length p.roles.length ((p.roles.take i).map (·.name)) y
 | none=>0
def pG(p:aA):Int:=if 32<p.roles.length then 4 else if p.roles[0]?≠some je then 2 else aH (Cb p) (p.roles.length-1) 1
theorem Sk{p:aA}(h:p.roles.length=0):p.roles[0]?≠some je:=by
 rw[List.getElem?_eq_none (by omega)];simp
theorem Zf{p:aA}{r:iH}(h:p.roles[0]?=some r)(hn:¬ r=je):p.roles[0]?≠some je:=by
 rw[h];simpa using hn
theorem head_eq{p:aA}{r:iH}(h:p.roles[0]?=some r)(hn:r=je):¬ p.roles[0]?≠some je:=by
 rw[h];simpa using hn
theorem MJ{p:aA}{r:iH}(h:p.roles[0]?=some r)(hn:r=je):[(⟨#[111,98,106,101,99,116,95,114]⟩:ByteArray)]=(p.roles.take 1).map (·.name):=by
 cases hp:p.roles with
 | nil=>rw[hp] at h;simp at h
 | cons x l=>rw[hp] at h;simp at h;subst h hn;rfl
theorem Rv(w0:World)(c0 c1 c2 c3 c4 c5 c6 c7 c8 c9 aQ aL aK aP aO aN aM:Value)(p:aA)(hp:aJ w0 c0 c1 c2 c3 c4 c5 c6 c7 c8 c9 aQ aL aK aP aO aN aM p)(hok:p.Ok):Calls Tryz.prog 43 #[.agg #[c0,c1,c2,c3,c4,c5,c6,c7,c8,c9,aQ,aL,aK,aP,aO,aN,aM]] w0 (RI w0 (pG p)):=by
 obtain⟨_,_,_,a3,_,_,_,_,_,_,_,_,_,_,_,_,_,_,_,_,k3,_,_,_,_,_,_,_,_,_,_,_,_,_,rfl,rfl,rfl,rfl,rfl,rfl,rfl,rfl,rfl,rfl,rfl,rfl,rfl,rfl,rfl,rfl,rfl⟩:=hp.open
 obtain⟨r,b,o,H⟩:∃ (r:iH) (b o:Nat),p.roles.length≠0→p.roles[0]?=some r∧a3=some ⟨b,o,none⟩∧∀ j u,r.cells[j]?=some u→w0.cell? ⟨b,o+0*9+j,none⟩=some u:=by
  by_cases h0:p.roles.length=0
  ·exact⟨je,0,0,fun h=>absurd h0 h⟩
  ·have hy:=awt (Nat.pos_of_ne_zero h0);obtain⟨b,o,e,hc⟩:=SliceAt.elt hp.roles (fun _=>rfl) (by decide) hy (Nat.pos_of_ne_zero h0);exact⟨_,b,o,fun _=>⟨hy,e,hc⟩⟩
 refine bP [] (fn:=Tryz.f43) Tryz.func43 rfl Tryz.ntmps43 rfl<|fun g1 w1 M1=>lb 0<|an rfl<|an (fun h M=>⟨ri (by unfold pG;rw[if_pos (by simp at h;omega)]),M.below⟩) fun h=>?_
 have hr:¬ 32<p.roles.length:=by simp at h;omega
 refine lb 0<|an rfl<|cl<|an (Cc _ _ hok.wY) fun w2 M2=>ei<|an tE fun g2 w3 M3=>lb 0<|an ⟨rfl,rfl⟩ fun w4 M4=>lb 1<|an rfl<|lb 1<|an (fun _=>rfl)<|ia (b:=b) (off:=o) (i:=0)<|an (fun h=>⟨(H fun e=>by simp[e] at h).2.1,rfl,Nat.pos_of_ne_zero fun e=>by simp[e] at h⟩)<|lc (x:=[.string r.name,.int .u64 r.types.a,.int .u64 r.types.b,.int .u64 r.types.c,.int .u64 r.types.d,.int .u64 r.next.a,.int .u64 r.next.b,.int .u64 r.next.c,.int .u64 r.next.d])<|an (fun h=>bY M4.below (H fun e=>by simp[e] at h).2.2)<|ei (x:=.agg #[.string ⟨#[111,98,106,101,99,116,95,114]⟩,.int .u64 0,.int .u64 0,.int .u64 0,.int .u64 0,.int .u64 0,.int .u64 0,.int .u64 0,.int .u64 0])<|an (fun _=>bd (by kernel_rfl))<|ei<|an (fun h=>⟨Xb,Oi r⟩)<|an (fun h2 M=>⟨ri ?_,M.below⟩) fun h2=>?_
 ·unfold pG;rw[if_neg hr,if_pos];by_cases h0:p.roles.length=0
  ·exact Sk h0
  ·exact Zf (H h0).1 (by simpa[h0] using h2)
 have h0:p.roles.length≠0:=fun e=>by simp[e] at h2
 obtain⟨hr0,-,-⟩:=H h0;have hro:r=je:=by simpa[h0] using h2
 rw[show pG p=aH (Cb p) (p.roles.length-1) 1 by unfold pG;rw[if_neg hr,if_neg (head_eq hr0 hro)]];refine fun g3 w5 M5=>lp (ι:=Nat×Value) (fun(m,u)=>[(4,u),(5,.int .i64 (m:Int))]) (fun _=>[_,_]) (fun(m,u)=>[⟨u,9,1,m,((p.roles.take m).map (·.name)).flatMap aT⟩]) (fun(m,u) _=>(1≤m∧m≤p.roles.length)∧aH (Cb p) (p.roles.length-1) 1=aH (Cb p) (p.roles.length-m) m) (fun(m,u)=>p.roles.length-m) (1,.slice (some ⟨g3,0,none⟩) 1 1) (an ⟨⟨rfl,rfl,trivial⟩,fun M=>⟨(M.Dv 1 1 (by simp[maxLen]) rfl).cast rfl (by dsimp only;rw[← MJ hr0 hro];rfl),⟨Nat.le_refl _,Nat.pos_of_ne_zero h0⟩,rfl⟩⟩ ?_)
 rintro⟨m,u⟩ w M ⟨⟨h1m,hm⟩,hinv⟩;refine lb 1<|an rfl<|an (fun h2=>?_) fun h2 M=>⟨ri (by rw[hinv,show m=p.roles.length by simp at h2;omega,cL]),M.below⟩
 have hlt:m<p.roles.length:=by simp at h2;omega
 obtain⟨y,hy⟩:∃ y,p.roles[m]?=some y:=⟨_,awt hlt⟩;have qO:=hok.roles y (awv hy);obtain⟨b,o,e,hc⟩:=SliceAt.elt hp.roles (fun _=>rfl) (by decide) hy hlt;have hcf:Cb p m=Pr p.types.length p.roles.length ((p.roles.take m).map (·.name)) y:=by unfold Cb;rw[hy]
 have out:∀ v:Int,Pr p.types.length p.roles.length ((p.roles.take m).map (·.name)) y=v→v≠0→aH (Cb p) (p.roles.length-1) 1=v:=fun v h1 h2=>by rw[hinv,cM hlt (by rw[hcf,h1];exact h2),hcf,h1]
 unfold Pr at hcf out;refine lb 1<|an rfl<|ia<|an ⟨e,rfl,hlt⟩<|lc<|an (bY M.below hc)<|ei<|an aeh fun g2 w2 M2=>lb 0<|an ⟨rfl,rfl⟩ fun w3 M3=>lb 0<|an rfl<|fun g3 w4 M4=>cl<|an (fA _ _ _ [y.name] ((p.roles.take m).map (·.name)) (M4.slice 0 rfl rfl rfl (by simp[maxLen])) (gE (M4.r 0 rfl) (by simp;omega) rfl) (by simpa using qO.name)) fun w5 M5=>an (fun h3 M=>⟨ri (out _ (if_neg (by simpa using h3)) (by simpa using h3)),M.below⟩) fun h3=>?_
 replace h3:bM [y.name] ((p.roles.take m).map (·.name))=0:=by simpa using h3
 rw[if_pos h3] at hcf out;refine lb 1<|an rfl<|fun g4 w6 M6=>ap 0 id rfl (M6.slice 0 rfl rfl rfl (by simp[maxLen])) ⟨by unfold maxLen;omega,by omega⟩ fun v5 w7 M7=>lb 2<|an rfl<|lb 3<|an rfl<|cl<|an (qG _ y.types (ay.all p.types.length) qO.types (DE _)) fun w8 M8=>lb 4<|an (fun _=>rfl)<|lb 2<|an (fun _=>rfl)<|cl<|an (fun _=>jv _ _ _ _ _ _ _ _ _ _ _ _ _ _ _ _ _ _ p (hp.keep M8.below) hok y.next qO.next) fun w9 M9=>an (fun h5 M=>⟨ri (out 3 ?_ (by decide)),M.below⟩) fun h5=>an (by omega)<|bk (m+1,v5) ⟨rfl,rfl,trivial⟩ (fun M=>⟨(M.only (.cons _ (.cons _ (.cons _ (.refl _)))) (.refl _)).cast rfl (by dsimp only;rw[rX hy]),by omega,hinv.trans (bO hlt ?_)⟩) (by dsimp only;omega)
 all_goals first|(rw[hcf];clear hcf out)|clear hcf out
 all_goals cases h6:y.types.within (ay.all p.types.length)<;>cases h7:xw p.roles.length y.next<;>simp_all
structure aA.Few (p:aA):Prop where
 types:p.types.length≤12
 oW:∀ t∈p.types,t.oW.length≤4
def eH(l:List mT):List ByteArray:=l.flatMap fun t=>t.name::t.oW
theorem Q5{l:List mT}(h:∀ t∈l,t.oW.length≤4):(eH l).length≤l.length*5:=by
 induction l with
 | nil=>simp[eH]
 | cons t l ih=>
  have h1:=h t (by simp);have h2:=ih fun x hx=>h x (by simp[hx])
  unfold eH at *;rw[List.flatMap_cons,awn,List.length_cons,List.length_cons];omega
theorem BL{p:aA}(h:p.Few)(m:Nat):(eH (p.types.take m)).length≤m*5:=by
 have h1:=Q5 (l:=p.types.take m) fun t ht=>h.oW t (List.mem_of_mem_take ht)
 have h2:(p.types.take m).length≤m:=List.length_take_le _ _;omega
theorem D3{y:mT}(h:y.Ok):∀ s∈y.name::y.oW,dw s:=fun s hs=>by
 rcases aww.1 hs with rfl|hs
 ·exact h.name
 ·exact h.oW.all s hs
def aex(before:List ByteArray)(y:mT):Int:=bM (y.name::y.oW) before
def za(p:aA)(i:Nat):Int:=match p.types[i]? with
 | some y=>aex (eH (p.types.take i)) y
 | none=>0
def Qx(nT:Nat)(before:List ByteArray)(y:lD):Int:=
 if bM [y.name] before=0 then (if y.types.within (ay.all nT)=false then 3 else 0) else bM [y.name] before
def DA(p:aA)(i:Nat):Int:=match p.attrs[i]? with
 | some y=>Qx p.types.length (eH p.types++(p.attrs.take i).map (·.name)) y
 | none=>0
def pq(p:aA):Int:=if 256<p.types.length then 4 else if aH (za p) p.types.length 0=0 then (if 64<p.attrs.length then 4 else aH (DA p) p.attrs.length 0) else aH (za p) p.types.length 0
theorem sS(w0:World)(c0 c1 c2 c3 c4 c5 c6 c7 c8 c9 aQ aL aK aP aO aN aM:Value)(p:aA)(hp:aJ w0 c0 c1 c2 c3 c4 c5 c6 c7 c8 c9 aQ aL aK aP aO aN aM p)(_:p.Ok)(iY:p.Few)(k:Nat)(hk:k≤p.types.length):Calls Tryz.prog 102 #[.agg #[c0,c1,c2,c3,c4,c5,c6,c7,c8,c9,aQ,aL,aK,aP,aO,aN,aM],.int .i64 (k:Int)] w0 (fun(e:Ending) (w':World)=>∃ v,e=.returned v∧(akn w' w0.heap.size v (eH (p.types.take k))∧awp w0.heap.size w0 w')):=by
 obtain⟨_,_,_,_,_,_,_,_,_,_,_,_,_,_,_,_,_,_,_,_,_,_,_,_,_,_,_,_,_,_,_,_,_,_,rfl,rfl,rfl,rfl,rfl,rfl,rfl,rfl,rfl,rfl,rfl,rfl,rfl,rfl,rfl,rfl,rfl⟩:=hp.open;have DT:=iY.types;refine bP [] (fn:=Tryz.f102) Tryz.func102 rfl Tryz.ntmps102 rfl<|fun g1 w1 M1=>lq (ι:=Nat×Value) (fun(m,u)=>[(5,u),(6,.int .i64 (m:Int))]) (fun(m,u)=>[⟨u,9,1,(eH (p.types.take m)).length,(eH (p.types.take m)).flatMap aT⟩]) (fun(m,u) _=>m≤k) (fun(m,u)=>k-m) (0,.slice none 0 0) (an ⟨⟨rfl,rfl,trivial⟩,fun M=>⟨M.bB 9 1,awu _⟩⟩ ?_)
 rintro⟨m,u⟩ w M hm;refine an (fun h2=>?_) fun h2 M=>⟨_,rfl,?_,M.below⟩
 ·have hlt:m<k:=by simp at h2;omega
  obtain⟨y,hy⟩:∃ y,p.types[m]?=some y:=⟨_,awt (Nat.lt_of_lt_of_le hlt hk)⟩;obtain⟨b,o,_,e,⟨v,rfl,hv⟩,hc⟩:=aq.elt hp.types (by decide) hy;have hl:=BL iY m;have hal:=iY.oW y (awv hy);exact lb 0<|an rfl<|ia<|an ⟨e,rfl,by omega⟩<|lc<|an (bY M.below hc 0 _ rfl)<|fun g2 w2 M2=>ap 0 id rfl (M2.slice 0 rfl rfl rfl (by simp[maxLen])) ⟨by unfold maxLen;omega,by omega⟩ fun v3 w3 M3=>lb 1<|an rfl<|ia<|an ⟨e,rfl,by omega⟩<|lc<|an (bY M3.below hc 1 _ rfl)<|ap 0 id rfl (hv.keep M3.below) ⟨by unfold maxLen;omega,by omega⟩ fun v4 w4 M4=>an (by omega)<|bk (m+1,v4) ⟨rfl,rfl,trivial⟩ (fun M=>⟨(M.only (.cons _ (.refl _)) (.refl _)).cast rfl (by dsimp only;rw[List.take_add_one,hy];simp[eH,aT];omega),by omega⟩) (by dsimp only;omega)
 ·obtain rfl:m=k:=by simp at h2;omega
  exact M.r 0 rfl
theorem QX(w0:World)(c0 c1 c2 c3 c4 c5 c6 c7 c8 c9 aQ aL aK aP aO aN aM:Value)(p:aA)(hp:aJ w0 c0 c1 c2 c3 c4 c5 c6 c7 c8 c9 aQ aL aK aP aO aN aM p)(hok:p.Ok)(iY:p.Few):Calls Tryz.prog 42 #[.agg #[c0,c1,c2,c3,c4,c5,c6,c7,c8,c9,aQ,aL,aK,aP,aO,aN,aM]] w0 (RI w0 (pq p)):=by
 obtain⟨_,_,_,_,_,_,_,_,_,_,_,_,_,_,_,_,_,_,_,_,_,_,_,_,_,_,_,_,_,_,_,_,_,_,rfl,rfl,rfl,rfl,rfl,rfl,rfl,rfl,rfl,rfl,rfl,rfl,rfl,rfl,rfl,rfl,rfl⟩:=hp.open;have DT:=iY.types;refine bP [] (fn:=Tryz.f42) Tryz.func42 rfl Tryz.ntmps42 rfl<|fun g1 w1 M1=>lb 0<|an rfl<|an (fun h=>by simp at h;omega) fun h=>?_
 have hr:¬ 256<p.types.length:=by omega
 refine lr (ι:=Nat) (fun m=>[(3,.int .i64 (m:Int))]) (fun m _=>m≤p.types.length∧aH (za p) p.types.length 0=aH (za p) (p.types.length-m) m) (fun m=>p.types.length-m) 0 (an ⟨⟨rfl,trivial⟩,fun M=>⟨M,awu _,by rw[Nat.sub_zero]⟩⟩ ?_);rintro m w M ⟨hm,hinv⟩;refine lb 0<|an rfl<|an (fun h2=>?_) fun h2=>?_
 ·have hlt:m<p.types.length:=by simp at h2;omega
  obtain⟨y,hy⟩:∃ y,p.types[m]?=some y:=⟨_,awt hlt⟩;have qO:=hok.types y (awv hy);have hal:=iY.oW y (awv hy);obtain⟨b,o,_,e,⟨v,rfl,hv⟩,hc⟩:=aq.elt hp.types (by decide) hy;have hcf:za p m=bM (y.name::y.oW) (eH (p.types.take m)):=by unfold za;rw[hy];rfl
  exact dr (by kernel_rfl)<|lb 0<|an rfl<|ia<|an ⟨e,rfl,hlt⟩<|lc<|an (bY M.below hc 0 _ rfl)<|bl<|lb 0<|an rfl<|ia<|an ⟨e,rfl,hlt⟩<|lc<|an (bY M.below hc 1 _ rfl)<|fun g2 w2 hb2 M2=>ap 0 (fun M=>M.Dv 1 1 (by simp[maxLen]) rfl) rfl (hv.keep M2.below) ⟨by unfold maxLen;omega,by omega⟩ fun v3 w3 M3=>lb 0<|an rfl<|cw M3 (sS _ _ _ _ _ _ _ _ _ _ _ _ _ _ _ _ _ _ p (hp.keep M3.below) hok iY m hm) fun u w4 M4=>cl<|an (fA _ _ _ (y.name::y.oW) (eH (p.types.take m)) (gE (M4.r 1 rfl) (by simp;omega) rfl) (gE (M4.r 0 rfl) rfl rfl) (D3 qO)) fun w5 M5=>an (fun h3 M=>⟨ri (by
   have h3:bM (y.name::y.oW) (eH (p.types.take m))≠0:=by simpa using h3
   have e:aH (za p) p.types.length 0=bM (y.name::y.oW) (eH (p.types.take m)):=by rw[hinv,cM hlt (by rw[hcf];exact h3),hcf]
   unfold pq;rw[if_neg hr,e,if_neg h3]),M.below⟩) fun h3=>an (by omega)<|bk (m+1) ⟨rfl,trivial⟩ (fun M=>⟨M.only (.refl _) (.cons _ (.cons _ (.refl _))),by omega,hinv.trans (bO hlt (by rw[hcf];simpa using h3))⟩) (by dsimp only;omega)
 have hz:aH (za p) p.types.length 0=0:=by rw[hinv,show m=p.types.length by simp at h2;omega,cL]
 clear hinv h2;refine lb 0<|an rfl<|an (fun h M=>⟨ri (by unfold pq;rw[if_neg hr,if_pos hz,if_pos (by simp at h;omega)]),M.below⟩) fun h=>?_
 have ha:¬ 64<p.attrs.length:=by simp at h;omega
 rw[show pq p=aH (DA p) p.attrs.length 0 by unfold pq;rw[if_neg hr,if_pos hz,if_neg ha]];refine lb 0<|an rfl<|lb 0<|an rfl<|cw M (sS _ _ _ _ _ _ _ _ _ _ _ _ _ _ _ _ _ _ p (hp.keep M.below) hok iY p.types.length (Nat.le_refl _)) fun u0 w5 M5=>lq (ι:=Nat×Value) (fun(m,u)=>[(6,u),(7,.int .i64 (m:Int))]) (fun(m,u)=>[⟨u,9,1,(eH p.types++(p.attrs.take m).map (·.name)).length,(eH p.types++(p.attrs.take m).map (·.name)).flatMap aT⟩]) (fun(m,u) _=>m≤p.attrs.length∧aH (DA p) p.attrs.length 0=aH (DA p) (p.attrs.length-m) m) (fun(m,u)=>p.attrs.length-m) (0,u0) (an ⟨⟨rfl,rfl,trivial⟩,fun M=>⟨M.cast rfl (by rw[awC];simp),awu _,by rw[Nat.sub_zero]⟩⟩ ?_)
 clear M;rintro⟨m,u⟩ w M ⟨hm,hinv⟩;refine lb 0<|an rfl<|an (fun h2=>?_) fun h2 M=>⟨ri (by rw[hinv,show m=p.attrs.length by simp at h2;omega,cL]),M.below⟩
 have hlt:m<p.attrs.length:=by simp at h2;omega
 obtain⟨y,hy⟩:∃ y,p.attrs[m]?=some y:=⟨_,awt hlt⟩;have qO:=hok.attrs y (awv hy);obtain⟨b,o,e,hc⟩:=SliceAt.elt hp.attrs (fun _=>rfl) (by decide) hy hlt;have hcf:DA p m=Qx p.types.length (eH p.types++(p.attrs.take m).map (·.name)) y:=by unfold DA;rw[hy]
 have out:∀ v:Int,Qx p.types.length (eH p.types++(p.attrs.take m).map (·.name)) y=v→v≠0→aH (DA p) p.attrs.length 0=v:=fun v h1 h2=>by rw[hinv,cM hlt (by rw[hcf,h1];exact h2),hcf,h1]
 unfold Qx at hcf out;have hl:=BL iY p.types.length;rw[awC] at hl;refine lb 0<|an rfl<|ia<|an ⟨e,rfl,hlt⟩<|lc<|an (bY M.below hc 0 _ rfl)<|fun g4 w6 M6=>cl<|an (fA _ _ _ [y.name] (eH p.types++(p.attrs.take m).map (·.name)) (M6.slice 0 rfl rfl rfl (by simp[maxLen])) (gE (M6.r 0 rfl) rfl rfl) (by simpa using qO.name)) fun w7 M7=>an (fun h3 M=>⟨ri (out _ (if_neg (by simpa using h3)) (by simpa using h3)),M.below⟩) fun h3=>?_
 replace h3:bM [y.name] (eH p.types++(p.attrs.take m).map (·.name))=0:=by simpa using h3
 rw[if_pos h3] at hcf out;have hll:(eH p.types++(p.attrs.take m).map (·.name)).length≤200:=by simp;omega
 exact lb 1<|an rfl<|ia<|an ⟨e,rfl,hlt⟩<|lc<|an (bY M7.below hc 0 _ rfl)<|fun g5 w8 M8=>ap 0 id rfl (M8.slice 0 rfl rfl rfl (by simp[maxLen])) ⟨by unfold maxLen;omega,by omega⟩ fun v6 w9 M9=>dr (by kernel_rfl)<|lb 2<|an rfl<|ia<|an ⟨e,rfl,hlt⟩<|lc (x:=[.int .u64 y.types.a,.int .u64 y.types.b,.int .u64 y.types.c,.int .u64 y.types.d])<|an (B0 (bY M9.below hc) rfl)<|lb 2<|an rfl<|cl<|an (fun w' hb' M'=>gG _ y.types qO.types _ (by omega)) fun qq z_ jZ=>an (fun h4 M=>⟨ri (out 3 (if_pos (by simpa using h4)) (by decide)),M.below⟩) fun h4=>an (by omega)<|bk (m+1,v6) ⟨rfl,rfl,trivial⟩ (fun M=>⟨(M.only (.cons _ (.cons _ (.refl _))) (.refl _)).cast rfl (by dsimp only;rw[List.take_add_one,hy];simp[aT];omega),by omega,hinv.trans (bO hlt (by rw[hcf,if_neg (by simpa using h4)]))⟩) (by dsimp only;omega)
theorem gP(w:World)(i n:Int):Calls Tryz.prog 113 #[.int .i64 i,.int .i64 n] w fun e w'=>e=.returned (.bool (bh i n))∧awp w.heap.size w w':=(fU w i n).mono fun _ _ ⟨h1,h2⟩=>⟨h1,h2▸Below.refl _ _⟩
structure aA.adF (p:aA):Prop where
 types:p.types.length≤12
 attrs:p.attrs.length≤6
 classes:p.classes.length≤6
 rules:p.rules.length≤40
 conds:p.conds.length≤6
 bools:p.bools.length≤6
 cons:p.cons.length≤12
 users:p.users.length≤8
 roles:p.roles.length≤8
 trans:p.trans.length≤36
 aS:p.aS.length≤12
 ranges:p.ranges.length≤12
 aW:p.aW.length≤6
 cats:p.cats.length≤10
 bL:p.bL.length≤8
 files:p.files.length≤12
 asserts:p.asserts.length≤8
structure aA.DJ (p:aA):Prop where
 sizes:p.adF
 oW:∀ x∈p.types,x.oW.length≤4
 conds:∀ x∈p.conds,bw 13 x≤6
 cons:∀ x∈p.cons,bw 13 x.expr≤6
theorem aA.DJ.few{p:aA}(h:p.DJ):p.Few:=⟨h.sizes.types,h.oW⟩
theorem Rg(w0:World)(c0 c1 c2 c3 c4 c5 c6 c7 c8 c9 aQ aL aK aP aO aN aM:Value)(p:aA)(hp:aJ w0 c0 c1 c2 c3 c4 c5 c6 c7 c8 c9 aQ aL aK aP aO aN aM p)(_:p.Ok):Calls Tryz.prog 11 #[.agg #[c0,c1,c2,c3,c4,c5,c6,c7,c8,c9,aQ,aL,aK,aP,aO,aN,aM]] w0 (fun(e:Ending) (w':World)=>∃ v,e=.returned v∧∃ b:Bool,v=.bool b∧(b=true→p.DJ)∧awp w0.heap.size w0 w'):=by
 obtain⟨_,_,_,_,_,_,_,_,_,_,_,_,_,_,_,_,_,_,_,_,_,_,_,_,_,_,_,_,_,_,_,_,_,_,rfl,rfl,rfl,rfl,rfl,rfl,rfl,rfl,rfl,rfl,rfl,rfl,rfl,rfl,rfl,rfl,rfl⟩:=hp.open;have tr:=fun m h=>SliceAt.elt (i:=m) hp.trans (fun _=>rfl) (by decide) (awt h) h
 obtain⟨_,_,e1,-,-,ty⟩:=aq.form hp.types (by decide);obtain⟨_,_,e8,-,-,cd⟩:=aq.form hp.conds (by decide);obtain⟨_,_,e13,-,-,cn⟩:=aq.form hp.cons (by decide);injection e1 with e1;injection e8 with e8;injection e13 with e13;subst e1 e8 e13;have no:∀ w,awp w0.heap.size w0 w→∃ v,Ending.returned (lS [Value.bool false])=.returned v∧∃ b:Bool,v=.bool b∧(b=true→p.DJ)∧awp w0.heap.size w0 w:=fun w h=>⟨_,rfl,false,rfl,(fun e=>by cases e),h⟩
 refine bP [] (fn:=Tryz.f11) Tryz.func11 rfl Tryz.ntmps11 rfl fun g1 w1 M1=>lb 0<|an rfl<|lb 0<|an (fun _=>rfl)<|lb 0<|an (fun _=>rfl)<|lb 0<|an (fun _=>rfl)<|lb 0<|an (fun _=>rfl)<|lb 0<|an (fun _=>rfl)<|lb 0<|an (fun _=>rfl)<|lb 0<|an (fun _=>rfl)<|lb 0<|an (fun _=>rfl)<|an (fun h M=>no _ M.below) fun h=>?_
 simp only[Bool.or_eq_false_iff,decide_eq_false_iff_not] at h;refine lb 0<|an rfl<|lb 0<|an (fun _=>rfl)<|lb 0<|an (fun _=>rfl)<|lb 0<|an (fun _=>rfl)<|lb 0<|an (fun _=>rfl)<|lb 0<|an (fun _=>rfl)<|lb 0<|an (fun _=>rfl)<|lb 0<|an (fun _=>rfl)<|an (fun h M=>no _ M.below) fun h'=>?_
 simp only[Bool.or_eq_false_iff,decide_eq_false_iff_not] at h';refine ei<|an aed fun g2 w2 M2=>lp (ι:=Nat×Int×Int×Int×Int) (fun(m,_)=>[(4,.int .i64 (m:Int))]) (fun(m,n0,n1,n2,n3)=>(g2,82,#[.int .i64 n0,.int .i64 n1,.int .i64 n2,.int .i64 n3])::_) (fun _=>[]) (fun(m,n0,n1,n2,n3) _=>m≤p.trans.length∧0≤n1∧n1≤m∧0≤n2∧n2≤m∧0≤n3∧n3≤m) (fun(m,_)=>p.trans.length-m) (0,0,0,0,0) (an ⟨⟨rfl,trivial⟩,fun M=>⟨M,by omega⟩⟩ ?_)
 rintro⟨m,n0,n1,n2,n3⟩ w M hm;refine lb 1<|an rfl<|an (fun h2=>?_) fun h2=>?_
 ·simp only[decide_eq_true_eq] at h2;have hlt:m<p.trans.length:=by omega
  obtain⟨b,o,e,hc⟩:=tr m hlt;refine lb 1<|an rfl<|ia<|an ⟨e,rfl,hlt⟩<|lc<|an (cell_later M.below (hc 0 _ rfl))<|an (fun h3=>?_) fun h3=>an (by omega)<|bk (m+1,n0,n1,n2,n3) ⟨rfl,trivial⟩ (fun M=>⟨M,by omega⟩) (by dsimp only;omega)
  simp only[awy,decide_eq_true_eq] at h3;have hk:p.trans[m].kind=1∨p.trans[m].kind=2∨p.trans[m].kind=3:=by omega
  rcases hk with hk|hk|hk
  ·exact ei (x:=1)<|an ⟨hk,by decide⟩<|lb 0<|an rfl<|an (by omega)<|ei (x:=1)<|an ⟨hk,by decide⟩<|lb 0<|an ⟨rfl,rfl⟩ fun w M=>an (by omega)<|bk (m+1,n0,n1+1,n2,n3) ⟨rfl,trivial⟩ (fun M=>⟨M,by omega⟩) (by dsimp only;omega)
  ·exact ei (x:=2)<|an ⟨hk,by decide⟩<|lb 0<|an rfl<|an (by omega)<|ei (x:=2)<|an ⟨hk,by decide⟩<|lb 0<|an ⟨rfl,rfl⟩ fun w M=>an (by omega)<|bk (m+1,n0,n1,n2+1,n3) ⟨rfl,trivial⟩ (fun M=>⟨M,by omega⟩) (by dsimp only;omega)
  ·exact ei (x:=3)<|an ⟨hk,by decide⟩<|lb 0<|an rfl<|an (by omega)<|ei (x:=3)<|an ⟨hk,by decide⟩<|lb 0<|an ⟨rfl,rfl⟩ fun w M=>an (by omega)<|bk (m+1,n0,n1,n2,n3+1) ⟨rfl,trivial⟩ (fun M=>⟨M,by omega⟩) (by dsimp only;omega)
 refine lr (ι:=Nat) (fun m=>[(6,.int .i64 (m:Int))]) (fun m _=>m≤p.types.length∧∀ x∈p.types.take m,x.oW.length≤4) (fun m=>p.types.length-m) 0 (an ⟨⟨rfl,trivial⟩,fun M=>⟨M,awu _,by simp⟩⟩ ?_);rintro i1 w M ⟨hi1,ha⟩;refine lb 1<|an rfl<|an (fun h2=>?_) fun h2=>?_
 ·simp only[decide_eq_true_eq] at h2;obtain⟨x,hx⟩:∃ x,p.types[i1]?=some x:=⟨_,awt (by omega)⟩;obtain⟨b,o,z,rfl,⟨u,rfl,hu⟩,-,hc⟩:=ty i1 x hx;obtain⟨_,_,rfl,-⟩:=hu.get;refine lb 1<|an rfl<|ia<|an ⟨rfl,rfl,by omega⟩<|lc<|an (cell_later M.below (hc 1 _ rfl))<|an (fun h3 M=>no _ M.below) fun h3=>an (by omega)<|bk (i1+1) ⟨rfl,trivial⟩ (fun M=>⟨M,by omega,fun y hy=>?_⟩) (by dsimp only;omega)
  rw[List.take_add_one,hx] at hy;rcases awl.1 hy with hy|hy
  ·exact ha y hy
  ·obtain rfl:y=x:=by simpa using hy
   simp only[decide_eq_false_iff_not] at h3;omega
 simp only[decide_eq_false_iff_not] at h2;obtain rfl:i1=p.types.length:=by omega
 refine lr (ι:=Nat) (fun m=>[(7,.int .i64 (m:Int))]) (fun m _=>m≤p.conds.length∧∀ x∈p.conds.take m,bw 13 x≤6) (fun m=>p.conds.length-m) 0 (an ⟨⟨rfl,trivial⟩,fun M=>⟨M,awu _,by simp⟩⟩ ?_);rintro i2 w M ⟨hi2,hb⟩;refine lb 1<|an rfl<|an (fun h2=>?_) fun h2=>?_
 ·simp only[decide_eq_true_eq] at h2;obtain⟨x,hx⟩:∃ x,p.conds[i2]?=some x:=⟨_,awt (by omega)⟩;obtain⟨b,o,z,rfl,hz,-,hc⟩:=cd i2 x hx;obtain⟨nv,kv,rfl,-⟩:=hz.open;refine lb 1<|an rfl<|ia<|an ⟨rfl,rfl,by omega⟩<|lc<|an (bY M.below hc)<|cl<|an (pX _ _ x (aZ.keep M.below hz)) fun w3 M3=>an (fun h3 M=>no _ M.below) fun h3=>an (by omega)<|bk (i2+1) ⟨rfl,trivial⟩ (fun M=>⟨M,by omega,fun y hy=>?_⟩) (by dsimp only;omega)
  rw[List.take_add_one,hx] at hy;rcases awl.1 hy with hy|hy
  ·exact hb y hy
  ·obtain rfl:y=x:=by simpa using hy
   simp only[decide_eq_false_iff_not] at h3;omega
 simp only[decide_eq_false_iff_not] at h2;obtain rfl:i2=p.conds.length:=by omega
 refine lr (ι:=Nat) (fun m=>[(8,.int .i64 (m:Int))]) (fun m _=>m≤p.cons.length∧∀ x∈p.cons.take m,bw 13 x.expr≤6) (fun m=>p.cons.length-m) 0 (an ⟨⟨rfl,trivial⟩,fun M=>⟨M,awu _,by simp⟩⟩ ?_);rintro i3 w M ⟨hi3,XQ⟩;refine lb 1<|an rfl<|an (fun h2=>?_) fun h2=>?_
 ·simp only[decide_eq_true_eq] at h2;obtain⟨x,hx⟩:∃ x,p.cons[i3]?=some x:=⟨_,awt (by omega)⟩;obtain⟨b,o,z,rfl,⟨es,rfl,hz⟩,-,hc⟩:=cn i3 x hx
  have hc3:∀ j u,es[j]?=some u→w0.cell? ⟨b,o+i3*13+3+j,none⟩=some u:=fun j u hj=>by
   have h4:=hc (j+3) u (by simpa using hj)
   rwa [show o+i3*13+(j+3)=o+i3*13+3+j by omega] at h4
  obtain⟨nv,kv,rfl,-⟩:=hz.open;refine lb 1<|an rfl<|ia<|an ⟨rfl,rfl,by omega⟩<|lc<|an (bY M.below hc3)<|cl<|an (pX _ _ x.expr (aZ.keep M.below hz)) fun w3 M3=>an (fun h3 M=>no _ M.below) fun h3=>an (by omega)<|bk (i3+1) ⟨rfl,trivial⟩ (fun M=>⟨M,by omega,fun y hy=>?_⟩) (by dsimp only;omega)
  rw[List.take_add_one,hx] at hy;rcases awl.1 hy with hy|hy
  ·exact XQ y hy
  ·obtain rfl:y=x:=by simpa using hy
   simp only[decide_eq_false_iff_not] at h3;omega
 simp only[decide_eq_false_iff_not] at h2;obtain rfl:i3=p.cons.length:=by omega
 rw[awC] at ha hb XQ;exact ei (x:=1)<|an ⟨rfl,by decide⟩<|lb 0<|an rfl<|ei (x:=2)<|an (fun _=>⟨rfl,by decide⟩)<|lb 0<|an (fun _=>rfl)<|ei (x:=3)<|an (fun _=>⟨rfl,by decide⟩)<|lb 0<|an (fun _=>rfl) fun M=>⟨_,rfl,_,rfl,fun _=>⟨by constructor<;>omega,ha,hb,XQ⟩,M.below⟩
def bG(l:List bE)(k:Int):Nat:=(l.filter fun t=>decide (t.kind=k)).length
theorem fM(l:List bE)(t:bE)(k:Int):bG (l++[t]) k=bG l k+(if t.kind=k then 1 else 0):=by
 unfold bG;rw[List.filter_append,awn];by_cases h:t.kind=k<;>simp[h]
theorem Gi(l:List bE)(m:Nat)(k:Int):bG (l.take m) k≤bG l k:=by
 have h:=bG (l.drop m) k;unfold bG
 conv=>rhs;rw[← List.take_append_drop m l,List.filter_append,awn]
 omega
def uO(nT nC nK:Nat)(y:bE):Int:=
 if y.kind<1 then 13 else if 3<y.kind then 13
 else if y.src.within (ay.all nT)=false then 3 else if y.tgt.within (ay.all nT)=false then 3
 else if bh y.cls (nC:Int)=false then 3 else if bh y.res (nT:Int)=false then 3 else if kB nK y.cond=false then 3
 else if dF y.src=false then 2 else if dF y.tgt=false then 2
 else if y.kind≠1∧gM y.name=false then 2
 else if gM y.name=false∧ng y.name=false then 10 else 0
def sU(p:aA)(i:Nat):Int:=match p.trans[i]? with
 | some y=>uO p.types.length p.classes.length p.conds.length y
 | none=>0
def lT(p:aA):Int:=if bG p.trans 1≤1024∧bG p.trans 2≤1024∧bG p.trans 3≤1024 then aH (sU p) p.trans.length 0 else 4
theorem Mj{p:aA}(h:∀ q:Int,1≤q→q≤3→bG p.trans q≤1024):lT p=aH (sU p) p.trans.length 0:=
 if_pos ⟨h 1 (by omega) (by omega),h 2 (by omega) (by omega),h 3 (by omega) (by omega)⟩
theorem qA{p:aA}{q:Int}{m:Nat}(h1:1≤q)(h2:q≤3)(h:1024<bG (p.trans.take m) q):lT p=4:=by
 have h3:=Gi p.trans m q;refine if_neg fun⟨a,b,c⟩=>?_
 rcases(show q=1∨q=2∨q=3 by omega) with rfl|rfl|rfl<;>omega
theorem QY(w0:World)(c0 c1 c2 c3 c4 c5 c6 c7 c8 c9 aQ aL aK aP aO aN aM:Value)(p:aA)(hp:aJ w0 c0 c1 c2 c3 c4 c5 c6 c7 c8 c9 aQ aL aK aP aO aN aM p)(hok:p.Ok):Calls Tryz.prog 47 #[.agg #[c0,c1,c2,c3,c4,c5,c6,c7,c8,c9,aQ,aL,aK,aP,aO,aN,aM]] w0 (RI w0 (lT p)):=by
 obtain⟨_,_,_,_,_,_,_,_,_,_,_,_,_,_,_,_,_,_,_,_,_,_,_,_,_,_,_,_,_,_,_,_,_,_,rfl,rfl,rfl,rfl,rfl,rfl,rfl,rfl,rfl,rfl,rfl,rfl,rfl,rfl,rfl,rfl,rfl⟩:=hp.open;obtain⟨_,_,e10,-,afF,-⟩:=SliceAt.form hp.trans (by decide);obtain⟨_,_,e1,-,hm1,-⟩:=aq.form hp.types (by decide);have tr:=fun m h=>SliceAt.elt (i:=m) hp.trans (fun _=>rfl) (by decide) (awt h) h
 refine bP [] (fn:=Tryz.f47) Tryz.func47 rfl Tryz.ntmps47 rfl fun g1 w1 M1=>ei<|an aed fun g2 w2 M2=>lp (ι:=Nat) (fun m=>[(4,.int .i64 (m:Int))]) (fun m=>(g2,82,#[.int .i64 0,.int .i64 ((bG (p.trans.take m) 1:Nat):Int),.int .i64 ((bG (p.trans.take m) 2:Nat):Int),.int .i64 ((bG (p.trans.take m) 3:Nat):Int)])::_) (fun _=>[]) (fun m _=>m≤p.trans.length∧∀ q:Int,1≤q→q≤3→bG (p.trans.take m) q≤1024) (fun m=>p.trans.length-m) 0 (an ⟨⟨rfl,trivial⟩,fun M=>⟨M,awu _,fun _ _ _=>awu _⟩⟩ ?_)
 rintro m w M ⟨hm,hle⟩;refine lb 1<|an rfl<|an (fun h2=>?_) fun h2=>?_
 ·simp only[decide_eq_true_eq] at h2;have hlt:m<p.trans.length:=by omega
  obtain⟨b,o,e,hc⟩:=tr m hlt;have hy:p.trans[m]?=some p.trans[m]:=awt hlt;refine lb 1<|an rfl<|ia<|an ⟨e,rfl,hlt⟩<|lc<|an (cell_later M.below (hc 0 _ rfl))<|an (fun h3=>?_) fun h3=>?_
  rotate_left
  ·have hno:∀ q:Int,1≤q→q≤3→bG (p.trans.take (m+1)) q=bG (p.trans.take m) q:=fun q h1 h2=>by
    rw[bp hy,fM,if_neg (fun e=>by simp only[Bool.and_eq_false_iff,decide_eq_false_iff_not] at h3;omega)];rfl
   exact an (by omega)<|bk (m+1) ⟨rfl,trivial⟩ (fun M=>⟨by rw[hno 1 (by omega) (by omega),hno 2 (by omega) (by omega),hno 3 (by omega) (by omega)];exact M,by omega,fun q h1 h2=>by rw[hno q h1 h2];exact hle q h1 h2⟩) (by dsimp only;omega)
  simp only[awy,decide_eq_true_eq] at h3;rcases(show p.trans[m].kind=1∨p.trans[m].kind=2∨p.trans[m].kind=3 by omega) with hk|hk|hk
  ·have hk1:bG (p.trans.take (m+1)) 1=bG (p.trans.take m) 1+1:=by rw[bp hy,fM,if_pos hk]
   have hno:∀ q:Int,q≠1→bG (p.trans.take (m+1)) q=bG (p.trans.take m) q:=fun q h1=>by rw[bp hy,fM,if_neg (by omega)];rfl
   have hq:=hle 1 (by omega) (by omega);refine ei (x:=1)<|an ⟨hk,by decide⟩<|lb 0<|an rfl<|an (by omega)<|ei (x:=1)<|an ⟨hk,by decide⟩<|lb 0<|an ⟨rfl,rfl⟩ fun w M=>ei (x:=1)<|an ⟨hk,by decide⟩<|lb 0<|an rfl<|an (fun h4 M=>⟨?_,M.below⟩) fun h4=>an (by omega)<|bk (m+1) ⟨rfl,trivial⟩ (fun M=>⟨by rw[hk1,hno 2 (by omega),hno 3 (by omega)];exact M,by omega,fun q h1 h2=>?_⟩) (by dsimp only;omega)
   ·simp only[decide_eq_true_eq] at h4;rw[qA (q:=1) (m:=m+1) (by omega) (by omega) (by rw[hk1];omega)];rfl
   ·simp only[decide_eq_false_iff_not] at h4;by_cases e:q=1
    ·subst e;rw[hk1];omega
    ·rw[hno q e];exact hle q h1 h2
  ·have hk1:bG (p.trans.take (m+1)) 2=bG (p.trans.take m) 2+1:=by rw[bp hy,fM,if_pos hk]
   have hno:∀ q:Int,q≠2→bG (p.trans.take (m+1)) q=bG (p.trans.take m) q:=fun q h1=>by rw[bp hy,fM,if_neg (by omega)];rfl
   have hq:=hle 2 (by omega) (by omega);refine ei (x:=2)<|an ⟨hk,by decide⟩<|lb 0<|an rfl<|an (by omega)<|ei (x:=2)<|an ⟨hk,by decide⟩<|lb 0<|an ⟨rfl,rfl⟩ fun w M=>ei (x:=2)<|an ⟨hk,by decide⟩<|lb 0<|an rfl<|an (fun h4 M=>⟨?_,M.below⟩) fun h4=>an (by omega)<|bk (m+1) ⟨rfl,trivial⟩ (fun M=>⟨by rw[hk1,hno 1 (by omega),hno 3 (by omega)];exact M,by omega,fun q h1 h2=>?_⟩) (by dsimp only;omega)
   ·simp only[decide_eq_true_eq] at h4;rw[qA (q:=2) (m:=m+1) (by omega) (by omega) (by rw[hk1];omega)];rfl
   ·simp only[decide_eq_false_iff_not] at h4;by_cases e:q=2
    ·subst e;rw[hk1];omega
    ·rw[hno q e];exact hle q h1 h2
  ·have hk1:bG (p.trans.take (m+1)) 3=bG (p.trans.take m) 3+1:=by rw[bp hy,fM,if_pos hk]
   have hno:∀ q:Int,q≠3→bG (p.trans.take (m+1)) q=bG (p.trans.take m) q:=fun q h1=>by rw[bp hy,fM,if_neg (by omega)];rfl
   have hq:=hle 3 (by omega) (by omega);refine ei (x:=3)<|an ⟨hk,by decide⟩<|lb 0<|an rfl<|an (by omega)<|ei (x:=3)<|an ⟨hk,by decide⟩<|lb 0<|an ⟨rfl,rfl⟩ fun w M=>ei (x:=3)<|an ⟨hk,by decide⟩<|lb 0<|an rfl<|an (fun h4 M=>⟨?_,M.below⟩) fun h4=>an (by omega)<|bk (m+1) ⟨rfl,trivial⟩ (fun M=>⟨by rw[hk1,hno 1 (by omega),hno 2 (by omega)];exact M,by omega,fun q h1 h2=>?_⟩) (by dsimp only;omega)
   ·simp only[decide_eq_true_eq] at h4;rw[qA (q:=3) (m:=m+1) (by omega) (by omega) (by rw[hk1];omega)];rfl
   ·simp only[decide_eq_false_iff_not] at h4;by_cases e:q=3
    ·subst e;rw[hk1];omega
    ·rw[hno q e];exact hle q h1 h2
 simp only[decide_eq_false_iff_not] at h2;obtain rfl:m=p.trans.length:=by omega
 rw[awC] at hle;rw[Mj hle];have DT:=hok.wY;refine lr (ι:=Nat) (fun m=>[(6,.int .i64 (m:Int))]) (fun i _=>i≤p.trans.length∧aH (sU p) p.trans.length 0=aH (sU p) (p.trans.length-i) i) (fun i=>p.trans.length-i) 0 (an ⟨⟨rfl,trivial⟩,fun M=>⟨M,awu _,by rw[Nat.sub_zero]⟩⟩ ?_);rintro i w M ⟨hi,hinv⟩;refine lb 1<|an rfl<|an (fun h2=>?_) fun h2 M=>⟨?_,M.below⟩
 ·simp only[decide_eq_true_eq] at h2;have hlz:i<p.trans.length:=by omega
  obtain⟨b,o,e,hc⟩:=tr i hlz;have RH:=hok.trans p.trans[i] (List.getElem_mem hlz);have hcf:sU p i=uO p.types.length p.classes.length p.conds.length p.trans[i]:=by unfold sU;rw[awt hlz]
  generalize p.trans[i]=z at hc RH hcf;have out:∀ v:Int,uO p.types.length p.classes.length p.conds.length z=v→v≠0→Ending.returned (lS [.int .i64 v])=.returned (.int .i64 (aH (sU p) p.trans.length 0)):=fun v h1 h2=>by rw[hinv,cM hlz (by rw[hcf,h1];exact h2),hcf,h1];rfl
  unfold uO at out hcf;refine lb 1<|an rfl<|ia<|an ⟨e,rfl,hlz⟩<|lc<|an (bY M.below hc)<|ei<|an LK fun g3 w3 M3=>lb 0<|an ⟨rfl,rfl⟩ fun w4 M4=>lb 0<|an rfl<|lb 0<|an (fun _=>rfl)<|an (fun h M=>⟨out 13 ?_ (by decide),M.below⟩) fun h=>?_
  ·simp only[Bool.or_eq_true,decide_eq_true_eq] at h;by_cases h1:z.kind<1
   ·rw[if_pos h1]
   ·rw[if_neg h1,if_pos (by omega)]
  simp only[Bool.or_eq_false_iff,decide_eq_false_iff_not] at h;rw[if_neg h.1,if_neg h.2] at out hcf;refine lb 0<|an rfl<|lb 2<|an rfl<|cl<|an (gG _ z.src RH.src _ DT) fun w5 M5=>lb 0<|an rfl<|lb 2<|an rfl<|cl<|an (gG _ z.tgt RH.tgt _ DT) fun w6 M6=>?_
  refine lb 0<|an (fun _=>rfl)<|lb 2<|an (fun _=>rfl)<|cl<|an (fun _=>gP _ _ _) fun w7 M7=>lb 0<|an (fun _=>rfl)<|lb 2<|an (fun _=>rfl)<|cl<|an (fun _=>gP _ _ _) fun w8 M8=>lb 2<|an (fun _=>rfl)<|lb 0<|an (fun _=>rfl)<|cl<|an (fun _=>KM _ _ _ _ _ _ _ _ _ _ _ _ _ _ _ _ _ _ p (hp.keep M8.below) _) fun w9 M9=>an (fun h3 M=>⟨out 3 ?_ (by decide),M.below⟩) fun h3=>?_
  ·simp only[Bool.or_eq_true,Bool.not_eq_true'] at h3;rcases h3 with(((h3|h3)|h3)|h3)|h3<;>simp[h3]
  simp only[Bool.or_eq_false_iff,Bool.not_eq_false'] at h3;obtain⟨⟨⟨⟨a1,a2⟩,a3⟩,a4⟩,a5⟩:=h3;simp only[a1,a2,a3,a4,a5,Bool.true_eq_false,if_false] at out hcf;refine lb 0<|an (fun _=>rfl)<|lb 0<|an (fun _=>rfl)<|an (fun h4 M=>⟨out 2 ?_ (by decide),M.below⟩) fun h4=>?_
  ·change (!dF z.src||!dF z.tgt||(!decide (z.kind=1)&&!gM z.name))=true at h4
   clear out hcf;cases ha:dF z.src<;>cases hb:dF z.tgt<;>cases hc:gM z.name<;>cases hd:ng z.name<;>by_cases hk:z.kind=1<;>simp_all
  refine lb 0<|an rfl<|lb 0<|an (fun _=>rfl)<|cl<|an (fun _=>(Ng _ z.name RH.name).mono fun _ _ ⟨h1,h2⟩=>⟨h1,h2▸Below.refl _ _⟩) fun qq jZ=>an (fun h5 M=>⟨out 10 ?_ (by decide),M.below⟩) fun h5=>an (by omega)<|bk (i+1) ⟨rfl,trivial⟩ (fun M=>⟨M.only (.cons _ (.refl _)) (.refl _),by omega,hinv.trans (bO hlz ?_)⟩) (by dsimp only;omega)
  ·change (!dF z.src||!dF z.tgt||(!decide (z.kind=1)&&!gM z.name))=false at h4
   change (!gM z.name&&!ng z.name)=true at h5
   clear out hcf;cases ha:dF z.src<;>cases hb:dF z.tgt<;>cases hc:gM z.name<;>cases hd:ng z.name<;>by_cases hk:z.kind=1<;>simp_all
  ·change (!dF z.src||!dF z.tgt||(!decide (z.kind=1)&&!gM z.name))=false at h4
   change (!gM z.name&&!ng z.name)=false at h5
   rw[hcf];clear out hcf;cases ha:dF z.src<;>cases hb:dF z.tgt<;>cases hc:gM z.name<;>cases hd:ng z.name<;>by_cases hk:z.kind=1<;>simp_all
 simp only[decide_eq_false_iff_not] at h2;obtain rfl:i=p.trans.length:=by omega
 rw[hinv,Nat.sub_self];rfl
theorem uy{i n:Int}:bh i n=true↔0≤i∧i<n:=by
 unfold bh;simp
def Ar(p:aA)(c:yU):Int:=match p.users[c.user.toNat]?,p.roles[c.role.toNat]? with
 | some u,some r=>if yG c.rng.low u.rng.low=false then 19 else if yG u.rng.high c.rng.high=false then 19
  else if u.roles.mem c.role=false then 19 else if r.types.mem c.typ=false then 19 else 0
 | _,_=>0
def xG(p:aA)(c:yU):Int:=
 if bh c.user (p.users.length:Int)=false then 3 else if bh c.role (p.roles.length:Int)=false then 3 else if bh c.typ (p.types.length:Int)=false then 3
 else if tO p.aW.length p.cats.length c.rng=false then 18 else if c.role=0 then 0 else Ar p c
theorem MW{p:aA}{c:yU}{u:kK}{r:iH}(hu:p.users[c.user.toNat]?=some u)(hr:p.roles[c.role.toNat]?=some r):Ar p c=if yG c.rng.low u.rng.low=false then 19 else if yG u.rng.high c.rng.high=false then 19
 else if u.roles.mem c.role=false then 19 else if r.types.mem c.typ=false then 19 else 0:=by
 unfold Ar;rw[hu,hr]
theorem EH(w0:World)(c0 c1 c2 c3 c4 c5 c6 c7 c8 c9 aQ aL aK aP aO aN aM:Value)(p:aA)(hp:aJ w0 c0 c1 c2 c3 c4 c5 c6 c7 c8 c9 aQ aL aK aP aO aN aM p)(hok:p.Ok)(c:yU)(hc:c.Ok):Calls Tryz.prog 116 #[.agg #[c0,c1,c2,c3,c4,c5,c6,c7,c8,c9,aQ,aL,aK,aP,aO,aN,aM],.agg #[.int .i64 c.user,.int .i64 c.role,.int .i64 c.typ,.int .i64 c.rng.low.aW,.int .u64 c.rng.low.cats,.int .i64 c.rng.high.aW,.int .u64 c.rng.high.cats]] w0 (fun(e:Ending) (w':World)=>e=.returned (.int .i64 (xG p c))∧awp w0.heap.size w0 w'):=by
 obtain⟨_,_,_,_,_,_,_,_,_,_,_,_,_,_,_,_,_,_,_,_,_,_,_,_,_,_,_,_,_,_,_,_,_,_,rfl,rfl,rfl,rfl,rfl,rfl,rfl,rfl,rfl,rfl,rfl,rfl,rfl,rfl,rfl,rfl,rfl⟩:=hp.open;refine bP [] (fn:=Tryz.f116) Tryz.func116 rfl Tryz.ntmps116 rfl<|fun g1 w1 M1=>fun g2 w2 M2=>lb 0<|an rfl<|lb 1<|an rfl<|cl<|an (gP _ _ _) fun w3 M3=>lb 0<|an (fun _=>rfl)<|lb 1<|an (fun _=>rfl)<|cl<|an (fun _=>gP _ _ _) fun w4 M4=>lb 0<|an (fun _=>rfl)<|lb 1<|an (fun _=>rfl)<|cl<|an (fun _=>gP _ _ _) fun w5 M5=>an (fun h M=>⟨ri ?_,M.below⟩) fun h=>?_
 ·unfold xG;cases h5:bh c.user p.users.length<;>cases h6:bh c.role p.roles.length<;>cases h7:bh c.typ p.types.length<;>simp_all
 have hb:bh c.user p.users.length=true∧bh c.role p.roles.length=true∧bh c.typ p.types.length=true:=by cases h5:bh c.user p.users.length<;>cases h6:bh c.role p.roles.length<;>cases h7:bh c.typ p.types.length<;>simp_all
 clear h;have hpm:xG p c=if tO p.aW.length p.cats.length c.rng=false then 18 else if c.role=0 then 0 else Ar p c:=by unfold xG;rw[hb.1,hb.2.1,hb.2.2];rfl
 rw[uy,uy,uy] at hb;obtain⟨⟨hu0,hu1⟩,⟨hr0,hr1⟩,ht0,ht1⟩:=hb;refine lb 1<|an rfl<|lb 0<|an rfl<|cl<|an (xD _ _ _ _ _ _ _ _ _ _ _ _ _ _ _ _ _ _ p (hp.keep M5.below) c.rng hc.rng) fun w6 M6=>an (fun h M=>⟨ri (by rw[hpm,if_pos (by simpa using h)]),M.below⟩) fun h=>?_
 rw[if_neg (by simpa using h)] at hpm;refine lb 0<|an rfl<|an (fun h M=>⟨ri (by rw[hpm,if_pos (by simpa using h)]),M.below⟩) fun h=>?_
 rw[if_neg (by simpa using h)] at hpm;have hlu:c.user.toNat<p.users.length:=by omega
 have hlr:c.role.toNat<p.roles.length:=by omega
 obtain⟨u,hu⟩:∃ u,p.users[c.user.toNat]?=some u:=⟨_,awt hlu⟩;obtain⟨r,hr⟩:∃ r,p.roles[c.role.toNat]?=some r:=⟨_,awt hlr⟩;have oku:=hok.users u (awv hu);have okr:=hok.roles r (awv hr);obtain⟨b,o,e,hcu⟩:=SliceAt.elt hp.users (fun _=>rfl) (by decide) hu hlu;obtain⟨b',o',e',hcr⟩:=SliceAt.elt hp.roles (fun _=>rfl) (by decide) hr hlr;rw[MW hu hr] at hpm;refine lb 1<|an rfl<|lb 0<|an rfl<|ia<|an ⟨e,(awz hu0).symm,hlu⟩<|lc<|an (bY M6.below hcu)<|ei<|an Z2 fun g3 w7 M7=>lb 0<|an ⟨rfl,rfl⟩ fun w8 M8=>lb 1<|an rfl<|lb 0<|an rfl<|cl<|an (vU _ c.rng.low u.rng.low hc.rng.low oku.rng.low) fun w9 M9=>lb 0<|an (fun _=>rfl)<|lb 1<|an (fun _=>rfl)<|cl<|an (fun _=>vU _ u.rng.high c.rng.high oku.rng.high hc.rng.high) fun qq jZ=>?_
 refine dr (by kernel_rfl)<|lb 0<|an (fun _=>rfl)<|lb 1<|an (fun _=>rfl)<|cl<|an (fun _ w' hb' M'=>Pu _ u.roles oku.roles _)<|lb 2<|an (fun _=>rfl)<|lb 1<|an (fun _=>rfl)<|ia<|an (fun _=>⟨e',(awz hr0).symm,hlr⟩)<|lc (x:=[.int .u64 r.types.a,.int .u64 r.types.b,.int .u64 r.types.c,.int .u64 r.types.d])<|an (fun _=>B0 (bY jZ.below hcr) rfl)<|lb 1<|an (fun _=>rfl)<|cl<|an (fun _ w' hb' M'=>Pu _ r.types okr.types _) fun zS yp M11=>an (fun h3 M=>⟨ri ?_,M.below⟩) fun h3 M=>⟨ri ?_,M.below⟩
 all_goals rw[hpm];clear hpm;cases h4:yG c.rng.low u.rng.low<;>cases h5:yG u.rng.high c.rng.high<;>cases h6:u.roles.mem c.role<;>cases h7:r.types.mem c.typ<;>simp_all
theorem KV(w0:World)(x:ByteArray)(hx:dw x):Calls Tryz.prog 117 #[.agg #[.int .i64 3,.string x,.int .i64 0,.int .i64 0]] w0 (fun(e:Ending) (w':World)=>e=.returned (.bool (pH x))∧awp w0.heap.size w0 w'):=by
 exact bP [] (fn:=Tryz.f117) Tryz.func117 rfl Tryz.ntmps117 rfl<|fun g1 w1 M1=>lb 0<|an rfl<|an (fun h=>absurd h (by decide)) fun _=>an (fun h=>absurd h (by decide)) fun _=>an (fun h=>absurd h (by decide)) fun _=>an (fun _=>lb 0<|an rfl<|cl<|an ((MU _ x hx).mono fun _ _ ⟨h1,h2⟩=>⟨h1,h2▸Below.refl _ _⟩) fun w4 M4 M=>⟨rfl,M.below⟩) fun h=>absurd h (by decide)
def Yo(p:aA)(before:List ByteArray)(y:kZ):Int:=if bM [y.name] before=0 then xG p y.ctx else bM [y.name] before
def Jt(p:aA)(i:Nat):Int:=match p.bL[i]? with
 | some y=>Yo p ((p.bL.take i).map (·.name)) y
 | none=>0
def Qd(p:aA)(y:lC):Int:=if gM y.pat=true then 10 else if pH y.pat=false then 10 else if y.kind<0 then 13 else if 4<y.kind then 13 else xG p y.ctx
def C8(p:aA)(i:Nat):Int:=match p.files[i]? with
 | some y=>Qd p y
 | none=>0
def jg(p:aA):Int:=if 1024<p.bL.length then 4 else if aH (Jt p) p.bL.length 0=0 then (if 256<p.files.length then 4 else aH (C8 p) p.files.length 0) else aH (Jt p) p.bL.length 0
theorem NC(w0:World)(c0 c1 c2 c3 c4 c5 c6 c7 c8 c9 aQ aL aK aP aO aN aM:Value)(p:aA)(hp:aJ w0 c0 c1 c2 c3 c4 c5 c6 c7 c8 c9 aQ aL aK aP aO aN aM p)(hok:p.Ok):Calls Tryz.prog 50 #[.agg #[c0,c1,c2,c3,c4,c5,c6,c7,c8,c9,aQ,aL,aK,aP,aO,aN,aM]] w0 (RI w0 (jg p)):=by
 obtain⟨_,_,_,_,_,_,_,_,_,_,_,_,_,_,_,_,_,_,_,_,_,_,_,_,_,_,_,_,_,_,_,_,_,_,rfl,rfl,rfl,rfl,rfl,rfl,rfl,rfl,rfl,rfl,rfl,rfl,rfl,rfl,rfl,rfl,rfl⟩:=hp.open;refine bP [] (fn:=Tryz.f50) Tryz.func50 rfl Tryz.ntmps50 rfl<|fun g1 w1 M1=>lb 0<|an rfl<|an (fun h M=>⟨ri (by unfold jg;rw[if_pos (by simp at h;omega)]),M.below⟩) fun h=>?_
 have hr:¬ 1024<p.bL.length:=by simp at h;omega
 refine lq (ι:=Nat×Value) (fun(m,u)=>[(3,u),(4,.int .i64 (m:Int))]) (fun(m,u)=>[⟨u,9,1,m,((p.bL.take m).map (·.name)).flatMap aT⟩]) (fun(m,u) _=>m≤p.bL.length∧aH (Jt p) p.bL.length 0=aH (Jt p) (p.bL.length-m) m) (fun(m,u)=>p.bL.length-m) (0,.slice none 0 0) (an ⟨⟨rfl,rfl,trivial⟩,fun M=>⟨M.bB 9 1,awu _,by rw[Nat.sub_zero]⟩⟩ ?_);rintro⟨m,u⟩ w M ⟨hm,hinv⟩;refine lb 0<|an rfl<|an (fun h2=>?_) fun h2=>?_
 have hlt:m<p.bL.length:=by simp at h2;omega
 obtain⟨y,hy⟩:∃ y,p.bL[m]?=some y:=⟨_,awt hlt⟩;have qO:=hok.bL y (awv hy)
 ·obtain⟨b,o,e,hc⟩:=SliceAt.elt hp.bL (fun _=>rfl) (by decide) hy hlt;have hcf:Jt p m=Yo p ((p.bL.take m).map (·.name)) y:=by unfold Jt;rw[hy]
  have out:∀ v:Int,Yo p ((p.bL.take m).map (·.name)) y=v→v≠0→jg p=v:=fun v h1 h2=>by
   have e:aH (Jt p) p.bL.length 0=v:=by rw[hinv,cM hlt (by rw[hcf,h1];exact h2),hcf,h1]
   unfold jg;rw[if_neg hr,e,if_neg h2]
  unfold Yo at hcf out;refine lb 0<|an rfl<|ia<|an ⟨e,rfl,hlt⟩<|lc<|an (bY M.below hc 0 _ rfl)<|fun g2 w2 M2=>cl<|an (fA _ _ _ [y.name] ((p.bL.take m).map (·.name)) (M2.slice 0 rfl rfl rfl (by simp[maxLen])) (gE (M2.r 0 rfl) (by simp;omega) rfl) (by simpa using qO.name)) fun w3 M3=>an (fun h3 M=>⟨ri (out _ (if_neg (by simpa using h3)) (by simpa using h3)),M.below⟩) fun h3=>?_
  replace h3:bM [y.name] ((p.bL.take m).map (·.name))=0:=by simpa using h3
  rw[if_pos h3] at hcf out;exact lb 1<|an rfl<|ia<|an ⟨e,rfl,hlt⟩<|lc<|an (bY M3.below hc 0 _ rfl)<|fun g3 w4 M4=>ap 0 id rfl (M4.slice 0 rfl rfl rfl (by simp[maxLen])) ⟨by unfold maxLen;omega,by omega⟩ fun v4 w5 M5=>dr (by kernel_rfl)<|lb 2<|an rfl<|lb 2<|an rfl<|ia<|an ⟨e,rfl,hlt⟩<|lc (x:=[.int .i64 y.ctx.user,.int .i64 y.ctx.role,.int .i64 y.ctx.typ,.int .i64 y.ctx.rng.low.aW,.int .u64 y.ctx.rng.low.cats,.int .i64 y.ctx.rng.high.aW,.int .u64 y.ctx.rng.high.cats])<|an (B0 (bY M5.below hc) rfl)<|cl<|an (fun w' hb' M'=>EH _ _ _ _ _ _ _ _ _ _ _ _ _ _ _ _ _ _ p (hp.keep M'.below) hok y.ctx qO.ctx) fun w6 LH M6=>an (fun h4 M=>⟨ri (out _ rfl (by simpa using h4)),M.below⟩) fun h4=>an (by omega)<|bk (m+1,v4) ⟨rfl,rfl,trivial⟩ (fun M=>⟨(M.only (.cons _ (.cons _ (.refl _))) (.refl _)).cast rfl (by dsimp only;rw[rX hy]),by omega,hinv.trans (bO hlt (by rw[hcf];simpa using h4))⟩) (by dsimp only;omega)
 have hz:aH (Jt p) p.bL.length 0=0:=by rw[hinv,show m=p.bL.length by simp at h2;omega,cL]
 clear hinv h2 hm;refine lb 0<|an rfl<|an (fun h M=>⟨ri (by unfold jg;rw[if_neg hr,if_pos hz,if_pos (by simp at h;omega)]),M.below⟩) fun h=>?_
 rw[show jg p=aH (C8 p) p.files.length 0 by unfold jg;rw[if_neg hr,if_pos hz,if_neg (by simp at h;omega)]];have hfl:¬ 256<p.files.length:=by simp at h;omega
 refine lp (ι:=Nat) (fun m=>[(7,.int .i64 (m:Int))]) (fun _=>_) (fun _=>[]) (fun m _=>m≤p.files.length∧aH (C8 p) p.files.length 0=aH (C8 p) (p.files.length-m) m) (fun m=>p.files.length-m) 0 (an ⟨⟨rfl,trivial⟩,fun M=>⟨M.only (.refl _) (.cons _ (.refl _)),awu _,by rw[Nat.sub_zero]⟩⟩ ?_);clear M;rintro m w M ⟨hm,hinv⟩;refine lb 0<|an rfl<|an (fun h2=>?_) fun h2 M=>⟨ri (by rw[hinv,show m=p.files.length by simp at h2;omega,cL]),M.below⟩
 have hlt:m<p.files.length:=by simp at h2;omega
 obtain⟨y,hy⟩:∃ y,p.files[m]?=some y:=⟨_,awt hlt⟩;have qO:=hok.files y (awv hy);obtain⟨b,o,e,hc⟩:=SliceAt.elt hp.files (fun _=>rfl) (by decide) hy hlt;have hcf:C8 p m=Qd p y:=by unfold C8;rw[hy]
 have out:∀ v:Int,Qd p y=v→v≠0→aH (C8 p) p.files.length 0=v:=fun v h1 h2=>by rw[hinv,cM hlt (by rw[hcf,h1];exact h2),hcf,h1]
 unfold Qd at hcf out;refine lb 0<|an rfl<|ia<|an ⟨e,rfl,hlt⟩<|lc<|an (bY M.below hc)<|ei<|an aek fun g5 w7 M7=>lb 0<|an ⟨rfl,rfl⟩ fun w8 M8=>lb 0<|an rfl<|lb 0<|an (fun _=>rfl)<|ei (x:=.agg #[.int .i64 3,.string y.pat,.int .i64 0,.int .i64 0])<|an (fun _=>bd (by kernel_rfl))<|cl<|an (fun _=>KV _ y.pat qO.pat) fun w9 M9=>an (fun h3 M=>⟨ri (out 10 ?_ (by decide)),M.below⟩) fun h3=>?_
 ·change (gM y.pat||!pH y.pat)=true at h3
  clear out hcf;cases h4:gM y.pat<;>cases h5:pH y.pat<;>simp_all
 change (gM y.pat||!pH y.pat)=false at h3
 rw[if_neg (by intro e;simp[e] at h3),if_neg (by intro e;simp[e] at h3)] at hcf out;refine lb 0<|an rfl<|lb 0<|an (fun _=>rfl)<|an (fun h4 M=>⟨ri (out 13 ?_ (by decide)),M.below⟩) fun h4=>?_
 ·by_cases h5:y.kind<0
  ·rw[if_pos h5]
  ·rw[if_neg h5,if_pos (by simp at h4;omega)]
 rw[if_neg (by simp at h4;omega),if_neg (by simp at h4;omega)] at hcf out;exact lb 1<|an rfl<|lb 0<|an rfl<|cl<|an (EH _ _ _ _ _ _ _ _ _ _ _ _ _ _ _ _ _ _ p (hp.keep M9.below) hok y.ctx qO.ctx) fun qq jZ=>an (fun h5 M=>⟨ri (out _ rfl (by simpa using h5)),M.below⟩) fun h5=>an (by omega)<|bk (m+1) ⟨rfl,trivial⟩ (fun M=>⟨M.only (.cons _ (.refl _)) (.refl _),by omega,hinv.trans (bO hlt (by rw[hcf];simpa using h5))⟩) (by dsimp only;omega)
def rtM(nT nC nR:Nat)(y:k_):Int:=
 if xw nR y.roles=false then 3 else if y.types.within (ay.all nT)=false then 3 else if bh y.cls (nC:Int)=false then 3 else if bh y.res (nR:Int)=false then 3
 else if y.res=0 then 3 else if y.roles=ay.zero then 2 else if dF y.types=false then 2 else 0
def Yx(p:aA)(i:Nat):Int:=match p.aS[i]? with
 | some y=>rtM p.types.length p.classes.length p.roles.length y
 | none=>0
def rgM(nT nC nS nK:Nat)(y:lu):Int:=
 if y.src.within (ay.all nT)=false then 3 else if y.tgt.within (ay.all nT)=false then 3 else if bh y.cls (nC:Int)=false then 3
 else if dF y.src=false then 2 else if dF y.tgt=false then 2 else if tO nS nK y.rng=false then 18 else 0
def rgF(p:aA)(i:Nat):Int:=match p.ranges[i]? with
 | some y=>rgM p.types.length p.classes.length p.aW.length p.cats.length y
 | none=>0
def eF(p:aA):Int:=if 1024<p.aS.length then 4 else if aH (Yx p) p.aS.length 0=0 then (if 1024<p.ranges.length then 4 else aH (rgF p) p.ranges.length 0) else aH (Yx p) p.aS.length 0
theorem KW(w0:World)(c0 c1 c2 c3 c4 c5 c6 c7 c8 c9 aQ aL aK aP aO aN aM:Value)(p:aA)(hp:aJ w0 c0 c1 c2 c3 c4 c5 c6 c7 c8 c9 aQ aL aK aP aO aN aM p)(hok:p.Ok):Calls Tryz.prog 48 #[.agg #[c0,c1,c2,c3,c4,c5,c6,c7,c8,c9,aQ,aL,aK,aP,aO,aN,aM]] w0 (RI w0 (eF p)):=by
 obtain⟨_,_,_,_,_,_,_,_,_,_,_,_,_,_,_,_,_,_,_,_,_,_,_,_,_,_,_,_,_,_,_,_,_,_,rfl,rfl,rfl,rfl,rfl,rfl,rfl,rfl,rfl,rfl,rfl,rfl,rfl,rfl,rfl,rfl,rfl⟩:=hp.open;have DT:=hok.wY;refine bP [] (fn:=Tryz.f48) Tryz.func48 rfl Tryz.ntmps48 rfl fun g1 w1 M1=>lb 0<|an rfl<|an (fun h M=>⟨?_,M.below⟩) fun h=>?_
 ·simp only[decide_eq_true_eq] at h;unfold eF;rw[if_pos (by omega)];rfl
 simp only[decide_eq_false_iff_not] at h;have hr:¬ 1024<p.aS.length:=by omega
 have aj4:∀ v:Int,aH (Yx p) p.aS.length 0=v→v≠0→eF p=v:=fun v h1 h2=>by unfold eF;rw[if_neg hr,if_neg (by rw[h1];exact h2),h1]
 refine lr (ι:=Nat) (fun m=>[(3,.int .i64 (m:Int))]) (fun i _=>i≤p.aS.length∧aH (Yx p) p.aS.length 0=aH (Yx p) (p.aS.length-i) i) (fun i=>p.aS.length-i) 0 (an ⟨⟨rfl,trivial⟩,fun M=>⟨M,awu _,by rw[Nat.sub_zero]⟩⟩ ?_);rintro i w M ⟨hi,hinv⟩;refine lb 0<|an rfl<|an (fun h2=>?_) fun h2=>?_
 ·simp only[decide_eq_true_eq] at h2;have hlz:i<p.aS.length:=by omega
  obtain⟨b,o,e,hc⟩:=SliceAt.elt (i:=i) hp.aS (fun _=>rfl) (by decide) (awt hlz) hlz;have RH:=hok.aS p.aS[i] (List.getElem_mem hlz);have hcf:Yx p i=rtM p.types.length p.classes.length p.roles.length p.aS[i]:=by unfold Yx;rw[awt hlz]
  generalize p.aS[i]=z at hc RH hcf
  have out:∀ v:Int,rtM p.types.length p.classes.length p.roles.length z=v→v≠0→Ending.returned (lS [.int .i64 v])=.returned (.int .i64 (eF p)):=fun v h1 h2=>by
   have e:aH (Yx p) p.aS.length 0=v:=by rw[hinv,cM hlz (by rw[hcf,h1];exact h2),hcf,h1]
   rw[aj4 _ e h2];rfl
  unfold rtM at out hcf;refine lb 0<|an rfl<|ia<|an ⟨e,rfl,hlz⟩<|lc<|an (bY M.below hc)<|ei<|an aeg fun g3 w3 M3=>lb 0<|an ⟨rfl,rfl⟩ fun w4 M4=>?_
  refine dr (by kernel_rfl)<|lb 0<|an rfl<|ei (x:=.agg #[.int .u64 0,.int .u64 0,.int .u64 0,.int .u64 0])<|an (bd (by kernel_rfl))<|ei<|an ⟨rA,fun w=>nY z.roles w⟩<|lb 1<|an rfl<|lb 0<|an rfl<|cl<|an (fun w' hb' M'=>jv w' _ _ _ _ _ _ _ _ _ _ _ _ _ _ _ _ _ p (hp.keep M'.below) hok z.roles RH.roles) fun w5 CU M5=>?_
  refine lb 0<|an rfl<|lb 1<|an rfl<|cl<|an (gG _ z.types RH.types _ DT) fun w6 Mw6=>lb 0<|an (fun _=>rfl)<|lb 1<|an (fun _=>rfl)<|cl<|an (fun _=>gP _ _ _) fun w7 Mw7=>lb 0<|an (fun _=>rfl)<|lb 1<|an (fun _=>rfl)<|cl<|an (fun _=>gP _ _ _) fun w8 Mw8=>lb 0<|an (fun _=>rfl)<|an (fun h3 M=>⟨out 3 ?_ (by decide),M.below⟩) fun h3=>an (fun h4 M=>⟨out 2 ?_ (by decide),M.below⟩) fun h4=>an (by omega)<|bk (i+1) ⟨rfl,trivial⟩ (fun M=>⟨M.only (.cons _ (.refl _)) (.refl _),by omega,hinv.trans (bO hlz ?_)⟩) (by dsimp only;omega)
  all_goals first|(rw[hcf];clear out hcf)|clear out hcf
  all_goals cases h5:xw p.roles.length z.roles<;>cases h6:z.types.within (ay.all p.types.length)<;>cases h7:bh z.cls (p.classes.length:Int)<;>cases h8:bh z.res (p.roles.length:Int)<;>by_cases h9:z.res=0<;>by_cases h10:z.roles=ay.zero<;>cases h11:dF z.types<;>simp_all
 simp only[decide_eq_false_iff_not] at h2;obtain rfl:i=p.aS.length:=by omega
 rw[Nat.sub_self] at hinv;replace hinv:aH (Yx p) p.aS.length 0=0:=hinv;have hz:=hinv;refine lb 0<|an rfl<|an (fun h M=>⟨?_,M.below⟩) fun h=>?_
 ·simp only[decide_eq_true_eq] at h;unfold eF;rw[if_neg hr,if_pos hz,if_pos (by omega)];rfl
 simp only[decide_eq_false_iff_not] at h;have hg:¬ 1024<p.ranges.length:=by omega
 have agG:eF p=aH (rgF p) p.ranges.length 0:=by unfold eF;rw[if_neg hr,if_pos hz,if_neg hg]
 have aj3:∀ v:Int,aH (rgF p) p.ranges.length 0=v→v≠0→eF p=v:=fun v h1 _=>agG.trans h1
 clear hinv h2;refine lr (ι:=Nat) (fun m=>[(9,.int .i64 (m:Int))]) (fun i _=>i≤p.ranges.length∧aH (rgF p) p.ranges.length 0=aH (rgF p) (p.ranges.length-i) i) (fun i=>p.ranges.length-i) 0 (an ⟨⟨rfl,trivial⟩,fun M=>⟨M,awu _,by rw[Nat.sub_zero]⟩⟩ ?_);rintro i w M ⟨hi,hinv⟩;refine lb 0<|an rfl<|an (fun h2=>?_) fun h2=>?_
 ·simp only[decide_eq_true_eq] at h2;have hlz:i<p.ranges.length:=by omega
  obtain⟨b,o,e,hc⟩:=SliceAt.elt (i:=i) hp.ranges (fun _=>rfl) (by decide) (awt hlz) hlz;have RH:=hok.ranges p.ranges[i] (List.getElem_mem hlz);have hcf:rgF p i=rgM p.types.length p.classes.length p.aW.length p.cats.length p.ranges[i]:=by unfold rgF;rw[awt hlz]
  generalize p.ranges[i]=z at hc RH hcf
  have out:∀ v:Int,rgM p.types.length p.classes.length p.aW.length p.cats.length z=v→v≠0→Ending.returned (lS [.int .i64 v])=.returned (.int .i64 (eF p)):=fun v h1 h2=>by
   have e:aH (rgF p) p.ranges.length 0=v:=by rw[hinv,cM hlz (by rw[hcf,h1];exact h2),hcf,h1]
   rw[aj3 _ e h2];rfl
  unfold rgM at out hcf;refine lb 0<|an rfl<|ia<|an ⟨e,rfl,hlz⟩<|lc<|an (bY M.below hc)<|ei<|an aef fun g3 w3 M3=>lb 0<|an ⟨rfl,rfl⟩ fun w4 M4=>?_
  refine lb 0<|an rfl<|lb 1<|an rfl<|cl<|an (gG _ z.src RH.src _ DT) fun w5 Mw5=>lb 0<|an rfl<|lb 1<|an rfl<|cl<|an (gG _ z.tgt RH.tgt _ DT) fun w6 Mw6=>lb 0<|an (fun _=>rfl)<|lb 1<|an (fun _=>rfl)<|cl<|an (fun _=>gP _ _ _) fun w7 Mw7=>an (fun h3 M=>⟨out 3 ?_ (by decide),M.below⟩) fun h3=>an (fun h4 M=>⟨out 2 ?_ (by decide),M.below⟩) fun h4=>lb 1<|an rfl<|lb 0<|an rfl<|cl<|an (xD _ _ _ _ _ _ _ _ _ _ _ _ _ _ _ _ _ _ p (hp.keep Mw7.below) z.rng RH.rng) fun w8 M8=>an (fun h5 M=>⟨out 18 ?_ (by decide),M.below⟩) fun h5=>an (by omega)<|bk (i+1) ⟨rfl,trivial⟩ (fun M=>⟨M.only (.cons _ (.refl _)) (.refl _),by omega,hinv.trans (bO hlz ?_)⟩) (by dsimp only;omega)
  all_goals first|(rw[hcf];clear out hcf)|clear out hcf
  all_goals cases h6:z.src.within (ay.all p.types.length)<;>cases h7:z.tgt.within (ay.all p.types.length)<;>cases h8:bh z.cls (p.classes.length:Int)<;>cases h9:dF z.src<;>cases h10:dF z.tgt<;>cases h11:tO p.aW.length p.cats.length z.rng<;>simp_all
 simp only[decide_eq_false_iff_not] at h2;obtain rfl:i=p.ranges.length:=by omega
 rw[Nat.sub_self] at hinv;exact fun M=>⟨by rw[agG,hinv];rfl,M.below⟩
def yJ(before:List ByteArray)(y:jL):Int:=
 if bM [y.name] before=0 then (if 32<y.perms.length then 4 else if y.perms.length=0 then 2 else bM y.perms []) else bM [y.name] before
def rH(p:aA)(i:Nat):Int:=match p.classes[i]? with
 | some y=>yJ ((p.classes.take i).map (·.name)) y
 | none=>0
def jl(p:aA):Int:=if 32<p.classes.length then 4 else aH (rH p) p.classes.length 0
theorem KS(w0:World)(c0 c1 c2 c3 c4 c5 c6 c7 c8 c9 aQ aL aK aP aO aN aM:Value)(p:aA)(hp:aJ w0 c0 c1 c2 c3 c4 c5 c6 c7 c8 c9 aQ aL aK aP aO aN aM p)(hok:p.Ok):Calls Tryz.prog 41 #[.agg #[c0,c1,c2,c3,c4,c5,c6,c7,c8,c9,aQ,aL,aK,aP,aO,aN,aM]] w0 (RI w0 (jl p)):=by
 obtain⟨_,_,_,_,_,_,_,_,_,_,_,_,_,_,_,_,_,_,_,_,_,_,_,_,_,_,_,_,_,_,_,_,_,_,rfl,rfl,rfl,rfl,rfl,rfl,rfl,rfl,rfl,rfl,rfl,rfl,rfl,rfl,rfl,rfl,rfl⟩:=hp.open;refine bP [] (fn:=Tryz.f41) Tryz.func41 rfl Tryz.ntmps41 rfl<|fun g1 w1 M1=>lb 0<|an rfl<|an (fun h M=>⟨ri (by unfold jl;rw[if_pos (by simp at h;omega)]),M.below⟩) fun h=>?_
 have hr:¬ 32<p.classes.length:=by simp at h;omega
 rw[show jl p=aH (rH p) p.classes.length 0 from if_neg hr];refine lq (ι:=Nat×Value) (fun(m,u)=>[(3,u),(4,.int .i64 (m:Int))]) (fun(m,u)=>[⟨u,9,1,m,((p.classes.take m).map (·.name)).flatMap aT⟩]) (fun(m,u) _=>m≤p.classes.length∧aH (rH p) p.classes.length 0=aH (rH p) (p.classes.length-m) m) (fun(m,u)=>p.classes.length-m) (0,.slice none 0 0) (an ⟨⟨rfl,rfl,trivial⟩,fun M=>⟨M.bB 9 1,awu _,by rw[Nat.sub_zero]⟩⟩ ?_);rintro⟨m,u⟩ w M ⟨hm,hinv⟩;refine lb 0<|an rfl<|an (fun h2=>?_) fun h2 M=>⟨ri (by rw[hinv,show m=p.classes.length by simp at h2;omega,cL]),M.below⟩
 have hlt:m<p.classes.length:=by simp at h2;omega
 obtain⟨y,hy⟩:∃ y,p.classes[m]?=some y:=⟨_,awt hlt⟩;have qO:=hok.classes y (awv hy);obtain⟨b,o,_,e,⟨v,rfl,hv⟩,hc⟩:=aq.elt hp.classes (by decide) hy;obtain⟨va,vc,rfl,-⟩:=aF.get hv;have hcf:rH p m=yJ ((p.classes.take m).map (·.name)) y:=by unfold rH;rw[hy]
 have out:∀ v:Int,yJ ((p.classes.take m).map (·.name)) y=v→v≠0→aH (rH p) p.classes.length 0=v:=fun v h1 h2=>by rw[hinv,cM hlt (by rw[hcf,h1];exact h2),hcf,h1]
 unfold yJ at hcf out;refine lb 0<|an rfl<|ia<|an ⟨e,rfl,hlt⟩<|lc<|an (bY M.below hc)<|ei<|an O1 fun g2 w2 M2=>lb 0<|an ⟨rfl,rfl⟩ fun w3 M3=>lb 0<|an rfl<|fun g3 w4 M4=>cl<|an (fA _ _ _ [y.name] ((p.classes.take m).map (·.name)) (M4.slice 0 rfl rfl rfl (by simp[maxLen])) (gE (M4.r 0 rfl) (by simp;omega) rfl) (by simpa using qO.name)) fun w5 M5=>an (fun h3 M=>⟨ri (out _ (if_neg (by simpa using h3)) (by simpa using h3)),M.below⟩) fun h3=>?_
 replace h3:bM [y.name] ((p.classes.take m).map (·.name))=0:=by simpa using h3
 rw[if_pos h3] at hcf out;refine lb 1<|an rfl<|fun g4 w6 M6=>ap 0 id rfl (M6.slice 0 rfl rfl rfl (by simp[maxLen])) ⟨by unfold maxLen;omega,by omega⟩ fun v5 w7 M7=>lb 2<|an rfl<|an (fun h4 M=>⟨ri (out _ (if_pos (by simp at h4;omega)) (by decide)),M.below⟩) fun h4=>?_
 rw[if_neg (by simp at h4;omega)] at hcf out;refine lb 2<|an rfl<|an (fun h5 M=>⟨ri (out _ (if_pos (by simp at h5;simp[h5])) (by decide)),M.below⟩) fun h5=>?_
 rw[if_neg (by simp at h5;simp[h5])] at hcf out;exact lb 2<|an rfl<|cl<|an (fA _ _ _ y.perms [] (hv.keep M7.below) (SliceAt.nil _ _) qO.perms.all) fun w8 M8=>an (fun h6 M=>⟨ri (out _ rfl (by simpa using h6)),M.below⟩) fun h6=>an (by omega)<|bk (m+1,v5) ⟨rfl,rfl,trivial⟩ (fun M=>⟨(M.only (.cons _ (.cons _ (.cons _ (.refl _)))) (.refl _)).cast rfl (by dsimp only;rw[rX hy]),by omega,hinv.trans (bO hlt (by rw[hcf];simpa using h6))⟩) (by dsimp only;omega)
def O6(nR nS nC:Nat)(before:List ByteArray)(y:kK):Int:=
 if bM [y.name] before=0 then
  (if xw nR y.roles=false then 3
   else if tO nS nC y.rng=false then 18 else if xV nS nC y.dflt=false then 18
   else if yG y.rng.high y.dflt=false then 18 else if yG y.dflt y.rng.low=false then 18 else 0)
 else bM [y.name] before
def BA(p:aA)(i:Nat):Int:=match p.users[i]? with
 | some y=>O6 p.roles.length p.aW.length p.cats.length ((p.users.take i).map (·.name)) y
 | none=>0
def tI(p:aA):Int:=if 32<p.users.length then 4 else aH (BA p) p.users.length 0
theorem QV(w0:World)(c0 c1 c2 c3 c4 c5 c6 c7 c8 c9 aQ aL aK aP aO aN aM:Value)(p:aA)(hp:aJ w0 c0 c1 c2 c3 c4 c5 c6 c7 c8 c9 aQ aL aK aP aO aN aM p)(hok:p.Ok):Calls Tryz.prog 44 #[.agg #[c0,c1,c2,c3,c4,c5,c6,c7,c8,c9,aQ,aL,aK,aP,aO,aN,aM]] w0 (RI w0 (tI p)):=by
 obtain⟨_,_,_,_,_,_,_,_,_,_,_,_,_,_,_,_,_,_,_,_,_,_,_,_,_,_,_,_,_,_,_,_,_,_,rfl,rfl,rfl,rfl,rfl,rfl,rfl,rfl,rfl,rfl,rfl,rfl,rfl,rfl,rfl,rfl,rfl⟩:=hp.open;refine bP [] (fn:=Tryz.f44) Tryz.func44 rfl Tryz.ntmps44 rfl<|fun g1 w1 M1=>lb 0<|an rfl<|an (fun h M=>⟨ri (by unfold tI;rw[if_pos (by simp at h;omega)]),M.below⟩) fun h=>?_
 have hr:¬ 32<p.users.length:=by simp at h;omega
 rw[show tI p=aH (BA p) p.users.length 0 from if_neg hr];refine lq (ι:=Nat×Value) (fun(m,u)=>[(3,u),(4,.int .i64 (m:Int))]) (fun(m,u)=>[⟨u,9,1,m,((p.users.take m).map (·.name)).flatMap aT⟩]) (fun(m,u) _=>m≤p.users.length∧aH (BA p) p.users.length 0=aH (BA p) (p.users.length-m) m) (fun(m,u)=>p.users.length-m) (0,.slice none 0 0) (an ⟨⟨rfl,rfl,trivial⟩,fun M=>⟨M.bB 9 1,awu _,by rw[Nat.sub_zero]⟩⟩ ?_);rintro⟨m,u⟩ w M ⟨hm,hinv⟩;refine lb 0<|an rfl<|an (fun h2=>?_) fun h2 M=>⟨ri (by rw[hinv,show m=p.users.length by simp at h2;omega,cL]),M.below⟩
 have hlt:m<p.users.length:=by simp at h2;omega
 obtain⟨y,hy⟩:∃ y,p.users[m]?=some y:=⟨_,awt hlt⟩;have qO:=hok.users y (awv hy);obtain⟨b,o,e,hc⟩:=SliceAt.elt hp.users (fun _=>rfl) (by decide) hy hlt;have hcf:BA p m=O6 p.roles.length p.aW.length p.cats.length ((p.users.take m).map (·.name)) y:=by unfold BA;rw[hy]
 have out:∀ v:Int,O6 p.roles.length p.aW.length p.cats.length ((p.users.take m).map (·.name)) y=v→v≠0→aH (BA p) p.users.length 0=v:=fun v h1 h2=>by rw[hinv,cM hlt (by rw[hcf,h1];exact h2),hcf,h1]
 unfold O6 at hcf out;refine lb 0<|an rfl<|ia<|an ⟨e,rfl,hlt⟩<|lc<|an (bY M.below hc)<|ei<|an Z2 fun g2 w2 M2=>lb 0<|an ⟨rfl,rfl⟩ fun w3 M3=>lb 0<|an rfl<|fun g3 w4 M4=>cl<|an (fA _ _ _ [y.name] ((p.users.take m).map (·.name)) (M4.slice 0 rfl rfl rfl (by simp[maxLen])) (gE (M4.r 0 rfl) (by simp;omega) rfl) (by simpa using qO.name)) fun w5 M5=>an (fun h3 M=>⟨ri (out _ (if_neg (by simpa using h3)) (by simpa using h3)),M.below⟩) fun h3=>?_
 replace h3:bM [y.name] ((p.users.take m).map (·.name))=0:=by simpa using h3
 rw[if_pos h3] at hcf out;refine lb 1<|an rfl<|fun g4 w6 M6=>ap 0 id rfl (M6.slice 0 rfl rfl rfl (by simp[maxLen])) ⟨by unfold maxLen;omega,by omega⟩ fun v5 w7 M7=>lb 3<|an rfl<|lb 2<|an rfl<|cl<|an (jv _ _ _ _ _ _ _ _ _ _ _ _ _ _ _ _ _ _ p (hp.keep M7.below) hok y.roles qO.roles) fun w8 M8=>an (fun h4 M=>⟨ri (out 3 (if_pos (by simpa using h4)) (by decide)),M.below⟩) fun h4=>?_
 rw[if_neg (by simpa using h4)] at hcf out;refine lb 3<|an rfl<|lb 2<|an rfl<|cl<|an (xD _ _ _ _ _ _ _ _ _ _ _ _ _ _ _ _ _ _ p (hp.keep M8.below) y.rng qO.rng) fun w9 M9=>lb 3<|an (fun _=>rfl)<|lb 2<|an (fun _=>rfl)<|cl<|an (fun _=>xU _ _ _ _ _ _ _ _ _ _ _ _ _ _ _ _ _ _ p (hp.keep M9.below) y.dflt qO.dflt) fun qq jZ=>lb 2<|an (fun _=>rfl)<|lb 2<|an (fun _=>rfl)<|cl<|an (fun _=>vU _ y.rng.high y.dflt qO.rng.high qO.dflt) fun zS M11=>lb 2<|an (fun _=>rfl)<|lb 2<|an (fun _=>rfl)<|cl<|an (fun _=>vU _ y.dflt y.rng.low qO.dflt qO.rng.low) fun DZ Bn=>an (fun h5 M=>⟨ri (out 18 ?_ (by decide)),M.below⟩) fun h5=>an (by omega)<|bk (m+1,v5) ⟨rfl,rfl,trivial⟩ (fun M=>⟨(M.only (.cons _ (.cons _ (.cons _ (.refl _)))) (.refl _)).cast rfl (by dsimp only;rw[rX hy]),by omega,hinv.trans (bO hlt ?_)⟩) (by dsimp only;omega)
 all_goals first|(rw[hcf];clear hcf out)|clear hcf out
 all_goals cases h6:tO p.aW.length p.cats.length y.rng<;>cases h7:xV p.aW.length p.cats.length y.dflt<;>cases h8:yG y.rng.high y.dflt<;>cases h9:yG y.dflt y.rng.low<;>simp_all
def SY(nU nR nT:Nat)(cl:List jL)(y:p7):Int:=
 if fH cl y.cls y.perms=false then 3 else if ¬ y.val=decide (y.perms=0) then 2 else gL nU nR nT y.val y.expr
def KP(p:aA)(i:Nat):Int:=match p.cons[i]? with
 | some y=>SY p.users.length p.roles.length p.types.length p.classes y
 | none=>0
def vW(p:aA):Int:=if 64<p.cons.length then 4 else aH (KP p) p.cons.length 0
theorem Ab(w:World)(c0 c1 c2 c3 c4 c5 c6 c7 c8 c9 aQ aL aK aP aO aN aM:Value)(p:aA)(hp:aJ w c0 c1 c2 c3 c4 c5 c6 c7 c8 c9 aQ aL aK aP aO aN aM p)(hok:p.Ok):Calls Tryz.prog 49 #[.agg #[c0,c1,c2,c3,c4,c5,c6,c7,c8,c9,aQ,aL,aK,aP,aO,aN,aM]] w fun e w'=>e=.returned (.int .i64 (vW p))∧awp w.heap.size w w':=by
 obtain⟨_,_,_,_,_,_,_,_,_,_,_,_,_,_,_,_,_,_,_,_,_,_,_,_,_,_,_,_,_,_,_,_,_,_,rfl,rfl,rfl,rfl,rfl,rfl,rfl,rfl,rfl,rfl,rfl,rfl,rfl,rfl,rfl,rfl,rfl⟩:=hp.open;refine bP [] (fn:=Tryz.f49) Tryz.func49 rfl Tryz.ntmps49 rfl<|fun g1 w1 M1=>lb 0<|an rfl<|an (fun h M=>⟨ri (by unfold vW;rw[if_pos (by simp at h;omega)]),M.below⟩) fun h=>?_
 have hr:¬ 64<p.cons.length:=by simp at h;omega
 rw[show vW p=aH (KP p) p.cons.length 0 from if_neg hr];refine lr (ι:=Nat) (fun m=>[(3,.int .i64 (m:Int))]) (fun m _=>m≤p.cons.length∧aH (KP p) p.cons.length 0=aH (KP p) (p.cons.length-m) m) (fun m=>p.cons.length-m) 0 (an ⟨⟨rfl,trivial⟩,fun M=>⟨M,awu _,by rw[Nat.sub_zero]⟩⟩ ?_);rintro m w2 M ⟨hm,hinv⟩;refine lb 0<|an rfl<|an (fun h2=>?_) fun h2 M=>⟨ri (by rw[hinv,show m=p.cons.length by simp at h2;omega,cL]),M.below⟩
 have hlt:m<p.cons.length:=by simp at h2;omega
 obtain⟨y,hy⟩:∃ y,p.cons[m]?=some y:=⟨_,awt hlt⟩;have qO:=hok.cons y (awv hy);obtain⟨b,o,_,e,⟨_,rfl,hE⟩,hc⟩:=aq.elt hp.cons (by decide) hy;obtain⟨nv,kv,rfl,hn,hk⟩:=hE.open;obtain⟨_,_,rfl,-⟩:=aF.get hn;obtain⟨_,_,rfl,-⟩:=aq.form hk (by decide);have hcf:KP p m=SY p.users.length p.roles.length p.types.length p.classes y:=by unfold KP;rw[hy]
 have out:∀ v:Int,SY p.users.length p.roles.length p.types.length p.classes y=v→v≠0→aH (KP p) p.cons.length 0=v:=fun v h1 h2=>by rw[hinv,cM hlt (by rw[hcf,h1];exact h2),hcf,h1]
 unfold SY at hcf out;refine lb 0<|an rfl<|ia<|an ⟨e,rfl,hlt⟩<|lc<|an (bY M.below hc)<|ei<|an QK fun g2 w2 M2=>lb 0<|an ⟨rfl,rfl⟩ fun w3 M3=>lb 1<|an rfl<|lb 0<|an rfl<|lb 0<|an rfl<|cl<|an (Bz _ _ _ _ _ _ _ _ _ _ _ _ _ _ _ _ _ _ p (hp.keep M3.below) y.cls y.perms qO.perms) fun w4 M4=>an (fun h3 M=>⟨ri (out 3 (if_pos (by simpa using h3)) (by decide)),M.below⟩) fun h3=>?_
 rw[if_neg (by simpa using h3)] at hcf out;refine lb 0<|an rfl<|lb 0<|an rfl<|an (fun h4 M=>⟨ri (out 2 (if_pos (by simpa using h4)) (by decide)),M.below⟩) fun h4=>?_
 rw[if_neg (by simpa using h4)] at hcf out;exact lb 1<|an rfl<|lb 0<|an rfl<|lb 0<|an rfl<|cl<|an (DM y.expr qO.expr _ _ _ _ _ _ _ _ _ _ _ _ _ _ _ _ _ _ _ p (hp.keep M4.below) hok (hE.keep M4.below) y.val) fun w5 M5=>an (fun h5 M=>⟨ri (out _ rfl (by simpa using h5)),M.below⟩) fun h5=>an (by omega)<|bk (m+1) ⟨rfl,trivial⟩ (fun M=>⟨M.only (.cons _ (.refl _)) (.refl _),by omega,hinv.trans (bO hlt (by rw[hcf];simpa using h5))⟩) (by dsimp only;omega)
def jQ(p:aA):Int:=
 if 16<p.bools.length then 4
 else if ¬ bM (p.bools.map (·.name)) []=0 then bM (p.bools.map (·.name)) []
 else if 16<p.aW.length then 4
 else if ¬ bM p.aW []=0 then bM p.aW []
 else if 64<p.cats.length then 4
 else bM p.cats []
theorem MZ(w:World)(c0 c1 c2 c3 c4 c5 c6 c7 c8 c9 aQ aL aK aP aO aN aM:Value)(p:aA)(hp:aJ w c0 c1 c2 c3 c4 c5 c6 c7 c8 c9 aQ aL aK aP aO aN aM p)(hok:p.Ok):Calls Tryz.prog 45 #[.agg #[c0,c1,c2,c3,c4,c5,c6,c7,c8,c9,aQ,aL,aK,aP,aO,aN,aM]] w fun e w'=>e=.returned (.int .i64 (jQ p))∧awp w.heap.size w w':=by
 obtain⟨_,_,_,_,_,_,_,_,_,_,_,_,_,_,_,_,_,_,_,_,_,_,_,_,_,_,_,_,_,_,_,_,_,_,rfl,rfl,rfl,rfl,rfl,rfl,rfl,rfl,rfl,rfl,rfl,rfl,rfl,rfl,rfl,rfl,rfl⟩:=hp.open;refine bP [] (fn:=Tryz.f45) Tryz.func45 rfl Tryz.ntmps45 rfl<|fun g1 w1 M1=>lb 0<|an rfl<|an (fun h M=>⟨ri (if_pos (by simp at h;omega)),M.below⟩) fun h=>?_
 have hr:¬ 16<p.bools.length:=by simp at h;omega
 refine lq (ι:=Nat×Value) (fun(m,u)=>[(3,u),(4,.int .i64 (m:Int))]) (fun(m,u)=>[⟨u,9,1,m,((p.bools.take m).map (·.name)).flatMap aT⟩]) (fun(m,u) _=>m≤p.bools.length) (fun(m,u)=>p.bools.length-m) (0,.slice none 0 0) (an ⟨⟨rfl,rfl,trivial⟩,fun M=>⟨M.bB 9 1,awu _⟩⟩ ?_);rintro⟨m,u⟩ w2 M hm;refine lb 0<|an rfl<|an (fun h2=>?_) fun h2=>?_
 ·have hlt:m<p.bools.length:=by simp at h2;omega
  obtain⟨y,hy⟩:∃ y,p.bools[m]?=some y:=⟨_,awt hlt⟩;obtain⟨b,o,e,hc⟩:=SliceAt.elt hp.bools (fun _=>rfl) (by decide) hy hlt;exact lb 0<|an rfl<|ia<|an ⟨e,rfl,hlt⟩<|lc<|an (bY M.below hc 0 _ rfl)<|fun g2 w2 M2=>ap 0 id rfl (M2.slice 0 rfl rfl rfl (by simp[maxLen])) ⟨by unfold maxLen;omega,by omega⟩ fun v3 w3 M3=>an (by omega)<|bk (m+1,v3) ⟨rfl,rfl,trivial⟩ (fun M=>⟨(M.only (.cons _ (.refl _)) (.refl _)).cast rfl (by dsimp only;rw[rX hy]),by omega⟩) (by dsimp only;omega)
 obtain rfl:m=p.bools.length:=by simp at h2;omega
 have hM:jQ p=if ¬ bM (p.bools.map (·.name)) []=0 then bM (p.bools.map (·.name)) [] else if 16<p.aW.length then 4 else if ¬ bM p.aW []=0 then bM p.aW [] else if 64<p.cats.length then 4 else bM p.cats []:=if_neg hr
 refine cl<|an (fA _ _ _ (p.bools.map (·.name)) [] (gE (M.r 0 rfl) (by simp) (by rw[awC])) (SliceAt.nil _ _) (fun s hs=>by obtain⟨y,hy,rfl⟩:=awo.1 hs;exact(hok.bools y hy).name)) fun w4 M4=>an (fun h3 M=>⟨ri (by rw[hM,if_pos (by simpa using h3)]),M.below⟩) fun h3=>?_
 rw[if_neg (by simpa using h3)] at hM;refine lb 0<|an rfl<|an (fun h4 M=>⟨ri (by rw[hM,if_pos (by simp at h4;omega)]),M.below⟩) fun h4=>?_
 rw[if_neg (by simp at h4;omega)] at hM;refine lb 0<|an rfl<|cl<|an (fA _ _ _ p.aW [] (hp.aW.keep M4.below) (SliceAt.nil _ _) hok.aW) fun w5 M5=>an (fun h5 M=>⟨ri (by rw[hM,if_pos (by simpa using h5)]),M.below⟩) fun h5=>?_
 rw[if_neg (by simpa using h5)] at hM;refine lb 0<|an rfl<|an (fun h6 M=>⟨ri (by rw[hM,if_pos (by simp at h6;omega)]),M.below⟩) fun h6=>?_
 rw[if_neg (by simp at h6;omega)] at hM;exact lb 0<|an rfl<|cl<|an (fA _ _ _ p.cats [] (hp.cats.keep M5.below) (SliceAt.nil _ _) hok.cats) fun w6 M6 M=>⟨ri hM,M.below⟩
def iP(p:aA):Int:=
 if nQ [jl p,pq p,pG p]=0 then nQ [tI p,jQ p,eB p,lT p,eF p,vW p,jg p,oT p] else nQ [jl p,pq p,pG p]
theorem WL{w:World}{l:List Int}{n:Nat}{u:Value}{w0:World}(h:Eo w0 42 n (l.map kC) u w)(hn:n=l.length)(hm:l.length≤maxLen:=by simp[maxLen]):Calls Tryz.prog 40 #[u] w fun e w'=>e=.returned (.int .i64 (nQ l))∧awp w.heap.size w w':=by
 subst hn;obtain⟨g,rfl,hW,-⟩:=h;exact(Sy _ _ l (SliceAt.Cl hW (by simp) (by simp[kC,Value.oneCell']) hm)).mono fun _ _ ⟨h1,h2⟩=>⟨h1,h2▸Below.refl _ _⟩
theorem Fe(w0:World)(c0 c1 c2 c3 c4 c5 c6 c7 c8 c9 aQ aL aK aP aO aN aM:Value)(p:aA)(hp:aJ w0 c0 c1 c2 c3 c4 c5 c6 c7 c8 c9 aQ aL aK aP aO aN aM p)(hok:p.Ok)(iY:p.Few):Calls Tryz.prog 12 #[.agg #[c0,c1,c2,c3,c4,c5,c6,c7,c8,c9,aQ,aL,aK,aP,aO,aN,aM]] w0 (RI w0 (iP p)):=by
 refine bP [] (fn:=Tryz.f12) Tryz.func12 rfl Tryz.ntmps12 rfl<|fun g1 w1 M1=>dr (by kernel_rfl)<|lb 0<|an rfl<|cl<|an (fun w' hb M=>KS _ _ _ _ _ _ _ _ _ _ _ _ _ _ _ _ _ _ p (hp.keep M.below) hok)<|lb 0<|an rfl<|cl<|an (fun w' hb M=>QX _ _ _ _ _ _ _ _ _ _ _ _ _ _ _ _ _ _ p (hp.keep M.below) hok iY)<|lb 0<|an rfl<|cl<|an (fun w' hb M=>Rv _ _ _ _ _ _ _ _ _ _ _ _ _ _ _ _ _ _ p (hp.keep M.below) hok)<|br (Eo w1 42 3 ([jl p,pq p,pG p].map kC))<|an mw<|an (fun w1 a o' hb M' hop oV=>bK (p:=fun _=>True) (kk:=1) (b:=8) (by kernel_rfl) rfl rfl (by decide) (by decide) (by simp[Value.cells]) rfl w1 a o' hb trivial hop oV)<|cu<|an (fun u _ w' hb' M' hR=>WL hR rfl)<|fun w2 hb2 M2=>an (fun h M=>⟨ri (if_neg (by simpa using h)),M.below⟩) fun h=>?_
 rw[show iP p=nQ [tI p,jQ p,eB p,lT p,eF p,vW p,jg p,oT p] from if_pos (by simpa using h)];exact dr (by kernel_rfl)<|lb 0<|an rfl<|cl<|an (fun w' hb M=>QV _ _ _ _ _ _ _ _ _ _ _ _ _ _ _ _ _ _ p (hp.keep M.below) hok)<|lb 0<|an rfl<|cl<|an (fun w' hb M=>MZ _ _ _ _ _ _ _ _ _ _ _ _ _ _ _ _ _ _ p (hp.keep M.below) hok)<|lb 0<|an rfl<|cl<|an (fun w' hb M=>Ro _ _ _ _ _ _ _ _ _ _ _ _ _ _ _ _ _ _ p (hp.keep M.below) hok)<|lb 0<|an rfl<|cl<|an (fun w' hb M=>QY _ _ _ _ _ _ _ _ _ _ _ _ _ _ _ _ _ _ p (hp.keep M.below) hok)<|lb 0<|an rfl<|cl<|an (fun w' hb M=>KW _ _ _ _ _ _ _ _ _ _ _ _ _ _ _ _ _ _ p (hp.keep M.below) hok)<|lb 0<|an rfl<|cl<|an (fun w' hb M=>Ab _ _ _ _ _ _ _ _ _ _ _ _ _ _ _ _ _ _ p (hp.keep M.below) hok)<|lb 0<|an rfl<|cl<|an (fun w' hb M=>NC _ _ _ _ _ _ _ _ _ _ _ _ _ _ _ _ _ _ p (hp.keep M.below) hok)<|lb 0<|an rfl<|cl<|an (fun w' hb M=>Le _ _ _ _ _ _ _ _ _ _ _ _ _ _ _ _ _ _ p (hp.keep M.below) hok)<|br (Eo w2 42 8 ([tI p,jQ p,eB p,lT p,eF p,vW p,jg p,oT p].map kC))<|an mw<|an (fun w1 a o' hb M' hop oV=>bK (p:=fun _=>True) (kk:=1) (b:=8) (by kernel_rfl) rfl rfl (by decide) (by decide) (by simp[Value.cells]) rfl w1 a o' hb trivial hop oV)<|cu<|an (fun u _ w' hb' M' hR=>WL hR rfl)<|fun w3 pQ M3 M=>⟨rfl,M.below⟩
structure Ad (p:aA):Prop where
 small:p.DJ
 rules:p.rules.length≤20
 bools:p.bools.length≤4
 check:iP p=0
theorem Zu(w0:World)(c0 c1 c2 c3 c4 c5 c6 c7 c8 c9 aQ aL aK aP aO aN aM:Value)(p:aA)(hp:aJ w0 c0 c1 c2 c3 c4 c5 c6 c7 c8 c9 aQ aL aK aP aO aN aM p)(hok:p.Ok):Calls Tryz.prog 20 #[.agg #[c0,c1,c2,c3,c4,c5,c6,c7,c8,c9,aQ,aL,aK,aP,aO,aN,aM]] w0 (fun(e:Ending) (w':World)=>∃ v,e=.returned v∧((∃ b:Bool,v=.bool b∧(b=true→Ad p))∧awp w0.heap.size w0 w')):=by
 obtain⟨_,_,_,_,_,_,_,_,_,_,_,_,_,_,_,_,_,_,_,_,_,_,_,_,_,_,_,_,_,_,_,_,_,_,rfl,rfl,rfl,rfl,rfl,rfl,rfl,rfl,rfl,rfl,rfl,rfl,rfl,rfl,rfl,rfl,rfl⟩:=hp.open;refine bP [] (fn:=Tryz.f20) Tryz.func20 rfl Tryz.ntmps20 rfl<|fun g1 w1 M1=>lb 0<|an rfl<|cg<|an (Rg _ _ _ _ _ _ _ _ _ _ _ _ _ _ _ _ _ _ p (hp.keep M1.below) hok) fun v w2 ⟨b1,hv,afp,hB⟩=>⟨_,_,M1.keep hB,?_⟩
 subst hv;have M2:=M1.keep hB;refine lb 0<|an (fun _=>rfl)<|lb 0<|an (fun _=>rfl)<|lb 0<|an (fun _=>rfl)<|cg (R:=fun v w'=>(∃ x:Int,v=.int .i64 x∧(b1=true→x=iP p))∧awp w2.heap.size w2 w')<|an (fun h=>?_)<|an (fun h=>⟨.int .i64 (iP p),⟨_,rfl,fun _=>rfl⟩,awp.refl _ _⟩) fun v w3 hR=>⟨_,_,M2.keep hR.2,?_⟩
 ·simp only[awy] at h;exact(Fe _ _ _ _ _ _ _ _ _ _ _ _ _ _ _ _ _ _ p (hp.keep M2.below) hok (afp h.1.1).few).mono fun _ _ ⟨e,hb⟩=>⟨_,e,⟨_,rfl,fun _=>rfl⟩,hb⟩
 obtain⟨⟨x,rfl,hx⟩,-⟩:=hR;refine fun M=>⟨_,rfl,⟨_,rfl,fun h=>?_⟩,M.below⟩
 simp only[awy,decide_eq_true_eq] at h;obtain⟨⟨⟨h1,h2⟩,h3⟩,h4⟩:=h;exact⟨afp h1,by omega,by omega,by rw[← hx h1];exact h4⟩
theorem Xw{x y i:Nat}(hy:y<18446744073709551616)(hi:i<64):(sK x y).testBit i=(x.testBit i&&!y.testBit i):=by
 unfold sK;rw[Nat.testBit_and,show 18446744073709551615-y=2^64-(y+1) by omega,Nat.testBit_two_pow_sub_succ (by simpa using hy),decide_eq_true hi,Bool.true_and]
theorem RR{a b:ay}(hb:b.Ok){k:Nat}(hk:k<256):(a.minus b).has k=(a.has k&&!b.has k):=by
 unfold ay.has;rw[ay.Ma a b (by omega),Xw (ay.uJ hb _) (Nat.mod_lt _ (by decide))]
theorem Lj{k:Nat}(hk:k<256):∀ n,n≤256→(yN n).has k=decide (k<n)
 | 0,_=>by rw[yN,ay.Km];rfl
 | n+1,h=>by
  have e:(yN (n+1))=(yN n).add n:=by
   rw[yN]
   unfold ay.with
   rw[if_pos ⟨by omega,by omega⟩,Int.toNat_natCast]
  rw[e,ay.has_add _ (by omega) hk,Lj hk n (by omega),← Bool.decide_or];exact decide_eq_decide.2 (by omega)
theorem Er{a:ay}{T k:Nat}(h:a.within (ay.all T)=true)(hT:T≤256)(hk:k<256)(ha:a.has k=true):k<T:=by
 unfold ay.within at h;have h2:=of_decide_eq_true h;have h3:=RR (a:=a) (b:=ay.all T) (DE T) hk;rw[h2,ay.Km,ha] at h3;unfold ay.all at h3;rw[Nat.min_eq_left hT,Lj hk T hT] at h3;by_cases hlt:k<T
 ·exact hlt
 ·rw[decide_eq_false hlt] at h3;cases h3
theorem RB{r:aj}{T:Nat}(hT:T≤256)(h1:r.src.within (ay.all T)=true)(h2:r.tgt.within (ay.all T)=true):∀ p∈r.pairs,p.1<T∧p.2<T:=fun p hp=>by
 obtain⟨hs,ht⟩:=jw hp;obtain⟨h3,h4⟩:=(bT (r:=r) (s:=p.1) (o:=p.2) hs ht).1 hp;have ha:=Er h1 hT hs h3;refine⟨ha,?_⟩;rw[Bool.or_eq_true,awy,decide_eq_true_eq] at h4;rcases h4 with h4|⟨-,h4⟩
 ·exact Er h2 hT ht h4
 ·omega
theorem Dq{n:Nat}:∀ e:ak,kQ n e=0→eA n e
 | .node op a rel b names set kids,h=>by
  have ih:∀ k∈kids,kQ n k=0→eA n k:=fun k hk=>Dq k
  rw[rF] at h
  cases hb:kX (.node op a rel b names set kids) with
  | true=>rw[hb] at h;simp at h
  | false=>
   rw[hb,if_neg (by decide)] at h
   cases h1:(decide (op=1)&&!bh a (n:Int)) with
   | true=>rw[show(decide ((ak.node op a rel b names set kids).op=1)&&!bh (ak.node op a rel b names set kids).a (n:Int))=true from h1] at h;simp at h
   | false=>
    rw[show(decide ((ak.node op a rel b names set kids).op=1)&&!bh (ak.node op a rel b names set kids).a (n:Int))=false from h1,if_neg (by decide)] at h;replace h:mH n kids=0:=h;unfold kX at hb;simp only[Bool.or_eq_false_iff,decide_eq_false_iff_not,Bool.not_eq_false',decide_eq_true_eq,ak.op,ak.kids] at hb;have hop:¬ op=8∧¬ op=9:=⟨of_decide_eq_false hb.1.1.1.1.1.1.1,of_decide_eq_false hb.1.1.1.1.1.1.2⟩;have hkl:oK op=(kids.length:Int):=of_decide_eq_true hb.1.1.1.1.1.2
    have two:3≤op→op≤7→eA n (.node op a rel b names set kids):=fun h3 h7=>by
     have hk2:oK op=2:=by
      have e:op=3∨op=4∨op=5∨op=6∨op=7:=by omega
      rcases e with rfl|rfl|rfl|rfl|rfl<;>rfl
     rw[hk2] at hkl
     match kids,h,hkl,ih with
     | [k,l],h,_,ih=>
      unfold mH at h;split at h
      ·rename_i hk;unfold mH at h;split at h
       ·rename_i hl;exact .bin h3 h7 (ih k (by simp) hk) (ih l (by simp) hl)
       ·rename_i hl;exact absurd h hl
      ·rename_i hk;exact absurd h hk
    by_cases e1:op=1
    ·subst e1;have hk0:kids=[]:=List.eq_nil_of_length_eq_zero (by have:oK 1=0:=rfl;omega);subst hk0;rw[decide_eq_true rfl,Bool.true_and,Bool.not_eq_false'] at h1;unfold bh at h1;rw[awy,decide_eq_true_eq,decide_eq_true_eq] at h1;exact .bool h1.1 h1.2
    by_cases e2:op=2
    ·subst e2;have hk1:oK 2=1:=rfl;rw[hk1] at hkl
     match kids,h,hkl,ih with
     | [k],h,_,ih=>
      unfold mH at h;split at h
      ·rename_i hk;exact .not (ih k (by simp) hk)
      ·rename_i hk;exact absurd h hk
    by_cases e3:3≤op∧op≤7
    ·exact two e3.1 e3.2
    exfalso
    have hm:oK op<0:=by
     unfold oK;rw[if_neg e1,if_neg hop.1,if_neg hop.2,if_neg e2,if_neg (by omega),if_neg (by omega),if_neg (by omega),if_neg (by omega),if_neg (by omega)];decide
    omega
 termination_by e=>SizeOf.sizeOf e
 decreasing_by
  have:=List.sizeOf_lt_of_mem hk;simp only[ak.node.sizeOf_spec];omega
theorem q7{p:aA}(h:Ad p)(hok:p.Ok):fT p∧pW p:=by
 have hc:=h.check;unfold iP at hc;split at hc
 case isFalse hne=>exact absurd hc hne
 rw[fG] at hc;have hr:eB p=0:=hc _ (by simp);have ht:lT p=0:=hc _ (by simp);have hT:p.types.length≤256:=awk h.small.sizes.types (by decide);have hCl:p.classes.length≤256:=awk h.small.sizes.classes (by decide);unfold eB at hr;split at hr
 ·cases hr
 split at hr
 case isFalse _ hne=>exact absurd hr hne
 rename_i _ qX;split at hr
 ·cases hr
 rw[cI] at hr qX
 have R:∀ r∈p.rules,zm p.types.length p.conds.length p.classes r=0:=fun r hr'=>by
  obtain⟨i,hi⟩:=List.getElem?_of_mem hr';have:=hr i (awu _) (by have:=(aws.1 hi).1;omega);unfold sZ at this
  rwa [hi] at this
 have C:∀ e∈p.conds,eA p.bools.length e:=fun e he=>by
  obtain⟨i,hi⟩:=List.getElem?_of_mem he;have:=qX i (awu _) (by have:=(aws.1 hi).1;omega);unfold kA at this;rw[hi] at this;replace this:cF p.bools.length e=0:=this;unfold cF at this;split at this
  ·cases this
  ·exact Dq e this
 have RD:∀ r∈p.rules,RV p.types.length p.classes.length r∧(r.kind=4→r.cond=0)∧-(p.conds.length:Int)≤r.cond∧r.cond≤p.conds.length:=fun r hr'=>by
  have h0:=R r hr';unfold zm at h0;split at h0
  ·cases h0
  rename_i k1;split at h0
  ·cases h0
  rename_i k4;split at h0
  ·cases h0
  rename_i ho;split at h0
  ·cases h0
  rename_i ha;simp only[Bool.not_eq_true] at ho ha;unfold pF at ho;unfold rR at ha;simp only[Bool.or_eq_false_iff,Bool.not_eq_false'] at ho ha;obtain⟨⟨⟨o1,o2⟩,o3⟩,o4⟩:=ho
  have hcls:0≤r.cls∧r.cls<p.classes.length:=by
   cases hb:bh r.cls (p.classes.length:Int) with
   | false=>rw[yZ hb] at o3;cases o3
   | true=>unfold bh at hb;simpa using hb
  unfold kB at o4;rw[awy,decide_eq_true_eq,decide_eq_true_eq] at o4;refine⟨⟨⟨by omega,by omega⟩,hcls,(hok.rules r hr').perms,RB hT o1 o2⟩,fun h4=>?_,o4⟩;have:=ha.2;rw[h4] at this;simpa using this
 have TD:∀ y∈p.trans,-(p.conds.length:Int)≤y.cond∧y.cond≤p.conds.length:=fun y hy=>by
  unfold lT at ht;split at ht
  case isFalse=>cases ht
  rw[cI] at ht;obtain⟨i,hi⟩:=List.getElem?_of_mem hy;have h0:=ht i (awu _) (by have:=(aws.1 hi).1;omega);unfold sU at h0;rw[hi] at h0;replace h0:uO p.types.length p.classes.length p.conds.length y=0:=h0;unfold uO at h0
  cases hb:kB p.conds.length y.cond with
  | true=>
   unfold kB at hb
   rwa [awy,decide_eq_true_eq,decide_eq_true_eq] at hb
  | false=>
   rw[hb,if_pos rfl] at h0
   repeat' (split at h0;·cases h0)
   cases h0
 exact⟨⟨awk h.bools (by decide),fun r hr'=>(RD r hr').1,fun r hr'=>(RD r hr').2.1,C,fun r hr'=>(RD r hr').2.2,TD⟩,awk h.bools (by decide),awk h.small.sizes.conds (by decide),hT,hCl,fun r hr'=>⟨(RD r hr').1,hok.rules r hr'⟩⟩
theorem NT(w0:World):Calls Tryz.prog 128 #[] w0 (fun(r:Ending) (w':World)=>r=.returned (.agg #[.int .i64 0,.int .i64 1,.int .i64 0,.int .i64 0,.int .u64 0,.int .i64 0,.int .u64 0])∧awp w0.heap.size w0 w'):=by
 have ct:=hrC Tryz.prog Tryz.f128 (fun(r:Ending) (w':World)=>r=.returned (.agg #[.int .i64 0,.int .i64 1,.int .i64 0,.int .i64 0,.int .u64 0,.int .i64 0,.int .u64 0])∧awp w0.heap.size w0 w') 2 0 74 rfl u74 rfl Yk;refine en Tryz.func128 rfl Tryz.ntmps128 rfl (vs:=[]) rfl fun _ F=>?_
 have M:=Mm.start w0;refine awq fun K1 jq=>ah<|NJ (on rfl) rfl aee rfl F rfl M fun g1 _ _ F M=>awr<|jq _ _ ?_
 refine awq fun K2 jW=>ah<|
  kz F rf (vS rfl (pv:=#[(1,.int .i64 1),(2,.int .i64 0)]) (by simp[BigFrame.eval_const]) (cells:=#[.int .i64 0,.int .i64 1,.int .i64 0,.int .i64 0,.int .u64 0,.int .i64 0,.int .u64 0]) (by kernel_rfl)) fun _ F=>
  ND (on rfl) rfl (F.u rf) (F.u rf) F M 0 rfl Yk rfl rfl rfl fun _ M=>
  awr<|
  jW _ _ ?_
 refine wp_ret<|ct _ _ _ _ _ _ F rfl (M.b 0 rfl) rfl ?_;exact⟨rfl,M.below⟩
theorem C9(w0:World):Calls Tryz.prog 129 #[] w0 (fun(r:Ending) (w':World)=>r=.returned (.agg #[.int .i64 0,.int .i64 0,.int .i64 2,.int .i64 0,.int .u64 0,.int .i64 0,.int .u64 0])∧awp w0.heap.size w0 w'):=by
 have ct:=hrC Tryz.prog Tryz.f129 (fun(r:Ending) (w':World)=>r=.returned (.agg #[.int .i64 0,.int .i64 0,.int .i64 2,.int .i64 0,.int .u64 0,.int .i64 0,.int .u64 0])∧awp w0.heap.size w0 w') 2 0 74 rfl u74 rfl Yk;refine en Tryz.func129 rfl Tryz.ntmps129 rfl (vs:=[]) rfl fun _ F=>?_
 have M:=Mm.start w0;refine awq fun K1 jq=>ah<|NJ (on rfl) rfl aee rfl F rfl M fun g1 _ _ F M=>awr<|jq _ _ ?_
 refine awq fun K2 jW=>ah<|
  kz F rf (vS rfl (pv:=#[(2,.int .i64 2)]) (by simp[BigFrame.eval_const]) (cells:=#[.int .i64 0,.int .i64 0,.int .i64 2,.int .i64 0,.int .u64 0,.int .i64 0,.int .u64 0]) (by kernel_rfl)) fun _ F=>
  ND (on rfl) rfl (F.u rf) (F.u rf) F M 0 rfl Yk rfl rfl rfl fun _ M=>
  awr<|
  jW _ _ ?_
 refine wp_ret<|ct _ _ _ _ _ _ F rfl (M.b 0 rfl) rfl ?_;exact⟨rfl,M.below⟩
theorem uS{w0 w:World}{B:Nat}{bs:List Bx}{rs:List Rw}(M:aV B w0 w bs rs)(i:Nat){l:List Int}{x:Int}{g:Nat}{t:TypeId}(hb:bs[i]?=some (g,t,(l.flatMap anyI).toArray))(hx:Ju l=x)(hl:∀ y∈l,0≤y∧y<64:=by simp)(hn:l.length≤100:=by decide)(ht:Nat.blt t 9000=true:=by rfl):
 Calls Tryz.prog 127 #[.slice (some ⟨g,0,none⟩) l.length l.length] w fun r w'=>r=.returned (.agg #[.int .u64 x,.int .u64 0,.int .u64 0,.int .u64 0])∧awp w.heap.size w w':=by
 subst hx
 have hlen:(l.flatMap anyI).length=l.length*1:=by
  clear hb hl hn
  induction l with
  | nil=>rfl
  | cons x r ih=>rw[List.flatMap_cons,awn,ih,List.length_cons];simp[anyI];omega
 refine Yr w _ l (M.slice i hb (by simpa using hlen) ?_ (by unfold maxLen;omega) ht) hl;rw[awE];intro u hu;obtain⟨y,-,hy⟩:=List.mem_flatMap.1 (by simpa using hu);simp only[anyI,awm] at hy;rw[hy];rfl
def Both{α:Type}(R:List Value→α→Prop):List (List Value)→List α→Prop
 | [],[]=>True
 | x::r,y::s=>R x y∧Both R r s
 | _,_=>False
theorem Pq{α:Type}{R:List Value→α→Prop}:∀ {es:List (List Value)} {l:List α},Both R es l→∀ (i:Nat) x y,es[i]?=some x→l[i]?=some y→R x y
 | [],_,_,i,x,y,h,_=>by simp at h
 | x::r,[],h,_,_,_,_,_=>h.elim
 | x::r,y::s,h,0,_,_,h1,h2=>by simp at h1 h2;rw[← h1,← h2];exact h.1
 | x::r,y::s,h,i+1,_,_,h1,h2=>Pq h.2 i _ _ (by simpa using h1) (by simpa using h2)
theorem YQ{α:Type}{k:Nat}{R:List Value→α→Prop}{w:World}:aq k R w (.slice none 0 0) []:=⟨[],rfl,by simp,SliceAt.nil _ k,by simp⟩
def Ap:aA:={
 classes:=[⟨⟨#[112,114,111,99,101,115,115]⟩,[⟨#[102,111,114,107]⟩,⟨#[116,114,97,110,115,105,116,105,111,110]⟩,⟨#[100,121,110,116,114,97,110,115,105,116,105,111,110]⟩,⟨#[115,101,110,100]⟩]⟩,⟨⟨#[102,105,108,101]⟩,[⟨#[114,101,97,100]⟩,⟨#[119,114,105,116,101]⟩,⟨#[99,114,101,97,116,101]⟩,⟨#[117,110,108,105,110,107]⟩,⟨#[101,120,101,99,117,116,101]⟩,⟨#[101,110,116,114,121,112,111,105,110,116]⟩,⟨#[114,101,108,97,98,101,108,102,114,111,109]⟩,⟨#[114,101,108,97,98,101,108,116,111]⟩]⟩,⟨⟨#[100,105,114]⟩,[⟨#[114,101,97,100]⟩,⟨#[119,114,105,116,101]⟩,⟨#[99,114,101,97,116,101]⟩,⟨#[117,110,108,105,110,107]⟩,⟨#[97,100,100]⟩,⟨#[114,101,109,111,118,101]⟩,⟨#[114,101,108,97,98,101,108,102,114,111,109]⟩,⟨#[114,101,108,97,98,101,108,116,111]⟩]⟩],
 types:=[⟨⟨#[105,110,105,116,95,116]⟩,[],false⟩,⟨⟨#[117,115,101,114,95,116]⟩,[],false⟩,⟨⟨#[102,105,108,101,95,116]⟩,[],false⟩,⟨⟨#[115,104,101,108,108,95,116]⟩,[],false⟩],
 attrs:=[⟨⟨#[100,111,109,97,105,110]⟩,⟨3,0,0,0⟩⟩],
 roles:=[⟨⟨#[111,98,106,101,99,116,95,114]⟩,⟨0,0,0,0⟩,⟨0,0,0,0⟩⟩,⟨⟨#[115,121,115,116,101,109]⟩,⟨3,0,0,0⟩,⟨0,0,0,0⟩⟩],
 users:=[⟨⟨#[114,111,111,116]⟩,⟨2,0,0,0⟩,⟨0,0⟩,⟨⟨0,0⟩,⟨0,0⟩⟩⟩],
 bools:=[⟨⟨#[115,104,97,114,101]⟩,false⟩],
 aW:=[⟨#[115,48]⟩],
 cats:=[],
 conds:=[.node 1 0 0 0 [] ⟨0,0,0,0⟩ []],
 rules:=[⟨1,⟨3,0,0,0⟩,⟨0,0,0,0⟩,true,0,9,0⟩,⟨1,⟨1,0,0,0⟩,⟨12,0,0,0⟩,false,1,17,0⟩,⟨1,⟨1,0,0,0⟩,⟨2,0,0,0⟩,false,0,2,0⟩,⟨1,⟨2,0,0,0⟩,⟨8,0,0,0⟩,false,1,32,0⟩,⟨1,⟨2,0,0,0⟩,⟨4,0,0,0⟩,false,1,1,1⟩],
 trans:=[⟨1,⟨1,0,0,0⟩,⟨8,0,0,0⟩,0,ByteArray.empty,1,0⟩],
 aS:=[],
 ranges:=[],
 cons:=[],
 bL:=[⟨⟨#[107,101,114,110,101,108]⟩,⟨0,1,0,⟨⟨0,0⟩,⟨0,0⟩⟩⟩⟩,⟨⟨#[114,111,111,116]⟩,⟨0,0,2,⟨⟨0,0⟩,⟨0,0⟩⟩⟩⟩,⟨⟨#[117,110,108,97,98,101,108,101,100]⟩,⟨0,0,2,⟨⟨0,0⟩,⟨0,0⟩⟩⟩⟩],
 files:=[],
 asserts:=[] }
def SB(g2 g3 g4 g5 g6 g9 g12 g15 g16 g17 g18 XV XU XT:Nat):List Bx:=[(XT,125,#[.string (⟨#[107,101,114,110,101,108]⟩),.int .i64 0,.int .i64 1,.int .i64 0,.int .i64 0,.int .u64 0,.int .i64 0,.int .u64 0,.string (⟨#[114,111,111,116]⟩),.int .i64 0,.int .i64 0,.int .i64 2,.int .i64 0,.int .u64 0,.int .i64 0,.int .u64 0,.string (⟨#[117,110,108,97,98,101,108,101,100]⟩),.int .i64 0,.int .i64 0,.int .i64 2,.int .i64 0,.int .u64 0,.int .i64 0,.int .u64 0]),
 (XU,84,#[.int .i64 1,.int .u64 1,.int .u64 0,.int .u64 0,.int .u64 0,.int .u64 8,.int .u64 0,.int .u64 0,.int .u64 0,.int .i64 0,.string ByteArray.empty,.int .i64 1,.int .i64 0]),
 (XV,56,#[.int .i64 1,.int .u64 3,.int .u64 0,.int .u64 0,.int .u64 0,.int .u64 0,.int .u64 0,.int .u64 0,.int .u64 0,.bool true,.int .i64 0,.int .u32 9,.int .i64 0,.int .i64 1,.int .u64 1,.int .u64 0,.int .u64 0,.int .u64 0,.int .u64 12,.int .u64 0,.int .u64 0,.int .u64 0,.bool false,.int .i64 1,.int .u32 17,.int .i64 0,.int .i64 1,.int .u64 1,.int .u64 0,.int .u64 0,.int .u64 0,.int .u64 2,.int .u64 0,.int .u64 0,.int .u64 0,.bool false,.int .i64 0,.int .u32 2,.int .i64 0,.int .i64 1,.int .u64 2,.int .u64 0,.int .u64 0,.int .u64 0,.int .u64 8,.int .u64 0,.int .u64 0,.int .u64 0,.bool false,.int .i64 1,.int .u32 32,.int .i64 0,.int .i64 1,.int .u64 2,.int .u64 0,.int .u64 0,.int .u64 0,.int .u64 4,.int .u64 0,.int .u64 0,.int .u64 0,.bool false,.int .i64 1,.int .u32 1,.int .i64 1]),
 (g18,89,#[.int .i64 1,.int .i64 0,.int .i64 0,.int .i64 0,.slice none 0 0,.int .u64 0,.int .u64 0,.int .u64 0,.int .u64 0,.slice none 0 0]),
 (g17,9,#[.string (⟨#[115,48]⟩)]),
 (g16,197,#[.string (⟨#[115,104,97,114,101]⟩),.bool false]),
 (g15,192,#[.string (⟨#[114,111,111,116]⟩),.int .u64 2,.int .u64 0,.int .u64 0,.int .u64 0,.int .i64 0,.int .u64 0,.int .i64 0,.int .u64 0,.int .i64 0,.int .u64 0]),
 (g12,188,#[.string (⟨#[111,98,106,101,99,116,95,114]⟩),.int .u64 0,.int .u64 0,.int .u64 0,.int .u64 0,.int .u64 0,.int .u64 0,.int .u64 0,.int .u64 0,.string (⟨#[115,121,115,116,101,109]⟩),.int .u64 3,.int .u64 0,.int .u64 0,.int .u64 0,.int .u64 0,.int .u64 0,.int .u64 0,.int .u64 0]),
 (g9,184,#[.string (⟨#[100,111,109,97,105,110]⟩),.int .u64 3,.int .u64 0,.int .u64 0,.int .u64 0]),
 (g6,86,#[.string (⟨#[105,110,105,116,95,116]⟩),.slice none 0 0,.bool false,.string (⟨#[117,115,101,114,95,116]⟩),.slice none 0 0,.bool false,.string (⟨#[102,105,108,101,95,116]⟩),.slice none 0 0,.bool false,.string (⟨#[115,104,101,108,108,95,116]⟩),.slice none 0 0,.bool false]),
 (g5,180,#[.string (⟨#[112,114,111,99,101,115,115]⟩),.slice (some ⟨g4,0,none⟩) 4 4,.string (⟨#[102,105,108,101]⟩),.slice (some ⟨g2,0,none⟩) 8 8,.string (⟨#[100,105,114]⟩),.slice (some ⟨g3,0,none⟩) 8 8]),
 (g4,9,#[.string (⟨#[102,111,114,107]⟩),.string (⟨#[116,114,97,110,115,105,116,105,111,110]⟩),.string (⟨#[100,121,110,116,114,97,110,115,105,116,105,111,110]⟩),.string (⟨#[115,101,110,100]⟩)]),
 (g3,9,#[.string (⟨#[114,101,97,100]⟩),.string (⟨#[119,114,105,116,101]⟩),.string (⟨#[99,114,101,97,116,101]⟩),.string (⟨#[117,110,108,105,110,107]⟩),.string (⟨#[97,100,100]⟩),.string (⟨#[114,101,109,111,118,101]⟩),.string (⟨#[114,101,108,97,98,101,108,102,114,111,109]⟩),.string (⟨#[114,101,108,97,98,101,108,116,111]⟩)]),
 (g2,9,#[.string (⟨#[114,101,97,100]⟩),.string (⟨#[119,114,105,116,101]⟩),.string (⟨#[99,114,101,97,116,101]⟩),.string (⟨#[117,110,108,105,110,107]⟩),.string (⟨#[101,120,101,99,117,116,101]⟩),.string (⟨#[101,110,116,114,121,112,111,105,110,116]⟩),.string (⟨#[114,101,108,97,98,101,108,102,114,111,109]⟩),.string (⟨#[114,101,108,97,98,101,108,116,111]⟩)])]
theorem Mw{B:Nat}{w0 w:World}{rs:List Rw}{g2 g3 g4 g5 g6 g9 g12 g15 g16 g17 g18 XV XU XT:Nat}(M:aV B w0 w (SB g2 g3 g4 g5 g6 g9 g12 g15 g16 g17 g18 XV XU XT) rs):aJ w (.slice (some ⟨g5,0,none⟩) 3 3) (.slice (some ⟨g6,0,none⟩) 4 4) (.slice (some ⟨g9,0,none⟩) 1 1) (.slice (some ⟨g12,0,none⟩) 2 2) (.slice (some ⟨g15,0,none⟩) 1 1) (.slice (some ⟨g16,0,none⟩) 1 1) (.slice (some ⟨g17,0,none⟩) 1 1) (.slice none 0 0) (.slice (some ⟨g18,0,none⟩) 1 1) (.slice (some ⟨XV,0,none⟩) 5 5) (.slice (some ⟨XU,0,none⟩) 1 1) (.slice none 0 0) (.slice none 0 0) (.slice none 0 0) (.slice (some ⟨XT,0,none⟩) 3 3) (.slice none 0 0) (.slice none 0 0) Ap:=
 ⟨⟨[[.string (⟨#[112,114,111,99,101,115,115]⟩),.slice (some ⟨g4,0,none⟩) 4 4],[.string (⟨#[102,105,108,101]⟩),.slice (some ⟨g2,0,none⟩) 8 8],[.string (⟨#[100,105,114]⟩),.slice (some ⟨g3,0,none⟩) 8 8]],rfl,by simp,(M.slice 10 rfl rfl rfl (by simp[maxLen])),Pq ⟨⟨_,rfl,(M.slice 11 rfl rfl rfl (by simp[maxLen]))⟩,⟨_,rfl,(M.slice 13 rfl rfl rfl (by simp[maxLen]))⟩,⟨_,rfl,(M.slice 12 rfl rfl rfl (by simp[maxLen]))⟩,trivial⟩⟩,
  ⟨[[.string (⟨#[105,110,105,116,95,116]⟩),.slice none 0 0,.bool false],[.string (⟨#[117,115,101,114,95,116]⟩),.slice none 0 0,.bool false],[.string (⟨#[102,105,108,101,95,116]⟩),.slice none 0 0,.bool false],[.string (⟨#[115,104,101,108,108,95,116]⟩),.slice none 0 0,.bool false]],rfl,by simp,(M.slice 9 rfl rfl rfl (by simp[maxLen])),Pq ⟨⟨_,rfl,(SliceAt.nil _ 1)⟩,⟨_,rfl,(SliceAt.nil _ 1)⟩,⟨_,rfl,(SliceAt.nil _ 1)⟩,⟨_,rfl,(SliceAt.nil _ 1)⟩,trivial⟩⟩,
  (M.slice 8 rfl rfl rfl (by simp[maxLen])),
  (M.slice 7 rfl rfl rfl (by simp[maxLen])),
  (M.slice 6 rfl rfl rfl (by simp[maxLen])),
  (M.slice 5 rfl rfl rfl (by simp[maxLen])),
  (M.slice 4 rfl rfl rfl (by simp[maxLen])),
  (SliceAt.nil _ 1),
  ⟨[[.int .i64 1,.int .i64 0,.int .i64 0,.int .i64 0,.slice none 0 0,.int .u64 0,.int .u64 0,.int .u64 0,.int .u64 0,.slice none 0 0]],rfl,by simp,(M.slice 3 rfl rfl rfl (by simp[maxLen])),Pq ⟨aZ.node (names:=[]) (kids:=[]) (set:=⟨0,0,0,0⟩) (SliceAt.nil _ 1) (es:=[]) rfl (by simp) (SliceAt.nil _ 10) (by simp),trivial⟩⟩,
  (M.slice 2 rfl rfl rfl (by simp[maxLen])),
  (M.slice 1 rfl rfl rfl (by simp[maxLen])),
  (SliceAt.nil _ 10),
  (SliceAt.nil _ 13),
  YQ,
  (M.slice 0 rfl rfl rfl (by simp[maxLen])),
  (SliceAt.nil _ 9),
  (SliceAt.nil _ 10)⟩
theorem Mx(w0:World):Calls Tryz.prog 65 #[] w0 fun r w'=>∃ v,r=.returned v∧∃ g2 g3 g4 g5 g6 g9 g12 g15 g16 g17 g18 XV XU XT:Nat,v=.agg #[.slice (some ⟨g5,0,none⟩) 3 3,.slice (some ⟨g6,0,none⟩) 4 4,.slice (some ⟨g9,0,none⟩) 1 1,.slice (some ⟨g12,0,none⟩) 2 2,.slice (some ⟨g15,0,none⟩) 1 1,.slice (some ⟨g16,0,none⟩) 1 1,.slice (some ⟨g17,0,none⟩) 1 1,.slice none 0 0,.slice (some ⟨g18,0,none⟩) 1 1,.slice (some ⟨XV,0,none⟩) 5 5,.slice (some ⟨XU,0,none⟩) 1 1,.slice none 0 0,.slice none 0 0,.slice none 0 0,.slice (some ⟨XT,0,none⟩) 3 3,.slice none 0 0,.slice none 0 0]∧aV w0.heap.size w0 w' (SB g2 g3 g4 g5 g6 g9 g12 g15 g16 g17 g18 XV XU XT) []:=by
 refine bP [] (fn:=Tryz.f65) Tryz.func65 rfl Tryz.ntmps65 rfl<|ei<|an kE fun g1 w1 M1=>fun g2 w2 M2=>fun g3 w3 M3=>fun g4 w4 M4=>
  ei (x:=.agg #[.string (⟨#[112,114,111,99,101,115,115]⟩),.slice (some ⟨g4,0,none⟩) 4 4])<|an (bd (by kernel_rfl))<|
  ei (x:=.agg #[.string (⟨#[102,105,108,101]⟩),.slice (some ⟨g2,0,none⟩) 8 8])<|an (bd (by kernel_rfl))<|
  ei (x:=.agg #[.string (⟨#[100,105,114]⟩),.slice (some ⟨g3,0,none⟩) 8 8])<|an (bd (by kernel_rfl))<|
  fun g5 w5 M5=>
  ei (x:=.agg #[.string (⟨#[105,110,105,116,95,116]⟩),.slice none 0 0,.bool false])<|an (bd (by kernel_rfl))<|
  ei (x:=.agg #[.string (⟨#[117,115,101,114,95,116]⟩),.slice none 0 0,.bool false])<|an (bd (by kernel_rfl))<|
  ei (x:=.agg #[.string (⟨#[102,105,108,101,95,116]⟩),.slice none 0 0,.bool false])<|an (bd (by kernel_rfl))<|
  ei (x:=.agg #[.string (⟨#[115,104,101,108,108,95,116]⟩),.slice none 0 0,.bool false])<|an (bd (by kernel_rfl))<|
  fun g6 w6 M6=>
  fun g7 w7 M7=>
  cl<|an (uS M7 0 (l:=[0,1]) (x:=3) rfl rfl) fun w8 M8=>
  ei (x:=.agg #[.string (⟨#[100,111,109,97,105,110]⟩),.int .u64 3,.int .u64 0,.int .u64 0,.int .u64 0])<|an (bd (by kernel_rfl))<|
  fun g9 w9 M9=>
  ei (x:=.agg #[.string (⟨#[111,98,106,101,99,116,95,114]⟩),.int .u64 0,.int .u64 0,.int .u64 0,.int .u64 0,.int .u64 0,.int .u64 0,.int .u64 0,.int .u64 0])<|an (bd (by kernel_rfl))<|
  fun g10 qq jZ=>
  cl<|an (uS jZ 0 (l:=[0,1]) (x:=3) rfl rfl) fun zS M11=>
  ei (x:=.agg #[.string (⟨#[115,121,115,116,101,109]⟩),.int .u64 3,.int .u64 0,.int .u64 0,.int .u64 0,.int .u64 0,.int .u64 0,.int .u64 0,.int .u64 0])<|an (bd (by kernel_rfl))<|
  fun g12 DZ Bn=>
  fun g13 Jb wz=>
  cl<|an (uS wz 0 (l:=[1]) (x:=2) rfl rfl) fun Uv IL=>
  ei (x:=.agg #[.string (⟨#[114,111,111,116]⟩),.int .u64 2,.int .u64 0,.int .u64 0,.int .u64 0,.int .i64 0,.int .u64 0,.int .i64 0,.int .u64 0,.int .i64 0,.int .u64 0])<|an (bd (by kernel_rfl))<|
  fun g15 O4 Fp=>
  ei (x:=.agg #[.string (⟨#[115,104,97,114,101]⟩),.bool false])<|an (bd (by kernel_rfl))<|
  fun g16 X8 LI=>
  fun g17 X7 XI=>
  ei (x:=.agg #[.int .i64 1,.int .i64 0,.int .i64 0,.int .i64 0,.slice none 0 0,.int .u64 0,.int .u64 0,.int .u64 0,.int .u64 0,.slice none 0 0])<|an (bd (by kernel_rfl))<|
  fun g18 w18 XH=>
  fun g19 w19 ZX=>
  cl<|an (uS ZX 0 (l:=[0,1]) (x:=3) rfl rfl) fun w20 M20=>
  ei (x:=.agg #[.int .i64 1,.int .u64 3,.int .u64 0,.int .u64 0,.int .u64 0,.int .u64 0,.int .u64 0,.int .u64 0,.int .u64 0,.bool true,.int .i64 0,.int .u32 9,.int .i64 0])<|an (bd (by kernel_rfl))<|
  fun g21 w21 M21=>
  cl<|an (uS M21 0 (l:=[0]) (x:=1) rfl rfl) fun w22 M22=>
  fun g23 w23 M23=>
  cl<|an (uS M23 0 (l:=[2,3]) (x:=12) rfl rfl) fun w24 M24=>
  ei (x:=.agg #[.int .i64 1,.int .u64 1,.int .u64 0,.int .u64 0,.int .u64 0,.int .u64 12,.int .u64 0,.int .u64 0,.int .u64 0,.bool false,.int .i64 1,.int .u32 17,.int .i64 0])<|an (bd (by kernel_rfl))<|
  fun g25 w25 M25=>
  cl<|an (uS M25 0 (l:=[0]) (x:=1) rfl rfl) fun w26 M26=>
  fun g27 w27 M27=>
  cl<|an (uS M27 0 (l:=[1]) (x:=2) rfl rfl) fun w28 M28=>
  ei (x:=.agg #[.int .i64 1,.int .u64 1,.int .u64 0,.int .u64 0,.int .u64 0,.int .u64 2,.int .u64 0,.int .u64 0,.int .u64 0,.bool false,.int .i64 0,.int .u32 2,.int .i64 0])<|an (bd (by kernel_rfl))<|
  fun g29 w29 M29=>
  cl<|an (uS M29 0 (l:=[1]) (x:=2) rfl rfl) fun w30 M30=>
  fun g31 w31 M31=>
  cl<|an (uS M31 0 (l:=[3]) (x:=8) rfl rfl) fun w32 M32=>
  ei (x:=.agg #[.int .i64 1,.int .u64 2,.int .u64 0,.int .u64 0,.int .u64 0,.int .u64 8,.int .u64 0,.int .u64 0,.int .u64 0,.bool false,.int .i64 1,.int .u32 32,.int .i64 0])<|an (bd (by kernel_rfl))<|
  fun g33 w33 M33=>
  cl<|an (uS M33 0 (l:=[1]) (x:=2) rfl rfl) fun w34 M34=>
  fun g35 w35 M35=>
  cl<|an (uS M35 0 (l:=[2]) (x:=4) rfl rfl) fun w36 M36=>
  ei (x:=.agg #[.int .i64 1,.int .u64 2,.int .u64 0,.int .u64 0,.int .u64 0,.int .u64 4,.int .u64 0,.int .u64 0,.int .u64 0,.bool false,.int .i64 1,.int .u32 1,.int .i64 1])<|an (bd (by kernel_rfl))<|
  fun XV w37 M37=>
  fun g38 w38 M38=>
  cl<|an (uS M38 0 (l:=[0]) (x:=1) rfl rfl) fun w39 M39=>
  fun g40 w40 M40=>
  cl<|an (uS M40 0 (l:=[3]) (x:=8) rfl rfl) fun w41 M41=>
  ei (x:=.agg #[.int .i64 1,.int .u64 1,.int .u64 0,.int .u64 0,.int .u64 0,.int .u64 8,.int .u64 0,.int .u64 0,.int .u64 0,.int .i64 0,.string ByteArray.empty,.int .i64 1,.int .i64 0])<|an (bd (by kernel_rfl))<|
  fun XU w42 M42=>
  cl<|an (NT w42) fun w43 M43=>
  ei (x:=.agg #[.string (⟨#[107,101,114,110,101,108]⟩),.int .i64 0,.int .i64 1,.int .i64 0,.int .i64 0,.int .u64 0,.int .i64 0,.int .u64 0])<|an (bd (by kernel_rfl))<|
  cl<|an (C9 w43) fun w44 M44=>
  ei (x:=.agg #[.string (⟨#[114,111,111,116]⟩),.int .i64 0,.int .i64 0,.int .i64 2,.int .i64 0,.int .u64 0,.int .i64 0,.int .u64 0])<|an (bd (by kernel_rfl))<|
  cl<|an (C9 w44) fun w45 M45=>
  ei (x:=.agg #[.string (⟨#[117,110,108,97,98,101,108,101,100]⟩),.int .i64 0,.int .i64 0,.int .i64 2,.int .i64 0,.int .u64 0,.int .i64 0,.int .u64 0])<|an (bd (by kernel_rfl))<|
  fun XT w46 M46=>
  ei (x:=.agg #[.slice (some ⟨g5,0,none⟩) 3 3,.slice (some ⟨g6,0,none⟩) 4 4,.slice (some ⟨g9,0,none⟩) 1 1,.slice (some ⟨g12,0,none⟩) 2 2,.slice (some ⟨g15,0,none⟩) 1 1,.slice (some ⟨g16,0,none⟩) 1 1,.slice (some ⟨g17,0,none⟩) 1 1,.slice none 0 0,.slice (some ⟨g18,0,none⟩) 1 1,.slice (some ⟨XV,0,none⟩) 5 5,.slice (some ⟨XU,0,none⟩) 1 1,.slice none 0 0,.slice none 0 0,.slice none 0 0,.slice (some ⟨XT,0,none⟩) 3 3,.slice none 0 0,.slice none 0 0])<|an (bd (by kernel_rfl))<|
  lb 28<|an ⟨rfl,rfl⟩ fun w M=>?_
 exact ei (x:=28)<|an rfl fun M=>⟨_,rfl,g2,g3,g4,g5,g6,g9,g12,g15,g16,g17,g18,XV,XU,XT,rfl,M.only (.cons_cons _<|(.cons_cons _<|(.cons _<|(.cons _<|(.cons_cons _<|(.cons _<|(.cons _<|(.cons _<|(.cons _<|(.cons _<|(.cons _<|(.cons _<|(.cons _<|(.cons _<|(.cons_cons _<|(.cons_cons _<|(.cons_cons _<|(.cons_cons _<|(.cons _<|(.cons_cons _<|(.cons _<|(.cons_cons _<|(.cons _<|(.cons_cons _<|(.cons_cons _<|(.cons_cons _<|(.cons_cons _<|(.cons_cons _<|(.cons _<|.refl []))))))))))))))))))))))))))))) (.refl _)⟩
def dZ:aA:={ Ap with rules:=[⟨1,⟨1,0,0,0⟩,⟨2,0,0,0⟩,false,1,1,0⟩,⟨1,⟨1,0,0,0⟩,⟨2,0,0,0⟩,false,1,2,0⟩,⟨1,⟨1,0,0,0⟩,⟨4,0,0,0⟩,false,1,3,0⟩,⟨1,⟨1,0,0,0⟩,⟨4,0,0,0⟩,false,1,1,1⟩] }
def Iu:aA:={ dZ with rules:=dZ.rules.take 3 }
def DG:aA:={ dZ with rules:=[⟨1,⟨1,0,0,0⟩,⟨6,0,0,0⟩,false,1,3,0⟩] }
def Iw:aA:={ DG with conds:=[] }
theorem Tg:vf dZ=[3]:=by kernel_rfl
theorem ZT:aR dZ=dZ:=by kernel_rfl
theorem QC:sO (aR dZ) (iM (aR dZ))=Iu:=by kernel_rfl
theorem ZS:fL Iu=DG:=by kernel_rfl
theorem ZR:jx dZ=Iw:=by kernel_rfl
theorem ZQ:zk dZ Iw=true:=by kernel_rfl
instance (n:Nat):Decidable (ql n):=inferInstanceAs (Decidable (_≤_))
instance (s:ByteArray):Decidable (dw s):=inferInstanceAs (Decidable (_≤_))
instance (n:Int):Decidable (iX n):=inferInstanceAs (Decidable (_∧_))
instance (n:Int):Decidable (QF n):=inferInstanceAs (Decidable (_∧_))
instance (n:Nat):Decidable (Bl n):=inferInstanceAs (Decidable (_<_))
theorem wk:dZ.Ok:=by
 repeat' (first|decide|refine List.forall_mem_cons.2 ⟨?_,?_⟩|exact List.forall_mem_nil _|constructor)
theorem Lk:nE dZ:=by
 repeat' (first|decide|refine List.forall_mem_cons.2 ⟨?_,?_⟩|exact List.forall_mem_nil _|constructor)
theorem Tj:Iu.Ok:=by
 repeat' (first|decide|refine List.forall_mem_cons.2 ⟨?_,?_⟩|exact List.forall_mem_nil _|constructor)
theorem Ti:nE Iu:=by
 repeat' (first|decide|refine List.forall_mem_cons.2 ⟨?_,?_⟩|exact List.forall_mem_nil _|constructor)
theorem Tm:DG.Ok:=by
 repeat' (first|decide|refine List.forall_mem_cons.2 ⟨?_,?_⟩|exact List.forall_mem_nil _|constructor)
theorem Tl:nE DG:=by
 repeat' (first|decide|refine List.forall_mem_cons.2 ⟨?_,?_⟩|exact List.forall_mem_nil _|constructor)
theorem Tk:Iw.Ok:=by
 repeat' (first|decide|refine List.forall_mem_cons.2 ⟨?_,?_⟩|exact List.forall_mem_nil _|constructor)
theorem Ll(p:aA)(hb:p.bools=Ap.bools)(hc:p.conds=Ap.conds):∀ e∈p.conds,∃ d,d≤12∧eV d (aI p.bools e)∧(cQ (aI p.bools e)).length≤5:=by
 rw[hb,hc];intro e he;obtain rfl:=awm.1 he;exact⟨1,by decide,.name (by kernel_rfl) (by decide),by decide +kernel⟩
theorem XD:LJ dZ:=⟨wk,Lk,by decide,by decide,by repeat' (first|decide|refine List.forall_mem_cons.2 ⟨?_,?_⟩|exact List.forall_mem_nil _|constructor),by repeat' (first|decide|refine List.forall_mem_cons.2 ⟨?_,?_⟩|exact List.forall_mem_nil _|constructor),Ll _ rfl rfl,by decide,by decide⟩
theorem Tn:LJ DG:=⟨Tm,Tl,by decide,by decide,by repeat' (first|decide|refine List.forall_mem_cons.2 ⟨?_,?_⟩|exact List.forall_mem_nil _|constructor),by repeat' (first|decide|refine List.forall_mem_cons.2 ⟨?_,?_⟩|exact List.forall_mem_nil _|constructor),Ll _ rfl rfl,by decide,by decide⟩
theorem yM(l:List Int):∀ u∈l.map kC,u.oneCell'=true:=fun u hu=>by
 obtain⟨y,-,rfl⟩:=awo.1 hu;rfl
theorem ofC{w0 w:World}{B:Nat}{bs:List Bx}{rs:List Rw}(M:aV B w0 w bs rs)(i:Nat){l:List Int}{s:ay}{g:Nat}{t:TypeId}(hb:bs[i]?=some (g,t,(l.map kC).toArray))(hx:TP l=s)(hn:l.length≤100:=by decide)(ht:Nat.blt t 9000=true:=by rfl):
 Calls Tryz.prog 66 #[.slice (some ⟨g,0,none⟩) l.length l.length] w fun r w'=>r=.returned (.agg #[.int .u64 s.a,.int .u64 s.b,.int .u64 s.c,.int .u64 s.d])∧awp w.heap.size w w':=by
 subst hx;exact of2 w _ l (M.slice i hb (by simp) (by rw[awE];exact fun u hu=>yM l u (by simpa using hu)) (by unfold maxLen;omega) ht)
theorem ofK{w w':World}{u:Value}{l:List Int}{s:ay}(h:Eo w 3 l.length (l.map kC) u w')(hx:TP l=s)(hn:l.length≤100:=by decide):
 Calls Tryz.prog 66 #[u] w' fun r w''=>r=.returned (.agg #[.int .u64 s.a,.int .u64 s.b,.int .u64 s.c,.int .u64 s.d])∧awp w'.heap.size w' w'':=by
 subst hx;obtain⟨g,rfl,hW,-⟩:=h;exact of2 w' _ l (SliceAt.Cl hW (by simp) (by rw[awE];exact fun u hu=>yM l u (by simpa using hu)) (by unfold maxLen;omega))
theorem ZJ{w w':World}{u:Value}{l:List Int}(h:Eo w 3 l.length (l.map kC) u w')(hn:l.length≤100:=by decide):SliceAt w' u 1 l.length (l.flatMap anyI):=by
 obtain⟨g,rfl,hW,-⟩:=h
 have e:l.flatMap anyI=l.map kC:=by
  clear hW hn
  induction l with
  | nil=>rfl
  | cons x r ih=>rw[List.flatMap_cons,ih];rfl
 rw[e];exact SliceAt.Cl hW (by simp) (by rw[awE];exact fun u hu=>yM l u (by simpa using hu)) (by unfold maxLen;omega)
theorem RowsIn.tail{B:Nat}{w:World}{r:Rw}{T:List Rw}(h:RowsIn B w (r::T)):RowsIn B w T:=⟨fun x hx=>h.1 x (awA _ hx),(List.pairwise_cons.1 h.2).2⟩
theorem NM(w0:World)(v v':Value)(a b:List Int)(ha:SliceAt w0 v 1 a.length (a.flatMap anyI))(hb:SliceAt w0 v' 1 b.length (b.flatMap anyI)):Calls Tryz.prog 28 #[v,v'] w0 fun r w'=>r=.returned (.bool (decide (a=b)))∧awp w0.heap.size w0 w':=by
 obtain⟨la,ka,rfl,-,hm,-⟩:=SliceAt.form ha (by decide);obtain⟨lb',kb,rfl,-⟩:=SliceAt.form hb (by decide);have no:a≠b→Ending.returned (lS [Value.bool false])=.returned (.bool (decide (a=b))):=fun h=>by rw[decide_eq_false h];rfl
 refine bP [] (fn:=Tryz.f28) Tryz.func28 rfl Tryz.ntmps28 rfl<|an (fun h M=>⟨no fun e=>by rw[e] at h;simp at h,M.below⟩) fun h=>lr (ι:=Nat) (fun m=>[(5,.int .i64 (m:Int))]) (fun m _=>m≤a.length∧a.take m=b.take m) (fun m=>a.length-m) 0 (an ⟨⟨rfl,trivial⟩,fun M=>⟨M,awu _,rfl⟩⟩ ?_)
 have hll:a.length=b.length:=Int.ofNat_inj.1 (by simpa using h);intro m w M ⟨hmm,ht⟩;refine an (fun h2=>?_) fun h2 M=>⟨?_,M.below⟩
 ·simp only[decide_eq_true_eq] at h2;obtain⟨x,y,b1,o1,b2,o2,hx,hy,⟨rfl,hc⟩,rfl,hc'⟩:=dS (f:=anyI) (fun _=>rfl) (by decide) ha hb rfl rfl (m:=m) (by omega) hll M.below;refine dr (by kernel_rfl)<|ia<|an ⟨rfl,rfl,by omega⟩<|lc<|an (hc 0 _ rfl)<|ia<|an ⟨rfl,rfl,by omega⟩<|lc<|an (hc' 0 _ rfl) fun w2 hb2 M2=>an (fun h3 M=>⟨no fun e=>?_,M.below⟩) fun h3=>an (by omega)<|bk (m+1) ⟨rfl,trivial⟩ (fun M=>⟨M,by omega,jc ht hx hy (by simpa using h3)⟩) (by dsimp only;omega)
  subst e;rw[hx] at hy;obtain rfl:=awF hy;simp at h3
 ·simp only[decide_eq_false_iff_not] at h2;rw[decide_eq_true (qC ht hll (by omega))];rfl
theorem yO{B:Nat}{w0 w:World}{rs:List Rw}{rg h2 h3 h4 h5 h6 h9 h12 h15 h16 h17 h18 h37 h42 h46:Nat}(M:aV B w0 w ((rg,56,(dZ.rules.flatMap aj.cells).toArray)::SB h2 h3 h4 h5 h6 h9 h12 h15 h16 h17 h18 h37 h42 h46) rs):aJ w (.slice (some ⟨h5,0,none⟩) 3 3) (.slice (some ⟨h6,0,none⟩) 4 4) (.slice (some ⟨h9,0,none⟩) 1 1) (.slice (some ⟨h12,0,none⟩) 2 2) (.slice (some ⟨h15,0,none⟩) 1 1) (.slice (some ⟨h16,0,none⟩) 1 1) (.slice (some ⟨h17,0,none⟩) 1 1) (.slice none 0 0) (.slice (some ⟨h18,0,none⟩) 1 1) (.slice (some ⟨rg,0,none⟩) 4 4) (.slice (some ⟨h42,0,none⟩) 1 1) (.slice none 0 0) (.slice none 0 0) (.slice none 0 0) (.slice (some ⟨h46,0,none⟩) 3 3) (.slice none 0 0) (.slice none 0 0) dZ:=
 have h:=Mw (M.only (.cons _ (.refl _)) (.refl _))
 ⟨h.classes,h.types,h.attrs,h.roles,h.users,h.bools,h.aW,h.cats,h.conds,M.slice 0 rfl rfl rfl (by simp[maxLen]),h.trans,h.aS,h.ranges,h.cons,h.bL,h.files,h.asserts⟩
theorem XB:RdH (aR dZ):=by rw[ZT];exact⟨wk,Lk,by decide,by decide,by decide⟩
theorem XA:RuH (sO (aR dZ) (iM (aR dZ))):=by rw[QC];exact⟨Tj,Ti,by decide⟩
theorem XC:LJ (fL (sO (aR dZ) (iM (aR dZ)))):=by rw[QC,ZS];exact Tn
theorem Fm(w0:World):Calls Tryz.prog 21 #[] w0 fun r w'=>r=.returned (.bool true)∧awp w0.heap.size w0 w':=by
 refine bP [] (fn:=Tryz.f21) Tryz.func21 rfl Tryz.ntmps21 rfl<|cg<|an ((Mx w0).mono fun _ _ h=>h) fun v w1 hS=>?_
 obtain⟨h2,h3,h4,h5,h6,h9,h12,h15,h16,h17,h18,h37,h42,h46,rfl,hS⟩:=hS
 refine⟨_,_,hS,ei<|an kE fun q w2 M2=>lb 0<|an ⟨rfl,rfl⟩ fun w3 M3=>fun g4 w4 M4=>cl<|an (ofC M4 0 (l:=[0]) (s:=⟨1,0,0,0⟩) rfl rfl) fun w5 M5=>fun g6 w6 M6=>cl<|an (ofC M6 0 (l:=[1]) (s:=⟨2,0,0,0⟩) rfl rfl) fun w7 M7=>
  ei (x:=.agg #[.int .i64 1,.int .u64 1,.int .u64 0,.int .u64 0,.int .u64 0,.int .u64 2,.int .u64 0,.int .u64 0,.int .u64 0,.bool false,.int .i64 1,.int .u32 1,.int .i64 0])<|an (bd (by kernel_rfl))<|
  fun g8 w8 M8=>
  cl<|an (ofC M8 0 (l:=[0]) (s:=⟨1,0,0,0⟩) rfl rfl) fun w9 M9=>
  fun g10 qq jZ=>
  cl<|an (ofC jZ 0 (l:=[1]) (s:=⟨2,0,0,0⟩) rfl rfl) fun zS M11=>
  ei (x:=.agg #[.int .i64 1,.int .u64 1,.int .u64 0,.int .u64 0,.int .u64 0,.int .u64 2,.int .u64 0,.int .u64 0,.int .u64 0,.bool false,.int .i64 1,.int .u32 2,.int .i64 0])<|an (bd (by kernel_rfl))<|
  fun g12 DZ Bn=>
  cl<|an (ofC Bn 0 (l:=[0]) (s:=⟨1,0,0,0⟩) rfl rfl) fun Jb wz=>
  fun g14 Uv IL=>
  cl<|an (ofC IL 0 (l:=[2]) (s:=⟨4,0,0,0⟩) rfl rfl) fun O4 Fp=>
  ei (x:=.agg #[.int .i64 1,.int .u64 1,.int .u64 0,.int .u64 0,.int .u64 0,.int .u64 4,.int .u64 0,.int .u64 0,.int .u64 0,.bool false,.int .i64 1,.int .u32 3,.int .i64 0])<|an (bd (by kernel_rfl))<|
  fun g16 X8 LI=>
  cl<|an (ofC LI 0 (l:=[0]) (s:=⟨1,0,0,0⟩) rfl rfl) fun X7 XI=>
  fun g18 w18 XH=>
  cl<|an (ofC XH 0 (l:=[2]) (s:=⟨4,0,0,0⟩) rfl rfl) fun w19 ZX=>
  ei (x:=.agg #[.int .i64 1,.int .u64 1,.int .u64 0,.int .u64 0,.int .u64 0,.int .u64 4,.int .u64 0,.int .u64 0,.int .u64 0,.bool false,.int .i64 1,.int .u32 1,.int .i64 1])<|an (bd (by kernel_rfl))<|
  fun g20 w20 M20=>
  lb 9<|an ⟨rfl,rfl⟩ fun w M=>?_⟩
 have hP:=yO (M.only (.cons_cons _<|.cons _<|.cons _<|.cons _<|.cons _<|.cons _<|.cons _<|.cons _<|.cons _<|.cons _<|.refl _) (.refl _));refine lb 9<|an rfl<|cg<|an (vu _ _ _ _ _ _ _ _ _ _ _ _ _ _ _ _ _ _ dZ hP XD XB XA XC) fun v2 w4 hO=>?_
 obtain⟨hG,hb⟩:=hO;rw[ZR] at hG;obtain⟨x0,n0,x1,n1,x2,n2,x3,n3,x4,n4,x5,n5,x6,n6,x7,n7,x8,n8,x9,n9,x10,n10,qh,n11,qg,n12,Lz,n13,Lx,n14,Lw,n15,Lv,n16,T,rfl,hT,hPO⟩:=hG;refine⟨_,T,M.bQ hb hT,ei<|an kE fun q2 w5 M5=>lb 0<|an ⟨rfl,rfl⟩ fun w6 M6=>?_⟩;have afw:=tg w6 _ _ _ _ _ _ _ _ _ _ _ _ _ _ _ _ _ dZ (yO (M6.only (.cons _ (.cons_cons _<|.cons _<|.cons _<|.cons _<|.cons _<|.cons _<|.cons _<|.cons _<|.cons _<|.cons _<|.refl _)) (.refl _))) wk (by decide) (by decide) (by decide);rw[Tg] at afw;refine lb 10<|an rfl<|cw M6 afw fun u w7 M7=>?_
 obtain⟨ua,uc,rfl,-⟩:=M7.shape 0 rfl;have hO7:=hPO _ _ (RowsIn.tail M7.bC);obtain⟨ob,oo,rfl,hoc⟩:=SliceAt.elt hO7.rules (fun _=>rfl) (by decide) (i:=0) rfl (by decide)
 refine dr (by kernel_rfl)<|lb 0<|an rfl<|lb 0<|an (fun _=>rfl)<|ia (i:=0)<|an (fun _=>⟨rfl,rfl,by decide⟩)<|lc<|an (fun _=>hoc)<|
  br (Eo w7 3 1 [kC 0])<|an mw<|an (fun _ w1 a o' hb M' hop oV=>bK (p:=fun _=>True) (kk:=1) (b:=8) (by kernel_rfl) rfl rfl (by decide) (by decide) (by simp[Value.cells]) rfl w1 a o' hb trivial hop oV)<|
  cu<|an (fun u h w' hb' M' hR=>ofK (l:=[0]) (s:=⟨1,0,0,0⟩) (hR h) rfl)<|
  br (Eo w7 3 2 [kC 1,kC 2])<|an mw<|an (fun _ w1 a o' hb M' hop oV=>bK (p:=fun _=>True) (kk:=1) (b:=8) (by kernel_rfl) rfl rfl (by decide) (by decide) (by simp[Value.cells]) rfl w1 a o' hb trivial hop oV)<|
  cu<|an (fun u h w' hb' M' hR=>ofK (l:=[1,2]) (s:=⟨6,0,0,0⟩) (hR h) rfl)<|
  ei (x:=.agg #[.int .i64 1,.int .u64 1,.int .u64 0,.int .u64 0,.int .u64 0,.int .u64 6,.int .u64 0,.int .u64 0,.int .u64 0,.bool false,.int .i64 1,.int .u32 3,.int .i64 0])<|an (fun _=>bd (by kernel_rfl))<|
  ei<|an (fun _=>⟨adk,fun w=>WW ⟨1,⟨1,0,0,0⟩,⟨6,0,0,0⟩,false,1,3,0⟩ ⟨1,⟨1,0,0,0⟩,⟨6,0,0,0⟩,false,1,3,0⟩ w⟩)<|
  lb 0<|an (fun _=>rfl)<|
  br (Eo w7 3 1 [kC 3])<|an mw<|an (fun _ w1 a o' hb M' hop oV=>bK (p:=fun _=>True) (kk:=1) (b:=8) (by kernel_rfl) rfl rfl (by decide) (by decide) (by simp[Value.cells]) rfl w1 a o' hb trivial hop oV)<|
  cu<|an (fun u h w' hb' M' hR=>NM w' _ _ [3] [3] (by have h2:=SliceAt.bq (M'.r 0 rfl) (vC [3]);exact h2) (ZJ (l:=[3]) (hR h)))<|
  lb 10<|an (fun _=>rfl)<|lb 0<|an (fun _=>rfl)<|cl<|an (fun _ w' hb' M'=>UY w' _ _ _ _ _ _ _ _ _ _ _ _ _ _ _ _ _ _ _ _ _ _ _ _ _ _ _ _ _ _ _ _ _ _ dZ Iw (yO (M'.only (.cons _ (.cons_cons _<|.cons _<|.cons _<|.cons _<|.cons _<|.cons _<|.cons _<|.cons _<|.cons _<|.cons _<|.refl _)) (.refl _))) (hPO _ _ (RowsIn.tail M'.bC)) wk Tk (by decide) (by decide) (by decide) (by decide) (by decide) (by decide) (by decide) (by decide)) fun qq z_ jZ=>?_
 exact fun M=>⟨by rw[ZQ];rfl,M.below⟩
theorem mK{α:Type}{P:α→α→Bool}(h:∀ x,P x x=true):∀ l:List α,au P l l=true
 | []=>rfl
 | x::l=>by show(P x x&&au P l l)=true;rw[h,mK h l];rfl
mutual
theorem tN:∀ e:ak,eT e e=true
 | .node op a rel b names set kids=>by rw[eT];simp[ak.op,ak.a,ak.rel,ak.b,ak.set,ak.names,ak.kids,zl kids]
theorem zl:∀ l:List ak,nL l l=true
 | []=>by rw[nL]
 | x::l=>by rw[nL,tN x,zl l];rfl
end
theorem uU(p:aA):gU p p=true:=by
 unfold gU kG;rw[mK (P:=mX) (fun x=>by simp[mX]),mK (P:=oy) (fun x=>by simp[oy]),mK (P:=eT) tN,mK (P:=sW) (fun x=>by simp[sW,tN])];simp
theorem Gr(x y:ay)(i:Nat):(x.or y).has i=(x.has i||y.has i):=by
 unfold ay.has;rw[← Nat.testBit_or];congr 1;unfold ay.word ay.or;split
 ·rfl
 ·split
  ·rfl
  ·split<;>rfl
theorem CJ{a b c:aj}(ha:qj a.perms)(hb:qj b.perms)(h:aC a b=some c):(c.kind=a.kind∧c.cls=a.cls∧c.cond=a.cond)∧(b.kind=a.kind∧b.cls=a.cls∧b.cond=a.cond)∧qj c.perms∧(∀ s t,s<256→t<256→(s,t)∈c.pairs→(s,t)∈a.pairs∨(s,t)∈b.pairs) ∧
 ∀ s t k,s<256→t<256→(((s,t)∈c.pairs∧ib c.perms k=true)↔((s,t)∈a.pairs∧ib a.perms k=true)∨((s,t)∈b.pairs∧ib b.perms k=true)):=by
 unfold aC at h;split at h
 ·cases h
 rename_i h1;simp only[Bool.or_eq_true,Bool.not_eq_true',decide_eq_false_iff_not,not_or,Decidable.not_not,Bool.not_eq_false,beq_iff_eq] at h1;obtain⟨⟨⟨e1,e2⟩,e3⟩,e4⟩:=h1;refine(fun(hc:_∧_∧_)=>⟨hc.1,⟨e1.symm,e2.symm,e3.symm⟩,hc.2⟩) ?_;split at h
 ·rename_i h2;simp only[awy,decide_eq_true_eq] at h2;obtain rfl:=awF h;refine⟨⟨rfl,rfl,rfl⟩,qp .or _ _,fun s t _ _ h=>.inl h,fun s t k hs ht=>?_⟩;rw[bT hs ht,bT hs ht,bT hs ht];simp only[AQ .or ha hb];rw[← h2.1,← h2.2,← e4];cases a.src.has s<;>cases a.tgt.has t<;>cases a.self<;>cases ib a.perms k<;>cases ib b.perms k<;>simp
 ·split at h
  ·rename_i h2;simp only[awy,decide_eq_true_eq] at h2;obtain rfl:=awF h;refine⟨⟨rfl,rfl,rfl⟩,ha,fun s t hs ht h=>?_,fun s t k hs ht=>?_⟩
   ·rw[bT hs ht] at h;rw[bT hs ht,bT hs ht];simp only[Gr] at h;rw[← h2.2,← e4]
    revert h
    cases a.src.has s<;>cases a.tgt.has t<;>cases b.tgt.has t<;>cases a.self<;>simp
   rw[bT hs ht,bT hs ht,bT hs ht];simp only[Gr];rw[← h2.1,← h2.2,← e4];cases a.src.has s<;>cases a.tgt.has t<;>cases b.tgt.has t<;>cases a.self<;>cases ib a.perms k<;>simp
  ·split at h
   ·rename_i h2;simp only[awy,decide_eq_true_eq] at h2;obtain rfl:=awF h;refine⟨⟨rfl,rfl,rfl⟩,ha,fun s t hs ht h=>?_,fun s t k hs ht=>?_⟩
    ·rw[bT hs ht] at h;rw[bT hs ht,bT hs ht];simp only[Gr] at h;rw[← h2.2,← e4]
     revert h
     cases a.src.has s<;>cases b.src.has s<;>cases a.tgt.has t<;>cases a.self<;>simp
    rw[bT hs ht,bT hs ht,bT hs ht];simp only[Gr];rw[← h2.1,← h2.2,← e4];cases a.src.has s<;>cases b.src.has s<;>cases a.tgt.has t<;>cases a.self<;>cases ib a.perms k<;>simp
   ·cases h
theorem zC{α:Type}{J:α→α→Option α}{a:α}:∀ {l:List α} {z:α×List α},eN J a l=some z→∃ m b r,l=m++b::r∧J a b=some z.1∧z.2=m++r
 | [],_,h=>by cases h
 | b::r,z,h=>by
  unfold eN at h
  cases e:J a b with
  | some c=>rw[e] at h;obtain rfl:=awF h;exact⟨[],b,r,rfl,e,rfl⟩
  | none=>
   rw[e] at h
   cases e2:eN J a r with
   | none=>rw[e2] at h;cases h
   | some y=>
    rw[e2] at h;obtain rfl:=awF h;obtain⟨m,b',r',h1,h2,h3⟩:=zC e2;exact⟨b::m,b',r',by rw[h1];rfl,h2,by show b::y.2=_;rw[h3];rfl⟩
theorem Cj{α:Type}{J:α→α→Option α}:∀ {l l':List α},dN J l=some l'→∃ p a m b r c,l=p++a::(m++b::r)∧J a b=some c∧l'=p++c::(m++r)
 | [],_,h=>by cases h
 | x::l,l',h=>by
  unfold dN at h
  cases e:eN J x l with
  | some z=>
   rw[e] at h;obtain rfl:=awF h;obtain⟨m,b,r,h1,h2,h3⟩:=zC e;exact⟨[],x,m,b,r,z.1,by rw[h1];rfl,h2,by rw[h3];rfl⟩
  | none=>
   rw[e] at h
   cases e2:dN J l with
   | none=>rw[e2] at h;cases h
   | some y=>
    rw[e2] at h;obtain rfl:=awF h;obtain⟨p,a,m,b,r,c,h1,h2,h3⟩:=Cj e2;exact⟨x::p,a,m,b,r,c,by rw[h1];rfl,h2,by rw[h3];rfl⟩
def Zq(T C:Nat)(on:aj→Bool)(j k:Nat)(r:aj):Bool:=(on r&&r.pairs.any fun p=>decide (AL T C r p=j))&&ib r.perms k
theorem Gw{T C:Nat}{on:aj→Bool}{j k:Nat}{r:aj}:Zq T C on j k r=true↔on r=true∧∃ s t,((s,t)∈r.pairs∧ib r.perms k=true)∧AL T C r (s,t)=j:=by
 unfold Zq;simp only[awy,List.any_eq_true,decide_eq_true_eq];constructor
 ·rintro⟨⟨h1,⟨s,t⟩,h2,h3⟩,h4⟩;exact⟨h1,s,t,⟨h2,h4⟩,h3⟩
 ·rintro⟨h1,s,t,⟨h2,h4⟩,h3⟩;exact⟨⟨h1,(s,t),h2,h3⟩,h4⟩
theorem VQ{T C:Nat}{on:aj→Bool}{j k:Nat}{a b c:aj}(ha:qj a.perms)(hb:qj b.perms)(hon:∀ x y:aj,x.cond=y.cond→on x=on y)(h:aC a b=some c):Zq T C on j k c=(Zq T C on j k a||Zq T C on j k b):=by
 obtain⟨⟨k1,k2,k3⟩,⟨l1,l2,l3⟩,-,-,hg⟩:=CJ ha hb h;have e:∀ (x y:aj) (p:Nat×Nat),x.kind=y.kind→x.cls=y.cls→AL T C x p=AL T C y p:=fun x y p e1 e2=>by unfold AL;rw[e1,e2]
 rw[Bool.eq_iff_iff,Bool.or_eq_true,Gw,Gw,Gw,hon c a k3,hon b a l3];constructor
 ·rintro⟨h1,s,t,h2,h3⟩;obtain⟨hs,ht⟩:=jw h2.1;rcases(hg s t k hs ht).1 h2 with h4|h4
  ·exact .inl ⟨h1,s,t,h4,by rw[← e c a _ k1 k2];exact h3⟩
  ·exact .inr ⟨h1,s,t,h4,by rw[e b c _ (l1.trans k1.symm) (l2.trans k2.symm)];exact h3⟩
 ·rintro(⟨h1,s,t,h2,h3⟩|⟨h1,s,t,h2,h3⟩)
  ·obtain⟨hs,ht⟩:=jw h2.1;exact⟨h1,s,t,(hg s t k hs ht).2 (.inl h2),by rw[e c a _ k1 k2];exact h3⟩
  ·obtain⟨hs,ht⟩:=jw h2.1;exact⟨h1,s,t,(hg s t k hs ht).2 (.inr h2),by rw[← e b c _ (l1.trans k1.symm) (l2.trans k2.symm)];exact h3⟩
theorem Y2{T C:Nat}{a b c:aj}(ha:RV T C a)(hb:RV T C b)(h:aC a b=some c):RV T C c:=by
 obtain⟨⟨k1,k2,k3⟩,-,hw,hp,-⟩:=CJ ha.perms hb.perms h;refine⟨by rw[k1];exact ha.kind,by rw[k2];exact ha.cls,hw,fun p hq=>?_⟩;obtain⟨hs,ht⟩:=jw hq;rcases hp p.1 p.2 hs ht hq with h|h
 ·exact ha.pairs _ h
 ·exact hb.pairs _ h
theorem Nc{T C:Nat}{on:aj→Bool}{l l':List aj}(hl:∀ r∈l,RV T C r)(hon:∀ x y:aj,x.cond=y.cond→on x=on y)(h:dN aC l=some l'):(∀ r∈l',RV T C r)∧bU T C on l'=bU T C on l:=by
 obtain⟨p,a,m,b,r,c,rfl,hj,rfl⟩:=Cj h;have ha:=hl a (by simp);have hb:=hl b (by simp)
 have hl':∀ x∈p++c::(m++r),RV T C x:=fun x hx=>by
  simp only[awl,aww] at hx;rcases hx with hx|rfl|hx|hx
  ·exact hl x (by simp[hx])
  ·exact Y2 ha hb hj
  ·exact hl x (by simp[hx])
  ·exact hl x (by simp[hx])
 refine⟨hl',?_⟩;obtain⟨w1,g1⟩:=lI (on:=on) hl';obtain⟨w2,g2⟩:=lI (on:=on) hl
 have e1:(bU T C on (p++c::(m++r))).length=(bU T C on (p++a::(m++b::r))).length:=by
  unfold bU;rw[pS,pS]
 refine List.ext_getElem e1 fun j hj1 hj2=>?_
 have h1:=g1 j;have h2:=g2 j;rw[List.getD_eq_getElem?_getD,awt hj1] at h1;rw[List.getD_eq_getElem?_getD,awt hj2] at h2;refine yg (w1 _ (List.getElem_mem hj1)).1 (w2 _ (List.getElem_mem hj2)).1 fun k=>?_
 refine(h1 k).trans (Eq.trans ?_ (h2 k).symm);show List.any _ (Zq T C on j k)=List.any _ (Zq T C on j k);simp only[List.any_append,List.any_cons,VQ ha.perms hb.perms hon hj];cases Zq T C on j k a<;>cases Zq T C on j k b<;>simp
theorem Cr{T C:Nat}{on:aj→Bool}{l:List aj}(hl:∀ r∈l,RV T C r)(hon:∀ x y:aj,x.cond=y.cond→on x=on y):(∀ r∈zu aC l,RV T C r)∧bU T C on (zu aC l)=bU T C on l:=by
 have key:∀ (n:Nat) (l:List aj),(∀ r∈l,RV T C r)→(∀ r∈TR aC n l,RV T C r)∧bU T C on (TR aC n l)=bU T C on l:=by
  intro n
  induction n with
  | zero=>exact fun l hl=>⟨hl,rfl⟩
  | succ n ih=>
   intro l hl;unfold TR
   cases e:dN aC l with
   | none=>exact⟨hl,rfl⟩
   | some l'=>
    obtain⟨h1,h2⟩:=Nc (on:=on) hl hon e;obtain⟨h3,h4⟩:=ih l' h1;exact⟨h3,h4.trans h2⟩
 exact key _ l hl
theorem JU{p:aA}(hR:∀ r∈p.rules,RV p.types.length p.classes.length r):fB (fL p)=fB p:=by
 unfold fB;refine List.map_congr_left fun n _=>?_
 unfold Ca;exact(Cr hR fun x y e=>by rw[e]).2
theorem J5(o:Int):oK o≤2:=by
 unfold oK
 repeat' split
 all_goals decide
theorem Ds{n:Nat}:∀ {l:List ak},mH n l=0→∀ k∈l,kQ n k=0
 | [],_,_,hk=>by cases hk
 | x::l,h,k,hk=>by
  unfold mH at h;split at h
  ·rename_i hx;rcases aww.1 hk with rfl|hk
   ·exact hx
   ·exact Ds h k hk
  ·rename_i hx;exact absurd h hx
theorem Dd{a b c n:Nat}:∀ {l:List ak},q_ a b c n l=0→∀ k∈l,kN a b c n k=0
 | [],_,_,hk=>by cases hk
 | x::l,h,k,hk=>by
  unfold q_ at h;split at h
  ·rename_i hx;rcases aww.1 hk with rfl|hk
   ·exact hx
   ·exact Dd h k hk
  ·rename_i hx;exact absurd h hx
theorem BU{n:Nat}:∀ e:ak,kQ n e=0→mO e
 | .node op a rel b names set kids,h=>by
  have ih:∀ k∈kids,kQ n k=0→mO k:=fun k hk=>BU k
  rw[rF] at h
  cases hb:kX (.node op a rel b names set kids) with
  | true=>rw[hb] at h;simp at h
  | false=>
   rw[hb,if_neg (by decide)] at h;split at h
   ·cases h
   unfold kX at hb;simp only[Bool.or_eq_false_iff,Bool.not_eq_false',decide_eq_true_eq,ak.op,ak.kids,ak.names] at hb;have hk:oK op=(kids.length:Int):=of_decide_eq_true hb.1.1.1.1.1.2;have hn:¬ (0<(names.length:Int)):=of_decide_eq_false hb.1.1.2;have:=J5 op;exact .node (by omega) (by omega) fun k hkm=>ih k hkm (Ds h k hkm)
 termination_by e=>SizeOf.sizeOf e
 decreasing_by
  have:=List.sizeOf_lt_of_mem hk;simp only[ak.node.sizeOf_spec];omega
theorem Sz{e:ak}(h:jX e=true):e.names.length=0∧e.kids.length≤2∧(e.op=8→e.kids=[]):=by
 unfold jX at h;have:=J5 e.op;split at h
 ·rename_i ho;simp only[awy,decide_eq_true_eq] at h;obtain⟨⟨⟨⟨⟨h1,-⟩,-⟩,-⟩,h2⟩,-⟩:=h;exact⟨by omega,by omega,fun h8=>by omega⟩
 ·split at h
  ·simp only[awy,decide_eq_true_eq] at h;obtain⟨⟨h1,h2⟩,-⟩:=h;exact⟨by omega,by omega,fun _=>List.eq_nil_of_length_eq_zero (by omega)⟩
  ·split at h
   ·simp only[awy,decide_eq_true_eq] at h;obtain⟨⟨⟨h1,-⟩,-⟩,h2⟩:=h;exact⟨by omega,by omega,fun _=>List.eq_nil_of_length_eq_zero (by omega)⟩
   ·cases h
theorem tM{nU nR nT N:Nat}:∀ e:ak,kN nU nR nT N e=0→mO e
 | .node op a rel b names set kids,h=>by
  have ih:∀ k∈kids,kN nU nR nT N k=0→mO k:=fun k hk=>tM k
  have hf:jX (.node op a rel b names set kids)=true:=by
   cases hf:jX (.node op a rel b names set kids) with
   | true=>rfl
   | false=>
    rw[ug (r:=2) (by unfold ji;rw[if_pos hf])] at h;cases h
  obtain⟨hn,hk,h8⟩:=Sz hf;replace hn:names.length=0:=hn;replace hk:kids.length≤2:=hk;refine .node (by omega) (by omega) fun k hkm=>?_
  have n8:op≠8:=fun e=>by
   have:kids=[]:=h8 e;rw[this] at hkm;cases hkm
  cases hs:ji nU nR nT N (.node op a rel b names set kids) with
  | none=>
   rw[Dc hs] at h;exact ih k hkm (Dd h k hkm)
  | some r=>
   rw[ug hs] at h;subst h;unfold ji at hs;rw[if_neg (by rw[hf];decide),if_neg (show ¬ (ak.node op a rel b names set kids).op=8 from n8)] at hs
   repeat' (split at hs)
   all_goals cases hs
 termination_by e=>SizeOf.sizeOf e
 decreasing_by
  have:=List.sizeOf_lt_of_mem hk;simp only[ak.node.sizeOf_spec];omega
theorem ac3{p:aA}(h:Ad p):nE p:=by
 have hc:=h.check;unfold iP at hc;split at hc
 case isFalse hne=>exact absurd hc hne
 rename_i hc3;rw[fG] at hc hc3;have hcl:jl p=0:=hc3 _ (by simp);have XQ:vW p=0:=hc _ (by simp);have hr:eB p=0:=hc _ (by simp);unfold jl at hcl;split at hcl
 ·cases hcl
 unfold vW at XQ;split at XQ
 ·cases XQ
 unfold eB at hr;split at hr
 ·cases hr
 split at hr
 case isFalse _ hne=>exact absurd hr hne
 rename_i _ qX;rw[cI] at hcl XQ qX;have z:=h.small.sizes
 have C:∀ x∈p.classes,x.perms.length≤1000000:=fun x hx=>by
  obtain⟨i,hi⟩:=List.getElem?_of_mem hx;have h1:=hcl i (awu _) (by have:=(aws.1 hi).1;omega);unfold rH at h1;rw[hi] at h1;replace h1:yJ ((p.classes.take i).map (·.name)) x=0:=h1;unfold yJ at h1;split at h1
  ·split at h1
   ·cases h1
   ·omega
  ·rename_i hne;exact absurd h1 hne
 have E:∀ e∈p.conds,mO e:=fun e he=>by
  obtain⟨i,hi⟩:=List.getElem?_of_mem he;have h1:=qX i (awu _) (by have:=(aws.1 hi).1;omega);unfold kA at h1;rw[hi] at h1;replace h1:cF p.bools.length e=0:=h1;unfold cF at h1;split at h1
  ·cases h1
  ·exact BU e h1
 have K:∀ x∈p.cons,mO x.expr:=fun x hx=>by
  obtain⟨i,hi⟩:=List.getElem?_of_mem hx;have h1:=XQ i (awu _) (by have:=(aws.1 hi).1;omega);unfold KP at h1;rw[hi] at h1;replace h1:SY p.users.length p.roles.length p.types.length p.classes x=0:=h1;unfold SY at h1;split at h1
  ·cases h1
  split at h1
  ·cases h1
  unfold gL at h1;split at h1
  ·cases h1
  split at h1
  ·exact tM _ h1
  ·exact tM _ h1
 exact⟨awk z.classes (by decide),C,awk z.types (by decide),fun x hx=>awk (h.small.oW x hx) (by decide),awk z.attrs (by decide),awk z.roles (by decide),awk z.users (by decide),awk z.bools (by decide),awk z.aW (by decide),awk z.cats (by decide),awk z.conds (by decide),E,awk z.rules (by decide),awk z.trans (by decide),awk z.aS (by decide),awk z.ranges (by decide),awk z.cons (by decide),K,awk z.bL (by decide),awk z.files (by decide),awk z.asserts (by decide)⟩
end Go.Proofs.YtdcofoaihmongaaGreat
namespace Go.Proofs.YtdcofoaihmongaaGreat
open Go Go.RowKit Go.Sort
theorem Oo(p:aA)(i:Nat)(e:ak)(s:pZ):∀ x∈(eU p i e s).kids,x∈s.kids∨x=e:=by
 intro x hx;unfold eU at hx;split at hx
 ·exact .inl hx
 ·split at hx
  ·exact .inl hx
  ·dsimp only at hx;split at hx
   ·rcases awl.1 hx with h|h
    ·exact .inl h
    ·exact .inr (awm.1 h)
   ·exact .inl hx
theorem zF(p:aA):∀ (l:List ak) (i:Nat) (s:pZ),∀ x∈(jI p i l s).kids,x∈s.kids∨x∈l
 | [],_,_,x,hx=>.inl hx
 | e::l,i,s,x,hx=>by
  rcases zF p l (i+1) _ x hx with h|h
  ·rcases Oo p i e s x h with h|h
   ·exact .inl h
   ·exact .inr (aww.2 (.inl h))
  ·exact .inr (awA _ h)
theorem nu{p:aA}{m:Nat}:∀ x∈(bn p m).kids,x∈p.conds:=fun x hx=>by
 rcases zF p _ 0 cs0 x hx with h|h
 ·cases h
 ·exact List.mem_of_mem_take h
def CBd(n:Nat)(s:pZ):Prop:=(∀ k v,s.rI k=some v→-(n:Int)≤v∧v≤n)∧s.seen.length≤n
theorem O7{f:Int→Option Int}{n n':Nat}(hn:n≤n')(h:∀ k v,f k=some v→-(n:Int)≤v∧v≤n){k0 v0:Int}(h0:-(n':Int)≤v0∧v0≤n'):∀ k v,ef f k0 v0 k=some v→-(n':Int)≤v∧v≤n':=fun k v hk=>by
 unfold ef at hk;split at hk
 ·cases hk;exact h0
 ·have:=h k v hk;constructor<;>omega
theorem KZ{n n' i:Nat}{k:Int}{s:pZ}(hn:n≤n')(h:∀ k v,s.rI k=some v→-(n:Int)≤v∧v≤n)(hk:-(n':Int)≤k∧k≤n'):∀ j v,(dh i k s).rI j=some v→-(n':Int)≤v∧v≤n':=
 O7 (Nat.le_refl _) (O7 hn h hk) (by constructor<;>omega)
theorem Xl(p:aA)(i:Nat)(e:ak){n:Nat}{s:pZ}(h:CBd n s):CBd (n+1) (eU p i e s):=by
 have hw:CBd (n+1) s:=⟨fun k v hk=>by have:=h.1 k v hk;constructor<;>omega,by have:=h.2;omega⟩;unfold eU;split
 ·exact hw
 ·split
  ·exact hw
  ·dsimp only;split
   ·refine⟨KZ (s:={ s with seen:=_,kids:=_ }) (Nat.le_succ n) h.1 (by have:=h.2;constructor<;>omega),?_⟩;show(s.seen++[_]).length≤n+1;rw[awn];have:=h.2;simp;omega
   ·refine⟨KZ (Nat.le_succ n) h.1 ?_,hw.2⟩;have hb:=yA (bJ (aG p.bools.length) p.bools.length e) (notM (aG p.bools.length) (bJ (aG p.bools.length) p.bools.length e)) s.seen 0;have:=h.2;constructor<;>omega
theorem E9(p:aA):∀ (l:List ak) (i n:Nat) (s:pZ),CBd n s→CBd (n+l.length) (jI p i l s)
 | [],_,_,_,h=>h
 | e::l,i,n,s,h=>by
  have:=E9 p l (i+1) (n+1) _ (Xl p i e h);rw[List.length_cons,Nat.add_comm l.length 1,← Nat.add_assoc];exact this
theorem ady{p:aA}{k:Int}(hc:p.conds.length≤900):-900≤(bN (bn p p.conds.length) k).1∧(bN (bn p p.conds.length) k).1≤900:=by
 have h:=(E9 p (p.conds.take p.conds.length) 0 0 cs0 ⟨fun _ _ h=>(by cases h),Nat.le_refl _⟩).1;unfold bN;split
 ·exact⟨by decide,by decide⟩
 ·dsimp only
  cases hb:(bn p p.conds.length).rI k with
  | none=>exact⟨by decide,by decide⟩
  | some v=>
   have h2:=h k v hb;rw[awC] at h2;show -900≤v∧v≤900;constructor<;>omega
theorem pN{a b c:aj}(h:aC a b=some c):c.cond=a.cond:=by
 unfold aC at h;split at h
 ·cases h
 ·split at h
  ·cases h;rfl
  ·split at h
   ·cases h;rfl
   ·split at h
    ·cases h;rfl
    ·cases h
section
variable {α:Type} {J:α→α→Option α} {Q:α→Prop} (hJ:∀ a b c,Q a→Q b→J a b=some c→Q c)
include hJ
theorem C5{a:α}(ha:Q a):∀ {l:List α} {z:α×List α},(∀ x∈l,Q x)→eN J a l=some z→Q z.1∧∀ x∈z.2,Q x
 | [],_,_,h=>by cases h
 | b::r,z,hl,h=>by
  unfold eN at h
  cases e:J a b with
  | some c=>rw[e] at h;obtain rfl:=awF h;exact⟨hJ a b c ha (hl b (awx ..)) e,fun x hx=>hl x (awA _ hx)⟩
  | none=>
   rw[e] at h
   cases e2:eN J a r with
   | none=>rw[e2] at h;cases h
   | some y=>
    rw[e2] at h;obtain rfl:=awF h;have h3:=C5 ha (fun x hx=>hl x (awA _ hx)) e2;refine⟨h3.1,fun x hx=>?_⟩;rcases aww.1 hx with rfl|hx
    ·exact hl x (awx ..)
    ·exact h3.2 x hx
theorem xJ:∀ {l l':List α},(∀ x∈l,Q x)→dN J l=some l'→∀ x∈l',Q x
 | [],_,_,h=>by cases h
 | a::r,l',hl,h=>by
  unfold dN at h
  cases e:eN J a r with
  | some z=>
   rw[e] at h;obtain rfl:=awF h;have h3:=C5 hJ (hl a (awx ..)) (fun x hx=>hl x (awA _ hx)) e;intro x hx;rcases aww.1 hx with rfl|hx
   ·exact h3.1
   ·exact h3.2 x hx
  | none=>
   rw[e] at h
   cases e2:dN J r with
   | none=>rw[e2] at h;cases h
   | some y=>
    rw[e2] at h;obtain rfl:=awF h;intro x hx;rcases aww.1 hx with rfl|hx
    ·exact hl x (awx ..)
    ·exact xJ (fun x hx=>hl x (awA _ hx)) e2 x hx
theorem PS:∀ (n:Nat) {l:List α},(∀ x∈l,Q x)→∀ x∈TR J n l,Q x
 | 0,_,hl=>hl
 | n+1,l,hl=>by
  unfold TR
  cases e:dN J l with
  | none=>exact hl
  | some l'=>exact PS n (xJ hJ hl e)
theorem rY{l:List α}(hl:∀ x∈l,Q x):∀ x∈zu J l,Q x:=PS hJ _ hl
end
end Go.Proofs.YtdcofoaihmongaaGreat
namespace Go.Proofs.YtdcofoaihmongaaGreat
open Go Go.RowKit
theorem CH{a b c:aj}(ha:a.oU)(hb:b.oU)(h:aC a b=some c):c.oU:=by
 unfold aC at h;split at h
 ·cases h
 ·split at h
  ·obtain rfl:=awF h;exact⟨ha.kind,ha.src,ha.tgt,ha.cls,qp .or _ _,ha.cond⟩
  ·split at h
   ·obtain rfl:=awF h;exact⟨ha.kind,ha.src,JI ha.tgt hb.tgt,ha.cls,ha.perms,ha.cond⟩
   ·split at h
    ·obtain rfl:=awF h;exact⟨ha.kind,JI ha.src hb.src,ha.tgt,ha.cls,ha.perms,ha.cond⟩
    ·cases h
theorem vw{α:Type}(J:α→α→Option α)(l:List α):(zu J l).length≤l.length:=by
 have key:∀ (n:Nat) (l:List α),(TR J n l).length≤l.length:=by
  intro n
  induction n with
  | zero=>exact fun l=>Nat.le_refl _
  | succ n ih=>
   intro l;unfold TR
   cases e:dN J l with
   | none=>exact Nat.le_refl _
   | some l'=>have:=lH J e;have:=ih l';show(TR J n l').length≤_;omega
 exact key _ l
theorem pW.rj{p:aA}(h:pW p):pW (fL p):={ h with rules:=fun r hr=>⟨(Cr (on:=fun _=>true) (fun r hr=>(h.rules r hr).1) fun _ _ _=>rfl).1 r hr,rY (J:=aC) (Q:=fun r=>r.oU) (fun _ _ _ ha hb h=>CH ha hb h) (fun r hr=>(h.rules r hr).2) r hr⟩ }
theorem aeH{p:aA}(h:p.Ok):(fL p).Ok:={ h with rules:=rY (J:=aC) (Q:=fun r=>r.oU) (fun _ _ _ ha hb h=>CH ha hb h) h.rules,lU:=awk (vw _ _) h.lU }
theorem aeG{p:aA}(h:nE p):nE (fL p):={ h with rules:=awk (vw _ _) h.rules }
theorem Vq{α:Type}{J:α→α→Option α}{l:List α}{i:Nat}{x:α}(hN:DK J (l.take i) (l.drop i))(hx:l[i]?=some x)(h:∀ j y,i<j→l[j]?=some y→J x y=none):DK J (l.take (i+1)) (l.drop (i+1)):=by
 obtain⟨hi,rfl⟩:=aws.1 hx;rw[List.take_add_one,awt hi];refine DK.append J ?_ ⟨fun y hy=>?_,trivial⟩
 ·rw[List.drop_eq_getElem_cons hi] at hN;exact hN
 ·obtain⟨j,hj⟩:=List.getElem?_of_mem (by simpa using hy:y∈l.drop (i+1));rw[List.getElem?_drop] at hj;exact h _ y (by omega) hj
theorem YL{α:Type}{J:α→α→Option α}{l:List α}{i k:Nat}{x y c:α}(hN:DK J (l.take i) (l.drop i))(hik:i<k)(hx:l[i]?=some x)(hy:l[k]?=some y)(h:∀ j z,i<j→j<k→l[j]?=some z→J x z=none)(hc:J x y=some c):dN J l=some ((l.take k++l.drop (k+1)).set i c):=by
 obtain⟨hi,rfl⟩:=aws.1 hx;obtain⟨hk,rfl⟩:=aws.1 hy;obtain⟨m,hm⟩:∃ m,m=(l.drop (i+1)).take (k-(i+1)):=⟨_,rfl⟩
 have e1:l.drop i=l[i]::(m++l[k]::l.drop (k+1)):=by
  rw[List.drop_eq_getElem_cons hi,hm,← List.drop_eq_getElem_cons hk];congr 1
  conv=>lhs;rw[← List.take_append_drop (k-(i+1)) (l.drop (i+1))]
  rw[List.drop_drop,show i+1+(k-(i+1))=k by omega]
 have e2:l=l.take i++l[i]::(m++l[k]::l.drop (k+1)):=by
  rw[← e1,List.take_append_drop]
 have e3:l.take k=l.take i++l[i]::m:=by
  have hk2:k=i+((k-(i+1))+1):=by omega
  conv=>lhs;rw[hk2,List.take_add,List.drop_eq_getElem_cons hi,List.take_succ_cons]
  rw[hm]
 have e4:(l.take k++l.drop (k+1)).set i c=l.take i++c::(m++l.drop (k+1)):=by
  rw[e3,List.append_assoc,List.cons_append,List.set_append_right _ _ (by rw[awB];omega),awB,Nat.min_eq_left (by omega),Nat.sub_self,List.set_cons_zero]
 rw[e4]
 conv=>lhs;rw[e2]
 refine JJ J ?_ (fun z hz=>?_) hc
 ·rw[← e1];exact hN
 ·rw[hm] at hz;obtain⟨j,hj⟩:=List.getElem?_of_mem hz;rw[List.getElem?_take] at hj;split at hj
  ·rw[List.getElem?_drop] at hj;exact h _ z (by omega) (by omega) hj
  ·cases hj
theorem yB:∀ (l:List aj) (k:Nat),(l.flatMap aj.cells).take (k*13)=(l.take k).flatMap aj.cells
 | [],k=>by simp
 | x::l,0=>by simp
 | x::l,k+1=>by
  rw[List.take_succ_cons,List.flatMap_cons,List.flatMap_cons,← yB l k,show(k+1)*13=x.cells.length+k*13 by show(k+1)*13=13+k*13;omega,List.take_length_add_append]
theorem yC:∀ (l:List aj) (k:Nat),(l.flatMap aj.cells).drop (k*13)=(l.drop k).flatMap aj.cells
 | [],k=>by simp
 | x::l,0=>by simp
 | x::l,k+1=>by
  rw[List.drop_succ_cons,List.flatMap_cons,← yC l k,show(k+1)*13=x.cells.length+k*13 by show(k+1)*13=13+k*13;omega,List.drop_length_add_append]
theorem Vk{l:List aj}{i k:Nat}{z:aj}(hik:i<k)(hk:k<l.length):(([]++(l.flatMap aj.cells).take (k*13))++(l.flatMap aj.cells).drop ((k+1)*13)).take (0+i*13)++z.cells++(([]++(l.flatMap aj.cells).take (k*13))++(l.flatMap aj.cells).drop ((k+1)*13)).drop (0+i*13+13)=((l.take k++l.drop (k+1)).set i z).flatMap aj.cells:=by
 rw[Nat.zero_add,List.nil_append,yB,yC,← awD,yB,show i*13+13=(i+1)*13 by omega,yC,List.set_eq_take_append_cons_drop,if_pos (by rw[awn,awB];omega),awD,List.flatMap_cons,List.append_assoc]
theorem Nd(w0:World)(v:Value)(l:List aj)(h:SliceAt w0 v 13 l.length (l.flatMap aj.cells))(hok:∀ r∈l,r.Ok)(hl:l.length≤1000):Calls Tryz.prog 86 #[v] w0 fun e w'=>∃ u,e=.returned u∧((match dN aC l with
 | some l'=>∃ x,u=.tuple #[x,.bool true]∧w'.ownsRow w0.heap.size 56 13 x l'.length (l'.flatMap aj.cells)
 | none=>u=.tuple #[v,.bool false])∧awp w0.heap.size w0 w'):=by
 obtain⟨a,c,rfl,hcl,-⟩:=SliceAt.form h (by decide);refine bP [] (fn:=Tryz.f86) Tryz.func86 rfl Tryz.ntmps86 rfl<|lr (ι:=Nat) (fun i=>[(4,.int .i64 (i:Int))]) (fun i _=>i≤l.length∧DK aC (l.take i) (l.drop i)) (fun i=>l.length-i) 0 (an ⟨⟨rfl,trivial⟩,fun M=>⟨M,awu _,trivial⟩⟩ ?_);intro i w M ⟨hi,hN⟩;refine an (fun h1=>?_) fun h1 M=>?_
 ·have hlt:i<l.length:=by simp at h1;omega
  obtain⟨x,hx⟩:∃ x,l[i]?=some x:=⟨_,awt hlt⟩;obtain⟨b,o,e1,hc1⟩:=SliceAt.elt h (fun _=>rfl) (by decide) hx hlt;subst e1;refine an (by omega)<|lr (ι:=Nat) (fun k=>[(5,.int .i64 (k:Int))]) (fun k _=>i<k∧k≤l.length∧∀ j y,i<j→j<k→l[j]?=some y→aC x y=none) (fun k=>l.length-k) (i+1) (an ⟨⟨rfl,trivial⟩,fun M=>⟨M,by omega,by omega,fun j y h1 h2=>absurd h1 (by omega)⟩⟩ ?_);intro k w M ⟨hk1,hk2,hne⟩;refine an (fun h2=>?_) fun h2=>an (by omega)<|bk (i+1) ⟨rfl,trivial⟩ (fun M=>⟨M,by omega,Vq hN hx fun j y h3 h4=>hne j y h3 (by have:=(aws.1 h4).1;simp at h2;omega) h4⟩) (by dsimp only;omega)
  have hlt2:k<l.length:=by simp at h2;omega
  obtain⟨y,hy⟩:∃ y,l[k]?=some y:=⟨_,awt hlt2⟩;obtain⟨_,_,e2,hc2⟩:=SliceAt.elt h (fun _=>rfl) (by decide) hy hlt2;cases e2;have hj:=fun w'=>Ry w' x y (hok x (awv hx)) (hok y (awv hy))
  obtain⟨z,hz⟩:∃ z,z=(aC x y).getD x:=⟨_,rfl⟩;obtain⟨s,hs⟩:∃ s,s=(aC x y).isSome:=⟨_,rfl⟩;rw[← hz,← hs] at hj;refine spk [(8,32,.tuple #[.agg #[.int .i64 z.kind,.int .u64 z.src.a,.int .u64 z.src.b,.int .u64 z.src.c,.int .u64 z.src.d,.int .u64 z.tgt.a,.int .u64 z.tgt.b,.int .u64 z.tgt.c,.int .u64 z.tgt.d,.bool z.self,.int .i64 z.cls,.int .u32 z.perms,.int .i64 z.cond],.bool s])] [0,1,2,3,4,5,6,7,9,10,11] (.alt (.step 8 (.step 12 (.step 13 (.step 14 .done)))) (.step 12 (.step 8 (.step 13 (.step 14 .done))))) [] (by rfl) (by kernel_rfl)<|ia<|an ⟨rfl,rfl,hlt⟩<|lc<|an (fun u hb=>bY hb hc1)<|ia<|an ⟨rfl,rfl,hlt2⟩<|lc<|an (fun u hb=>bY hb hc2)<|fun w3 pQ M3=>an (cl<|an (hj _) fun w4 M4=>an rfl<|an rfl<|ei<|an mP<|fun g w5 M5=>an rfl<|lb 0<|an ⟨rfl,rfl⟩ fun w6 M6=>an rfl<|an rfl<|?_) (ei<|an mP fun g w4 M4=>an rfl<|cl<|an (hj _) fun w5 M5=>an rfl<|an rfl<|lb 0<|an ⟨rfl,rfl⟩ fun w6 M6=>an rfl<|an rfl<|?_)
  all_goals
   refine an (fun h3=>?_) fun h3=>?_
   ·have hjz:aC x y=some z:=by
     rw[h3] at hs
     cases hj:aC x y with
     | none=>rw[hj] at hs;cases hs
     | some q=>rw[hj] at hz;rw[hz];rfl
    have e86:=YL hN hk1 hx hy hne hjz;refine sp [1,2,3,5,6,7,8] (.step 0 (.step 4 (.step 9 (.step 10 .done)))) [] (by kernel_rfl)<|ei (x:=.slice (some ⟨b,o,none⟩) k c)<|an (fun a w o ho hv=>E5 ho (dU hv) (fE hv) (by omega) (by omega) u30 qD)<|an (by omega)<|ei<|an (fun a w o ho hv=>SK (l:=k+1) ho (dU hv) (fE hv) (by omega) u30 qD)<|fun w7 XR M7=>fun g0 w8 M8=>an rfl<|Ej 0 (fun M=>M.vQ (k:=13)) rfl (SliceAt.hi (h.keep M8.below) (by omega)) ⟨by unfold maxLen;omega,by omega⟩ fun va vc w9 M9=>an rfl<|Ej 0 id rfl (SliceAt.lo (h.keep M9.below) (by omega)) ⟨by unfold maxLen;omega,by omega⟩ fun va vc qq jZ=>an rfl<|an rfl<|?_
    obtain⟨g9,c9,e9⟩:=jZ.own 0 rfl (by omega);cases e9
    exact lb 0<|an rfl<|ia<|an ⟨rfl,rfl,by omega⟩<|sr 0 i ⟨rfl,by show 0+i*13=i*13;omega,by omega⟩ rfl fun zS M11=>fun M=>⟨_,rfl,by rw[e86];exact⟨_,rfl,by
     have h5:=M.r 0 rfl;rw[← Vk hk1 hlt2,show((l.take k++l.drop (k+1)).set i z).length=0+k+(l.length-(k+1)) by rw[List.length_set,awn,awB,List.length_drop];omega];exact h5⟩,M.below⟩
   ·exact an (by omega)<|bk (k+1) ⟨rfl,trivial⟩ (fun M=>⟨M.only (.cons _ (.refl _)) (.refl _),by omega,by omega,fun j y' h4 h5 h6=>by
     by_cases hjk:j=k
     ·subst hjk;obtain rfl:y=y':=awF (hy.symm.trans h6);rw[h3] at hs;exact Option.isSome_eq_false_iff.1 hs.symm |> Option.isNone_iff_eq_none.1
     ·exact hne j y' h4 (by omega) h6⟩) (by dsimp only;omega)
 ·have hN2:dN aC l=none:=Cq aC (by
   obtain rfl:i=l.length:=by simp at h1;omega
   simpa using hN)
  exact⟨_,rfl,by rw[hN2];rfl,M.below⟩
theorem Rp(S:World→Prop)(w0:World)(c0 c1 c2 c3 c4 c5 c6 c7 c8 c9 aQ aL aK aP aO aN aM:Value)(p:aA)(hS:XF S c0 c1 c2 c3 c4 c5 c6 c7 c8 c9 aQ aL aK aP aO aN aM p)(h0:S w0)(hop:p.Ok)(hl:p.rules.length≤1000):Calls Tryz.prog 33 #[.agg #[c0,c1,c2,c3,c4,c5,c6,c7,c8,c9,aQ,aL,aK,aP,aO,aN,aM]] w0 fun r w'=>∃ v,r=.returned v∧(XG S w0 (fL p) v w'∧awp w0.heap.size w0 w'):=by
 obtain⟨es,vJ,he2,hK⟩:=hS;have hp:=(hK w0 h0).1;have hpr:=hp.rules;obtain⟨a0,a1,a2,a3,a4,a5,a6,a7,a8,a9,TV,OG,a12,XE,OE,OD,OC,k0,k1,k2,k3,k4,k5,k6,k7,k8,k9,k10,k11,k12,k13,k14,k15,k16,rfl,rfl,rfl,rfl,rfl,rfl,rfl,rfl,rfl,rfl,rfl,rfl,rfl,rfl,rfl,rfl,rfl⟩:=hp.open;refine bP [] (fn:=Tryz.f33) Tryz.func33 rfl Tryz.ntmps33 rfl<|fun g1 w1 M1=>ei<|an kE fun g2 w2 M2=>lp (ι:=Bool×List aj×Value×Bool) (fun(b,l,v,f)=>[(3,.bool b)]) (fun(b,l,v,f)=>_::(g1,39,#[.slice a0 p.classes.length k0,.slice a1 p.types.length k1,.slice a2 p.attrs.length k2,.slice a3 p.roles.length k3,.slice a4 p.users.length k4,.slice a5 p.bools.length k5,.slice a6 p.aW.length k6,.slice a7 p.cats.length k7,.slice a8 p.conds.length k8,v,.slice TV p.trans.length k10,.slice OG p.aS.length k11,.slice a12 p.ranges.length k12,.slice XE p.cons.length k13,.slice OE p.bL.length k14,.slice OD p.files.length k15,.slice OC p.asserts.length k16])::[]) (fun(b,l,v,f)=>bif f then [⟨v,56,13,l.length,l.flatMap aj.cells⟩] else []) (fun(b,l,v,f) _=>(∃ a c,v=.slice a l.length c)∧(f=false→v=.slice a9 p.rules.length k9∧l=p.rules)∧zu aC l=zu aC p.rules∧(b=false→dN aC l=none)∧(∀ r∈l,r.Ok)∧l.length≤1000) (fun(b,l,v,f)=>bif b then l.length+1 else 0) (true,p.rules,.slice a9 p.rules.length k9,false) (an ⟨⟨rfl,trivial⟩,fun M=>⟨M,⟨_,_,rfl⟩,fun _=>⟨rfl,rfl⟩,rfl,fun h=>(by cases h),fun r hr=>⟨(hop.rules r hr).src,(hop.rules r hr).tgt⟩,hl⟩⟩ ?_)
 rintro⟨b,l,v,f⟩ w M ⟨⟨va,vc,rfl⟩,hv,hnf,zB,hok,hll⟩
 have hsl:∀ w' bs,aV w0.heap.size w0 w' bs (bif f then [⟨.slice va l.length vc,56,13,l.length,l.flatMap aj.cells⟩] else [])→SliceAt w' (.slice va l.length vc) 13 l.length (l.flatMap aj.cells):=fun w' bs M=>by
  cases f with
  | false=>obtain⟨e1,e2⟩:=hv rfl;rw[e1,e2];exact hpr.keep M.below
  | true=>exact SliceAt.bq (M.r 0 rfl) (dA fun _=>rfl)
 refine an (fun h=>?_) fun h=>?_
 ·refine lb 1<|an rfl<|cg<|an (Nd _ _ l (hsl _ _ M) hok hll) fun u w3 hR=>?_
  obtain⟨hm,hb⟩:=hR
  cases e:dN aC l with
  | none=>
   rw[e] at hm;replace hm:u=.tuple #[.slice va l.length vc,.bool false]:=hm;subst hm;refine⟨_,_,M.keep hb,lb 1<|an ⟨rfl,rfl⟩ fun w4 M4=>bk (false,l,.slice va l.length vc,f) ⟨rfl,trivial⟩ (fun M=>⟨M,⟨_,_,rfl⟩,hv,hnf,fun _=>e,hok,hll⟩) ?_⟩;subst h;exact Nat.succ_pos _
  | some l'=>
   rw[e] at hm;obtain⟨x,rfl,ho⟩:=hm;obtain⟨xa,xc,rfl,-⟩:=fQ ho;have hlen:=lH aC e;refine⟨_,_,M.yu hb ho,lb 1<|an ⟨rfl,rfl⟩ fun w4 M4=>bk (true,l',.slice xa l'.length xc,true) ⟨rfl,trivial⟩ (fun M=>⟨M.only (.refl _) (.cons_cons _ (List.nil_sublist _)),⟨_,_,rfl⟩,fun h=>(by cases h),(Ct aC e).symm.trans hnf,fun h=>(by cases h),xJ (J:=aC) (Q:=fun r=>r.Ok) (fun _ _ _ ha hb h=>Gl ha hb h) hok e,by omega⟩) ?_⟩;subst h;dsimp only;show l'.length+1<l.length+1;omega
 ·have hE:=zB h;have hN:zu aC p.rules=l:=by rw[← hnf,JO aC hE]
  refine lb 1<|an rfl<|lb 0<|an ⟨rfl,rfl⟩ fun w5 M5=>ei (x:=0)<|an rfl fun M=>⟨_,rfl,⟨_,_,_,_,_,_,_,_,_,_,_,_,_,_,_,_,_,_,rfl,M.bC,es,vJ,he2,fun u ⟨hu,B,hT⟩=>⟨{ (hK u hu).1 with rules:=?_ },(hK u hu).2⟩⟩,M.below⟩
  show SliceAt _ _ 13 (zu aC p.rules).length ((zu aC p.rules).flatMap aj.cells);rw[hN]
  cases f with
  | false=>obtain⟨e1,e2⟩:=hv rfl;rw[e1,e2];exact(hK u hu).1.rules
  | true=>exact SliceAt.bq (hT.1 _ (awx ..)) (dA fun _=>rfl)
end Go.Proofs.YtdcofoaihmongaaGreat
namespace Go.Proofs.YtdcofoaihmongaaGreat
open Go Go.RowKit Go.Sort
theorem Rb(l:List (List UInt8)):(l.mergeSort fun x y=>decide (x≤y)).Pairwise fun x y=>x≤y:=by
 have h:=List.pairwise_mergeSort (le:=fun x y:List UInt8=>decide (x≤y)) (fun a b c h1 h2=>by
  simp only[decide_eq_true_eq] at *
  exact List.le_trans h1 h2) (fun a b=>by
  simp only[Bool.or_eq_true,decide_eq_true_eq];exact List.le_total a b) l
 exact h.imp fun h=>of_decide_eq_true h
theorem Ef{l:List (List UInt8)}(hs:l.Pairwise fun x y=>x≤y):(Lib.compact l).Nodup:=by
 have hget:∀ i j (hi:i<l.length) (hj:j<l.length),i<j→l[i]≤l[j]:=fun i j hi hj h=>List.pairwise_iff_getElem.1 hs i j hi hj h
 have key:∀ m,m≤l.length→(Lib.compactUpTo l.toArray m).Nodup:=by
  intro m
  induction m with
  | zero=>intro _;exact List.nodup_nil
  | succ m ih=>
   intro hm;rw[Lib.compactUpTo_succ];by_cases hk:Lib.keeps l.toArray m=true
   ·rw[if_pos hk];refine List.nodup_append.2 ⟨ih (by omega),List.nodup_cons.2 ⟨by simp,List.nodup_nil⟩,?_⟩;intro x hx y hy e;rw[awm] at hy;subst hy;obtain⟨j,hj,hjx⟩:=(kI _ _ m).1 hx;have hk2:m=0∨l.toArray[m]!≠l.toArray[m-1]!:=of_decide_eq_true hk;rcases hk2 with h0|hne
    ·omega
    ·have g:∀ i (h:i<l.length),l.toArray[i]! = l[i]:=fun i h=>by rw[getElem!_pos l.toArray i (by simpa using h)];simp
     rw[g m (by omega)] at e hne;rw[g (m-1) (by omega)] at hne;rw[g j (by omega)] at hjx;refine hne (List.le_antisymm ?_ (hget (m-1) m (by omega) (by omega) (by omega)));rw[← e,← hjx];by_cases hjm:j=m-1
     ·subst hjm;exact List.le_refl _
     ·exact hget j (m-1) (by omega) (by omega) (by omega)
   ·rw[if_neg hk,List.append_nil];exact ih (by omega)
 exact key _ (Nat.le_refl _)
theorem Gf(e:ak):(cQ e).Nodup:=by
 unfold cQ mI;refine List.Pairwise.map Yc ?_ (Ef ?_)
 ·intro a b hne h;have h2:=congrArg dM h;exact hne (by simpa[dM,Yc] using h2)
 ·unfold uQ;rw[List.map_map]
  have:((l:List (List UInt8))→l.map (dM∘Yc)=l):=fun l=>by
   induction l with
   | nil=>rfl
   | cons a l ih=>rw[List.map_cons,ih];rfl
  rw[this];exact Rb _
theorem EN{e:ak}{l:List ByteArray}(h:∀ s∈bf e,s∈l):(cQ e).length≤l.length:=by
 have hs:cQ e ⊆ l:=fun s hs=>h s ((pJ e s).1 hs)
 exact List.Nodup.length_le_of_subset (Gf e) hs
end Go.Proofs.YtdcofoaihmongaaGreat

import Derived.ChangeKeysEq
import Derived.Deep.MidRow
import Derived.Laws.StructEq
import Derived.Lib.Hide
import Derived.Maps.RangeWalk
import Derived.Shelf.SlGeneric
import Derived.Shelf.SlSortCmp.Insertion
import Derived.Shelf.SlSortCmp.NoneTotal
import Derived.Shelf.SlSortCmp.WholeK
import Derived.Sort.Grow
import Derived.Sort.LotA
import Derived.Test.YtdcofoaihmongaaGreatProg
import Derived.WalkKit
import Derived.WalkSmall
import Derived.WalkSpells
import Derived.WideKeyMaps
import Derived.Test.YtdcofoaihmongaaGreatS5
open Bool renaming and_eq_true→ayr
open Go renaming cell_later→ayg
open Go.Lib renaming hid→ayb
open Go.RowKit renaming Below→ayp
open List renaming length_append→ax_,getElem?_eq_some_iff→aya,getElem?_eq_getElem→ayd,mem_of_getElem?→aye,length_map→ayh,mem_map→ayk,mem_append→ayl,mem_cons→aym,mem_cons_of_mem→ayn,take_length→ayo,mem_cons_self→ayq
open Nat renaming zero_le→ayc,le_trans→ayf
open Option.some renaming inj→ayj
open Prod.mk renaming inj→ayi
set_option maxRecDepth 100000
set_option maxHeartbeats 8000000
namespace Go.Proofs.YtdcofoaihmongaaGreat
open Go.RowKit
theorem WE{α}{a b:List α}(hl:a.length=b.length)(h:∀ i,i<a.length→a[i]?=b[i]?):a=b:=by
 refine List.ext_getElem? fun i=>?_
 by_cases hi:i<a.length
 ·exact h i hi
 ·rw[List.getElem?_eq_none (by omega),List.getElem?_eq_none (by omega)]
theorem zh{α}{f:α→List Value}{k:Nat}(hf:∀ x,(f x).length=k)(l:List α):(l.flatMap f).length=l.length*k:=by
 induction l with
 | nil=>simp
 | cons x l ih=>rw[List.flatMap_cons,ax_,hf,ih,List.length_cons,Nat.add_mul];omega
end Go.Proofs.YtdcofoaihmongaaGreat
namespace Go.Proofs.YtdcofoaihmongaaGreat
open Go Go.RowKit
section
variable {P:Program} {Q:Exit→Act→World→Prop} {a:Act} {w:World} {N:Nat} {l:Slots}
theorem rt3{fn:Func}{R:Ending→World→Prop}{s t r:Nat}{v u x:Value}(hr:fn.results=#[.tmp s,.tmp t,.tmp r])(F:Fs a N l)(hv:look s l=some v)(hu:look t l=some u)(hx:look r l=some x)(hR:R (.returned (.tuple #[v,u,x])) w):bodyPost P fn R .ret a w:=OI hr F.fr (F.g s hv) (F.g t hu) (F.g r hx) hR
theorem hr3(P:Program)(fn:Func)(R:Ending→World→Prop)(N s t r:Nat)(hr:fn.results=#[.tmp s,.tmp t,.tmp r])(a:Act)(w:World)(l:Slots)(v u x:Value)(F:Fs a N l)(hv:look s l=some v)(hu:look t l=some u)(hx:look r l=some x)(hR:R (.returned (.tuple #[v,u,x])) w):bodyPost P fn R .ret a w:=rt3 hr F hv hu hx hR
end
theorem u25:type_of% Tryz.underlying25:=Tryz.underlying25
theorem ah4:(Tryz.prog.info? 94).bind (·.zero)=some (.agg #[.int .i64 0,.int .i64 0,.int .i64 0,.int .i64 0,.int .u32 0,.int .u32 0,.int .u32 0]):=by kernel_rfl
theorem akG:Tryz.prog.eqGuardType Tryz.prog.depth 94=false:=by kernel_rfl
end Go.Proofs.YtdcofoaihmongaaGreat
namespace Go.Proofs.YtdcofoaihmongaaGreat
open Go Go.ChangeMaps Go.MapKept
open Go.Maps (Keyed)
variable {P:Program} {k:TypeId} {w:World} {b r:Nat} {D left:List (Value×Value)}
theorem dO.left_eq(h:dO w P k b r D left):w.rangeLeft b r=left.length:=by
 obtain⟨es,clock,since,seen,c0,hb,_,_,_,hr,_,_,_,hl⟩:=h;simp only[World.rangeLeft,hb,hr];simpa using hl.length_eq
variable {t e:TypeId}
end Go.Proofs.YtdcofoaihmongaaGreat
namespace Go.Proofs.YtdcofoaihmongaaGreat
open Go Go.WideMaps
section
variable {P:Program} (w:World) {ops:Array Oper} {rest:List Oper} {o:Oper} {a:Act} {Q:Exit→Act→World→Prop}
theorem zK(hg:o.guard=none)(m:Operand)(t:TypeId)(hop:o.op=Op.range t m)(k e:TypeId)(ht:P.underlying t=some (.map k e))(b:Nat)(D:List (Value×Value))(hm:a.eval m=.map (some b))(h:aV w P k b D)
 (hK:∀ w',dO w' P k b w.heap.size D D→w.grownBy w' none→w'.heap.size=w.heap.size+1→wpList P ops Q rest (a.put o.dst (.pointer (some ⟨w.heap.size,0,none⟩))) w') :
 wpList P ops Q (o::rest) a w:=by
 refine wpList_plain hg fun K' hK'=>?_
 obtain⟨w',hrun,r1,r2,r3⟩:=h.range ht;unfold Oper.wp;simp[execOp,hop,hm,hrun,Result.andThen];exact hK' _ _ (hK w' r1 r2 r3)
end
end Go.Proofs.YtdcofoaihmongaaGreat
namespace Go.Proofs.YtdcofoaihmongaaGreat
open Go Go.RowKit
theorem VI(a:List Nat):(ints a).length=a.length:=by simp[ints]
theorem Bu{w:World}{base:Nat}{e:TypeId}{k n:Nat}{v:Value}{xs:List Value}(h:w.ownsRow base e k v n xs):∃ a c,v=.slice a n c:=by
 rcases h.2 with⟨rfl,h0⟩|⟨g,cap,cur,rfl,_⟩
 ·exact⟨none,0,by simp_all⟩
 ·exact⟨_,_,rfl⟩
theorem Mw(a:List (Nat×Nat)):∀ u∈eE a,u.oneCell'=true:=by
 intro u hu;obtain⟨p,-,hp⟩:=List.mem_flatMap.1 hu;simp[yQ] at hp;rcases hp with rfl|rfl<;>rfl
theorem BD{w:World}{b b':Nat}{e:TypeId}{k n:Nat}{v:Value}{xs:List Value}(h:w.ownsRow b e k v n xs)(hb:b'≤b):w.ownsRow b' e k v n xs:=kT h hb
theorem Cj{w:World}{base n c:Nat}{a:Option Addr}{l:List Nat}(h:w.ownsRow base 3 1 (.slice a n c) n (ints l)){k y:Nat}(hk:l[k]?=some y):∃ g,a=some ⟨g,0,none⟩∧w.cell? ⟨g,k,none⟩=some (.int .i64 (y:Int)):=by
 have hl:=h.1;rw[VI] at hl;have hk0:k<l.length:=(aya.1 hk).1;rcases h.2 with⟨h1,h2⟩|⟨g,cap,cur,h1,_,hg,_,_,_,h3⟩
 ·omega
 ·injection h1 with e1 e2 e3;refine⟨g,e1,(Whole.cell (show Whole w g 3 cur from hg) k).trans ?_⟩;rw[← Array.getElem?_toList,← List.getElem?_take_of_lt (show k<n*1 by omega),h3];simp[ints,hk]
theorem FA{w:World}{base n c k:Nat}{e:TypeId}{a:Option Addr}{xs:List Value}(h:w.ownsRow base e k (.slice a n c) n xs):n≤c:=by
 rcases h.2 with⟨h1,h2⟩|⟨g,cap,cur,h1,_,_,h4,_⟩
 ·omega
 ·injection h1 with e1 e2 e3;omega
theorem Y3:iw (Tryz.prog.info? 111) 2 16=true:=by kernel_rfl
theorem Jw(w:World)(u v:Value)(t:TypeId):∀ j x,([u,v]:List Value)[j]?=some x→(w.alloc (.cells #[u,v] t)).cell? ((⟨w.heap.size,0,none⟩:Addr).add j)=some x:=fun j x hj=>by
 rw[Addr.add_lit,Nat.zero_add];exact((Whole.new w t #[u,v]).cell j).trans (by simpa using hj)
theorem UM(w:World)(r:aj)(hr:r.Ok):
 Calls Tryz.prog 59 #[.agg #[.int .i64 r.kind,.int .u64 r.src.a,.int .u64 r.src.b,.int .u64 r.src.c,.int .u64 r.src.d,.int .u64 r.tgt.a,.int .u64 r.tgt.b,.int .u64 r.tgt.c,.int .u64 r.tgt.d,.bool r.self,.int .i64 r.cls,.int .u32 r.perms,.int .i64 r.cond]] w fun e w'=>∃ v,e=.returned v∧w'.ownsRow w.heap.size 111 2 v r.pairs.length (eE r.pairs)∧Below w.heap.size w w':=by
 obtain⟨i0,z,hi,hz0,hz1,hz2,hzs⟩:=kG Y3;have HR:=ayb hr;clear hr;have HW0:=ayb (Whole.new w 56 #[.int .i64 r.kind,.int .u64 r.src.a,.int .u64 r.src.b,.int .u64 r.src.c,.int .u64 r.src.d,.int .u64 r.tgt.a,.int .u64 r.tgt.b,.int .u64 r.tgt.c,.int .u64 r.tgt.d,.bool r.self,.int .i64 r.cls,.int .u32 r.perms,.int .i64 r.cond]);have k1:(w.alloc (.cells #[.int .i64 r.kind,.int .u64 r.src.a,.int .u64 r.src.b,.int .u64 r.src.c,.int .u64 r.src.d,.int .u64 r.tgt.a,.int .u64 r.tgt.b,.int .u64 r.tgt.c,.int .u64 r.tgt.d,.bool r.self,.int .i64 r.cls,.int .u32 r.perms,.int .i64 r.cond] 56)).cell? ⟨w.heap.size,1,none⟩=some (.int .u64 r.src.a):=HW0.out.cell 1;have k2:(w.alloc (.cells #[.int .i64 r.kind,.int .u64 r.src.a,.int .u64 r.src.b,.int .u64 r.src.c,.int .u64 r.src.d,.int .u64 r.tgt.a,.int .u64 r.tgt.b,.int .u64 r.tgt.c,.int .u64 r.tgt.d,.bool r.self,.int .i64 r.cls,.int .u32 r.perms,.int .i64 r.cond] 56)).cell? ⟨w.heap.size,2,none⟩=some (.int .u64 r.src.b):=HW0.out.cell 2;have k3:(w.alloc (.cells #[.int .i64 r.kind,.int .u64 r.src.a,.int .u64 r.src.b,.int .u64 r.src.c,.int .u64 r.src.d,.int .u64 r.tgt.a,.int .u64 r.tgt.b,.int .u64 r.tgt.c,.int .u64 r.tgt.d,.bool r.self,.int .i64 r.cls,.int .u32 r.perms,.int .i64 r.cond] 56)).cell? ⟨w.heap.size,3,none⟩=some (.int .u64 r.src.c):=HW0.out.cell 3;have k4:(w.alloc (.cells #[.int .i64 r.kind,.int .u64 r.src.a,.int .u64 r.src.b,.int .u64 r.src.c,.int .u64 r.src.d,.int .u64 r.tgt.a,.int .u64 r.tgt.b,.int .u64 r.tgt.c,.int .u64 r.tgt.d,.bool r.self,.int .i64 r.cls,.int .u32 r.perms,.int .i64 r.cond] 56)).cell? ⟨w.heap.size,4,none⟩=some (.int .u64 r.src.d):=HW0.out.cell 4
 go_enter Tryz.func59,Tryz.ntmps59
 go_wp2_with (go_at_call 123;go_must (refine(ot _ r.src HR.out.src).mono ?_;rintro e w1 ⟨v1,rfl,hl1,hb1⟩;have HL0:=ayb hl1;have Qo:=ayb hb1;obtain⟨a1,c1,hv1⟩:=Bu hl1;subst hv1;clear hl1 hb1))
 clear k1 k2 k3 k4;obtain⟨n1,hn1⟩:∃ n,n=(elems r.src).length:=⟨_,rfl⟩;have HN1:=ayb hn1
 have HL1:Hid (w1.ownsRow w.heap.size 3 1 (.slice a1 n1 c1) n1 (ints (elems r.src))):=by
  have h:=HL0.out;rw[← hn1] at h;exact BD h (by simp)
 clear HL0;rw[← hn1];have HO1:=ayb (show Oe w r a1 c1 n1 [] (.slice none 0 0) w1 from⟨World.ownsRow_nil _ _ _ _,HL1.out,((Below.refl _ w).alloc (Nat.le_refl _) _).trans (Qo.out.mono (by simp)),Whole.under Qo.out HW0.out (by simp)⟩);have aqp:n1≤256:=by rw[hn1];exact dY _ _
 have hc1:=FA HL1.out;clear hn1 HL1 Qo HW0
 go_loopw [3,13] (fun u i wr=>∃ k:Nat,k≤n1∧i=.int .i64 k∧Oe w r a1 c1 n1 (r.bZ ((elems r.src).take k)) u wr) (fun _ i _=>n1-(intOf i).toNat)
 case atStart=>exact⟨0,ayc _,rfl,HO1.out⟩
 case round=>
  clear HO1;obtain⟨k,hk,rfl,hO⟩:=hrel;have HO:=ayb hO;clear hO;by_cases hlt:k<n1
  ·obtain⟨s,hs⟩:∃ s,(elems r.src)[k]?=some s:=⟨_,ayd (by have:=HN1.out;omega)⟩;obtain⟨g1,rfl,hcell⟩:=Cj HO.out.2.1 hs;have HS:=ayb hs
   have ama:s<256:=by
    have:=aye hs;simp[elems,cA] at this;exact this.1
   clear hs;have hP:=mQ r ((elems r.src).take k);have hP2:=List.length_take_le k (elems r.src);obtain⟨P,hPe⟩:∃ P,P=r.bZ ((elems r.src).take k):=⟨_,rfl⟩;rw[← hPe] at HO hP;have HPE:=ayb hPe;have hPl:P.length≤65536:=ayf hP (by omega);clear hPe hP hP2;have k5:wr.cell? ⟨w.heap.size,5,none⟩=some (.int .u64 r.tgt.a):=(show Hid (Whole wr w.heap.size 56 #[.int .i64 r.kind,.int .u64 r.src.a,.int .u64 r.src.b,.int .u64 r.src.c,.int .u64 r.src.d,.int .u64 r.tgt.a,.int .u64 r.tgt.b,.int .u64 r.tgt.c,.int .u64 r.tgt.d,.bool r.self,.int .i64 r.cls,.int .u32 r.perms,.int .i64 r.cond]) from HO.out.2.2.2).out.cell 5;have k6:wr.cell? ⟨w.heap.size,6,none⟩=some (.int .u64 r.tgt.b):=(show Hid (Whole wr w.heap.size 56 #[.int .i64 r.kind,.int .u64 r.src.a,.int .u64 r.src.b,.int .u64 r.src.c,.int .u64 r.src.d,.int .u64 r.tgt.a,.int .u64 r.tgt.b,.int .u64 r.tgt.c,.int .u64 r.tgt.d,.bool r.self,.int .i64 r.cls,.int .u32 r.perms,.int .i64 r.cond]) from HO.out.2.2.2).out.cell 6;have k7:wr.cell? ⟨w.heap.size,7,none⟩=some (.int .u64 r.tgt.c):=(show Hid (Whole wr w.heap.size 56 #[.int .i64 r.kind,.int .u64 r.src.a,.int .u64 r.src.b,.int .u64 r.src.c,.int .u64 r.src.d,.int .u64 r.tgt.a,.int .u64 r.tgt.b,.int .u64 r.tgt.c,.int .u64 r.tgt.d,.bool r.self,.int .i64 r.cls,.int .u32 r.perms,.int .i64 r.cond]) from HO.out.2.2.2).out.cell 7;have k8:wr.cell? ⟨w.heap.size,8,none⟩=some (.int .u64 r.tgt.d):=(show Hid (Whole wr w.heap.size 56 #[.int .i64 r.kind,.int .u64 r.src.a,.int .u64 r.src.b,.int .u64 r.src.c,.int .u64 r.src.d,.int .u64 r.tgt.a,.int .u64 r.tgt.b,.int .u64 r.tgt.c,.int .u64 r.tgt.d,.bool r.self,.int .i64 r.cls,.int .u32 r.perms,.int .i64 r.cond]) from HO.out.2.2.2).out.cell 8;have k9:wr.cell? ⟨w.heap.size,9,none⟩=some (.bool r.self):=(show Hid (Whole wr w.heap.size 56 #[.int .i64 r.kind,.int .u64 r.src.a,.int .u64 r.src.b,.int .u64 r.src.c,.int .u64 r.src.d,.int .u64 r.tgt.a,.int .u64 r.tgt.b,.int .u64 r.tgt.c,.int .u64 r.tgt.d,.bool r.self,.int .i64 r.cls,.int .u32 r.perms,.int .i64 r.cond]) from HO.out.2.2.2).out.cell 9;by_cases hsf:r.self=true
   ·rw[hsf] at k9;have XA:=ayb hsf;clear hsf
    go_wp2_with (first|(refine aG rfl 54 _ _ rfl (wr.heap.size) 0 (.agg #[.int .u64 r.tgt.a,.int .u64 r.tgt.b,.int .u64 r.tgt.c,.int .u64 r.tgt.d]) rfl rfl 54 _ (Whole.new wr 54 _) (by simp[Value.cells]) cO rfl ?_;intro w2 S2 W2;rw[bp _ _ (by rfl)] at W2;have nL:=ayb (show Below wr.heap.size wr w2 from((Below.refl _ wr).alloc (Nat.le_refl _) _).trans (S2.below (Nat.le_refl _)));have HW2:=ayb (show Whole w2 wr.heap.size 54 #[.int .u64 r.tgt.a,.int .u64 r.tgt.b,.int .u64 r.tgt.c,.int .u64 r.tgt.d] from W2);have kz:w2.cell? ⟨w.heap.size,9,none⟩=some (.bool true):=ayg nL.out k9;clear S2 W2 k5 k6 k7 k8 k9)|(refine wpList_load_row rfl 54 _ rfl (wr.heap.size) rfl 54 _ (0,0) _ HW4.out Tryz.underlying54 rfl cO ?_)|(refine wpList_load_row rfl 54 _ rfl (wr.heap.size) rfl 54 _ (0,0) _ HW2.out Tryz.underlying54 rfl cO ?_)|(go_at_call 124;go_must (refine(IL w2 r.tgt HR.out.tgt (s:Int)).mono ?_;rintro e w3 ⟨rfl,sG⟩;have HB3:=ayb (nL.out.trans (sG.mono nL.out.size));have HW3:=ayb (Whole.under sG HW2.out HW2.out.lt);clear sG HW2 kz))|(refine aG rfl 54 _ _ rfl (wr.heap.size) 0 (.agg #[.int .u64 (r.tgt.with s).a,.int .u64 (r.tgt.with s).b,.int .u64 (r.tgt.with s).c,.int .u64 (r.tgt.with s).d]) rfl rfl 54 _ HW3.out (by simp[Value.cells]) cO rfl ?_;intro w4 S4 W4;rw[bp _ _ (by rfl)] at W4;have HB4:=ayb (HB3.out.trans (S4.below (Nat.le_refl _)));have HW4:=ayb (show Whole w4 wr.heap.size 54 #[.int .u64 (r.tgt.with s).a,.int .u64 (r.tgt.with s).b,.int .u64 (r.tgt.with s).c,.int .u64 (r.tgt.with s).d] from W4);clear S4 W4 HW3)|(go_at_call 123;go_must (refine(ot w4 (r.tgt.with s) (ay.zX HR.out.tgt _)).mono ?_;rintro e w5 ⟨v2,rfl,hl2,V8⟩;have XC:=ayb (HO.out.keep (HB4.out.trans (V8.mono HB4.out.size)));have Z9:=ayb (BD (b':=w.heap.size) hl2 (by have:=HO.out.2.2.1.size;have:=HB4.out.size;omega));obtain⟨a2,c2,hv2⟩:=Bu hl2;subst hv2;clear hl2 V8)))
    obtain⟨n2,hn2⟩:∃ n,n=(elems (r.tgt.with s)).length:=⟨_,rfl⟩;rw[← hn2] at Z9 ⊢;have HN2:=ayb hn2;have ajC:n2≤256:=by rw[hn2];exact dY _ _
    have hc2:=FA Z9.out;have HT:=ayb (show elems (r.tgts s)=elems (r.tgt.with s) by unfold aj.tgts;have hsf:=XA.out;simp[hsf]);clear hn2 XA
    go_loopw [3,27] (fun u i wq=>∃ q:Nat,q≤n2∧i=.int .i64 q∧InR w r (some ⟨g1,0,none⟩) c1 n1 a2 c2 n2 (elems (r.tgt.with s)) (P++((elems (r.tgt.with s)).take q).map fun t=>(s,t)) u wq) (fun _ i _=>n2-(intOf i).toNat)
    case atStart=>exact⟨0,ayc _,rfl,by simpa using(show InR w r (some ⟨g1,0,none⟩) c1 n1 a2 c2 n2 (elems (r.tgt.with s)) P _ w5 from⟨XC.out.1,XC.out.2.1,Z9.out,XC.out.2.2.1,XC.out.2.2.2⟩)⟩
    case round=>
     clear XC Z9;obtain⟨q,hq,rfl,hI⟩:=hrel;have HI:=ayb hI;clear hI;by_cases ajm:q<n2
     ·obtain⟨y,hy⟩:∃ y,(elems (r.tgt.with s))[q]?=some y:=⟨_,ayd (by have:=HN2.out;omega)⟩;obtain⟨g2,rfl,acX⟩:=Cj HI.out.2.2.1 hy;have HY:=ayb hy;clear hy;have hlp:(P++((elems (r.tgt.with s)).take q).map fun t=>(s,t)).length≤65536+q:=by rw[ax_,ayh];have:=List.length_take_le q (elems (r.tgt.with s));omega
      obtain⟨PQ,hPQ⟩:∃ PQ,PQ=P++((elems (r.tgt.with s)).take q).map fun t=>(s,t):=⟨_,rfl⟩
      rw[← hPQ] at HI hlp;have HPQ:=ayb hPQ;clear hPQ;have HII:=HI
      go_wp2_with (at_builtin;go_must (refine wpList_append_own _ rfl _ _ 109 rfl w.heap.size 111 i0 z 2 16 Tryz.underlying109 hi hz0 hz1 hz2 hzs (by decide) _ _ _ rfl (jD HI.out.1 _) ⟨wr.heap.size,0,none⟩ 1 1 [.int .i64 (s:Int),.int .i64 (y:Int)] rfl rfl (Jw _ _ _ _) ?c2 ?c3 ?c4 ?c5 ?_))
      case c2=>simp[Value.oneCell']
      case c3=>unfold maxLen;omega
      case c4=>omega
      case c5=>have:=HI.out.2.2.2.1.size;simp;omega
      intro v' w9 hown' hgrow hnil;have HN9:=ayb (HII.out.more (s:=s) (y:=y) hown' hgrow);clear hgrow hnil hown'
      go_wp2
      go_roundw
      case rel=>exact⟨q+1,by omega,by go_num,by rw[bn HY.out,List.map_append,← List.append_assoc,← HPQ.out];exact HN9.out⟩
      case measure=>simp[intOf];omega
     ·obtain rfl:q=n2:=by omega
      have HOO:=ayb (show Oe w r (some ⟨g1,0,none⟩) c1 n1 (r.bZ ((elems r.src).take (k+1))) _ wr by
       rw[bn HS.out,kS,← HPE.out,HT.out];have h:=HI.out;rw[List.take_of_length_le (by rw[HN2.out];exact Nat.le_refl _)] at h;exact⟨h.1,h.2.1,h.2.2.2.1,h.2.2.2.2⟩)
      go_wp2_with fail
      go_roundw
      case rel=>exact⟨k+1,by omega,by go_num,HOO.out⟩
      case measure=>simp[intOf];omega
   ·rw[Bool.eq_false_iff.2 hsf] at k9;have XA:=ayb hsf;clear hsf
    go_wp2_with (first|(refine aG rfl 54 _ _ rfl (wr.heap.size) 0 (.agg #[.int .u64 r.tgt.a,.int .u64 r.tgt.b,.int .u64 r.tgt.c,.int .u64 r.tgt.d]) rfl rfl 54 _ (Whole.new wr 54 _) (by simp[Value.cells]) cO rfl ?_;intro w2 S2 W2;rw[bp _ _ (by rfl)] at W2;have nL:=ayb (show Below wr.heap.size wr w2 from((Below.refl _ wr).alloc (Nat.le_refl _) _).trans (S2.below (Nat.le_refl _)));have HW2:=ayb (show Whole w2 wr.heap.size 54 #[.int .u64 r.tgt.a,.int .u64 r.tgt.b,.int .u64 r.tgt.c,.int .u64 r.tgt.d] from W2);have kz:w2.cell? ⟨w.heap.size,9,none⟩=some (.bool false):=ayg nL.out k9;clear S2 W2 k5 k6 k7 k8 k9)|(refine wpList_load_row rfl 54 _ rfl (wr.heap.size) rfl 54 _ (0,0) _ HW2.out Tryz.underlying54 rfl cO ?_)|(go_at_call 123;go_must (refine(ot w2 r.tgt HR.out.tgt).mono ?_;rintro e w5 ⟨v2,rfl,hl2,V8⟩;have XC:=ayb (HO.out.keep (nL.out.trans (V8.mono nL.out.size)));have Z9:=ayb (BD (b':=w.heap.size) hl2 (by have:=HO.out.2.2.1.size;have:=nL.out.size;omega));obtain⟨a2,c2,hv2⟩:=Bu hl2;subst hv2;clear hl2 V8 kz)))
    obtain⟨n2,hn2⟩:∃ n,n=(elems r.tgt).length:=⟨_,rfl⟩;rw[← hn2] at Z9 ⊢;have HN2:=ayb hn2;have ajC:n2≤256:=by rw[hn2];exact dY _ _
    have hc2:=FA Z9.out;have HT:=ayb (show elems (r.tgts s)=elems r.tgt by unfold aj.tgts;have hsf:=XA.out;simp[hsf]);clear hn2 XA
    go_loopw [3,27] (fun u i wq=>∃ q:Nat,q≤n2∧i=.int .i64 q∧InR w r (some ⟨g1,0,none⟩) c1 n1 a2 c2 n2 (elems r.tgt) (P++((elems r.tgt).take q).map fun t=>(s,t)) u wq) (fun _ i _=>n2-(intOf i).toNat)
    case atStart=>exact⟨0,ayc _,rfl,by simpa using(show InR w r (some ⟨g1,0,none⟩) c1 n1 a2 c2 n2 (elems r.tgt) P _ w5 from⟨XC.out.1,XC.out.2.1,Z9.out,XC.out.2.2.1,XC.out.2.2.2⟩)⟩
    case round=>
     clear XC Z9;obtain⟨q,hq,rfl,hI⟩:=hrel;have HI:=ayb hI;clear hI;by_cases ajm:q<n2
     ·obtain⟨y,hy⟩:∃ y,(elems r.tgt)[q]?=some y:=⟨_,ayd (by have:=HN2.out;omega)⟩;obtain⟨g2,rfl,acX⟩:=Cj HI.out.2.2.1 hy;have HY:=ayb hy;clear hy;have hlp:(P++((elems r.tgt).take q).map fun t=>(s,t)).length≤65536+q:=by rw[ax_,ayh];have:=List.length_take_le q (elems r.tgt);omega
      obtain⟨PQ,hPQ⟩:∃ PQ,PQ=P++((elems r.tgt).take q).map fun t=>(s,t):=⟨_,rfl⟩
      rw[← hPQ] at HI hlp;have HPQ:=ayb hPQ;clear hPQ;have HII:=HI
      go_wp2_with (at_builtin;go_must (refine wpList_append_own _ rfl _ _ 109 rfl w.heap.size 111 i0 z 2 16 Tryz.underlying109 hi hz0 hz1 hz2 hzs (by decide) _ _ _ rfl (jD HI.out.1 _) ⟨wr.heap.size,0,none⟩ 1 1 [.int .i64 (s:Int),.int .i64 (y:Int)] rfl rfl (Jw _ _ _ _) ?c2 ?c3 ?c4 ?c5 ?_))
      case c2=>simp[Value.oneCell']
      case c3=>unfold maxLen;omega
      case c4=>omega
      case c5=>have:=HI.out.2.2.2.1.size;simp;omega
      intro v' w9 hown' hgrow hnil;have HN9:=ayb (HII.out.more (s:=s) (y:=y) hown' hgrow);clear hgrow hnil hown'
      go_wp2
      go_roundw
      case rel=>exact⟨q+1,by omega,by go_num,by rw[bn HY.out,List.map_append,← List.append_assoc,← HPQ.out];exact HN9.out⟩
      case measure=>simp[intOf];omega
     ·obtain rfl:q=n2:=by omega
      have HOO:=ayb (show Oe w r (some ⟨g1,0,none⟩) c1 n1 (r.bZ ((elems r.src).take (k+1))) _ wr by
       rw[bn HS.out,kS,← HPE.out,HT.out];have h:=HI.out;rw[List.take_of_length_le (by rw[HN2.out];exact Nat.le_refl _)] at h;exact⟨h.1,h.2.1,h.2.2.2.1,h.2.2.2.2⟩)
      go_wp2_with fail
      go_roundw
      case rel=>exact⟨k+1,by omega,by go_num,HOO.out⟩
      case measure=>simp[intOf];omega
  ·obtain rfl:k=n1:=by omega
   go_wp2_with fail
   go_ret
   refine⟨_,rfl,?_,HO.out.2.2.1⟩;have h:=HO.out.1;rw[List.take_of_length_le (by rw[HN1.out];exact Nat.le_refl _)] at h;exact h
end Go.Proofs.YtdcofoaihmongaaGreat
namespace Go.Proofs.YtdcofoaihmongaaGreat
open Go Go.RowKit Go.WideMaps
theorem fA(x:aj):x.cells.length=13:=rfl
theorem eqi(d:Nat)(a b:Int)(w:World):(Op.equalIn (d+1) 3 (.int .i64 a) (.int .i64 b)).run Tryz.prog w=.ok (decide (a=b)) w:=by
 by_cases h:a=b<;>simp[Op.equalIn,run_underlying Tryz.underlying3,h]
theorem equ(d:Nat)(a b:Int)(w:World):(Op.equalIn (d+1) 50 (.int .u32 a) (.int .u32 b)).run Tryz.prog w=.ok (decide (a=b)) w:=by
 by_cases h:a=b<;>simp[Op.equalIn,run_underlying Tryz.underlying50,h]
theorem ZE(a b:Int)(w:World):(Op.equalIn 9999 3 (.int .i64 a) (.int .i64 b)).run Tryz.prog w=.ok (decide (a=b)) w:=eqi 9998 a b w
theorem Sv(a b:Int)(w:World):(Op.equalIn 9999 50 (.int .u32 a) (.int .u32 b)).run Tryz.prog w=.ok (decide (a=b)) w:=equ 9998 a b w
theorem WG(x y:aS)(w:World):(Op.equalIn 10000 94 (.agg #[.int .i64 x.src,.int .i64 x.tgt,.int .i64 x.cls,.int .i64 x.cond,.int .u32 x.allow,.int .u32 x.bq,.int .u32 x.dont]) (.agg #[.int .i64 y.src,.int .i64 y.tgt,.int .i64 y.cls,.int .i64 y.cond,.int .u32 y.allow,.int .u32 y.bq,.int .u32 y.dont])).run Tryz.prog w=.ok (([decide (x.src=y.src),decide (x.tgt=y.tgt),decide (x.cls=y.cls),decide (x.cond=y.cond),decide (x.allow=y.allow),decide (x.bq=y.bq),decide (x.dont=y.dont)]:List Bool).all id) w:=by
 have hf:(Tryz.prog.fieldsOf 94).toList.map (fun f=>(f.type,f.offset))=[(3,0),(3,1),(3,2),(3,3),(50,4),(50,5),(50,6)]:=by kernel_rfl
 rw[run_equalIn_agg w 9999 94 _ _ (by kernel_rfl) (by kernel_rfl)];refine cM _ _ (by kernel_rfl) (by kernel_rfl) fun i f r hi hr=>?_
 have hm:=congrArg (fun z:List (Nat×Nat)=>z[i]?) hf;simp only[List.getElem?_map,hi,Option.map_some] at hm;have hlt:i<7:=(aya.1 hr).1
 match i,hlt with
 | 0,_=>
  obtain⟨h1,h2⟩:=ayi (ayj hm);obtain rfl:=ayj hr;rw[h1,h2];exact⟨.int .i64 x.src,.int .i64 y.src,by kernel_rfl,by kernel_rfl,ZE _ _ _⟩
 | 1,_=>
  obtain⟨h1,h2⟩:=ayi (ayj hm);obtain rfl:=ayj hr;rw[h1,h2];exact⟨.int .i64 x.tgt,.int .i64 y.tgt,by kernel_rfl,by kernel_rfl,ZE _ _ _⟩
 | 2,_=>
  obtain⟨h1,h2⟩:=ayi (ayj hm);obtain rfl:=ayj hr;rw[h1,h2];exact⟨.int .i64 x.cls,.int .i64 y.cls,by kernel_rfl,by kernel_rfl,ZE _ _ _⟩
 | 3,_=>
  obtain⟨h1,h2⟩:=ayi (ayj hm);obtain rfl:=ayj hr;rw[h1,h2];exact⟨.int .i64 x.cond,.int .i64 y.cond,by kernel_rfl,by kernel_rfl,ZE _ _ _⟩
 | 4,_=>
  obtain⟨h1,h2⟩:=ayi (ayj hm);obtain rfl:=ayj hr;rw[h1,h2];exact⟨.int .u32 x.allow,.int .u32 y.allow,by kernel_rfl,by kernel_rfl,Sv _ _ _⟩
 | 5,_=>
  obtain⟨h1,h2⟩:=ayi (ayj hm);obtain rfl:=ayj hr;rw[h1,h2];exact⟨.int .u32 x.bq,.int .u32 y.bq,by kernel_rfl,by kernel_rfl,Sv _ _ _⟩
 | 6,_=>
  obtain⟨h1,h2⟩:=ayi (ayj hm);obtain rfl:=ayj hr;rw[h1,h2];exact⟨.int .u32 x.dont,.int .u32 y.dont,by kernel_rfl,by kernel_rfl,Sv _ _ _⟩
end Go.Proofs.YtdcofoaihmongaaGreat
namespace Go.Proofs.YtdcofoaihmongaaGreat
open Go Go.RowKit
theorem BH:∀ {l:List Int} {k:Nat},(∀ j,j<k→l[j]?=some 0)→YG l=YG (l.drop k)
 | _,0,_=>rfl
 | [],k+1,h=>by simp
 | x::l,k+1,h=>by
  have h0:=h 0 (by omega);simp at h0;subst h0;rw[List.drop_succ_cons,← BH (l:=l) (k:=k) fun j hj=>by have:=h (j+1) (by omega);simpa using this];simp[YG]
theorem SI(w:World)(a b:Int)(h:a<b):Calls Tryz.prog 210 #[.int .i64 a,.int .i64 b] w fun e w'=>e=.returned (.int .i64 (-1))∧w=w':=by
 go_enter Tryz.func210,Tryz.ntmps210
 go_wp2
 go_ret
 exact⟨rfl,rfl⟩
theorem SH(w:World)(a b:Int)(h:b<a):Calls Tryz.prog 210 #[.int .i64 a,.int .i64 b] w fun e w'=>e=.returned (.int .i64 1)∧w=w':=by
 have h1:¬ a<b:=by omega
 go_enter Tryz.func210,Tryz.ntmps210
 go_wp2
 go_ret
 exact⟨rfl,rfl⟩
theorem SG(w:World)(a b:Int)(h:a=b):Calls Tryz.prog 210 #[.int .i64 a,.int .i64 b] w fun e w'=>e=.returned (.int .i64 0)∧w=w':=by
 subst h
 go_enter Tryz.func210,Tryz.ntmps210
 go_wp2
 go_ret
 exact⟨rfl,rfl⟩
theorem mZ(w:World)(a b:Int):Calls Tryz.prog 210 #[.int .i64 a,.int .i64 b] w fun e w'=>e=.returned (.int .i64 (gX a b))∧w=w':=by
 unfold gX;by_cases h:a<b
 ·rw[if_pos h];exact SI w a b h
 ·rw[if_neg h];by_cases h1:b<a
  ·rw[if_pos h1];exact SH w a b h1
  ·rw[if_neg h1];exact SG w a b (by omega)
theorem ab4(w:World)(v:Value)(l:List Int)(h:SliceAt w v 1 l.length (l.map iH)):Calls Tryz.prog 209 #[v] w fun e w'=>e=.returned (.int .i64 (YG l))∧w=w':=by
 obtain⟨a,c,rfl,hac,xI,HA⟩:=h.form (by decide);have H1:=ayb HA;clear HA h;obtain⟨N,hN⟩:∃ N,N=l.length:=⟨_,rfl⟩;rw[← hN] at H1 hac xI ⊢;have HN:=ayb hN;clear hN
 go_enter Tryz.func209,Tryz.ntmps209
 go_wp2
 go_loop [8] (fun i=>∃ n:Nat,n≤N∧i=.int .i64 n∧Hid (∀ j,j<n→l[j]?=some 0)) (fun i=>N-(intOf i).toNat)
 case atStart=>exact⟨0,ayc _,rfl,fun j hj=>by omega⟩
 case round=>
  obtain⟨n,hn,rfl,hpre⟩:=hrel;by_cases hlt:n<N
  ·obtain⟨b,off,rfl,hc⟩:=H1.out n hlt;obtain⟨y,hy⟩:∃ y,l[n]?=some y:=⟨_,ayd (by have:=HN.out;omega)⟩;have c0:w.cell? ⟨b,off+n*1,none⟩=some (.int .i64 y):=hc 0 _ (by simp[hy,iH]);rw[Nat.mul_one] at c0;have HY:=ayb hy;clear hy hc;by_cases h0:y=0
   ·subst h0
    go_wp2
    go_round
    case rel=>exact⟨n+1,by omega,by go_num,fun j hj=>by
     by_cases hjn:j=n
     ·subst hjn;exact HY.out
     ·exact hpre.out j (by omega)⟩
    case measure=>simp[intOf];omega
   ·go_wp2
    go_ret
    refine⟨dG ?_,rfl⟩;rw[BH hpre.out];have hl:n<l.length:=by have:=HN.out;omega
    rw[List.drop_eq_getElem_cons hl];have e:l[n]=y:=ayj ((ayd hl).symm.trans HY.out);rw[e];simp[YG,h0]
  ·obtain rfl:n=N:=by omega
   go_wp2
   go_ret
   refine⟨dG ?_,rfl⟩;rw[BH hpre.out,List.drop_of_length_le (by rw[HN.out];exact Nat.le_refl _)];rfl
theorem UO{w:World}{g:Nat}{l:List Int}(hl:l.length≤100)(h:Whole w g 3 (l.map iH).toArray):SliceAt w (.slice (some ⟨g,0,none⟩) l.length l.length) 1 l.length (l.map iH):=by
 refine⟨by simp,by unfold maxLen;omega,fun u hu=>?_,.inr ⟨_,_,rfl,Nat.le_refl _,fun j u hj=>?_⟩⟩
 ·obtain⟨x,-,rfl⟩:=ayk.1 hu;rfl
 ·rw[Addr.add_lit,Nat.zero_add];exact(h.cell j).trans (by rw[← Array.getElem?_toList];exact hj)
theorem N5(w:World)(x y:aS):Calls Tryz.prog 126 #[.agg #[.int .i64 x.src,.int .i64 x.tgt,.int .i64 x.cls,.int .i64 x.cond,.int .u32 x.allow,.int .u32 x.bq,.int .u32 x.dont],.agg #[.int .i64 y.src,.int .i64 y.tgt,.int .i64 y.cls,.int .i64 y.cond,.int .u32 y.allow,.int .u32 y.bq,.int .u32 y.dont]] w fun e w'=>e=.returned (.int .i64 (gY x y))∧iz w w':=by
 unfold gY;obtain⟨wo,bP⟩:∃ wo,wo=(w.alloc (.cells #[.int .i64 x.src,.int .i64 x.tgt,.int .i64 x.cls,.int .i64 x.cond,.int .u32 x.allow,.int .u32 x.bq,.int .u32 x.dont] 94)).alloc (.cells #[.int .i64 y.src,.int .i64 y.tgt,.int .i64 y.cls,.int .i64 y.cond,.int .u32 y.allow,.int .u32 y.bq,.int .u32 y.dont] 94):=⟨_,rfl⟩;have HX:=ayb (show Whole wo w.heap.size 94 #[.int .i64 x.src,.int .i64 x.tgt,.int .i64 x.cls,.int .i64 x.cond,.int .u32 x.allow,.int .u32 x.bq,.int .u32 x.dont] by rw[bP];exact(Whole.new w 94 #[.int .i64 x.src,.int .i64 x.tgt,.int .i64 x.cls,.int .i64 x.cond,.int .u32 x.allow,.int .u32 x.bq,.int .u32 x.dont]).alloc _);have HY:=ayb (show Whole wo (w.heap.size+1) 94 #[.int .i64 y.src,.int .i64 y.tgt,.int .i64 y.cls,.int .i64 y.cond,.int .u32 y.allow,.int .u32 y.bq,.int .u32 y.dont] by rw[bP];exact dh w _ #[.int .i64 y.src,.int .i64 y.tgt,.int .i64 y.cls,.int .i64 y.cond,.int .u32 y.allow,.int .u32 y.bq,.int .u32 y.dont] _);have HG:=ayb (show iz w wo by rw[bP];exact((iz.refl w).alloc _).alloc _)
 go_enter Tryz.func126,Tryz.ntmps126
 go_upto_region 1 with(fail)
 rw[← bP];clear bP;refine dP (fun w w'=>Below w.heap.size w w') [some 5,some 6,some 7,some 8,some 9,some 10,some 11,some 12,some 13,some 14,some 15,some 16,some 17,some 18,some 19,some 20,some 21,some 22,some 23,some 24,some 25,some 26] [bI (.pointer (some ⟨w.heap.size,0,none⟩)),bI (.int .i64 x.src),bI (.pointer (some ⟨w.heap.size+1,0,none⟩)),bI (.int .i64 y.src),bI (.int .i64 (gX x.src y.src)),bI (.pointer (some ⟨w.heap.size,1,none⟩)),bI (.int .i64 x.tgt),bI (.pointer (some ⟨w.heap.size+1,1,none⟩)),bI (.int .i64 y.tgt),bI (.int .i64 (gX x.tgt y.tgt)),bI (.pointer (some ⟨w.heap.size,2,none⟩)),bI (.int .i64 x.cls),bI (.pointer (some ⟨w.heap.size+1,2,none⟩)),bI (.int .i64 y.cls),bI (.int .i64 (gX x.cls y.cls)),bI (.pointer (some ⟨w.heap.size,3,none⟩)),bI (.int .i64 x.cond),bI (.pointer (some ⟨w.heap.size+1,3,none⟩)),bI (.int .i64 y.cond),bI (.int .i64 (gX x.cond y.cond)),fun u w'=>∃ g,u=.slice (some ⟨g,0,none⟩) 4 4∧Whole w' g 3 #[.int .i64 (gX x.src y.src),.int .i64 (gX x.tgt y.tgt),.int .i64 (gX x.cls y.cls),.int .i64 (gX x.cond y.cond)],bI (.int .i64 (YG [gX x.src y.src,gX x.tgt y.tgt,gX x.cls y.cls,gX x.cond y.cond]))] (fun _ w'=>iz wo w') 22 (by kernel_rfl) (by kernel_rfl) (by kernel_rfl) rfl (by decide) rfl rfl ((iz.refl _).drew) ⟨ak _,ak _,ak _,ak _,ak _,ak _,ak _,ak _,ak _,ak _,ak _,ak _,ak _,ak _,ak _,ak _,ak _,ak _,ak _,ak _,(fun u wa wb ⟨g,h1,h2⟩ hb=>⟨g,h1,Whole.under hb h2 h2.lt⟩),ak _,trivial⟩ ⟨(fun _=>aq _),(fun _=>aq _),(fun _=>aq _),(fun _=>aq _),(fun _=>aq _),(fun _=>aq _),(fun _=>aq _),(fun _=>aq _),(fun _=>aq _),(fun _=>aq _),(fun _=>aq _),(fun _=>aq _),(fun _=>aq _),(fun _=>aq _),(fun _=>aq _),(fun _=>aq _),(fun _=>aq _),(fun _=>aq _),(fun _=>aq _),(fun _=>aq _),(fun _=>(fun u wa wb ⟨g,h1,h2⟩ hb=>⟨g,h1,Whole.under hb h2 h2.lt⟩)),(fun _=>aq _),trivial⟩ ⟨?_,?_,?_,?_,?_,?_,?_,?_,?_,?_,?_,?_,?_,?_,?_,?_,?_,?_,?_,?_,?_,?_,?_⟩
 ·intro L a wx Q' hL hi H F hK
  try dsimp only at hi
  have h2:a.tmps[2]?=some (.pointer (some ⟨w.heap.size,0,none⟩)):=F 2 rfl;have HI:=ayb hi;clear H F hi hL
  go_wp2_with fail
  exact hK _ _ (Below.refl _ _) HI.out rfl
 ·intro L a wx Q' hL hi H F hK
  try dsimp only at hi
  obtain⟨_,h5,rfl⟩:=H 0 ⟨.data,by simp,rfl⟩ _ rfl;replace h5:=h5 _ rfl;have HI:=ayb hi;clear H F hi hL;have RS:wx.cell? ⟨w.heap.size,0,none⟩=some (.int .i64 x.src):=(Whole.under HI.out.below HX.out HX.out.lt).cell 0
  go_wp2_with fail
  exact hK _ _ (Below.refl _ _) HI.out rfl
 ·intro L a wx Q' hL hi H F hK
  try dsimp only at hi
  have h3:a.tmps[3]?=some (.pointer (some ⟨w.heap.size+1,0,none⟩)):=F 3 rfl;have HI:=ayb hi;clear H F hi hL
  go_wp2_with fail
  exact hK _ _ (Below.refl _ _) HI.out rfl
 ·intro L a wx Q' hL hi H F hK
  try dsimp only at hi
  obtain⟨_,h7,rfl⟩:=H 2 ⟨.data,by simp,rfl⟩ _ rfl;replace h7:=h7 _ rfl;have HI:=ayb hi;clear H F hi hL;have RS:wx.cell? ⟨w.heap.size+1,0,none⟩=some (.int .i64 y.src):=(Whole.under HI.out.below HY.out HY.out.lt).cell 0
  go_wp2_with fail
  exact hK _ _ (Below.refl _ _) HI.out rfl
 ·intro L a wx Q' hL hi H F hK
  try dsimp only at hi
  obtain⟨_,h6,rfl⟩:=H 1 ⟨.data,by simp,rfl⟩ _ rfl;replace h6:=h6 _ rfl;obtain⟨_,h8,rfl⟩:=H 3 ⟨.data,by simp,rfl⟩ _ rfl;replace h8:=h8 _ rfl;have HI:=ayb hi;clear H F hi hL
  go_wp2_with (go_at_call 210;go_must (refine(mZ _ _ _).mono ?_;rintro e w1 ⟨rfl,rfl⟩))
  exact hK _ _ (Below.refl _ _) HI.out rfl
 ·intro L a wx Q' hL hi H F hK
  try dsimp only at hi
  have h2:a.tmps[2]?=some (.pointer (some ⟨w.heap.size,0,none⟩)):=F 2 rfl;have HI:=ayb hi;clear H F hi hL
  go_wp2_with fail
  exact hK _ _ (Below.refl _ _) HI.out rfl
 ·intro L a wx Q' hL hi H F hK
  try dsimp only at hi
  obtain⟨_,Le,rfl⟩:=H 5 ⟨.data,by simp,rfl⟩ _ rfl;replace Le:=Le _ rfl;have HI:=ayb hi;clear H F hi hL;have RS:wx.cell? ⟨w.heap.size,1,none⟩=some (.int .i64 x.tgt):=(Whole.under HI.out.below HX.out HX.out.lt).cell 1
  go_wp2_with fail
  exact hK _ _ (Below.refl _ _) HI.out rfl
 ·intro L a wx Q' hL hi H F hK
  try dsimp only at hi
  have h3:a.tmps[3]?=some (.pointer (some ⟨w.heap.size+1,0,none⟩)):=F 3 rfl;have HI:=ayb hi;clear H F hi hL
  go_wp2_with fail
  exact hK _ _ (Below.refl _ _) HI.out rfl
 ·intro L a wx Q' hL hi H F hK
  try dsimp only at hi
  obtain⟨_,h12,rfl⟩:=H 7 ⟨.data,by simp,rfl⟩ _ rfl;replace h12:=h12 _ rfl;have HI:=ayb hi;clear H F hi hL;have RS:wx.cell? ⟨w.heap.size+1,1,none⟩=some (.int .i64 y.tgt):=(Whole.under HI.out.below HY.out HY.out.lt).cell 1
  go_wp2_with fail
  exact hK _ _ (Below.refl _ _) HI.out rfl
 ·intro L a wx Q' hL hi H F hK
  try dsimp only at hi
  obtain⟨_,nF,rfl⟩:=H 6 ⟨.data,by simp,rfl⟩ _ rfl;replace nF:=nF _ rfl;obtain⟨_,EH,rfl⟩:=H 8 ⟨.data,by simp,rfl⟩ _ rfl;replace EH:=EH _ rfl;have HI:=ayb hi;clear H F hi hL
  go_wp2_with (go_at_call 210;go_must (refine(mZ _ _ _).mono ?_;rintro e w1 ⟨rfl,rfl⟩))
  exact hK _ _ (Below.refl _ _) HI.out rfl
 ·intro L a wx Q' hL hi H F hK
  try dsimp only at hi
  have h2:a.tmps[2]?=some (.pointer (some ⟨w.heap.size,0,none⟩)):=F 2 rfl;have HI:=ayb hi;clear H F hi hL
  go_wp2_with fail
  exact hK _ _ (Below.refl _ _) HI.out rfl
 ·intro L a wx Q' hL hi H F hK
  try dsimp only at hi
  obtain⟨_,Cw,rfl⟩:=H 10 ⟨.data,by simp,rfl⟩ _ rfl;replace Cw:=Cw _ rfl;have HI:=ayb hi;clear H F hi hL;have RS:wx.cell? ⟨w.heap.size,2,none⟩=some (.int .i64 x.cls):=(Whole.under HI.out.below HX.out HX.out.lt).cell 2
  go_wp2_with fail
  exact hK _ _ (Below.refl _ _) HI.out rfl
 ·intro L a wx Q' hL hi H F hK
  try dsimp only at hi
  have h3:a.tmps[3]?=some (.pointer (some ⟨w.heap.size+1,0,none⟩)):=F 3 rfl;have HI:=ayb hi;clear H F hi hL
  go_wp2_with fail
  exact hK _ _ (Below.refl _ _) HI.out rfl
 ·intro L a wx Q' hL hi H F hK
  try dsimp only at hi
  obtain⟨_,NI,rfl⟩:=H 12 ⟨.data,by simp,rfl⟩ _ rfl;replace NI:=NI _ rfl;have HI:=ayb hi;clear H F hi hL;have RS:wx.cell? ⟨w.heap.size+1,2,none⟩=some (.int .i64 y.cls):=(Whole.under HI.out.below HY.out HY.out.lt).cell 2
  go_wp2_with fail
  exact hK _ _ (Below.refl _ _) HI.out rfl
 ·intro L a wx Q' hL hi H F hK
  try dsimp only at hi
  obtain⟨_,Cv,rfl⟩:=H 11 ⟨.data,by simp,rfl⟩ _ rfl;replace Cv:=Cv _ rfl;obtain⟨_,NH,rfl⟩:=H 13 ⟨.data,by simp,rfl⟩ _ rfl;replace NH:=NH _ rfl;have HI:=ayb hi;clear H F hi hL
  go_wp2_with (go_at_call 210;go_must (refine(mZ _ _ _).mono ?_;rintro e w1 ⟨rfl,rfl⟩))
  exact hK _ _ (Below.refl _ _) HI.out rfl
 ·intro L a wx Q' hL hi H F hK
  try dsimp only at hi
  have h2:a.tmps[2]?=some (.pointer (some ⟨w.heap.size,0,none⟩)):=F 2 rfl;have HI:=ayb hi;clear H F hi hL
  go_wp2_with fail
  exact hK _ _ (Below.refl _ _) HI.out rfl
 ·intro L a wx Q' hL hi H F hK
  try dsimp only at hi
  obtain⟨_,h20,rfl⟩:=H 15 ⟨.data,by simp,rfl⟩ _ rfl;replace h20:=h20 _ rfl;have HI:=ayb hi;clear H F hi hL;have RS:wx.cell? ⟨w.heap.size,3,none⟩=some (.int .i64 x.cond):=(Whole.under HI.out.below HX.out HX.out.lt).cell 3
  go_wp2_with fail
  exact hK _ _ (Below.refl _ _) HI.out rfl
 ·intro L a wx Q' hL hi H F hK
  try dsimp only at hi
  have h3:a.tmps[3]?=some (.pointer (some ⟨w.heap.size+1,0,none⟩)):=F 3 rfl;have HI:=ayb hi;clear H F hi hL
  go_wp2_with fail
  exact hK _ _ (Below.refl _ _) HI.out rfl
 ·intro L a wx Q' hL hi H F hK
  try dsimp only at hi
  obtain⟨_,h22,rfl⟩:=H 17 ⟨.data,by simp,rfl⟩ _ rfl;replace h22:=h22 _ rfl;have HI:=ayb hi;clear H F hi hL;have RS:wx.cell? ⟨w.heap.size+1,3,none⟩=some (.int .i64 y.cond):=(Whole.under HI.out.below HY.out HY.out.lt).cell 3
  go_wp2_with fail
  exact hK _ _ (Below.refl _ _) HI.out rfl
 ·intro L a wx Q' hL hi H F hK
  try dsimp only at hi
  obtain⟨_,h21,rfl⟩:=H 16 ⟨.data,by simp,rfl⟩ _ rfl;replace h21:=h21 _ rfl;obtain⟨_,h23,rfl⟩:=H 18 ⟨.data,by simp,rfl⟩ _ rfl;replace h23:=h23 _ rfl;have HI:=ayb hi;clear H F hi hL
  go_wp2_with (go_at_call 210;go_must (refine(mZ _ _ _).mono ?_;rintro e w1 ⟨rfl,rfl⟩))
  exact hK _ _ (Below.refl _ _) HI.out rfl
 ·intro L a wx Q' hL hi H F hK
  try dsimp only at hi
  obtain⟨_,h9,rfl⟩:=H 4 ⟨.data,by simp,rfl⟩ _ rfl;replace h9:=h9 _ rfl;obtain⟨_,F4,rfl⟩:=H 9 ⟨.data,by simp,rfl⟩ _ rfl;replace F4:=F4 _ rfl;obtain⟨_,h19,rfl⟩:=H 14 ⟨.data,by simp,rfl⟩ _ rfl;replace h19:=h19 _ rfl;obtain⟨_,h24,rfl⟩:=H 19 ⟨.data,by simp,rfl⟩ _ rfl;replace h24:=h24 _ rfl;have HI:=ayb hi;clear H F hi hL
  go_wp2_with fail
  have hb:=(Below.refl wx.heap.size wx).alloc (Nat.le_refl _) (.cells #[.int .i64 (gX x.src y.src),.int .i64 (gX x.tgt y.tgt),.int .i64 (gX x.cls y.cls),.int .i64 (gX x.cond y.cond)] 3);exact hK _ _ hb (HI.out.alloc _) ⟨wx.heap.size,rfl,Whole.new wx 3 _⟩
 ·intro L a wx Q' hL hi H F hK
  try dsimp only at hi
  obtain⟨v25,h25,hv25⟩:=H 20 ⟨.data,by simp,rfl⟩ _ rfl;replace h25:=h25 _ rfl;have ag3:=ayb hv25;clear hv25;have HI:=ayb hi;clear H F hi hL;obtain⟨g,rfl,hw⟩:=ag3.out;have HS:=ayb (UO (l:=[gX x.src y.src,gX x.tgt y.tgt,gX x.cls y.cls,gX x.cond y.cond]) (by simp) hw);clear ag3 hw
  go_wp2_with (go_at_call 209;go_must (refine(ab4 _ _ [gX x.src y.src,gX x.tgt y.tgt,gX x.cls y.cls,gX x.cond y.cond] HS.out).mono ?_;rintro e w1 ⟨rfl,rfl⟩))
  exact hK _ _ (Below.refl _ _) HI.out rfl
 ·intro a wx hl L hi hL Q' hK
  try dsimp only at hi
  have HB:=ayb hi;clear hi hL;obtain⟨_,rfl,_,rfl,_,rfl,_,rfl,_,rfl,_,rfl,_,rfl,_,rfl,_,rfl,_,rfl,_,rfl,_,rfl,_,rfl,_,rfl,_,rfl,_,rfl,_,rfl,_,rfl,_,rfl,_,rfl,u25,afB,_,rfl,rfl⟩:=hl;have asa:=ayb afB;clear afB;simp only[List.setIfInBounds_toArray,List.set_cons_zero,List.set_cons_succ]
  go_wp2_with fail
  go_ret
  exact⟨rfl,HG.out.trans HB.out⟩
theorem IQ(w:World)(o o2:Obj)(cs:Array Value)(t:TypeId):Whole (((w.alloc o).alloc o2).alloc (.cells cs t)) (w.heap.size+2) t cs:=by
 have:=Whole.new ((w.alloc o).alloc o2) t cs;simpa using this
theorem jf:(Tryz.prog.info? 107).map (·.size)=some 3:=by kernel_rfl
theorem XZ(w:World)(u v:bh):Calls Tryz.prog 60 #[.agg #[.int .u32 u.allow,.int .u32 u.bq,.int .u32 u.dont],.agg #[.int .u32 v.allow,.int .u32 v.bq,.int .u32 v.dont]] w fun e w'=>e=.returned (.agg #[.int .u32 (u.or v).allow,.int .u32 (u.or v).bq,.int .u32 (u.or v).dont])∧Below w.heap.size w w':=by
 go_enter Tryz.func60,Tryz.ntmps60
 go_wp2_with (refine aG rfl 107 _ _ rfl (w.heap.size+2) 0 (.agg #[.int .u32 (bits .or .u32 u.allow v.allow),.int .u32 (bits .or .u32 u.bq v.bq),.int .u32 (bits .or .u32 u.dont v.dont)]) rfl rfl 107 _ (IQ w _ _ #[.int .u32 0,.int .u32 0,.int .u32 0] _) (by simp[Value.cells]) jf rfl ?_;intro w2 S2 W2;rw[bp _ _ (by rfl)] at W2;have q7:=ayb S2;have HW2:=ayb (show Whole w2 (w.heap.size+2) 107 #[.int .u32 (bits .or .u32 u.allow v.allow),.int .u32 (bits .or .u32 u.bq v.bq),.int .u32 (bits .or .u32 u.dont v.dont)] from W2);clear S2 W2)
 have e0:w2.cell? ⟨w.heap.size+1+1,0,none⟩=some (.int .u32 (bits .or .u32 u.allow v.allow)):=HW2.out.cell 0;have e1:w2.cell? ⟨w.heap.size+1+1,1,none⟩=some (.int .u32 (bits .or .u32 u.bq v.bq)):=HW2.out.cell 1;have e2:w2.cell? ⟨w.heap.size+1+1,2,none⟩=some (.int .u32 (bits .or .u32 u.dont v.dont)):=HW2.out.cell 2;refine bodyPost_ret (v:=.agg #[.int .u32 (bits .or .u32 u.allow v.allow),.int .u32 (bits .or .u32 u.bq v.bq),.int .u32 (bits .or .u32 u.dont v.dont)]) ?_ rfl ⟨rfl,((((Below.refl _ w).alloc (Nat.le_refl _) _).alloc (by simp) _).alloc (by simp;omega) _).trans (q7.out.below (by omega))⟩;simp[results,Tryz.results60,go_sem,e0,e1,e2]
theorem aiG(w:World)(k p:Int)(h:k=1):Calls Tryz.prog 58 #[.int .i64 k,.int .u32 p] w fun e w'=>e=.returned (.agg #[.int .u32 p,.int .u32 0,.int .u32 0])∧Below w.heap.size w w':=by
 subst h
 go_enter Tryz.func58,Tryz.ntmps58
 go_wp2_with (refine aG rfl 107 _ _ rfl (w.heap.size) 0 (.agg #[.int .u32 p,.int .u32 0,.int .u32 0]) rfl rfl 107 _ (Whole.new w 107 #[.int .u32 0,.int .u32 0,.int .u32 0]) (by simp[Value.cells]) jf rfl ?_;intro w2 S2 W2;rw[bp _ _ (by rfl)] at W2;have q7:=ayb S2;have HW2:=ayb (show Whole w2 (w.heap.size) 107 #[.int .u32 p,.int .u32 0,.int .u32 0] from W2);clear S2 W2)
 have e0:w2.cell? ⟨w.heap.size,0,none⟩=some (.int .u32 p):=HW2.out.cell 0;have e1:w2.cell? ⟨w.heap.size,1,none⟩=some (.int .u32 0):=HW2.out.cell 1;have e2:w2.cell? ⟨w.heap.size,2,none⟩=some (.int .u32 0):=HW2.out.cell 2;refine bodyPost_ret (v:=.agg #[.int .u32 p,.int .u32 0,.int .u32 0]) ?_ rfl ⟨rfl,((Below.refl _ w).alloc (Nat.le_refl _) _).trans (q7.out.below (Nat.le_refl _))⟩;simp[results,Tryz.results58,go_sem,e0,e1,e2]
theorem aiF(w:World)(k p:Int)(h:k=2):Calls Tryz.prog 58 #[.int .i64 k,.int .u32 p] w fun e w'=>e=.returned (.agg #[.int .u32 0,.int .u32 p,.int .u32 0])∧Below w.heap.size w w':=by
 subst h
 go_enter Tryz.func58,Tryz.ntmps58
 go_wp2_with (refine aG rfl 107 _ _ rfl (w.heap.size) 0 (.agg #[.int .u32 0,.int .u32 p,.int .u32 0]) rfl rfl 107 _ (Whole.new w 107 #[.int .u32 0,.int .u32 0,.int .u32 0]) (by simp[Value.cells]) jf rfl ?_;intro w2 S2 W2;rw[bp _ _ (by rfl)] at W2;have q7:=ayb S2;have HW2:=ayb (show Whole w2 (w.heap.size) 107 #[.int .u32 0,.int .u32 p,.int .u32 0] from W2);clear S2 W2)
 have e0:w2.cell? ⟨w.heap.size,0,none⟩=some (.int .u32 0):=HW2.out.cell 0;have e1:w2.cell? ⟨w.heap.size,1,none⟩=some (.int .u32 p):=HW2.out.cell 1;have e2:w2.cell? ⟨w.heap.size,2,none⟩=some (.int .u32 0):=HW2.out.cell 2;refine bodyPost_ret (v:=.agg #[.int .u32 0,.int .u32 p,.int .u32 0]) ?_ rfl ⟨rfl,((Below.refl _ w).alloc (Nat.le_refl _) _).trans (q7.out.below (Nat.le_refl _))⟩;simp[results,Tryz.results58,go_sem,e0,e1,e2]
theorem aiE(w:World)(k p:Int)(h:k=3):Calls Tryz.prog 58 #[.int .i64 k,.int .u32 p] w fun e w'=>e=.returned (.agg #[.int .u32 0,.int .u32 0,.int .u32 p])∧Below w.heap.size w w':=by
 subst h
 go_enter Tryz.func58,Tryz.ntmps58
 go_wp2_with (refine aG rfl 107 _ _ rfl (w.heap.size) 0 (.agg #[.int .u32 0,.int .u32 0,.int .u32 p]) rfl rfl 107 _ (Whole.new w 107 #[.int .u32 0,.int .u32 0,.int .u32 0]) (by simp[Value.cells]) jf rfl ?_;intro w2 S2 W2;rw[bp _ _ (by rfl)] at W2;have q7:=ayb S2;have HW2:=ayb (show Whole w2 (w.heap.size) 107 #[.int .u32 0,.int .u32 0,.int .u32 p] from W2);clear S2 W2)
 have e0:w2.cell? ⟨w.heap.size,0,none⟩=some (.int .u32 0):=HW2.out.cell 0;have e1:w2.cell? ⟨w.heap.size,1,none⟩=some (.int .u32 0):=HW2.out.cell 1;have e2:w2.cell? ⟨w.heap.size,2,none⟩=some (.int .u32 p):=HW2.out.cell 2;refine bodyPost_ret (v:=.agg #[.int .u32 0,.int .u32 0,.int .u32 p]) ?_ rfl ⟨rfl,((Below.refl _ w).alloc (Nat.le_refl _) _).trans (q7.out.below (Nat.le_refl _))⟩;simp[results,Tryz.results58,go_sem,e0,e1,e2]
theorem aiD(w:World)(k p:Int)(h1:¬ k=1)(h2:¬ k=2)(h3:¬ k=3):Calls Tryz.prog 58 #[.int .i64 k,.int .u32 p] w fun e w'=>e=.returned (.agg #[.int .u32 0,.int .u32 0,.int .u32 0])∧Below w.heap.size w w':=by
 go_enter Tryz.func58,Tryz.ntmps58
 go_wp2_with (refine aG rfl 107 _ _ rfl (w.heap.size) 0 (.agg #[.int .u32 0,.int .u32 0,.int .u32 0]) rfl rfl 107 _ (Whole.new w 107 #[.int .u32 0,.int .u32 0,.int .u32 0]) (by simp[Value.cells]) jf rfl ?_;intro w2 S2 W2;rw[bp _ _ (by rfl)] at W2;have q7:=ayb S2;have HW2:=ayb (show Whole w2 (w.heap.size) 107 #[.int .u32 0,.int .u32 0,.int .u32 0] from W2);clear S2 W2)
 have e0:w2.cell? ⟨w.heap.size,0,none⟩=some (.int .u32 0):=HW2.out.cell 0;have e1:w2.cell? ⟨w.heap.size,1,none⟩=some (.int .u32 0):=HW2.out.cell 1;have e2:w2.cell? ⟨w.heap.size,2,none⟩=some (.int .u32 0):=HW2.out.cell 2;refine bodyPost_ret (v:=.agg #[.int .u32 0,.int .u32 0,.int .u32 0]) ?_ rfl ⟨rfl,((Below.refl _ w).alloc (Nat.le_refl _) _).trans (q7.out.below (Nat.le_refl _))⟩;simp[results,Tryz.results58,go_sem,e0,e1,e2]
theorem ab6(w:World)(k p:Int):Calls Tryz.prog 58 #[.int .i64 k,.int .u32 p] w fun e w'=>e=.returned (.agg #[.int .u32 (gh k p).allow,.int .u32 (gh k p).bq,.int .u32 (gh k p).dont])∧Below w.heap.size w w':=by
 unfold gh;by_cases h1:k=1
 ·rw[if_pos h1];exact aiG w k p h1
 ·rw[if_neg h1];by_cases h2:k=2
  ·rw[if_pos h2];exact aiF w k p h2
  ·rw[if_neg h2];by_cases h3:k=3
   ·rw[if_pos h3];exact aiE w k p h3
   ·rw[if_neg h3];exact aiD w k p h1 h2 h3
def aj.fit(r:aj)(s t:Int):Bool:=r.src.mem s&&(r.tgt.mem t||(r.self&&decide (s=t)))
theorem RK(w:World)(r:aj)(hr:r.Ok)(s t:Int)(ha:r.src.mem s=false):Calls Tryz.prog 99 #[.agg #[.int .i64 r.kind,.int .u64 r.src.a,.int .u64 r.src.b,.int .u64 r.src.c,.int .u64 r.src.d,.int .u64 r.tgt.a,.int .u64 r.tgt.b,.int .u64 r.tgt.c,.int .u64 r.tgt.d,.bool r.self,.int .i64 r.cls,.int .u32 r.perms,.int .i64 r.cond],.int .i64 s,.int .i64 t] w fun e w'=>e=.returned (.bool false)∧Below w.heap.size w w':=by
 have HR:=ayb hr;have HA:=ayb ha;clear hr ha;obtain⟨wo,bP⟩:∃ wo,wo=(w.alloc (.cells #[.int .i64 r.kind,.int .u64 r.src.a,.int .u64 r.src.b,.int .u64 r.src.c,.int .u64 r.src.d,.int .u64 r.tgt.a,.int .u64 r.tgt.b,.int .u64 r.tgt.c,.int .u64 r.tgt.d,.bool r.self,.int .i64 r.cls,.int .u32 r.perms,.int .i64 r.cond] 56)):=⟨_,rfl⟩;have HW0:=ayb (show Whole wo w.heap.size 56 #[.int .i64 r.kind,.int .u64 r.src.a,.int .u64 r.src.b,.int .u64 r.src.c,.int .u64 r.src.d,.int .u64 r.tgt.a,.int .u64 r.tgt.b,.int .u64 r.tgt.c,.int .u64 r.tgt.d,.bool r.self,.int .i64 r.cls,.int .u32 r.perms,.int .i64 r.cond] by rw[bP];exact Whole.new w 56 _);have fG:=ayb (show Below w.heap.size w wo by rw[bP];exact(Below.refl _ w).alloc (Nat.le_refl _) _);have k1:wo.cell? ⟨w.heap.size,1,none⟩=some (.int .u64 r.src.a):=HW0.out.cell 1;have k2:wo.cell? ⟨w.heap.size,2,none⟩=some (.int .u64 r.src.b):=HW0.out.cell 2;have k3:wo.cell? ⟨w.heap.size,3,none⟩=some (.int .u64 r.src.c):=HW0.out.cell 3;have k4:wo.cell? ⟨w.heap.size,4,none⟩=some (.int .u64 r.src.d):=HW0.out.cell 4
 go_enter Tryz.func99,Tryz.ntmps99
 go_upto_region 1 with(fail)
 rw[← bP];clear bP
 go_wp2_with (first|(have hZ:=HA;clear hZ;go_at_call 191;go_must (refine(show Calls Tryz.prog 191 _ _ (fun e w'=>e=.returned (.bool false)∧Below wo.heap.size wo w') from by have h:=gT wo r.src HR.out.src s;rw[HA.out] at h;exact h).mono ?_;rintro e w1 ⟨rfl,hb1⟩;have jy:=ayb hb1;clear hb1 HA;clear k1 k2 k3 k4)))
 go_ret
 exact⟨rfl,fG.out.trans (jy.out.mono fG.out.size)⟩
theorem RJ(w:World)(r:aj)(hr:r.Ok)(s t:Int)(ha:r.src.mem s=true)(ht:r.tgt.mem t=true):Calls Tryz.prog 99 #[.agg #[.int .i64 r.kind,.int .u64 r.src.a,.int .u64 r.src.b,.int .u64 r.src.c,.int .u64 r.src.d,.int .u64 r.tgt.a,.int .u64 r.tgt.b,.int .u64 r.tgt.c,.int .u64 r.tgt.d,.bool r.self,.int .i64 r.cls,.int .u32 r.perms,.int .i64 r.cond],.int .i64 s,.int .i64 t] w fun e w'=>e=.returned (.bool true)∧Below w.heap.size w w':=by
 have HR:=ayb hr;have HA:=ayb ha;have HT:=ayb ht;clear hr ha ht;obtain⟨wo,bP⟩:∃ wo,wo=(w.alloc (.cells #[.int .i64 r.kind,.int .u64 r.src.a,.int .u64 r.src.b,.int .u64 r.src.c,.int .u64 r.src.d,.int .u64 r.tgt.a,.int .u64 r.tgt.b,.int .u64 r.tgt.c,.int .u64 r.tgt.d,.bool r.self,.int .i64 r.cls,.int .u32 r.perms,.int .i64 r.cond] 56)):=⟨_,rfl⟩;have HW0:=ayb (show Whole wo w.heap.size 56 #[.int .i64 r.kind,.int .u64 r.src.a,.int .u64 r.src.b,.int .u64 r.src.c,.int .u64 r.src.d,.int .u64 r.tgt.a,.int .u64 r.tgt.b,.int .u64 r.tgt.c,.int .u64 r.tgt.d,.bool r.self,.int .i64 r.cls,.int .u32 r.perms,.int .i64 r.cond] by rw[bP];exact Whole.new w 56 _);have fG:=ayb (show Below w.heap.size w wo by rw[bP];exact(Below.refl _ w).alloc (Nat.le_refl _) _);have k1:wo.cell? ⟨w.heap.size,1,none⟩=some (.int .u64 r.src.a):=HW0.out.cell 1;have k2:wo.cell? ⟨w.heap.size,2,none⟩=some (.int .u64 r.src.b):=HW0.out.cell 2;have k3:wo.cell? ⟨w.heap.size,3,none⟩=some (.int .u64 r.src.c):=HW0.out.cell 3;have k4:wo.cell? ⟨w.heap.size,4,none⟩=some (.int .u64 r.src.d):=HW0.out.cell 4
 go_enter Tryz.func99,Tryz.ntmps99
 go_upto_region 1 with(fail)
 rw[← bP];clear bP
 go_wp2_with (first|(have hZ:=HA;clear hZ;go_at_call 191;go_must (refine(show Calls Tryz.prog 191 _ _ (fun e w'=>e=.returned (.bool true)∧Below wo.heap.size wo w') from by have h:=gT wo r.src HR.out.src s;rw[HA.out] at h;exact h).mono ?_;rintro e w1 ⟨rfl,hb1⟩;have jy:=ayb hb1;clear hb1 HA;have HW1:=ayb (Whole.under jy.out HW0.out HW0.out.lt);clear k1 k2 k3 k4;have k5:w1.cell? ⟨w.heap.size,5,none⟩=some (.int .u64 r.tgt.a):=HW1.out.cell 5;have k6:w1.cell? ⟨w.heap.size,6,none⟩=some (.int .u64 r.tgt.b):=HW1.out.cell 6;have k7:w1.cell? ⟨w.heap.size,7,none⟩=some (.int .u64 r.tgt.c):=HW1.out.cell 7;have k8:w1.cell? ⟨w.heap.size,8,none⟩=some (.int .u64 r.tgt.d):=HW1.out.cell 8))|(have hZ:=HT;clear hZ;go_at_call 191;go_must (refine(show Calls Tryz.prog 191 _ _ (fun e w'=>e=.returned (.bool true)∧Below w1.heap.size w1 w') from by have h:=gT w1 r.tgt HR.out.tgt t;rw[HT.out] at h;exact h).mono ?_;rintro e w2 ⟨rfl,hb1⟩;have nL:=ayb hb1;clear hb1 HT;clear k5 k6 k7 k8)))
 go_ret
 exact⟨rfl,(fG.out.trans (jy.out.mono fG.out.size)).trans (nL.out.mono (by have:=fG.out.size;have:=jy.out.size;omega))⟩
theorem RH(w:World)(r:aj)(hr:r.Ok)(s t:Int)(ha:r.src.mem s=true)(ht:r.tgt.mem t=false)(hs:r.self=false):Calls Tryz.prog 99 #[.agg #[.int .i64 r.kind,.int .u64 r.src.a,.int .u64 r.src.b,.int .u64 r.src.c,.int .u64 r.src.d,.int .u64 r.tgt.a,.int .u64 r.tgt.b,.int .u64 r.tgt.c,.int .u64 r.tgt.d,.bool r.self,.int .i64 r.cls,.int .u32 r.perms,.int .i64 r.cond],.int .i64 s,.int .i64 t] w fun e w'=>e=.returned (.bool false)∧Below w.heap.size w w':=by
 have HR:=ayb hr;have HA:=ayb ha;have HT:=ayb ht;have XA:=ayb hs;clear hr ha ht hs;obtain⟨wo,bP⟩:∃ wo,wo=(w.alloc (.cells #[.int .i64 r.kind,.int .u64 r.src.a,.int .u64 r.src.b,.int .u64 r.src.c,.int .u64 r.src.d,.int .u64 r.tgt.a,.int .u64 r.tgt.b,.int .u64 r.tgt.c,.int .u64 r.tgt.d,.bool r.self,.int .i64 r.cls,.int .u32 r.perms,.int .i64 r.cond] 56)):=⟨_,rfl⟩;have HW0:=ayb (show Whole wo w.heap.size 56 #[.int .i64 r.kind,.int .u64 r.src.a,.int .u64 r.src.b,.int .u64 r.src.c,.int .u64 r.src.d,.int .u64 r.tgt.a,.int .u64 r.tgt.b,.int .u64 r.tgt.c,.int .u64 r.tgt.d,.bool r.self,.int .i64 r.cls,.int .u32 r.perms,.int .i64 r.cond] by rw[bP];exact Whole.new w 56 _);have fG:=ayb (show Below w.heap.size w wo by rw[bP];exact(Below.refl _ w).alloc (Nat.le_refl _) _);have k1:wo.cell? ⟨w.heap.size,1,none⟩=some (.int .u64 r.src.a):=HW0.out.cell 1;have k2:wo.cell? ⟨w.heap.size,2,none⟩=some (.int .u64 r.src.b):=HW0.out.cell 2;have k3:wo.cell? ⟨w.heap.size,3,none⟩=some (.int .u64 r.src.c):=HW0.out.cell 3;have k4:wo.cell? ⟨w.heap.size,4,none⟩=some (.int .u64 r.src.d):=HW0.out.cell 4
 go_enter Tryz.func99,Tryz.ntmps99
 go_upto_region 1 with(fail)
 rw[← bP];clear bP
 go_wp2_with (first|(have hZ:=HA;clear hZ;go_at_call 191;go_must (refine(show Calls Tryz.prog 191 _ _ (fun e w'=>e=.returned (.bool true)∧Below wo.heap.size wo w') from by have h:=gT wo r.src HR.out.src s;rw[HA.out] at h;exact h).mono ?_;rintro e w1 ⟨rfl,hb1⟩;have jy:=ayb hb1;clear hb1 HA;have HW1:=ayb (Whole.under jy.out HW0.out HW0.out.lt);clear k1 k2 k3 k4;have k5:w1.cell? ⟨w.heap.size,5,none⟩=some (.int .u64 r.tgt.a):=HW1.out.cell 5;have k6:w1.cell? ⟨w.heap.size,6,none⟩=some (.int .u64 r.tgt.b):=HW1.out.cell 6;have k7:w1.cell? ⟨w.heap.size,7,none⟩=some (.int .u64 r.tgt.c):=HW1.out.cell 7;have k8:w1.cell? ⟨w.heap.size,8,none⟩=some (.int .u64 r.tgt.d):=HW1.out.cell 8))|(have hZ:=HT;clear hZ;go_at_call 191;go_must (refine(show Calls Tryz.prog 191 _ _ (fun e w'=>e=.returned (.bool false)∧Below w1.heap.size w1 w') from by have h:=gT w1 r.tgt HR.out.tgt t;rw[HT.out] at h;exact h).mono ?_;rintro e w2 ⟨rfl,hb1⟩;have nL:=ayb hb1;clear hb1 HT;clear k5 k6 k7 k8;have HW2:=ayb (Whole.under nL.out HW1.out HW1.out.lt);have k9:w2.cell? ⟨w.heap.size,9,none⟩=some (.bool false):=(by have h1:=HW2.out.cell 9;rw[show r.self=false from XA.out] at h1;exact h1))))
 go_ret
 exact⟨rfl,(fG.out.trans (jy.out.mono fG.out.size)).trans (nL.out.mono (by have:=fG.out.size;have:=jy.out.size;omega))⟩
theorem RG(w:World)(r:aj)(hr:r.Ok)(s t:Int)(ha:r.src.mem s=true)(ht:r.tgt.mem t=false)(hs:r.self=true)(he:s=t):Calls Tryz.prog 99 #[.agg #[.int .i64 r.kind,.int .u64 r.src.a,.int .u64 r.src.b,.int .u64 r.src.c,.int .u64 r.src.d,.int .u64 r.tgt.a,.int .u64 r.tgt.b,.int .u64 r.tgt.c,.int .u64 r.tgt.d,.bool r.self,.int .i64 r.cls,.int .u32 r.perms,.int .i64 r.cond],.int .i64 s,.int .i64 t] w fun e w'=>e=.returned (.bool true)∧Below w.heap.size w w':=by
 have HR:=ayb hr;have HA:=ayb ha;have HT:=ayb ht;have XA:=ayb hs;clear hr ha ht hs;have hd:((s:Int) == t)=true:=by simp[he]
 clear he;obtain⟨wo,bP⟩:∃ wo,wo=(w.alloc (.cells #[.int .i64 r.kind,.int .u64 r.src.a,.int .u64 r.src.b,.int .u64 r.src.c,.int .u64 r.src.d,.int .u64 r.tgt.a,.int .u64 r.tgt.b,.int .u64 r.tgt.c,.int .u64 r.tgt.d,.bool r.self,.int .i64 r.cls,.int .u32 r.perms,.int .i64 r.cond] 56)):=⟨_,rfl⟩;have HW0:=ayb (show Whole wo w.heap.size 56 #[.int .i64 r.kind,.int .u64 r.src.a,.int .u64 r.src.b,.int .u64 r.src.c,.int .u64 r.src.d,.int .u64 r.tgt.a,.int .u64 r.tgt.b,.int .u64 r.tgt.c,.int .u64 r.tgt.d,.bool r.self,.int .i64 r.cls,.int .u32 r.perms,.int .i64 r.cond] by rw[bP];exact Whole.new w 56 _);have fG:=ayb (show Below w.heap.size w wo by rw[bP];exact(Below.refl _ w).alloc (Nat.le_refl _) _);have k1:wo.cell? ⟨w.heap.size,1,none⟩=some (.int .u64 r.src.a):=HW0.out.cell 1;have k2:wo.cell? ⟨w.heap.size,2,none⟩=some (.int .u64 r.src.b):=HW0.out.cell 2;have k3:wo.cell? ⟨w.heap.size,3,none⟩=some (.int .u64 r.src.c):=HW0.out.cell 3;have k4:wo.cell? ⟨w.heap.size,4,none⟩=some (.int .u64 r.src.d):=HW0.out.cell 4
 go_enter Tryz.func99,Tryz.ntmps99
 go_upto_region 1 with(fail)
 rw[← bP];clear bP
 go_wp2_with (first|(have hZ:=HA;clear hZ;go_at_call 191;go_must (refine(show Calls Tryz.prog 191 _ _ (fun e w'=>e=.returned (.bool true)∧Below wo.heap.size wo w') from by have h:=gT wo r.src HR.out.src s;rw[HA.out] at h;exact h).mono ?_;rintro e w1 ⟨rfl,hb1⟩;have jy:=ayb hb1;clear hb1 HA;have HW1:=ayb (Whole.under jy.out HW0.out HW0.out.lt);clear k1 k2 k3 k4;have k5:w1.cell? ⟨w.heap.size,5,none⟩=some (.int .u64 r.tgt.a):=HW1.out.cell 5;have k6:w1.cell? ⟨w.heap.size,6,none⟩=some (.int .u64 r.tgt.b):=HW1.out.cell 6;have k7:w1.cell? ⟨w.heap.size,7,none⟩=some (.int .u64 r.tgt.c):=HW1.out.cell 7;have k8:w1.cell? ⟨w.heap.size,8,none⟩=some (.int .u64 r.tgt.d):=HW1.out.cell 8))|(have hZ:=HT;clear hZ;go_at_call 191;go_must (refine(show Calls Tryz.prog 191 _ _ (fun e w'=>e=.returned (.bool false)∧Below w1.heap.size w1 w') from by have h:=gT w1 r.tgt HR.out.tgt t;rw[HT.out] at h;exact h).mono ?_;rintro e w2 ⟨rfl,hb1⟩;have nL:=ayb hb1;clear hb1 HT;clear k5 k6 k7 k8;have HW2:=ayb (Whole.under nL.out HW1.out HW1.out.lt);have k9:w2.cell? ⟨w.heap.size,9,none⟩=some (.bool true):=(by have h1:=HW2.out.cell 9;rw[show r.self=true from XA.out] at h1;exact h1))))
 go_ret
 exact⟨rfl,(fG.out.trans (jy.out.mono fG.out.size)).trans (nL.out.mono (by have:=fG.out.size;have:=jy.out.size;omega))⟩
theorem RF(w:World)(r:aj)(hr:r.Ok)(s t:Int)(ha:r.src.mem s=true)(ht:r.tgt.mem t=false)(hs:r.self=true)(he:¬ s=t):Calls Tryz.prog 99 #[.agg #[.int .i64 r.kind,.int .u64 r.src.a,.int .u64 r.src.b,.int .u64 r.src.c,.int .u64 r.src.d,.int .u64 r.tgt.a,.int .u64 r.tgt.b,.int .u64 r.tgt.c,.int .u64 r.tgt.d,.bool r.self,.int .i64 r.cls,.int .u32 r.perms,.int .i64 r.cond],.int .i64 s,.int .i64 t] w fun e w'=>e=.returned (.bool false)∧Below w.heap.size w w':=by
 have HR:=ayb hr;have HA:=ayb ha;have HT:=ayb ht;have XA:=ayb hs;clear hr ha ht hs;have hd:((s:Int) == t)=false:=by simp[he]
 obtain⟨wo,bP⟩:∃ wo,wo=(w.alloc (.cells #[.int .i64 r.kind,.int .u64 r.src.a,.int .u64 r.src.b,.int .u64 r.src.c,.int .u64 r.src.d,.int .u64 r.tgt.a,.int .u64 r.tgt.b,.int .u64 r.tgt.c,.int .u64 r.tgt.d,.bool r.self,.int .i64 r.cls,.int .u32 r.perms,.int .i64 r.cond] 56)):=⟨_,rfl⟩;have HW0:=ayb (show Whole wo w.heap.size 56 #[.int .i64 r.kind,.int .u64 r.src.a,.int .u64 r.src.b,.int .u64 r.src.c,.int .u64 r.src.d,.int .u64 r.tgt.a,.int .u64 r.tgt.b,.int .u64 r.tgt.c,.int .u64 r.tgt.d,.bool r.self,.int .i64 r.cls,.int .u32 r.perms,.int .i64 r.cond] by rw[bP];exact Whole.new w 56 _);have fG:=ayb (show Below w.heap.size w wo by rw[bP];exact(Below.refl _ w).alloc (Nat.le_refl _) _);have k1:wo.cell? ⟨w.heap.size,1,none⟩=some (.int .u64 r.src.a):=HW0.out.cell 1;have k2:wo.cell? ⟨w.heap.size,2,none⟩=some (.int .u64 r.src.b):=HW0.out.cell 2;have k3:wo.cell? ⟨w.heap.size,3,none⟩=some (.int .u64 r.src.c):=HW0.out.cell 3;have k4:wo.cell? ⟨w.heap.size,4,none⟩=some (.int .u64 r.src.d):=HW0.out.cell 4
 go_enter Tryz.func99,Tryz.ntmps99
 go_upto_region 1 with(fail)
 rw[← bP];clear bP
 go_wp2_with (first|(have hZ:=HA;clear hZ;go_at_call 191;go_must (refine(show Calls Tryz.prog 191 _ _ (fun e w'=>e=.returned (.bool true)∧Below wo.heap.size wo w') from by have h:=gT wo r.src HR.out.src s;rw[HA.out] at h;exact h).mono ?_;rintro e w1 ⟨rfl,hb1⟩;have jy:=ayb hb1;clear hb1 HA;have HW1:=ayb (Whole.under jy.out HW0.out HW0.out.lt);clear k1 k2 k3 k4;have k5:w1.cell? ⟨w.heap.size,5,none⟩=some (.int .u64 r.tgt.a):=HW1.out.cell 5;have k6:w1.cell? ⟨w.heap.size,6,none⟩=some (.int .u64 r.tgt.b):=HW1.out.cell 6;have k7:w1.cell? ⟨w.heap.size,7,none⟩=some (.int .u64 r.tgt.c):=HW1.out.cell 7;have k8:w1.cell? ⟨w.heap.size,8,none⟩=some (.int .u64 r.tgt.d):=HW1.out.cell 8))|(have hZ:=HT;clear hZ;go_at_call 191;go_must (refine(show Calls Tryz.prog 191 _ _ (fun e w'=>e=.returned (.bool false)∧Below w1.heap.size w1 w') from by have h:=gT w1 r.tgt HR.out.tgt t;rw[HT.out] at h;exact h).mono ?_;rintro e w2 ⟨rfl,hb1⟩;have nL:=ayb hb1;clear hb1 HT;clear k5 k6 k7 k8;have HW2:=ayb (Whole.under nL.out HW1.out HW1.out.lt);have k9:w2.cell? ⟨w.heap.size,9,none⟩=some (.bool true):=(by have h1:=HW2.out.cell 9;rw[show r.self=true from XA.out] at h1;exact h1))))
 go_ret
 exact⟨rfl,(fG.out.trans (jy.out.mono fG.out.size)).trans (nL.out.mono (by have:=fG.out.size;have:=jy.out.size;omega))⟩
theorem JG(w:World)(r:aj)(hr:r.Ok)(s t:Int):Calls Tryz.prog 99 #[.agg #[.int .i64 r.kind,.int .u64 r.src.a,.int .u64 r.src.b,.int .u64 r.src.c,.int .u64 r.src.d,.int .u64 r.tgt.a,.int .u64 r.tgt.b,.int .u64 r.tgt.c,.int .u64 r.tgt.d,.bool r.self,.int .i64 r.cls,.int .u32 r.perms,.int .i64 r.cond],.int .i64 s,.int .i64 t] w fun e w'=>e=.returned (.bool (r.fit s t))∧Below w.heap.size w w':=by
 unfold aj.fit
 cases ha:r.src.mem s with
 | false=>exact RK w r hr s t ha
 | true=>
  cases ht:r.tgt.mem t with
  | true=>exact RJ w r hr s t ha ht
  | false=>
   cases hs:r.self with
   | false=>
    have h:=RH w r hr s t ha ht hs;rw[hs] at h;exact h
   | true=>
    by_cases he:s=t
    ·have h:=RG w r hr s t ha ht hs he;rw[hs] at h;simpa[he] using h
    ·have h:=RF w r hr s t ha ht hs he;rw[hs] at h;simpa[he] using h
end Go.Proofs.YtdcofoaihmongaaGreat
namespace Go.Proofs.YtdcofoaihmongaaGreat
open Go Go.Sort
theorem Jd{α:Type}[Inhabited α]{lt:α→α→Bool}{d:Array α}(h:SortedIn lt 0 d.size d):d.toList.Pairwise fun x y=>lt y x=false:=by
 rw[List.pairwise_iff_getElem];intro i j hi hj hij;have:=h i j (ayc _) hij (by simpa using hj);simpa[getElem!_pos d i (by simpa using hi),getElem!_pos d j (by simpa using hj)] using this
theorem Ri{α:Type}[Inhabited α]{d d':Array α}(h:PermIn 0 d.size d d'):d'.toList.Perm d.toList:=by
 have h2:=h.2.2;have e:d'.extract 0 d.size=d':=by rw[← h.1];simp
 rw[e] at h2;simpa using h2
theorem YT(e:aS):mkE e.key e.X0=e:=rfl
theorem SX{x y:aS}(h:x.key≠y.key)(h2:ltOf gY y x=false):Tp x y:=by
 unfold Tp;rw[rH] at *;have h:¬ (x.src=y.src∧x.tgt=y.tgt∧x.cls=y.cls∧x.cond=y.cond):=fun⟨a,b,c,d⟩=>h (by unfold aS.key;rw[a,b,c,d])
 simp at h2 ⊢;omega
theorem Hq{f:bO→bh}{D:List (bO×bh)}(hn:(D.map Prod.fst).Nodup)(h1:∀ p∈D,p.2=f p.1)(h2:∀ k,f k≠bh.zero→k∈D.map Prod.fst)
 {l':List aS} (hpl:l'.Perm (mL D)) (hs:l'.Pairwise fun x y=>ltOf gY y x=false):Canon f l':=by
 unfold mL at hpl
 have ajw:(l'.map aS.key).Nodup:=by
  rw[(hpl.map aS.key).nodup_iff,List.map_map];have:(aS.key∘fun p:bO×bh=>mkE p.1 p.2)=Prod.fst:=rfl;rw[this];exact hn.sublist (List.filter_sublist.map _)
 refine⟨?_,fun e=>?_⟩
 ·have h:=hs.and (List.pairwise_map.1 ajw);exact h.imp fun⟨a,b⟩=>SX b a
 ·rw[hpl.mem_iff,ayk];constructor
  ·rintro⟨⟨k,v⟩,hp,rfl⟩;simp only[List.mem_filter,nz,decide_eq_true_eq] at hp;have:=h1 _ hp.1;exact⟨this,fun h=>hp.2 (this.trans h)⟩
  ·rintro⟨ha,hb⟩;obtain⟨⟨k,v⟩,hm,hk⟩:=ayk.1 (h2 _ hb);have hk:k=e.key:=hk;subst hk;have hv:v=f e.key:=h1 _ hm;subst hv;refine⟨(e.key,f e.key),List.mem_filter.2 ⟨hm,by simpa[nz] using hb⟩,?_⟩;show mkE e.key (f e.key)=e;rw[← ha,YT]
end Go.Proofs.YtdcofoaihmongaaGreat
namespace Go.Proofs.YtdcofoaihmongaaGreat
open Go Go.RowKit
theorem aK.f10{w:World}{c0 c1 c2 c3 c4 c5 c6 c7 c8 c9 aR aO aN aQ aM aL aP:Value}{p:aF}(h:aK w c0 c1 c2 c3 c4 c5 c6 c7 c8 c9 aR aO aN aQ aM aL aP p):∃ a c,aR=.slice a p.trans.length c∧p.trans.length≤c∧p.trans.length≤9223372036854775807:=dU h.trans (by decide)
theorem aK.f14{w:World}{c0 c1 c2 c3 c4 c5 c6 c7 c8 c9 aR aO aN aQ aM aL aP:Value}{p:aF}(h:aK w c0 c1 c2 c3 c4 c5 c6 c7 c8 c9 aR aO aN aQ aM aL aP p):∃ a c,aM=.slice a p.bL.length c∧p.bL.length≤c∧p.bL.length≤9223372036854775807:=dU h.bL (by decide)
theorem aK.f15{w:World}{c0 c1 c2 c3 c4 c5 c6 c7 c8 c9 aR aO aN aQ aM aL aP:Value}{p:aF}(h:aK w c0 c1 c2 c3 c4 c5 c6 c7 c8 c9 aR aO aN aQ aM aL aP p):∃ a c,aL=.slice a p.files.length c∧p.files.length≤c∧p.files.length≤9223372036854775807:=dU h.files (by decide)
theorem L6:(Tryz.prog.info? 56).map (·.size)=some 13:=by kernel_rfl
end Go.Proofs.YtdcofoaihmongaaGreat
namespace Go.Proofs.YtdcofoaihmongaaGreat
open Go Go.RowKit Go.Sort
theorem NV(p:aF)(i:Nat)(e:aA)(s:yx):∀ x∈(jx p i e s).kids,x∈s.kids∨x=e:=by
 intro x hx;unfold jx at hx;split at hx
 ·exact .inl hx
 ·split at hx
  ·exact .inl hx
  ·dsimp only at hx;split at hx
   ·rcases ayl.1 hx with h|h
    ·exact .inl h
    ·exact .inr (List.mem_singleton.1 h)
   ·exact .inl hx
theorem zk(p:aF):∀ (l:List aA) (i:Nat) (s:yx),∀ x∈(jK p i l s).kids,x∈s.kids∨x∈l
 | [],_,_,x,hx=>.inl hx
 | e::l,i,s,x,hx=>by
  rcases zk p l (i+1) _ x hx with h|h
  ·rcases NV p i e s x h with h|h
   ·exact .inl h
   ·exact .inr (aym.2 (.inl h))
  ·exact .inr (ayn _ h)
theorem Gt{p:aF}{m:Nat}:∀ x∈(dF p m).kids,x∈p.conds:=fun x hx=>by
 rcases zk p _ 0 cs0 x hx with h|h
 ·cases h
 ·exact List.mem_of_mem_take h
def CBd(n:Nat)(s:yx):Prop:=(∀ k v,s.DV k=some v→-(n:Int)≤v∧v≤n)∧s.seen.length≤n
theorem OQ{f:Int→Option Int}{n n':Nat}(hn:n≤n')(h:∀ k v,f k=some v→-(n:Int)≤v∧v≤n){k0 v0:Int}(h0:-(n':Int)≤v0∧v0≤n'):∀ k v,j4 f k0 v0 k=some v→-(n':Int)≤v∧v≤n':=fun k v hk=>by
 unfold j4 at hk;split at hk
 ·cases hk;exact h0
 ·have:=h k v hk;constructor<;>omega
theorem KN{n n' i:Nat}{k:Int}{s:yx}(hn:n≤n')(h:∀ k v,s.DV k=some v→-(n:Int)≤v∧v≤n)(hk:-(n':Int)≤k∧k≤n'):∀ j v,(zw i k s).DV j=some v→-(n':Int)≤v∧v≤n':=
 OQ (Nat.le_refl _) (OQ hn h hk) (by constructor<;>omega)
theorem Xf(p:aF)(i:Nat)(e:aA){n:Nat}{s:yx}(h:CBd n s):CBd (n+1) (jx p i e s):=by
 have hw:CBd (n+1) s:=⟨fun k v hk=>by have:=h.1 k v hk;constructor<;>omega,by have:=h.2;omega⟩;unfold jx;split
 ·exact hw
 ·split
  ·exact hw
  ·dsimp only;split
   ·refine⟨KN (s:={ s with seen:=_,kids:=_ }) (Nat.le_succ n) h.1 (by have:=h.2;constructor<;>omega),?_⟩;show(s.seen++[_]).length≤n+1;rw[ax_];have:=h.2;simp;omega
   ·refine⟨KN (Nat.le_succ n) h.1 ?_,hw.2⟩;have hb:=xR (cF (aZ p.bools.length) p.bools.length e) (notM (aZ p.bools.length) (cF (aZ p.bools.length) p.bools.length e)) s.seen 0;have:=h.2;constructor<;>omega
theorem EM(p:aF):∀ (l:List aA) (i n:Nat) (s:yx),CBd n s→CBd (n+l.length) (jK p i l s)
 | [],_,_,_,h=>h
 | e::l,i,n,s,h=>by
  have:=EM p l (i+1) (n+1) _ (Xf p i e h);rw[List.length_cons,Nat.add_comm l.length 1,← Nat.add_assoc];exact this
theorem adN{p:aF}{k:Int}(hc:p.conds.length≤900):-900≤(kX (dF p p.conds.length) k).1∧(kX (dF p p.conds.length) k).1≤900:=by
 have h:=(EM p (p.conds.take p.conds.length) 0 0 cs0 ⟨fun _ _ h=>(by cases h),Nat.le_refl _⟩).1;unfold kX;split
 ·exact⟨by decide,by decide⟩
 ·dsimp only
  cases hb:(dF p p.conds.length).DV k with
  | none=>exact⟨by decide,by decide⟩
  | some v=>
   have h2:=h k v hb;rw[ayo] at h2;show -900≤v∧v≤900;constructor<;>omega
theorem Ch{a b c:aj}(h:aD a b=some c):c.cond=a.cond:=by
 unfold aD at h;split at h
 ·cases h
 ·split at h
  ·cases h;rfl
  ·split at h
   ·cases h;rfl
   ·split at h
    ·cases h;rfl
    ·cases h
end Go.Proofs.YtdcofoaihmongaaGreat
namespace Go.Proofs.YtdcofoaihmongaaGreat
open Go Go.RowKit
theorem abk{sc:yx}{l:List aj}{y:aj}(hy:y∈l.filterMap (cR sc)):∃ x∈l,y={ x with cond:=(kX sc x.cond).1 }:=by
 obtain⟨x,hx,e⟩:=List.mem_filterMap.1 hy;unfold cR at e;split at e
 ·exact⟨x,hx,(ayj e).symm⟩
 ·cases e
theorem abj{sc:yx}{l:List bV}{y:bV}(hy:y∈l.filterMap (cT sc)):∃ x∈l,y={ x with cond:=(kX sc x.cond).1 }:=by
 obtain⟨x,hx,e⟩:=List.mem_filterMap.1 hy;unfold cT at e;split at e
 ·exact⟨x,hx,(ayj e).symm⟩
 ·cases e
theorem KM{p:aF}(h:Om p):Om (bw p):=by
 have hb:∀ k,-900≤(kX (dF p p.conds.length) k).1∧(kX (dF p p.conds.length) k).1≤900:=fun k=>adN h.conds
 have kl:(bw p).conds.length≤p.conds.length:=by
  have:=Xg p p.conds.length;show(dF p p.conds.length).kids.length≤_;omega
 have rl:(bw p).rules.length≤p.rules.length:=List.length_filterMap_le _ _;have tl:(bw p).trans.length≤p.trans.length:=List.length_filterMap_le _ _
 have i64:∀ k,iX (kX (dF p p.conds.length) k).1:=fun k=>by
  have:=hb k;constructor<;>omega
 refine⟨{ h.ok with conds:=fun e he=>h.ok.conds e (Gt e he),Xi:=ayf kl h.ok.Xi,rules:=fun y hy=>?_,wQ:=ayf rl h.ok.wQ,trans:=fun y hy=>?_,Us:=ayf tl h.ok.Us },{ h.sm with conds:=ayf kl h.sm.conds,P5:=fun e he=>h.sm.P5 e (Gt e he),rules:=ayf rl h.sm.rules,trans:=ayf tl h.sm.trans },h.bools,ayf kl h.conds,fun y hy=>?_,fun y hy=>?_,fun e he=>h.be e (Gt e he),ayf rl h.rules,ayf tl h.trans⟩
 ·obtain⟨x,hx,rfl⟩:=abk hy;exact { h.ok.rules x hx with cond:=i64 _ }
 ·obtain⟨x,hx,rfl⟩:=abj hy;exact { h.ok.trans x hx with cond:=i64 _ }
 ·obtain⟨x,hx,rfl⟩:=abk hy;have:=hb x.cond;exact⟨by dsimp only;omega,by dsimp only;omega⟩
 ·obtain⟨x,hx,rfl⟩:=abj hy;have:=hb x.cond;exact⟨by dsimp only;omega,by dsimp only;omega⟩
theorem agO{p:aF}(h:Om p):Om (dQ p):=
 ⟨aaq h.ok,aap h.sm,h.bools,h.conds,Aj (J:=aD) (Q:=fun y=>-1000000≤y.cond∧y.cond≤1000000) (fun a b c ha _ h=>by rw[Ch h];exact ha) h.zo,h.CV,h.be,ayf (uS _ _) h.rules,h.trans⟩
theorem Zz{p:aF}(h:Tm p)(hok:p.Ok):Om p∧RdH (bw p)∧RuH (mK (bw p) (eM (bw p)))∧Om (dQ (mK (bw p) (eM (bw p)))):=by
 have h1:=WB h hok;have h2:=KM h1;have h3:=abg h2 (eM (bw p));have rl:(bw p).rules.length≤p.rules.length:=List.length_filterMap_le _ _;have rw':(mK (bw p) (eM (bw p))).rules.length≤(bw p).rules.length:=wF _;have zr:=h.small.sizes.rules;exact⟨h1,⟨h2.ok,h2.sm,h2.bools,ayf h2.conds (by decide),by omega⟩,⟨h3.ok,h3.sm,by omega⟩,agO h3⟩
def QO:Go.Shelf.Ren:=⟨fun|6=>125|15=>208|14=>207|28=>262|29=>263|20=>254|21=>255|22=>256|23=>257|24=>258|25=>259|26=>260|27=>261|46=>289|47=>290|48=>291|49=>292|50=>293|57=>305|n=>n,fun|22=>47|24=>94|25=>220|3=>3|39=>246|0=>0|53=>50|55=>52|4=>4|46=>325|45=>324|50=>161|5=>5|9=>9|66=>352|70=>356|76=>362|77=>363|n=>n,fun|n=>n⟩
theorem aam:Go.Proofs.SlLaysF0.n6 Tryz.prog QO:={
 mixed:=by kernel_rfl
 f6:=⟨Tryz.f125.name,by decide,Tryz.func125.trans (congrArg some (by kernel_rfl))⟩
 f14:=⟨Tryz.f207.name,by decide,Tryz.func207.trans (congrArg some (by kernel_rfl))⟩
 f15:=Tryz.func208.trans (congrArg some (by kernel_rfl))
 f20:=⟨Tryz.f254.name,by decide,Tryz.func254.trans (congrArg some (by kernel_rfl))⟩
 f21:=⟨Tryz.f255.name,by decide,Tryz.func255.trans (congrArg some (by kernel_rfl))⟩
 f22:=⟨Tryz.f256.name,by decide,Tryz.func256.trans (congrArg some (by kernel_rfl))⟩
 f23:=⟨Tryz.f257.name,by decide,Tryz.func257.trans (congrArg some (by kernel_rfl))⟩
 f24:=⟨Tryz.f258.name,by decide,Tryz.func258.trans (congrArg some (by kernel_rfl))⟩
 f25:=⟨Tryz.f259.name,by decide,Tryz.func259.trans (congrArg some (by kernel_rfl))⟩
 f26:=⟨Tryz.f260.name,by decide,Tryz.func260.trans (congrArg some (by kernel_rfl))⟩
 f27:=⟨Tryz.f261.name,by decide,Tryz.func261.trans (congrArg some (by kernel_rfl))⟩
 f28:=Tryz.func262.trans (congrArg some (by kernel_rfl))
 f29:=Tryz.func263.trans (congrArg some (by kernel_rfl))
 f46:=⟨Tryz.f289.name,by decide,Tryz.func289.trans (congrArg some (by kernel_rfl))⟩
 f47:=Tryz.func290.trans (congrArg some (by kernel_rfl))
 f48:=Tryz.func291.trans (congrArg some (by kernel_rfl))
 f49:=⟨Tryz.f292.name,by decide,Tryz.func292.trans (congrArg some (by kernel_rfl))⟩
 f50:=⟨Tryz.f293.name,by decide,Tryz.func293.trans (congrArg some (by kernel_rfl))⟩
 f57:=⟨Tryz.f305.name,by decide,Tryz.func305.trans (congrArg some (by kernel_rfl))⟩
 t0:=Tryz.underlying0
 a0:=Tryz.isAgg0
 z0:=Tryz.sizeOf0
 v0:=Tryz.zeroValue0
 t3:=Tryz.underlying3
 a3:=Tryz.isAgg3
 z3:=Tryz.sizeOf3
 v3:=Tryz.zeroValue3
 t4:=Tryz.underlying4
 a4:=Tryz.isAgg4
 z4:=Tryz.sizeOf4
 v4:=Tryz.zeroValue4
 t5:=Tryz.underlying5
 a5:=Tryz.isAgg5
 z5:=Tryz.sizeOf5
 v5:=Tryz.zeroValue5
 t9:=Tryz.underlying9
 a9:=Tryz.isAgg9
 z9:=Tryz.sizeOf9
 v9:=Tryz.zeroValue9
 t22:=Tryz.underlying47
 a22:=Tryz.isAgg47
 z22:=Tryz.sizeOf47
 v22:=Tryz.zeroValue47
 t25:=Tryz.underlying220
 a25:=Tryz.isAgg220
 z25:=Tryz.sizeOf220
 v25:=Tryz.zeroValue220
 t39:=Tryz.underlying246
 a39:=Tryz.isAgg246
 z39:=Tryz.sizeOf246
 v39:=Tryz.zeroValue246
 t45:=Tryz.underlying324
 a45:=Tryz.isAgg324
 z45:=Tryz.sizeOf324
 v45:=Tryz.zeroValue324
 t46:=Tryz.underlying325
 a46:=Tryz.isAgg325
 z46:=Tryz.sizeOf325
 v46:=Tryz.zeroValue325
 t50:=Tryz.underlying161
 a50:=Tryz.isAgg161
 z50:=Tryz.sizeOf161
 v50:=Tryz.zeroValue161
 t53:=Tryz.underlying50
 a53:=Tryz.isAgg50
 z53:=Tryz.sizeOf50
 v53:=Tryz.zeroValue50
 t55:=Tryz.underlying52
 a55:=Tryz.isAgg52
 z55:=Tryz.sizeOf52
 v55:=Tryz.zeroValue52
 t66:=Tryz.underlying352
 a66:=Tryz.isAgg352
 z66:=Tryz.sizeOf352
 v66:=Tryz.zeroValue352
 t70:=Tryz.underlying356
 a70:=Tryz.isAgg356
 z70:=Tryz.sizeOf356
 v70:=Tryz.zeroValue356
 t76:=Tryz.underlying362
 a76:=Tryz.isAgg362
 z76:=Tryz.sizeOf362
 v76:=Tryz.zeroValue362
 t77:=Tryz.underlying363
 a77:=Tryz.isAgg363
 z77:=Tryz.sizeOf363
 v77:=Tryz.zeroValue363 }
end Go.Proofs.YtdcofoaihmongaaGreat
namespace Go.Proofs.YtdcofoaihmongaaGreat
open Go Go.RowKit Go.Shelf Go.Sort
theorem JJ(blk off size:Nat)(w:World):CmpLays Tryz.prog 126 #[] aS.cells 7 gY blk off size w:=
 fun _ _ _ _ x y=>(N5 _ x y).mono fun _ _ ⟨he,q,os,hw⟩=>⟨he,q,os,hw⟩
theorem QS(blk off cap:Nat)(d:Array aS)(w:World)(hH:HoldsK aS.cells 7 w blk off d)(hblk:blk<w.heap.size)(hsz:d.size<4611686018427387904):
 Calls Tryz.prog 125 #[.slice (some ⟨blk,off,none⟩) d.size cap,.func (.func 126) #[] #[]] w fun e w'=>e=.returned (.tuple #[])∧∃ d' n os,PermIn 0 d.size d d'∧SortedIn (ltOf gY) 0 d.size d'∧w'=sortWorldK aS.cells 7 w blk off n d' os:=by
 have eg:∀ args w,(callFunc 126 args).run Tryz.prog w=.ok (.enter 126 args) w:=enters_of Tryz.func126 (by kernel_rfl) rfl;exact AnyQ.slices_SortFunc aam 7 Tryz.isAgg94 Tryz.sizeOf94 aS.cells (fun _=>rfl) (fun x v hv=>by simp[aS.cells] at hv;rcases hv with rfl|rfl|rfl|rfl|rfl|rfl|rfl<;>rfl) gY sU 126 #[] blk off cap d w eg (JJ blk off d.size w) hH hblk hsz
section
variable {α:Type} [Inhabited α] {enc:α→List Value} {k:Nat}
theorem Cx(hk:∀ x,(enc x).length=k)(d:Array α):(flatK enc k d).toList=d.toList.flatMap enc:=by
 refine WE (by rw[zh hk];simp) fun i hi=>?_
 have hi':i<d.size*k:=by simpa using hi
 have k0:0<k:=by rcases Nat.eq_zero_or_pos k with h|h;·subst h;simp at hi'
                 ·exact h
 have hd:i/k<d.size:=(Nat.div_lt_iff_lt_mul k0).2 hi';have h1:=cE hk (l:=d.toList) (i:=i/k) (t:=d[i/k]!) (by rw[Array.getElem?_toList,getElem!_pos d _ hd,Array.getElem?_eq_getElem hd]) (i%k) (Nat.mod_lt _ k0);rw[Nat.div_add_mod' i k] at h1;have hi2:i<(flatK enc k d).size:=by simpa using hi'
 rw[h1,Array.getElem?_toList,Array.getElem?_eq_getElem hi2,← getElem!_pos (flatK enc k d) i hi2,get_flatK _ _ _ _ hi'];have hm:i%k<(enc d[i/k]!).length:=by rw[hk];exact Nat.mod_lt _ k0
 rw[getElem!_pos (enc d[i/k]!) (i%k) hm,ayd hm]
theorem R5{w:World}{g:Nat}{t:TypeId}{cur:Array Value}{n:Nat}{l:List α}(hk:∀ x,(enc x).length=k)(hW:Whole w g t cur)(hn:l.length=n)(ht:cur.toList.take (n*k)=l.flatMap enc):HoldsK enc k w g 0 l.toArray:=by
 intro j hj;have hj':j<n*k:=by rw[← hn];simpa using hj
 have hf:=Cx hk l.toArray;refine⟨?_,hW.frozen _⟩;rw[Nat.zero_add,hW.cell,getElem!_pos _ j hj];have h1:cur.toList[j]?=(l.flatMap enc)[j]?:=by rw[← ht,List.getElem?_take,if_pos hj']
 rw[← Array.getElem?_toList,h1];have:l.flatMap enc=(flatK enc k l.toArray).toList:=by rw[hf]
 rw[this,Array.getElem?_toList,Array.getElem?_eq_getElem hj];rfl
theorem rP{w:World}{b i:Nat}{f:Array Value→Array Value}(h:i≠b):(mapBlock w b f).heap[i]?=w.heap[i]?:=by
 simp[mapBlock,Array.getElem?_modify,Ne.symm h]
theorem Fp{w:World}{g n:Nat}{d d':Array α}{os:Array Obj}{base:Nat}(hk:∀ x,(enc x).length=k)(h1:∀ x,∀ v∈enc x,v.oneCell'=true)(hH:HoldsK enc k w g 0 d)(hg:g<w.heap.size)(hs:d'.size=d.size)(hb:base≤g){cap:Nat}(hc:d.size≤cap)(hm:d.size≤maxLen):
 SliceAt (sortWorldK enc k w g 0 n d' os) (.slice (some ⟨g,0,none⟩) d.size cap) k d'.toList.length (d'.toList.flatMap enc)∧Below base w (sortWorldK enc k w g 0 n d' os):=by
 have hH':HoldsK enc k (sortWorldK enc k w g 0 n d' os) g 0 d':=holdsK_grow enc k _ _ _ _ _ (by simp[putRowK,hg]) (holdsK_putRowK enc k _ _ _ d d' (holdsK_ahead enc k _ _ _ _ _ hH) hs);constructor
 ·refine⟨zh hk _,by simpa[hs] using hm,fun u hu=>?_,.inr ⟨⟨g,0,none⟩,cap,by simp[hs],by simpa[hs] using hc,fun j u hj=>?_⟩⟩
  ·obtain⟨x,-,hx⟩:=List.mem_flatMap.1 hu;exact h1 x u hx
  ·rw[← Cx hk d',Array.getElem?_toList] at hj;obtain⟨hlt,he⟩:=Array.getElem?_eq_some_iff.1 hj;have:=(hH' j hlt).1;rw[getElem!_pos _ j hlt,he] at this;rw[Addr.add_lit];exact this
 ·refine⟨rfl,rfl,rfl,by simp[sortWorldK,putRowK],fun i hi=>?_⟩;have hi':i<(putRowK enc k (Sort.ahead w n) g 0 d').heap.size:=by simp[putRowK];omega
  unfold sortWorldK;rw[heap_grow_old _ _ hi'];exact rP (by omega)
end
theorem UE(w:World)(v:Value)(l:List aS)(base:Nat)(h:w.ownsRow base 94 7 v l.length (l.flatMap aS.cells))(hsz:l.length<4611686018427387904)(hb:base≤w.heap.size):
 Calls Tryz.prog 125 #[v,.func (.func 126) #[] #[]] w fun e w'=>e=.returned (.tuple #[])∧∃ l':List aS,l'.Perm l∧l'.Pairwise (fun x y=>ltOf gY y x=false)∧SliceAt w' v 7 l'.length (l'.flatMap aS.cells)∧Below base w w':=by
 rcases Nat.eq_zero_or_pos l.length with h0|h0
 ·have hl:l=[]:=List.eq_nil_of_length_eq_zero h0;subst hl;have hs:=SliceAt.bC h (by simp);obtain⟨a,c,rfl,-⟩:=hs.form (by decide);refine(AnyF.slices_SortFunc_none aam a c _ w).mono ?_;rintro e w' ⟨rfl,rfl⟩;exact⟨rfl,[],List.Perm.refl _,List.Pairwise.nil,hs,Below.refl _ _⟩
 ·obtain⟨g,cap,cur,rfl,hg,hW,hn,hcm,hcs,ht⟩:=qz h h0;have hH:=R5 aS.len hW rfl ht;have hc:=QS g 0 cap l.toArray w hH hW.lt (by simpa using hsz);refine hc.mono ?_;rintro e w' ⟨rfl,d',n,os,hp,hs,rfl⟩;have hsz':d'.size=l.toArray.size:=hp.1.symm▸rfl;have hA:=Fp (n:=n) (os:=os) (base:=base) aS.len aS.one hH hW.lt hsz' hg (cap:=cap) (by simpa using hn) (by simp;omega);refine⟨rfl,d'.toList,by simpa using Ri hp,?_,hA.1,hA.2⟩;exact Jd (by rw[hsz'];exact hs)
end Go.Proofs.YtdcofoaihmongaaGreat
namespace Go.Proofs.YtdcofoaihmongaaGreat
open Go Go.RowKit Go.Sort Go.WideMaps
theorem Ft:(Tryz.prog.info? 113).map (·.size)=some 4:=by kernel_rfl
theorem acu:iw (Tryz.prog.info? 94) 7 48=true:=by kernel_rfl
theorem ado(x y:bh)(w:World):(Op.equalIn 10000 107 (.agg #[.int .u32 x.allow,.int .u32 x.bq,.int .u32 x.dont]) (.agg #[.int .u32 y.allow,.int .u32 y.bq,.int .u32 y.dont])).run Tryz.prog w=.ok (([decide (x.allow=y.allow),decide (x.bq=y.bq),decide (x.dont=y.dont)]:List Bool).all id) w:=by
 have hf:(Tryz.prog.fieldsOf 107).toList.map (fun f=>(f.type,f.offset))=[(50,0),(50,1),(50,2)]:=by kernel_rfl
 rw[run_equalIn_agg w 9999 107 _ _ (by kernel_rfl) (by kernel_rfl)];refine cM _ _ (by kernel_rfl) (by kernel_rfl) fun i f r hi hr=>?_
 have hm:=congrArg (fun z:List (Nat×Nat)=>z[i]?) hf;simp only[List.getElem?_map,hi,Option.map_some] at hm;have hlt:i<3:=(aya.1 hr).1
 match i,hlt with
 | 0,_=>
  obtain⟨h1,h2⟩:=ayi (ayj hm);obtain rfl:=ayj hr;rw[h1,h2];exact⟨.int .u32 x.allow,.int .u32 y.allow,by kernel_rfl,by kernel_rfl,Sv _ _ _⟩
 | 1,_=>
  obtain⟨h1,h2⟩:=ayi (ayj hm);obtain rfl:=ayj hr;rw[h1,h2];exact⟨.int .u32 x.bq,.int .u32 y.bq,by kernel_rfl,by kernel_rfl,Sv _ _ _⟩
 | 2,_=>
  obtain⟨h1,h2⟩:=ayi (ayj hm);obtain rfl:=ayj hr;rw[h1,h2];exact⟨.int .u32 x.dont,.int .u32 y.dont,by kernel_rfl,by kernel_rfl,Sv _ _ _⟩
theorem Av(v:bh)(w:World):(Op.equalIn 10000 107 (.agg #[.int .u32 v.allow,.int .u32 v.bq,.int .u32 v.dont]) (.agg #[.int .u32 0,.int .u32 0,.int .u32 0])).run Tryz.prog w=.ok (decide (v=bh.zero)) w:=by
 have h:=ado v ⟨0,0,0⟩ w;dsimp only at h;rw[h];obtain⟨a,b,c⟩:=v;simp[bh.zero]
theorem Yt(w:World)(cs:List Value)(t:TypeId):∀ j u,cs[j]?=some u→(w.alloc (.cells cs.toArray t)).cell? ((⟨w.heap.size,0,none⟩:Addr).add j)=some u:=fun j u hj=>by
 rw[Addr.add_lit,Nat.zero_add];exact((Whole.new w t cs.toArray).cell j).trans (by simpa using hj)
theorem Ur{wn w5 w6:World}{o1 o2:Obj}(h5:rL ((wn.alloc o1).alloc o2) w5 wn.heap.size)(h6:rL w5 w6 (wn.heap.size+1)):Below wn.heap.size wn w6:=
 ((((Below.refl _ wn).alloc (Nat.le_refl _) _).alloc (by simp) _).trans (h5.below (Nat.le_refl _))).trans (h6.below (by omega))
def abL:Value×Value→bO×bh
 | (.agg #[.int _ a,.int _ b,.int _ c,.int _ d],.agg #[.int _ x,.int _ y,.int _ z])=>(⟨a,b,c,d⟩,⟨x,y,z⟩)
 | _=>(⟨0,0,0,0⟩,⟨0,0,0⟩)
theorem X4(p:bO×bh):abL (gB p)=p:=rfl
theorem YX{a b:List (bO×bh)}(h:(a.map gB).Perm (b.map gB)):a.Perm b:=by
 have:=h.map abL;rw[List.map_map,List.map_map] at this;have e:abL∘gB=id:=funext X4;simpa[e] using this
theorem Rl{a b:List (bO×bh)}(h:a.Perm b):(mL a).Perm (mL b):=(h.filter nz).map _
theorem Kl(w:World)(mb:Nat)(D:List (bO×bh))(h:aV w Tryz.prog 113 mb (D.map gB))(hD:D.length≤100000000):
 Calls Tryz.prog 61 #[.map (some mb)] w fun e w'=>∃ (v:Value) (l':List aS),e=.returned v∧l'.Perm (mL D)∧l'.Pairwise (fun x y=>ltOf gY y x=false)∧SliceAt w' v 7 l'.length (l'.flatMap aS.cells)∧Below w.heap.size w w':=by
 obtain⟨i0,z,hi,hz0,hz1,hz2,hzs⟩:=kG acu;have HM0:=ayb h;clear h
 go_enter Tryz.func61,Tryz.ntmps61
 go_wp2_with (first|(refine zK _ rfl (.tmp 6) 105 rfl 113 107 Tryz.underlying105 mb (D.map gB) rfl HM0.out ?_;intro w3 hr3 hg3 hs3;have Z8:=ayb hr3;have HG3:=ayb hg3;have HS3:=ayb hs3;clear hr3 hg3 hs3))
 have HG0:=ayb (show KY w w3 mb w.heap.size D [] (D.map gB) (.slice none 0 0) from⟨by simp,World.ownsRow_nil _ _ _ _,Z8.out,⟨HG3.out.os,HG3.out.tape,HG3.out.output,by have:=HS3.out;omega,fun k hk=>HG3.out.block k hk (fun e=>by cases e)⟩,HM0.out.lt,Nat.le_refl _⟩);clear Z8 HG3 HS3 HM0;simp only[Act.put,List.setIfInBounds_toArray,List.set_cons_zero,List.set_cons_succ]
 go_loopw [3] (fun u wr=>∃ E left,KY w wr mb w.heap.size D E left u) (fun _ wr=>wr.rangeLeft mb w.heap.size)
 case atStart=>exact⟨_,_,HG0.out⟩
 case round=>
  clear HG0;obtain⟨E,left,hG⟩:=hrel;have hlen:=hG.rng.left_eq;have HLE:=ayb hlen;have HG:=ayb hG;clear hlen;rcases hG.rng.next 0 with⟨h0,hrun⟩|⟨key,val,left',wn,hp,hrun,hrg,hgr,hsz,hen⟩
  ·have HE0:=ayb h0;clear h0 hG
   go_wp2_with (first|(go_at_call 125;go_must (refine(UE _ _ (mL E) w.heap.size HG.out.row (by have:=HG.out.small;omega) HG.out.sR.size).mono ?_;rintro e w8 ⟨rfl,l',hp8,XI,Zc,R9⟩;have HQ:=ayb (And.intro hp8 (And.intro XI (And.intro Zc R9)));clear hp8 XI Zc R9)))
   go_ret
   obtain⟨hp8,XI,Zc,R9⟩:=HQ.out;refine⟨_,l',rfl,hp8.trans (Rl (YX ?_)),XI,Zc,HG.out.sR.trans R9⟩;have:=HG.out.perm;rw[HE0.out] at this;exact(by simpa using this.symm)
  ·have hmem:(key,val)∈D.map gB:=hG.perm.mem_iff.2 (List.mem_append_left _ (hp.mem_iff.2 (by simp)));obtain⟨⟨k,v⟩,-,he⟩:=ayk.1 hmem;obtain⟨rfl,rfl⟩:.agg #[.int .i64 k.src,.int .i64 k.tgt,.int .i64 k.cls,.int .i64 k.cond]=key∧.agg #[.int .u32 v.allow,.int .u32 v.bq,.int .u32 v.dont]=val:=ayi he;have HM:=ayb (hG.next (p:=(k,v)) hp hrg hgr hsz);have HLL:=ayb (And.intro hp hsz);clear hmem he hp hrg hgr hsz hG;by_cases hv:v=bh.zero
   ·have HNZ:=ayb (show nz (k,v)=false by simp[nz,hv]);have q:∀ W:World,(Op.equalIn 10000 107 (.agg #[.int .u32 v.allow,.int .u32 v.bq,.int .u32 v.dont]) (.agg #[.int .u32 0,.int .u32 0,.int .u32 0])).run Tryz.prog W=.ok true W:=fun W=>by rw[Av];simp[hv]
    have HVZ:=ayb hv;clear hv
    go_wp2_with (first|(refine aG rfl 113 _ _ rfl wn.heap.size 0 (.agg #[.int .i64 k.src,.int .i64 k.tgt,.int .i64 k.cls,.int .i64 k.cond]) rfl rfl 113 _ ((Whole.new wn 113 _).alloc _) (by simp[Value.cells]) Ft rfl ?_;intro w5 S5 W5;rw[bp _ _ (by rfl)] at W5;have HS5:=ayb S5;have Z_:=ayb (show Whole w5 wn.heap.size 113 #[.int .i64 k.src,.int .i64 k.tgt,.int .i64 k.cls,.int .i64 k.cond] from W5);clear S5 W5)|(refine aG rfl 107 _ _ rfl (wn.heap.size+1) 0 (.agg #[.int .u32 v.allow,.int .u32 v.bq,.int .u32 v.dont]) rfl rfl 107 _ (HS5.out.whole (dh wn _ _ _) (by omega)) (by simp[Value.cells]) jf rfl ?_;intro w6 S6 W6;rw[bp _ _ (by rfl)] at W6;have XB:=ayb S6;have Qn:=ayb (show Whole w6 (wn.heap.size+1) 107 #[.int .u32 v.allow,.int .u32 v.bq,.int .u32 v.dont] from W6);have XS:=ayb (Ur HS5.out XB.out);clear S6 W6;have a0:w6.cell? ⟨wn.heap.size,0,none⟩=some (.int .i64 k.src):=(XB.out.whole Z_.out (by omega)).cell 0;have a1:w6.cell? ⟨wn.heap.size,1,none⟩=some (.int .i64 k.tgt):=(XB.out.whole Z_.out (by omega)).cell 1;have a2:w6.cell? ⟨wn.heap.size,2,none⟩=some (.int .i64 k.cls):=(XB.out.whole Z_.out (by omega)).cell 2;have a3:w6.cell? ⟨wn.heap.size,3,none⟩=some (.int .i64 k.cond):=(XB.out.whole Z_.out (by omega)).cell 3;have b0:w6.cell? ⟨wn.heap.size+1,0,none⟩=some (.int .u32 v.allow):=Qn.out.cell 0;have b1:w6.cell? ⟨wn.heap.size+1,1,none⟩=some (.int .u32 v.bq):=Qn.out.cell 1;have b2:w6.cell? ⟨wn.heap.size+1,2,none⟩=some (.int .u32 v.dont):=Qn.out.cell 2))
    go_roundw
    case rel=>exact⟨E++[(k,v)],left',HM.out.skip HNZ.out XS.out⟩
    case measure=>
     have h1:=(HM.out.skip HNZ.out XS.out).rng.left_eq;have h2:=HLL.out.1.length_eq;have h3:=HLE.out;simp only[List.length_cons] at h2;omega
   ·have HNZ:=ayb (show nz (k,v)=true by simp[nz,hv]);have q:∀ W:World,(Op.equalIn 10000 107 (.agg #[.int .u32 v.allow,.int .u32 v.bq,.int .u32 v.dont]) (.agg #[.int .u32 0,.int .u32 0,.int .u32 0])).run Tryz.prog W=.ok false W:=fun W=>by rw[Av];simp[hv]
    have HVZ:=ayb hv;clear hv;have jk:=HM.out.small
    go_wp2_with (first|(refine aG rfl 113 _ _ rfl wn.heap.size 0 (.agg #[.int .i64 k.src,.int .i64 k.tgt,.int .i64 k.cls,.int .i64 k.cond]) rfl rfl 113 _ ((Whole.new wn 113 _).alloc _) (by simp[Value.cells]) Ft rfl ?_;intro w5 S5 W5;rw[bp _ _ (by rfl)] at W5;have HS5:=ayb S5;have Z_:=ayb (show Whole w5 wn.heap.size 113 #[.int .i64 k.src,.int .i64 k.tgt,.int .i64 k.cls,.int .i64 k.cond] from W5);clear S5 W5)|(refine aG rfl 107 _ _ rfl (wn.heap.size+1) 0 (.agg #[.int .u32 v.allow,.int .u32 v.bq,.int .u32 v.dont]) rfl rfl 107 _ (HS5.out.whole (dh wn _ _ _) (by omega)) (by simp[Value.cells]) jf rfl ?_;intro w6 S6 W6;rw[bp _ _ (by rfl)] at W6;have XB:=ayb S6;have Qn:=ayb (show Whole w6 (wn.heap.size+1) 107 #[.int .u32 v.allow,.int .u32 v.bq,.int .u32 v.dont] from W6);have XS:=ayb (Ur HS5.out XB.out);clear S6 W6;have a0:w6.cell? ⟨wn.heap.size,0,none⟩=some (.int .i64 k.src):=(XB.out.whole Z_.out (by omega)).cell 0;have a1:w6.cell? ⟨wn.heap.size,1,none⟩=some (.int .i64 k.tgt):=(XB.out.whole Z_.out (by omega)).cell 1;have a2:w6.cell? ⟨wn.heap.size,2,none⟩=some (.int .i64 k.cls):=(XB.out.whole Z_.out (by omega)).cell 2;have a3:w6.cell? ⟨wn.heap.size,3,none⟩=some (.int .i64 k.cond):=(XB.out.whole Z_.out (by omega)).cell 3;have b0:w6.cell? ⟨wn.heap.size+1,0,none⟩=some (.int .u32 v.allow):=Qn.out.cell 0;have b1:w6.cell? ⟨wn.heap.size+1,1,none⟩=some (.int .u32 v.bq):=Qn.out.cell 1;have b2:w6.cell? ⟨wn.heap.size+1,2,none⟩=some (.int .u32 v.dont):=Qn.out.cell 2)|(have hZ:=HNZ;clear hZ;at_builtin;go_must (refine wpList_append_own _ rfl _ _ 47 rfl w.heap.size 94 i0 z 7 48 Tryz.underlying47 hi hz0 hz1 hz2 hzs (by decide) _ _ _ rfl (jD (HM.out.own XS.out) _) ⟨w6.heap.size,0,none⟩ 1 1 [.int .i64 k.src,.int .i64 k.tgt,.int .i64 k.cls,.int .i64 k.cond,.int .u32 v.allow,.int .u32 v.bq,.int .u32 v.dont] rfl rfl (Yt _ _ _) ?c2 ?c3 ?c4 ?c5 ?_)))
    case c2=>simp[Value.oneCell']
    case c3=>unfold maxLen;omega
    case c4=>omega
    case c5=>have:=HM.out.sR.size;have:=XS.out.size;simp;omega
    intro v' w9 hown' hgrow hnil;have HN9:=ayb (HM.out.more HNZ.out XS.out hown' hgrow);clear hgrow hnil hown' a0 a1 a2 a3 b0 b1 b2
    go_wp2
    go_roundw
    case rel=>exact⟨E++[(k,v)],left',HN9.out⟩
    case measure=>
     have h1:=HN9.out.rng.left_eq;have h2:=HLL.out.1.length_eq;have h3:=HLE.out;simp only[List.length_cons] at h2;omega
theorem DN(w:World)(mb n:Nat)(f:bO→bh)(h:jr w mb n f)(hn:n≤100000000):
 Calls Tryz.prog 61 #[.map (some mb)] w fun e w'=>∃ v l,e=.returned v∧Canon f l∧(∀ x∈l,x.Ok)∧l.length≤n∧SliceAt w' v 7 l.length (l.flatMap aS.cells)∧Below w.heap.size w w':=by
 obtain⟨D,h1,h2,h3,h4⟩:=h.ex;refine(Kl w mb D h1 (by omega)).mono ?_;rintro e w' ⟨v,l',rfl,hp,hs,hsl,hb⟩;refine⟨v,l',rfl,Hq (jr.nodup h1) (fun p hp=>(h2 p hp).1) h3 hp hs,fun x hx=>?_,?_,hsl,hb⟩
 ·have hx:=hp.mem_iff.1 hx;unfold mL at hx;obtain⟨p,hp,rfl⟩:=ayk.1 hx;have:=h2 p (List.mem_filter.1 hp).1;exact⟨this.2.1,this.2.2⟩
 ·have:=hp.length_eq;have:=BF D;omega
theorem Yi:(Tryz.prog.info? 111).map (·.size)=some 2:=by kernel_rfl
theorem Sx(s:ay):(elems s).length≤256:=dY s 256
theorem El(r:aj):r.pairs.length≤65536:=by
 have h1:=mQ r (elems r.src);have h2:=Sx r.src;unfold aj.pairs;omega
theorem YZ(l:List aj):(nJ l).length≤l.length*65536:=by
 induction l with
 | nil=>simp[nJ]
 | cons r l ih=>
  have e:nJ (r::l)=ji r r.pairs++nJ l:=by simp[nJ]
  have:=El r;rw[e,ax_,List.length_cons];unfold ji;rw[ayh];omega
theorem WX{wr w1 w2 w3:World}{o o2:Obj}(h1:rL (wr.alloc o) w1 wr.heap.size)(h2:ayp w1.heap.size w1 w2)(h3:rL (w2.alloc o2) w3 w2.heap.size):ayp wr.heap.size wr w3:=by
 have a:ayp wr.heap.size wr w1:=((Below.refl _ wr).alloc (Nat.le_refl _) _).trans (h1.below (Nat.le_refl _));have b:=a.trans (h2.mono a.size);exact(b.alloc b.size _).trans (h3.below (by have:=b.size;omega))
theorem adz{wq w5 w6:World}{o o2:Obj}(h1:rL (wq.alloc o) w5 wq.heap.size)(h3:rL (w5.alloc o2) w6 w5.heap.size):ayp wq.heap.size wq w6:=by
 have a:ayp wq.heap.size wq w5:=((Below.refl _ wq).alloc (Nat.le_refl _) _).trans (h1.below (Nat.le_refl _));exact(a.alloc a.size _).trans (h3.below (by have:=a.size;omega))
theorem qM(w:World)(a0 a1 a2 a3 a4 a5 a6 a7 a8 v Qi Qh a12 XQ Qg Qf Qe:Value)(l:List aj)(h:SliceAt w v 13 l.length (l.flatMap aj.cells))(hok:∀ r∈l,r.Wf)(hlen:l.length≤1000):
 Calls Tryz.prog 15 #[.agg #[a0,a1,a2,a3,a4,a5,a6,a7,a8,v,Qi,Qh,a12,XQ,Qg,Qf,Qe]] w fun e w'=>∃ v' l',e=.returned v'∧Canon (accum (nJ l)) l'∧(∀ x∈l',x.Ok)∧l'.length≤65536000∧SliceAt w' v' 7 l'.length (l'.flatMap aS.cells)∧ayp w.heap.size w w':=by
 obtain⟨n,hn⟩:∃ n,n=l.length:=⟨_,rfl⟩;obtain⟨a,c,rfl,hc,xI,hcell⟩:=h.form (by decide);have HL:=ayb hn;have HC:=ayb (And.intro hcell hc);have HOK:=ayb hok;rw[← hn] at hlen xI hc;simp only[← hn];clear hn hcell h hok;obtain⟨wo,bP⟩:∃ wo,wo=w.alloc (.cells #[a0,a1,a2,a3,a4,a5,a6,a7,a8,.slice a n c,Qi,Qh,a12,XQ,Qg,Qf,Qe] 39):=⟨_,rfl⟩;have HWO:=ayb (show ayp w.heap.size w wo by rw[bP];exact(Below.refl _ w).alloc (Nat.le_refl _) _);have k9:(wo.alloc (.map #[] 0)).cell? ⟨w.heap.size,9,none⟩=some (.slice a n c):=by rw[bP];exact((Whole.new w 39 _).alloc _).cell 9
 have q1:(Instr.makeMap 105 none).run Tryz.prog wo=.ok (.map (some wo.heap.size)) (wo.alloc (.map #[] 0)):=rfl
 go_enter Tryz.func15,Tryz.ntmps15
 go_upto_region 1 with fail
 rw[← bP];clear bP
 go_wp2
 obtain⟨mb,hmb⟩:∃ mb,mb=wo.heap.size:=⟨_,rfl⟩;have Ds:=ayb (show Expand w (wo.alloc (.map #[] 0)) mb (nJ (l.take 0)) from⟨by rw[hmb];simpa[nJ,ET] using jr.made wo,HWO.out.alloc HWO.out.size _,by rw[hmb];exact HWO.out.size⟩);obtain⟨wm,hwm⟩:∃ wm,wm=wo.alloc (.map #[] 0):=⟨_,rfl⟩;rw[← hwm] at Ds;rw[← hmb,← hwm];clear hwm hmb q1 k9
 go_loopw [14] (fun i wr=>∃ k:Nat,k≤n∧i=.int .i64 k∧Expand w wr mb (nJ (l.take k))) (fun i _=>n-(intOf i).toNat)
 case atStart=>exact⟨0,ayc _,rfl,Ds.out⟩
 case round=>
  clear Ds;obtain⟨wz,rfl⟩:∃ wz:World,wz=wr:=⟨_,rfl⟩;obtain⟨i,hi,rfl,hR⟩:=hrel;have HR:=ayb hR;clear hR;by_cases hlt:i<n
  ·have hln:i<l.length:=by rw[← HL.out];exact hlt
   obtain⟨r,hr⟩:∃ r,l[i]?=some r:=⟨_,ayd hln⟩;have HRI:=ayb hr;have HRK:=ayb (HOK.out r (aye hr));obtain⟨b,off,rfl,hcl⟩:=HC.out.1 i hln;have e0:wz.cell? ⟨b,off+i*13,none⟩=some (.int .i64 r.kind):=ayg HR.out.sR (hcl 0 _ (by rw[cE fA hr 0 (by decide)];rfl));have e1:wz.cell? ⟨b,off+i*13+1,none⟩=some (.int .u64 r.src.a):=ayg HR.out.sR (hcl 1 _ (by rw[cE fA hr 1 (by decide)];rfl));have e2:wz.cell? ⟨b,off+i*13+2,none⟩=some (.int .u64 r.src.b):=ayg HR.out.sR (hcl 2 _ (by rw[cE fA hr 2 (by decide)];rfl));have e3:wz.cell? ⟨b,off+i*13+3,none⟩=some (.int .u64 r.src.c):=ayg HR.out.sR (hcl 3 _ (by rw[cE fA hr 3 (by decide)];rfl));have e4:wz.cell? ⟨b,off+i*13+4,none⟩=some (.int .u64 r.src.d):=ayg HR.out.sR (hcl 4 _ (by rw[cE fA hr 4 (by decide)];rfl));have e5:wz.cell? ⟨b,off+i*13+5,none⟩=some (.int .u64 r.tgt.a):=ayg HR.out.sR (hcl 5 _ (by rw[cE fA hr 5 (by decide)];rfl));have e6:wz.cell? ⟨b,off+i*13+6,none⟩=some (.int .u64 r.tgt.b):=ayg HR.out.sR (hcl 6 _ (by rw[cE fA hr 6 (by decide)];rfl));have e7:wz.cell? ⟨b,off+i*13+7,none⟩=some (.int .u64 r.tgt.c):=ayg HR.out.sR (hcl 7 _ (by rw[cE fA hr 7 (by decide)];rfl));have e8:wz.cell? ⟨b,off+i*13+8,none⟩=some (.int .u64 r.tgt.d):=ayg HR.out.sR (hcl 8 _ (by rw[cE fA hr 8 (by decide)];rfl));have e9:wz.cell? ⟨b,off+i*13+9,none⟩=some (.bool r.self):=ayg HR.out.sR (hcl 9 _ (by rw[cE fA hr 9 (by decide)];rfl));have e10:wz.cell? ⟨b,off+i*13+10,none⟩=some (.int .i64 r.cls):=ayg HR.out.sR (hcl 10 _ (by rw[cE fA hr 10 (by decide)];rfl));have e11:wz.cell? ⟨b,off+i*13+11,none⟩=some (.int .u32 r.perms):=ayg HR.out.sR (hcl 11 _ (by rw[cE fA hr 11 (by decide)];rfl));have e12:wz.cell? ⟨b,off+i*13+12,none⟩=some (.int .i64 r.cond):=ayg HR.out.sR (hcl 12 _ (by rw[cE fA hr 12 (by decide)];rfl));clear hr hcl hln;obtain⟨V,hV⟩:∃ V,V=gh r.kind r.perms:=⟨_,rfl⟩;have HV:=ayb hV;clear hV;have HCV:=ayb (show ∀ W,Calls Tryz.prog 58 #[.int .i64 r.kind,.int .u32 r.perms] W fun e w'=>e=.returned (.agg #[.int .u32 V.allow,.int .u32 V.bq,.int .u32 V.dont])∧ayp W.heap.size W w' from fun W=>by rw[HV.out];exact ab6 W r.kind r.perms);by_cases hv:V=bh.zero
   ·have q:∀ W:World,(Op.equalIn 10000 107 (.agg #[.int .u32 V.allow,.int .u32 V.bq,.int .u32 V.dont]) (.agg #[.int .u32 0,.int .u32 0,.int .u32 0])).run Tryz.prog W=.ok true W:=fun W=>by rw[Av];simp[hv]
    have HVZ:=ayb hv;clear hv
    go_wp2_with (first|(refine aG rfl 56 _ _ rfl wz.heap.size 0 (.agg #[.int .i64 r.kind,.int .u64 r.src.a,.int .u64 r.src.b,.int .u64 r.src.c,.int .u64 r.src.d,.int .u64 r.tgt.a,.int .u64 r.tgt.b,.int .u64 r.tgt.c,.int .u64 r.tgt.d,.bool r.self,.int .i64 r.cls,.int .u32 r.perms,.int .i64 r.cond]) rfl rfl 56 _ (Whole.new wz 56 _) (by simp[Value.cells]) L6 rfl ?_;intro w1 SE1 WE1;rw[bp _ _ (by rfl)] at WE1;have Ol:=ayb SE1;have Tl:=ayb (show Whole w1 wz.heap.size 56 #[.int .i64 r.kind,.int .u64 r.src.a,.int .u64 r.src.b,.int .u64 r.src.c,.int .u64 r.src.d,.int .u64 r.tgt.a,.int .u64 r.tgt.b,.int .u64 r.tgt.c,.int .u64 r.tgt.d,.bool r.self,.int .i64 r.cls,.int .u32 r.perms,.int .i64 r.cond] from WE1);clear SE1 WE1 e0 e1 e2 e3 e4 e5 e6 e7 e8 e9 e10 e11 e12;have k0:w1.cell? ⟨wz.heap.size,0,none⟩=some (.int .i64 r.kind):=Tl.out.cell 0;have k11:w1.cell? ⟨wz.heap.size,11,none⟩=some (.int .u32 r.perms):=Tl.out.cell 11)|(go_at_call 58;go_must (refine(HCV.out _).mono ?_;rintro e w2 ⟨rfl,hb2⟩;have nL:=ayb hb2;clear hb2 k0 k11))|(refine aG rfl 107 _ _ rfl w2.heap.size 0 (.agg #[.int .u32 V.allow,.int .u32 V.bq,.int .u32 V.dont]) rfl rfl 107 _ (Whole.new w2 107 _) (by simp[Value.cells]) jf rfl ?_;intro w3 SE3 WE3;rw[bp _ _ (by rfl)] at WE3;have Oj:=ayb SE3;have HE3:=ayb (show Whole w3 w2.heap.size 107 #[.int .u32 V.allow,.int .u32 V.bq,.int .u32 V.dont] from WE3);clear SE3 WE3 ;have HB3:=ayb (WX Ol.out nL.out Oj.out);have Z8:=ayb (Whole.under (((Below.refl _ w2).alloc (Nat.le_refl _) _).trans (Oj.out.below (Nat.le_refl _))) (Whole.under nL.out Tl.out Tl.out.lt) (by have:=nL.out.size;have:=Tl.out.lt;omega));have HBV:=ayb (show wz.heap.size≤w2.heap.size from ayf (by have:=Ol.out.size;simp at this;omega) nL.out.size);clear Ol nL Oj Tl)|(refine wpList_load_row rfl 107 _ rfl w2.heap.size rfl 107 _ (0,0) _ HE3.out Tryz.underlying107 rfl jf ?_))
    go_roundw
    case rel=>exact⟨i+1,by omega,by go_num,HR.out.skip HRI.out (by rw[← HV.out];exact HVZ.out) HB3.out⟩
    case measure=>simp[intOf];omega
   ·have q:∀ W:World,(Op.equalIn 10000 107 (.agg #[.int .u32 V.allow,.int .u32 V.bq,.int .u32 V.dont]) (.agg #[.int .u32 0,.int .u32 0,.int .u32 0])).run Tryz.prog W=.ok false W:=fun W=>by rw[Av];simp[hv]
    clear hv;obtain⟨pn,hpn⟩:∃ pn,pn=r.pairs.length:=⟨_,rfl⟩;have HPN:=ayb hpn;have hpl:pn≤65536:=by rw[hpn];exact El r
    clear hpn
    go_wp2_with (first|(refine aG rfl 56 _ _ rfl wz.heap.size 0 (.agg #[.int .i64 r.kind,.int .u64 r.src.a,.int .u64 r.src.b,.int .u64 r.src.c,.int .u64 r.src.d,.int .u64 r.tgt.a,.int .u64 r.tgt.b,.int .u64 r.tgt.c,.int .u64 r.tgt.d,.bool r.self,.int .i64 r.cls,.int .u32 r.perms,.int .i64 r.cond]) rfl rfl 56 _ (Whole.new wz 56 _) (by simp[Value.cells]) L6 rfl ?_;intro w1 SE1 WE1;rw[bp _ _ (by rfl)] at WE1;have Ol:=ayb SE1;have Tl:=ayb (show Whole w1 wz.heap.size 56 #[.int .i64 r.kind,.int .u64 r.src.a,.int .u64 r.src.b,.int .u64 r.src.c,.int .u64 r.src.d,.int .u64 r.tgt.a,.int .u64 r.tgt.b,.int .u64 r.tgt.c,.int .u64 r.tgt.d,.bool r.self,.int .i64 r.cls,.int .u32 r.perms,.int .i64 r.cond] from WE1);clear SE1 WE1 e0 e1 e2 e3 e4 e5 e6 e7 e8 e9 e10 e11 e12;have k0:w1.cell? ⟨wz.heap.size,0,none⟩=some (.int .i64 r.kind):=Tl.out.cell 0;have k11:w1.cell? ⟨wz.heap.size,11,none⟩=some (.int .u32 r.perms):=Tl.out.cell 11)|(go_at_call 58;go_must (refine(HCV.out _).mono ?_;rintro e w2 ⟨rfl,hb2⟩;have nL:=ayb hb2;clear hb2 k0 k11))|(refine aG rfl 107 _ _ rfl w2.heap.size 0 (.agg #[.int .u32 V.allow,.int .u32 V.bq,.int .u32 V.dont]) rfl rfl 107 _ (Whole.new w2 107 _) (by simp[Value.cells]) jf rfl ?_;intro w3 SE3 WE3;rw[bp _ _ (by rfl)] at WE3;have Oj:=ayb SE3;have HE3:=ayb (show Whole w3 w2.heap.size 107 #[.int .u32 V.allow,.int .u32 V.bq,.int .u32 V.dont] from WE3);clear SE3 WE3 ;have HB3:=ayb (WX Ol.out nL.out Oj.out);have Z8:=ayb (Whole.under (((Below.refl _ w2).alloc (Nat.le_refl _) _).trans (Oj.out.below (Nat.le_refl _))) (Whole.under nL.out Tl.out Tl.out.lt) (by have:=nL.out.size;have:=Tl.out.lt;omega));have HBV:=ayb (show wz.heap.size≤w2.heap.size from ayf (by have:=Ol.out.size;simp at this;omega) nL.out.size);clear Ol nL Oj Tl)|(refine wpList_load_row rfl 107 _ rfl w2.heap.size rfl 107 _ (0,0) _ HE3.out Tryz.underlying107 rfl jf ?_)|(have hZ:=Z8;clear hZ;refine wpList_load_row rfl 56 _ rfl wz.heap.size rfl 56 _ (0,0) _ Z8.out Tryz.underlying56 rfl L6 ?_)|(go_at_call 59;go_must (refine(UM _ r HRK.out.ok).mono ?_;rintro e w4 ⟨v4,rfl,ho4,hb4⟩;obtain⟨pa,pc,rfl,hpc,-,VZ⟩:=(SliceAt.bC ho4 (Mw _)).form (by decide);have HO4:=ayb ho4;rw[← HPN.out] at hpc ⊢;have HPL:=ayb (And.intro VZ hpc);have HB4:=ayb (HB3.out.trans (hb4.mono HB3.out.size));have HR4:=ayb (Whole.under hb4 Z8.out Z8.out.lt);have HV4:=ayb (Whole.under hb4 HE3.out HE3.out.lt);clear ho4 hb4 VZ Z8 HE3)))
    have hmz:=HR.out.map.lt
    have HIN:=ayb (show KZ w w4 mb wz.heap.size w2.heap.size r V pa pn pc (nJ (l.take i)) 0 from
     ⟨by simpa[ji] using HR.out.keep HB4.out,HR4.out,HV4.out,HPL.out.1,by omega,by have:=HBV.out;omega,fun b off e=>by
      subst e;have h1:=(HO4.out.lt b rfl).1;have h2:=HB3.out.size;omega⟩)
    clear HB4 HR4 HV4 HO4 HB3 HBV HPL hmz
    go_loopw [29] (fun u wq=>∃ j:Nat,j≤pn∧u=.int .i64 j∧KZ w wq mb wz.heap.size w2.heap.size r V pa pn pc (nJ (l.take i)) j) (fun u _=>pn-(intOf u).toNat)
    case atStart=>exact⟨0,ayc _,rfl,HIN.out⟩
    case round=>
     clear HIN;obtain⟨j,hj,rfl,hI⟩:=hrel;have HI:=ayb hI;clear hI;by_cases hjl:j<pn
     ·have hjp:j<r.pairs.length:=by rw[← HPN.out];exact hjl
      obtain⟨y,hy⟩:∃ y,r.pairs[j]?=some y:=⟨_,ayd hjp⟩;have HY:=ayb hy;have HYK:=ayb (HRK.out.key (aye hy));obtain⟨b2,off2,rfl,acV⟩:=HI.out.cell j hjp;have p0:wr.cell? ⟨b2,off2+j*2,none⟩=some (.int .i64 (y.1:Int)):=acV 0 _ (by unfold eE;rw[cE (f:=yQ) (fun _=>rfl) hy 0 (by decide)];rfl);have p1:wr.cell? ⟨b2,off2+j*2+1,none⟩=some (.int .i64 (y.2:Int)):=acV 1 _ (by unfold eE;rw[cE (f:=yQ) (fun _=>rfl) hy 1 (by decide)];rfl);clear hy acV hjp;obtain⟨f,hf⟩:∃ f,f=accum (nJ (l.take i)++ji r (r.pairs.take j)):=⟨_,rfl⟩;obtain⟨m,hm⟩:∃ m,m=(nJ (l.take i)++ji r (r.pairs.take j)).length:=⟨_,rfl⟩;have HFJ:=ayb (And.intro hf HV.out);have HMJ:=ayb hm;clear hf hm
      go_upto_region 11 with(first|(refine aG rfl 111 _ _ rfl wr.heap.size 0 (.agg #[.int .i64 (y.1:Int),.int .i64 (y.2:Int)]) rfl rfl 111 _ (Whole.new wr 111 _) (by simp[Value.cells]) Yi rfl ?_;intro w5 SF1 WF1;rw[bp _ _ (by rfl)] at WF1;have ad3:=ayb SF1;have HF1:=ayb (show Whole w5 wr.heap.size 111 #[.int .i64 (y.1:Int),.int .i64 (y.2:Int)] from WF1);have HR5:=ayb (ad3.out.whole (HI.out.rule.alloc _) (by have:=HI.out.rule.lt;omega));clear SF1 WF1 p0 p1;have q0:w5.cell? ⟨wr.heap.size,0,none⟩=some (.int .i64 (y.1:Int)):=HF1.out.cell 0;have q1:w5.cell? ⟨wr.heap.size,1,none⟩=some (.int .i64 (y.2:Int)):=HF1.out.cell 1;have k10:w5.cell? ⟨wz.heap.size,10,none⟩=some (.int .i64 r.cls):=HR5.out.cell 10;have k12:w5.cell? ⟨wz.heap.size,12,none⟩=some (.int .i64 r.cond):=HR5.out.cell 12)|(refine aG rfl 113 _ _ rfl w5.heap.size 0 (.agg #[.int .i64 (y.1:Int),.int .i64 (y.2:Int),.int .i64 r.cls,.int .i64 r.cond]) rfl rfl 113 _ (Whole.new w5 113 _) (by simp[Value.cells]) Ft rfl ?_;intro w6 SF2 WF2;rw[bp _ _ (by rfl)] at WF2;have ag4:=ayb SF2;have Lh:=ayb (show Whole w6 w5.heap.size 113 #[.int .i64 (y.1:Int),.int .i64 (y.2:Int),.int .i64 r.cls,.int .i64 r.cond] from WF2);clear SF2 WF2 q0 q1 k10 k12;have XS:=ayb (adz ad3.out ag4.out)))
      have HM6:=ayb (show jr w6 mb m f by rw[HFJ.out.1,HMJ.out];exact HI.out.exp.map.kept (XS.out.block _ HI.out.exp.map.lt));have Qn:=ayb (Whole.under XS.out HI.out.vec HI.out.vec.lt);have HIO:=HI;clear ad3 HF1 ag4 HR5 HI;refine dP (fun w w'=>Below w.heap.size w w') [some 42,some 43,some 44,some 45,some 46,some 47,some 48] [bI (.map (some mb)),bI (.agg #[.int .i64 (y.1:Int),.int .i64 (y.2:Int),.int .i64 r.cls,.int .i64 r.cond]),bI (.map (some mb)),bI (.agg #[.int .i64 (y.1:Int),.int .i64 (y.2:Int),.int .i64 r.cls,.int .i64 r.cond]),bI (.agg #[.int .u32 (f (nw r y)).allow,.int .u32 (f (nw r y)).bq,.int .u32 (f (nw r y)).dont]),bI (.agg #[.int .u32 V.allow,.int .u32 V.bq,.int .u32 V.dont]),bI (.agg #[.int .u32 ((f (nw r y)).or V).allow,.int .u32 ((f (nw r y)).or V).bq,.int .u32 ((f (nw r y)).or V).dont])] (fun _ w'=>ayp w6.heap.size w6 w') 7 (by kernel_rfl) (by kernel_rfl) (by kernel_rfl) rfl (by decide) rfl rfl ((Below.refl _ _).drew) ⟨ak _,ak _,ak _,ak _,ak _,ak _,ak _,trivial⟩ ⟨(fun _=>aq _),(fun _=>aq _),(fun _=>aq _),(fun _=>aq _),(fun _=>aq _),(fun _=>aq _),(fun _=>aq _),trivial⟩ ⟨?_,?_,?_,?_,?_,?_,?_,?_⟩
      ·intro L a wx Q' hL hi H F hK
       try dsimp only at hi
       have h3:a.tmps[3]?=some (.map (some mb)):=F 3 rfl;have HI:=ayb hi;clear H F hi hL
       go_wp2_with fail
       exact hK _ _ (Below.refl _ _) HI.out rfl
      ·intro L a wx Q' hL hi H F hK
       try dsimp only at hi
       have h9:a.tmps[9]?=some (.pointer (some ⟨w5.heap.size,0,none⟩)):=F 9 rfl;have HI:=ayb hi;clear H F hi hL;have RS:wx.cell? ⟨w5.heap.size,0,none⟩=some (.int .i64 (y.1:Int)):=(Whole.under HI.out Lh.out (Whole.lt Lh.out)).cell 0;have kq1:wx.cell? ⟨w5.heap.size,1,none⟩=some (.int .i64 (y.2:Int)):=(Whole.under HI.out Lh.out (Whole.lt Lh.out)).cell 1;have kq2:wx.cell? ⟨w5.heap.size,2,none⟩=some (.int .i64 r.cls):=(Whole.under HI.out Lh.out (Whole.lt Lh.out)).cell 2;have kq3:wx.cell? ⟨w5.heap.size,3,none⟩=some (.int .i64 r.cond):=(Whole.under HI.out Lh.out (Whole.lt Lh.out)).cell 3
       go_wp2_with fail
       exact hK _ _ (Below.refl _ _) HI.out rfl
      ·intro L a wx Q' hL hi H F hK
       try dsimp only at hi
       have h3:a.tmps[3]?=some (.map (some mb)):=F 3 rfl;have HI:=ayb hi;clear H F hi hL
       go_wp2_with fail
       exact hK _ _ (Below.refl _ _) HI.out rfl
      ·intro L a wx Q' hL hi H F hK
       try dsimp only at hi
       have h9:a.tmps[9]?=some (.pointer (some ⟨w5.heap.size,0,none⟩)):=F 9 rfl;have HI:=ayb hi;clear H F hi hL;have RS:wx.cell? ⟨w5.heap.size,0,none⟩=some (.int .i64 (y.1:Int)):=(Whole.under HI.out Lh.out (Whole.lt Lh.out)).cell 0;have kq1:wx.cell? ⟨w5.heap.size,1,none⟩=some (.int .i64 (y.2:Int)):=(Whole.under HI.out Lh.out (Whole.lt Lh.out)).cell 1;have kq2:wx.cell? ⟨w5.heap.size,2,none⟩=some (.int .i64 r.cls):=(Whole.under HI.out Lh.out (Whole.lt Lh.out)).cell 2;have kq3:wx.cell? ⟨w5.heap.size,3,none⟩=some (.int .i64 r.cond):=(Whole.under HI.out Lh.out (Whole.lt Lh.out)).cell 3
       go_wp2_with fail
       exact hK _ _ (Below.refl _ _) HI.out rfl
      ·intro L a wx Q' hL hi H F hK
       try dsimp only at hi
       obtain⟨_,h44,rfl⟩:=H 2 ⟨.data,by simp,rfl⟩ _ rfl;replace h44:=h44 _ rfl;obtain⟨_,h45,rfl⟩:=H 3 ⟨.data,by simp,rfl⟩ _ rfl;replace h45:=h45 _ rfl;have HI:=ayb hi;clear H F hi hL;have q:(Instr.lookup 105 (.map (some mb)) (.agg #[.int .i64 (y.1:Int),.int .i64 (y.2:Int),.int .i64 r.cls,.int .i64 r.cond]) false).run Tryz.prog wx=.ok (.agg #[.int .u32 (f (nw r y)).allow,.int .u32 (f (nw r y)).bq,.int .u32 (f (nw r y)).dont]) wx:=(jr.kept HM6.out (HI.out.block _ HM6.out.lt)).look HYK.out
       go_wp2_with fail
       exact hK _ _ (Below.refl _ _) HI.out rfl
      ·intro L a wx Q' hL hi H F hK
       try dsimp only at hi
       have h6:a.tmps[6]?=some (.pointer (some ⟨w2.heap.size,0,none⟩)):=F 6 rfl;have HI:=ayb hi;clear H F hi hL;have RS:wx.cell? ⟨w2.heap.size,0,none⟩=some (.int .u32 V.allow):=(Whole.under HI.out Qn.out (Whole.lt Qn.out)).cell 0;have kq1:wx.cell? ⟨w2.heap.size,1,none⟩=some (.int .u32 V.bq):=(Whole.under HI.out Qn.out (Whole.lt Qn.out)).cell 1;have kq2:wx.cell? ⟨w2.heap.size,2,none⟩=some (.int .u32 V.dont):=(Whole.under HI.out Qn.out (Whole.lt Qn.out)).cell 2
       go_wp2_with fail
       exact hK _ _ (Below.refl _ _) HI.out rfl
      ·intro L a wx Q' hL hi H F hK
       try dsimp only at hi
       obtain⟨_,h46,rfl⟩:=H 4 ⟨.data,by simp,rfl⟩ _ rfl;replace h46:=h46 _ rfl;obtain⟨_,h47,rfl⟩:=H 5 ⟨.data,by simp,rfl⟩ _ rfl;replace h47:=h47 _ rfl;have HI:=ayb hi;clear H F hi hL
       go_wp2_with (go_at_call 60;go_must (refine(XZ wx (f (nw r y)) V).mono ?_;rintro e w1 ⟨rfl,hb1⟩))
       exact hK _ _ hb1 (HI.out.trans (hb1.mono HI.out.size)) rfl
      ·intro a wx hl L hi hL Q' hK
       try dsimp only at hi
       have HB:=ayb hi;clear hi hL;obtain⟨_,rfl,_,rfl,_,rfl,_,rfl,_,rfl,_,rfl,_,rfl,rfl⟩:=hl;simp only[List.setIfInBounds_toArray,List.set_cons_zero,List.set_cons_succ]
       go_wp2_with (refine AU _ rfl (.tmp 42) (.tmp 43) (.tmp 48) 105 rfl (.map (some mb)) (.agg #[.int .i64 (y.1:Int),.int .i64 (y.2:Int),.int .i64 r.cls,.int .i64 r.cond]) (.agg #[.int .u32 ((f (nw r y)).or V).allow,.int .u32 ((f (nw r y)).or V).bq,.int .u32 ((f (nw r y)).or V).dont]) rfl rfl rfl (fun w'=>jr w' mb (m+1) (fun x=>if x=(nw r y) then ((f (nw r y)).or V) else f x)∧wx.grownBy w' (some mb)∧w'.heap.size=wx.heap.size) ((jr.kept HM6.out (HB.out.block _ HM6.out.lt)).put HYK.out (bh.Eo _ _)) ?_;intro w7 hp;have HP:=ayb hp;clear hp)
       go_roundw
       case rel=>exact⟨j+1,by omega,by go_num,HIO.out.step HFJ.out HMJ.out XS.out HB.out HP.out.1 HP.out.2.1 HP.out.2.2 HY.out⟩
       case measure=>simp[intOf];omega
     ·obtain rfl:j=pn:=by omega
      have HX:=ayb (show Expand w wr mb (nJ (l.take (i+1))) by
       have h:=HI.out.exp;rw[HPN.out,ayo] at h;rw[JQ HRI.out];exact h)
      go_wp2_with fail
      go_roundw
      case rel=>exact⟨i+1,by omega,by go_num,HX.out⟩
      case measure=>simp[intOf];omega
  ·obtain rfl:i=n:=by omega
   have hML:(nJ (l.take i)).length≤65536000:=by have:=YZ (l.take i);have:=List.length_take_le i l;omega
   have HC1:=ayb (DN wz mb _ _ HR.out.map (ayf hML (by decide)));have HML:=ayb hML;clear hlen hlt hi xI hML
   go_wp2_with (go_at_call 61;go_must (refine HC1.out.mono ?_;rintro e w1 ⟨v1,l1,rfl,hq⟩;have HQ:=ayb hq;clear hq))
   go_ret
   obtain⟨hc1,ho1,hl1,hs1,hb1⟩:=HQ.out;refine⟨_,l1,rfl,?_,ho1,ayf hl1 HML.out,hs1,HR.out.sR.trans (hb1.mono HR.out.sR.size)⟩
   rwa [HL.out,ayo] at hc1
end Go.Proofs.YtdcofoaihmongaaGreat
namespace Go.Proofs.YtdcofoaihmongaaGreat
open Go Go.RowKit
def aj.DI(r:aj)(x:aS):Bool:=decide (r.kind=4)&&decide (r.cls=x.cls)&&r.fit x.src x.tgt
def fP(x:aS)(v:Int)(r:aj):Int:=if r.DI x then bits .or .u32 v (bits .and .u32 r.perms x.allow) else v
def ef(l:List aj)(x:aS):Int:=l.foldl (fP x) 0
def Vj(x:aS)(v:Int):aS:=⟨x.src,x.tgt,x.cls,x.cond,v,0,0⟩
def iN(l:List aj)(E:List aS):List aS:=(E.filter fun x=>decide (ef l x≠0)).map fun x=>Vj x (ef l x)
theorem BQ{l:List aj}{i:Nat}{r:aj}{x:aS}(h:l[i]?=some r):ef (l.take (i+1)) x=fP x (ef (l.take i) x) r:=by
 unfold ef;rw[bn h,List.foldl_append];rfl
theorem yT{l:List aj}{E:List aS}{i:Nat}{x:aS}(h:E[i]?=some x):iN l (E.take (i+1))=iN l (E.take i)++(if ef l x=0 then [] else [Vj x (ef l x)]):=by
 unfold iN;rw[bn h,List.filter_append,List.map_append];congr 1;by_cases hz:ef l x=0<;>simp[hz]
theorem MS(l:List aj)(E:List aS):(iN l E).length≤E.length:=by
 unfold iN;rw[ayh];exact List.length_filter_le _ _
def XF(E:List aS):Value→World→Prop:=fun v w=>SliceAt w v 7 E.length (E.flatMap aS.cells)
theorem agG(x y:aS)(w:World):(Op.equalIn 10000 94 (.agg #[.int .i64 x.src,.int .i64 x.tgt,.int .i64 x.cls,.int .i64 x.cond,.int .u32 x.allow,.int .u32 x.bq,.int .u32 x.dont]) (.agg #[.int .i64 y.src,.int .i64 y.tgt,.int .i64 y.cls,.int .i64 y.cond,.int .u32 y.allow,.int .u32 y.bq,.int .u32 y.dont])).run Tryz.prog w=.ok (decide (x=y)) w:=by
 rw[WG];congr 1;rw[Bool.eq_iff_iff];cases x;cases y;simp
theorem yO(w0:World)(u v:Value)(E F:List aS)(hE:XF E u w0)(hF:XF F v w0):Calls Tryz.prog 37 #[u,v] w0 fun r w'=>r=.returned (.bool (decide (E=F)))∧ayp w0.heap.size w0 w':=by
 obtain⟨ea,ec,rfl,-,hem,-⟩:=SliceAt.form hE (by decide);obtain⟨fa,fc,rfl,-⟩:=SliceAt.form hF (by decide);refine dD [] (fn:=Tryz.f37) Tryz.func37 rfl Tryz.ntmps37 rfl<|an (fun h=>fun M=>⟨rb ?_,M.below⟩) fun h=>?_
 ·simp only[Bool.not_eq_true',decide_eq_false_iff_not] at h;exact decide_eq_false fun e=>h (congrArg (fun l:List aS=>(l.length:Int)) e)
 have hl:E.length=F.length:=by simp at h;omega
 refine lr (ι:=Nat) (fun m=>[(5,.int .i64 (m:Int))]) (fun m _=>m≤E.length∧∀ i,i<m→E[i]?=F[i]?) (fun m=>E.length-m) 0 (an ⟨⟨rfl,trivial⟩,fun M=>⟨M,ayc _,fun i h=>absurd h (Nat.not_lt_zero i)⟩⟩ ?_);intro m w M ⟨hm,hp⟩;refine an (fun h2=>?_) fun h2=>?_
 ·have hlt:m<E.length:=by simp at h2;omega
  have hlt2:m<F.length:=by omega
  obtain⟨x,hx⟩:∃ x,E[m]?=some x:=⟨_,ayd hlt⟩;obtain⟨y,hy⟩:∃ y,F[m]?=some y:=⟨_,ayd hlt2⟩;obtain⟨b,o,e1,hc1⟩:=SliceAt.elt hE (fun _=>rfl) (by decide) hx hlt;obtain⟨b2,o2,e2,hc2⟩:=SliceAt.elt hF (fun _=>rfl) (by decide) hy hlt2;refine dr (by kernel_rfl)<|ia<|an ⟨e1,rfl,hlt⟩<|lc<|an (dH M.below hc1)<|ia<|an ⟨e2,rfl,hlt2⟩<|lc<|an (dH M.below hc2)<|ei (x:=decide (x=y))<|an ⟨akG,fun w=>agG x y w⟩<|fun w3 sG M3=>an (fun h3=>fun M=>⟨rb ?_,M.below⟩) fun h3=>?_
  ·simp only[Bool.not_eq_true',decide_eq_false_iff_not] at h3;refine decide_eq_false fun e=>h3 ?_
   rw[e,hy] at hx;exact(ayj hx).symm
  ·have exy:x=y:=by simpa using h3
   exact an (by omega)<|bk (m+1) ⟨rfl,trivial⟩ (fun M=>⟨M,by omega,fun i hi=>by
    by_cases e:i=m
    ·rw[e,hx,hy,exy]
    ·exact hp i (by omega)⟩) (by dsimp only;omega)
 ·have hme:m=E.length:=by simp at h2;omega
  exact fun M=>⟨rb (decide_eq_true (List.ext_getElem? fun i=>by
   by_cases hi:i<m
   ·exact hp i hi
   ·rw[List.getElem?_eq_none (by omega),List.getElem?_eq_none (by omega)])),M.below⟩
theorem Rx(w0:World)(c0 c1 c2 c3 c4 c5 c6 c7 c8 c9 aR aO aN aQ aM aL aP:Value)(p:aF)(hp:aK w0 c0 c1 c2 c3 c4 c5 c6 c7 c8 c9 aR aO aN aQ aM aL aP p)(hok:p.Ok)(hl:p.rules.length≤1000):Calls Tryz.prog 38 #[.agg #[c0,c1,c2,c3,c4,c5,c6,c7,c8,c9,aR,aO,aN,aQ,aM,aL,aP]] w0 fun r w'=>∃ v,r=.returned v∧((∃ E,Canon (accum (nJ p.rules)) E∧XF (iN p.rules E) v w')∧ayp w0.heap.size w0 w'):=by
 have wf:∀ r∈p.rules,r.Wf:=fun r hr=>(hok.rules r hr).wf
 have hpr:=hp.rules;obtain⟨_,_,_,_,_,_,_,_,_,_,_,_,_,_,_,_,_,_,_,_,_,_,_,_,_,_,_,_,_,_,_,_,_,_,rfl,rfl,rfl,rfl,rfl,rfl,rfl,rfl,rfl,rfl,rfl,rfl,rfl,rfl,rfl,rfl,rfl⟩:=hp.open;refine aeM [] [3] (fn:=Tryz.f38) Tryz.func38 rfl Tryz.ntmps38 rfl<|fun g1 w1 M1=>lb 0<|an rfl<|cg (R:=fun v w'=>∃ E,Canon (accum (nJ p.rules)) E∧(∀ x∈E,x.Ok)∧E.length≤65536000∧SliceAt w' v 7 E.length (E.flatMap aS.cells)∧ayp w1.heap.size w1 w')<|an ((qM _ _ _ _ _ _ _ _ _ _ _ _ _ _ _ _ _ _ p.rules (hpr.keep M1.below) wf hl).mono fun _ _ ⟨v,E,e,h⟩=>⟨v,e,E,h⟩) fun v w2 hR=>?_
 obtain⟨E,hC,hO,hEl,hS,hb2⟩:=hR;obtain⟨ea,ec,rfl,-,hem,-⟩:=SliceAt.form hS (by decide);have M2:=M1.keep hb2;have ajp:=hpr.keep M2.below;have hc:=yC (M2.b 0 rfl);have h9:=hc 9 _ rfl;refine⟨_,_,M2,?_⟩;clear M1 M2;refine lq (ι:=Nat×Value) (fun(m,u)=>[(3,u),(12,.int .i64 (m:Int))]) (fun(m,u)=>[⟨u,94,7,(iN p.rules (E.take m)).length,(iN p.rules (E.take m)).flatMap aS.cells⟩]) (fun(m,u) _=>m≤E.length) (fun(m,u)=>E.length-m) (0,.slice none 0 0) (an ⟨⟨rfl,rfl,trivial⟩,fun M=>⟨M.bM 94 7,ayc _⟩⟩ ?_);rintro⟨m,u⟩ w M hm;refine an (fun h=>?_) fun h=>?_
 ·have hlt:m<E.length:=by simp at h;omega
  obtain⟨x,hx⟩:∃ x,E[m]?=some x:=⟨_,ayd hlt⟩;obtain⟨b,o,e,hcx⟩:=SliceAt.elt hS (fun _=>rfl) (by decide) hx hlt;have hnl:=MS p.rules (E.take m);rw[List.length_take] at hnl;refine ia<|an ⟨e,rfl,hlt⟩<|lc<|an (dH M.below hcx)<|ei<|an ah4 fun g2 w3 M3=>lb 0<|an ⟨rfl,rfl⟩ fun w4 M4=>lc<|an (ayg M4.below h9)<|lr (ι:=Nat×Int) (fun(k,v)=>[(6,.int .u32 v),(19,.int .i64 (k:Int))]) (fun(k,v) _=>k≤p.rules.length∧v=ef (p.rules.take k) x) (fun(k,v)=>p.rules.length-k) (0,0) (an ⟨⟨rfl,rfl,trivial⟩,fun M=>⟨M,ayc _,rfl⟩⟩ ?_)
  rintro⟨k,v⟩ w M ⟨hk,hv⟩;refine an (fun h2=>?_) fun h2=>?_
  ·have hlt2:k<p.rules.length:=by simp at h2;omega
   obtain⟨y,hy⟩:∃ y,p.rules[k]?=some y:=⟨_,ayd hlt2⟩;obtain⟨b2,o2,e2,hcy⟩:=SliceAt.elt ajp (fun _=>rfl) (by decide) hy hlt2;refine ia<|an ⟨e2,rfl,hlt2⟩<|lc<|an (dH M.below hcy)<|ei<|an mJ fun g3 w5 M5=>lb 0<|an ⟨rfl,rfl⟩ fun w6 M6=>lb 0<|an rfl<|lb 0<|an (fun _=>rfl)<|lb 1<|an (fun _=>rfl)<|lb 0<|an (fun _=>rfl)<|lb 1<|an (fun _=>rfl)<|lb 1<|an (fun _=>rfl)<|cl<|an (fun _=>JG _ y (wf y (aye hy)).ok x.src x.tgt) fun w7 M7=>an (fun h3=>?_) fun h3=>?_
   ·have hf:y.DI x=true:=by unfold aj.DI;simpa using h3
    refine lb 0<|an rfl<|lb 1<|an rfl<|ei<|an rfl<|ei<|an rfl<|an (by omega)<|bk (k+1,_) ⟨rfl,rfl,trivial⟩ (fun M=>⟨M.only (.cons _ (.refl _)) (.refl _),by omega,?_⟩) (by dsimp only;omega);rw[BQ hy,fP,if_pos hf,← hv];rfl
   ·have hf:¬ y.DI x=true:=by unfold aj.DI;simpa using h3
    refine an (by omega)<|bk (k+1,v) ⟨rfl,rfl,trivial⟩ (fun M=>⟨M.only (.cons _ (.refl _)) (.refl _),by omega,?_⟩) (by dsimp only;omega);rw[BQ hy,fP,if_neg hf,← hv]
  ·obtain rfl:k=p.rules.length:=by simp at h2;omega
   rw[ayo] at hv;refine an (fun h4=>?_) fun h4=>?_
   ·have hz:ef p.rules x≠0:=by rw[← hv];simpa using h4
    have hn:=yT (l:=p.rules) hx;rw[if_neg hz] at hn;refine lb 0<|an rfl<|lb 0<|an rfl<|lb 0<|an rfl<|lb 0<|an rfl<|ei (x:=.agg #[.int .i64 x.src,.int .i64 x.tgt,.int .i64 x.cls,.int .i64 x.cond,.int .u32 v,.int .u32 0,.int .u32 0])<|an (bd (by kernel_rfl))<|fun g4 w8 M8=>Ii 0 id rfl (M8.slice 0 rfl (k:=7) (n:=1) rfl rfl (by simp[maxLen])) ⟨by unfold maxLen;omega,by omega⟩ fun va vc w9 M9=>an (by omega)<|bk (m+1,.slice va ((iN p.rules (E.take m)).length+1) vc) ⟨rfl,rfl,trivial⟩ (fun M=>⟨(M.only (.cons _ (.cons _ (.refl _))) (.refl _)).cast rfl ?_,by dsimp only;omega⟩) (by dsimp only;omega)
    dsimp only;rw[hn,ax_,List.flatMap_append,← hv];rfl
   ·have hz:ef p.rules x=0:=by rw[← hv];simpa using h4
    have hn:=yT (l:=p.rules) hx;rw[if_pos hz,List.append_nil] at hn;exact an (by omega)<|bk (m+1,u) ⟨rfl,rfl,trivial⟩ (fun M=>⟨(M.only (.cons _ (.refl _)) (.refl _)).cast rfl (by dsimp only;rw[hn]),by dsimp only;omega⟩) (by dsimp only;omega)
 ·obtain rfl:m=E.length:=by simp at h;omega
  exact fun M=>⟨_,rfl,⟨E,hC,by have h5:=M.r 0 rfl;rw[ayo] at h5;exact SliceAt.bC h5 (dX fun _=>rfl)⟩,M.below⟩
theorem Zw{l l':List aj}(hl:∀ r∈l,fS r.perms)(h:cH aD l=some l'):(∀ r∈l',fS r.perms)∧jN l' l:=by
 obtain⟨p,a,m,b,r,c,rfl,hj,rfl⟩:=tC h;have ha:=hl a (by simp);have hb:=hl b (by simp);obtain⟨⟨k1,k2,-⟩,⟨l1,l2,-⟩,hw,-,hg⟩:=tM ha hb hj;refine⟨fun x hx=>?_,fun kind cls s t k hs ht=>?_⟩
 ·simp only[ayl,aym] at hx;rcases hx with hx|rfl|hx|hx
  ·exact hl x (by simp[hx])
  ·exact hw
  ·exact hl x (by simp[hx])
  ·exact hl x (by simp[hx])
 ·have e:=hg s t k hs ht;constructor
  ·rintro⟨x,hx,h1,h2,h3,h4⟩;simp only[ayl,aym] at hx;rcases hx with hx|rfl|hx|hx
   ·exact⟨x,by simp[hx],h1,h2,h3,h4⟩
   ·rcases e.1 ⟨h3,h4⟩ with⟨h5,h6⟩|⟨h5,h6⟩
    ·exact⟨a,by simp,by rw[← k1];exact h1,by rw[← k2];exact h2,h5,h6⟩
    ·exact⟨b,by simp,by rw[l1,← k1];exact h1,by rw[l2,← k2];exact h2,h5,h6⟩
   ·exact⟨x,by simp[hx],h1,h2,h3,h4⟩
   ·exact⟨x,by simp[hx],h1,h2,h3,h4⟩
  ·rintro⟨x,hx,h1,h2,h3,h4⟩;simp only[ayl,aym] at hx;rcases hx with hx|rfl|hx|rfl|hx
   ·exact⟨x,by simp[hx],h1,h2,h3,h4⟩
   ·obtain⟨h5,h6⟩:=e.2 (.inl ⟨h3,h4⟩);exact⟨c,by simp,k1.trans h1,k2.trans h2,h5,h6⟩
   ·exact⟨x,by simp[hx],h1,h2,h3,h4⟩
   ·obtain⟨h5,h6⟩:=e.2 (.inr ⟨h3,h4⟩);exact⟨c,by simp,k1.trans (l1.symm.trans h1),k2.trans (l2.symm.trans h2),h5,h6⟩
   ·exact⟨x,by simp[hx],h1,h2,h3,h4⟩
theorem agu{l:List aj}(hl:∀ r∈l,fS r.perms):(∀ r∈tF aD l,fS r.perms)∧jN (tF aD l) l:=by
 have key:∀ (n:Nat) (l:List aj),(∀ r∈l,fS r.perms)→(∀ r∈MO aD n l,fS r.perms)∧jN (MO aD n l) l:=by
  intro n
  induction n with
  | zero=>exact fun l hl=>⟨hl,fun _ _ _ _ _ _ _=>Iff.rfl⟩
  | succ n ih=>
   intro l hl;unfold MO
   cases e:cH aD l with
   | none=>exact⟨hl,fun _ _ _ _ _ _ _=>Iff.rfl⟩
   | some l'=>
    obtain⟨h1,h2⟩:=Zw hl e;obtain⟨h3,h4⟩:=ih l' h1;exact⟨h3,h4.trans h2⟩
 exact key _ l hl
theorem aa1{q:aF}(hn:q.bools.length≤5)(hc:∀ r∈q.rules,r.cond=0){o:List Nat}{kind cls:Int}{s t b:Nat}(hs:s<256)(ht:t<256):Gv (gA (eD q) o) kind cls s t b 0↔GN (gA q.rules o) kind cls s t b:=by
 unfold eD;rw[JI];have hz:∀ r∈q.rules,DH r=0:=fun r hr=>by unfold DH;split<;>first|rfl|exact hc r hr
 have h0:ib (ez (aZ q.bools.length) q.bools.length q.conds 0) 0=true:=by
  rw[(Hz hn q.conds 0).2,decide_eq_true (Nat.two_pow_pos _)];unfold YJ;rw[if_neg (by omega),if_neg (by omega)];rfl
 constructor
 ·rintro⟨y,hy,h1,h2,h3,h4,-⟩;obtain⟨r,hr,rfl⟩:=ayk.1 hy;exact⟨r,hr,h1,h2,(fQ hs ht).1 h4,h3⟩
 ·rintro⟨r,hr,h1,h2,h3,h4⟩;refine⟨_,ayk.2 ⟨r,hr,rfl⟩,h1,h2,h4,(fQ hs ht).2 h3,?_⟩;dsimp only;rw[hz r (uV r hr)];exact h0
theorem adg{q:aF}(hn:q.bools.length≤5)(hw:∀ r∈q.rules,fS r.perms)(hc:∀ r∈q.rules,r.cond=0):jN (mK q (eM q)).rules q.rules:=by
 intro kind cls s t b hs ht;have h:=lN (FD hn (conds:=q.conds) hw) q.rules.length kind cls s t b 0 hs ht;have e:(mK q (eM q)).rules=gA q.rules (j8 q):=OH _ _;have h2:=aa1 hn hc (o:=[]) (kind:=kind) (cls:=cls) (b:=b) hs ht;rw[B6,B6] at h2;rw[e,← h2];exact(aa1 hn hc hs ht).symm.trans h
structure CS0 (s:yx):Prop where
 DV:s.DV 0=none
 ev:s.ev 0=none
 nv:s.nv 0=none
theorem aeN{α:Type}{f:Int→Option α}{k:Int}{v:α}(h:f 0=none)(hk:k≠0):j4 f k v 0=none:=by
 unfold j4;rw[if_neg fun e=>hk e.symm];exact h
theorem Un{α:Type}{f:Int→Option α}{i:Nat}{a b:α}(h:f 0=none):j4 (j4 f ((i:Int)+1) a) (0-((i:Int)+1)) b 0=none:=aeN (aeN h (by omega)) (by omega)
theorem P7{i:Nat}{k:Int}{s:yx}(h:CS0 s):CS0 (zw i k s):=⟨(by show j4 (j4 s.DV ((i:Int)+1) k) (0-((i:Int)+1)) (0-k) 0=none;exact Un h.DV),h.ev,h.nv⟩
theorem ZJ(p:aF)(i:Nat)(e:aA){s:yx}(h:CS0 s):CS0 (jx p i e s):=by
 unfold jx;split
 ·exact⟨h.DV,(by dsimp only;exact Un h.ev),(by dsimp only;exact Un h.nv)⟩
 ·split
  ·exact h
  ·dsimp only;split
   ·exact P7 ⟨h.DV,h.ev,h.nv⟩
   ·exact P7 h
theorem Ky(p:aF):∀ (l:List aA) (i:Nat) (s:yx),CS0 s→CS0 (jK p i l s)
 | [],_,_,h=>h
 | e::l,i,_,h=>Ky p l (i+1) _ (ZJ p i e h)
theorem agR(p:aF)(n:Nat):kX (dF p n) 0=(0,true):=by
 have h:CS0 (dF p n):=Ky p _ 0 cs0 ⟨rfl,rfl,rfl⟩;unfold kX;rw[h.ev,h.DV,h.nv];rfl
theorem zn{p:aF}(hc:∀ r∈p.rules,r.cond=0):(bw p).rules=p.rules:=by
 show p.rules.filterMap (cR (dF p p.conds.length))=p.rules
 have key:∀ l:List aj,(∀ r∈l,r.cond=0)→l.filterMap (cR (dF p p.conds.length))=l:=by
  intro l
  induction l with
  | nil=>intro _;rfl
  | cons r l ih=>
   intro h
   have e:cR (dF p p.conds.length) r=some r:=by
    have h0:=h r (ayq ..);unfold cR;rw[h0,agR,if_pos rfl,← h0]
   rw[List.filterMap_cons,e,ih fun x hx=>h x (ayn _ hx)]
 exact key _ hc
theorem adh{p:aF}(hn:p.bools.length≤5)(hw:∀ r∈p.rules,fS r.perms)(hc:∀ r∈p.rules,r.cond=0):(∀ r∈(tB p).rules,fS r.perms)∧(∀ r∈(tB p).rules,r.cond=0)∧jN (tB p).rules p.rules:=by
 have e1:=zn hc;have hw1:∀ r∈(bw p).rules,fS r.perms:=by rw[e1];exact hw
 have hc1:∀ r∈(bw p).rules,r.cond=0:=by rw[e1];exact hc
 have g1:=adg (q:=bw p) hn hw1 hc1;have hw2:∀ r∈(mK (bw p) (eM (bw p))).rules,fS r.perms:=fun r hr=>hw1 r (pW r hr)
 have hc2:∀ r∈(mK (bw p) (eM (bw p))).rules,r.cond=0:=fun r hr=>hc1 r (pW r hr)
 obtain⟨hw3,g2⟩:=agu hw2;have hc3:∀ r∈(dQ (mK (bw p) (eM (bw p)))).rules,r.cond=0:=Aj (J:=aD) (Q:=fun r=>r.cond=0) (fun a b c ha _ h=>by rw[Ch h];exact ha) hc2;have e2:(tB p).rules=tF aD (mK (bw p) (eM (bw p))).rules:=zn hc3;rw[e2];exact⟨hw3,hc3,g2.trans (by rw[e1] at g1;exact g1)⟩
section
variable {π:bh→Int}
theorem H7(hor:∀ u v:bh,π (u.or v)=bits .or .u32 (π u) (π v)){k:bO}:∀ (L:List (bO×bh)) (f:bO→bh),(∀ p∈L,fS (π p.2))→fS (π (f k)) →
 fS (π (L.foldl (fun f p=>Fg f p.1 p.2) f k))∧∀ b,ib (π (L.foldl (fun f p=>Fg f p.1 p.2) f k)) b=(ib (π (f k)) b||L.any fun p=>decide (p.1=k)&&ib (π p.2) b)
 | [],f,_,hf=>⟨hf,fun b=>by simp⟩
 | p::L,f,hL,hf=>by
  have hp:=hL p (ayq ..)
  have hf':fS (π (Fg f p.1 p.2 k)):=by
   unfold Fg;split
   ·rw[hor];exact lK .or _ _
   ·exact hf
  obtain⟨h1,h2⟩:=H7 hor L (Fg f p.1 p.2) (fun q hq=>hL q (ayn _ hq)) hf';refine⟨h1,fun b=>?_⟩;rw[List.foldl_cons,h2,List.any_cons];unfold Fg;by_cases e:k=p.1
  ·subst e;rw[if_pos rfl,hor,oR .or hf hp,decide_eq_true rfl,Bool.true_and,Bool.or_assoc]
  ·rw[if_neg e,decide_eq_false fun e'=>e e'.symm,Bool.false_and,Bool.false_or]
theorem Vz{l:List aj}(hc:∀ r∈l,r.cond=0){kind:Int}(hπ:∀ kd pm b,ib (π (gh kd pm)) b=(decide (kd=kind)&&ib pm b)){k:bO}{b:Nat}:((nJ l).any fun p=>decide (p.1=k)&&ib (π p.2) b)=true↔k.cond=0∧∃ s t:Nat,k.src=s∧k.tgt=t∧(s<256∧t<256)∧GN l kind k.cls s t b:=by
 rw[List.any_eq_true];constructor
 ·rintro⟨q,hq,h⟩;unfold nJ at hq;obtain⟨r,hr,hq⟩:=List.mem_flatMap.1 hq;unfold ji at hq;obtain⟨⟨s,t⟩,hst,rfl⟩:=ayk.1 hq;rw[hπ,ayr,ayr,decide_eq_true_eq,decide_eq_true_eq] at h;obtain⟨rfl,h1,h2⟩:=h;exact⟨hc r hr,s,t,rfl,rfl,iT hst,r,hr,h1,rfl,hst,h2⟩
 ·rintro⟨h0,s,t,hs,ht,-,r,hr,h1,h2,h3,h4⟩;refine⟨(nw r (s,t),gh r.kind r.perms),List.mem_flatMap.2 ⟨r,hr,ayk.2 ⟨(s,t),h3,rfl⟩⟩,?_⟩;rw[hπ,ayr,ayr,decide_eq_true_eq,decide_eq_true_eq];refine⟨?_,h1,h4⟩;obtain⟨a,b,c,d⟩:=k;simp only at h0 hs ht h2;rw[h0,hs,ht,← h2,← hc r hr];rfl
theorem Df(h0:π bh.zero=0)(hor:∀ u v:bh,π (u.or v)=bits .or .u32 (π u) (π v)){kind:Int}(hw:∀ kd pm,fS pm→fS (π (gh kd pm)))(hπ:∀ kd pm b,ib (π (gh kd pm)) b=(decide (kd=kind)&&ib pm b)){l l':List aj}(hl:∀ r∈l,fS r.perms)(hl':∀ r∈l',fS r.perms)(hc:∀ r∈l,r.cond=0)(hc':∀ r∈l',r.cond=0)(hg:jN l l')(k:bO):fS (π (accum (nJ l) k))∧π (accum (nJ l) k)=π (accum (nJ l') k):=by
 have W:∀ l:List aj,(∀ r∈l,fS r.perms)→∀ p∈nJ l,fS (π p.2):=fun l hl p hp=>by
  obtain⟨r,hr,hq⟩:=List.mem_flatMap.1 hp;obtain⟨x,-,rfl⟩:=ayk.1 hq;exact hw _ _ (hl r hr)
 have z:fS (π ((fun _=>bh.zero:bO→bh) k)):=by show fS (π bh.zero);rw[h0];exact⟨by decide,by decide⟩
 obtain⟨w1,i1⟩:=H7 hor (k:=k) (nJ l) (fun _=>bh.zero) (W l hl) z;obtain⟨w2,i2⟩:=H7 hor (k:=k) (nJ l') (fun _=>bh.zero) (W l' hl') z;refine⟨w1,Co w1.1 w2.1 fun b=>?_⟩;refine(i1 b).trans (Eq.trans ?_ (i2 b).symm);congr 1;rw[Bool.eq_iff_iff,Vz hc hπ,Vz hc' hπ];refine and_congr_right fun _=>⟨?_,?_⟩
 ·rintro⟨s,t,a1,a2,⟨a3,a4⟩,h⟩;exact⟨s,t,a1,a2,⟨a3,a4⟩,(hg _ _ _ _ _ a3 a4).1 h⟩
 ·rintro⟨s,t,a1,a2,⟨a3,a4⟩,h⟩;exact⟨s,t,a1,a2,⟨a3,a4⟩,(hg _ _ _ _ _ a3 a4).2 h⟩
end
theorem pI:fS 0:=⟨by decide,by decide⟩
theorem OM{kd pm:Int}(h:fS pm):fS (gh kd pm).allow∧fS (gh kd pm).bq∧fS (gh kd pm).dont:=by
 unfold gh;split
 ·exact⟨h,pI,pI⟩
 ·split
  ·exact⟨pI,h,pI⟩
  ·split
   ·exact⟨pI,pI,h⟩
   ·exact⟨pI,pI,pI⟩
theorem LM(kd pm:Int)(b:Nat):ib (gh kd pm).allow b=(decide (kd=1)&&ib pm b)∧ib (gh kd pm).bq b=(decide (kd=2)&&ib pm b)∧ib (gh kd pm).dont b=(decide (kd=3)&&ib pm b):=by
 unfold gh;split
 ·rename_i e;subst e;simp[eY]
 ·split
  ·rename_i e;subst e;simp[eY]
  ·split
   ·rename_i e;subst e;simp[eY]
   ·rename_i e1 e2 e3;simp[eY,e1,e2,e3]
theorem Ob{l l':List aj}(hl:∀ r∈l,fS r.perms)(hl':∀ r∈l',fS r.perms)(hc:∀ r∈l,r.cond=0)(hc':∀ r∈l',r.cond=0)(hg:jN l l'):accum (nJ l)=accum (nJ l'):=by
 funext k
 have a1:=Df (π:=bh.allow) rfl (fun _ _=>rfl) (kind:=1) (fun kd pm h=>(OM h).1) (fun kd pm b=>(LM kd pm b).1) hl hl' hc hc' hg k;have a2:=Df (π:=bh.bq) rfl (fun _ _=>rfl) (kind:=2) (fun kd pm h=>(OM h).2.1) (fun kd pm b=>(LM kd pm b).2.1) hl hl' hc hc' hg k;have a3:=Df (π:=bh.dont) rfl (fun _ _=>rfl) (kind:=3) (fun kd pm h=>(OM h).2.2) (fun kd pm b=>(LM kd pm b).2.2) hl hl' hc hc' hg k;generalize accum (nJ l) k=u at *;generalize accum (nJ l') k=v at *;obtain⟨u1,u2,u3⟩:=u;obtain⟨v1,v2,v3⟩:=v;have e1:=a1.2;have e2:=a2.2;have e3:=a3.2;simp only at e1 e2 e3;rw[e1,e2,e3]
theorem SY{l:List aj}(hl:∀ r∈l,fS r.perms)(k:bO):fS (accum (nJ l) k).allow:=
 (H7 (π:=bh.allow) (fun _ _=>rfl) (k:=k) (nJ l) (fun _=>bh.zero) (fun p hp=>by
  obtain⟨r,hr,hq⟩:=List.mem_flatMap.1 hp;obtain⟨x,-,rfl⟩:=ayk.1 hq;exact(OM (hl r hr)).1) pI).1
theorem BR{x:aS}(hx:fS x.allow):∀ (l:List aj) (v:Int),(∀ r∈l,fS r.perms)→fS v→fS (l.foldl (fP x) v)∧∀ b,ib (l.foldl (fP x) v) b=(ib v b||l.any fun r=>r.DI x&&(ib r.perms b&&ib x.allow b))
 | [],v,_,hv=>⟨hv,fun b=>by simp⟩
 | r::l,v,hl,hv=>by
  have hr:=hl r (ayq ..)
  have hv':fS (fP x v r):=by
   unfold fP;split
   ·exact lK .or _ _
   ·exact hv
  obtain⟨h1,h2⟩:=BR hx l (fP x v r) (fun q hq=>hl q (ayn _ hq)) hv';refine⟨h1,fun b=>?_⟩;rw[List.foldl_cons,h2,List.any_cons];unfold fP
  cases hf:r.DI x with
  | true=>rw[if_pos rfl,oR .or hv (lK .and _ _),oR .and hr hx,Bool.true_and,Bool.or_assoc]
  | false=>rw[if_neg (by decide),Bool.false_and,Bool.false_or]
theorem PN{r:aj}{a b:Int}:r.fit a b=true↔∃ s t:Nat,a=s∧b=t∧(s<256∧t<256)∧(s,t)∈r.pairs:=by
 have e:∀ a b:Int,r.fit a b=mg r a b:=fun _ _=>rfl
 constructor
 ·intro h;have h':=h;unfold aj.fit at h;rw[ayr] at h;obtain⟨h1,h2⟩:=h;unfold ay.mem at h1 h2;rw[ayr,decide_eq_true_eq] at h1
  have hb:0≤b∧b<256:=by
   rw[Bool.or_eq_true,ayr,ayr,decide_eq_true_eq,decide_eq_true_eq] at h2;rcases h2 with h2|h2
   ·exact h2.1
   ·omega
  obtain⟨s,rfl⟩:=Int.eq_ofNat_of_zero_le h1.1.1;obtain⟨t,rfl⟩:=Int.eq_ofNat_of_zero_le hb.1;have hs:s<256:=by omega
  have ht:t<256:=by omega
  exact⟨s,t,rfl,rfl,⟨hs,ht⟩,(fQ hs ht).1 h'⟩
 ·rintro⟨s,t,rfl,rfl,⟨hs,ht⟩,h⟩;exact(fQ hs ht).2 h
theorem MQ{l l':List aj}(hl:∀ r∈l,fS r.perms)(hl':∀ r∈l',fS r.perms)(hg:jN l l'){x:aS}(hx:fS x.allow):ef l x=ef l' x:=by
 obtain⟨w1,i1⟩:=BR hx l 0 hl pI;obtain⟨w2,i2⟩:=BR hx l' 0 hl' pI;refine Co w1.1 w2.1 fun b=>(i1 b).trans (Eq.trans ?_ (i2 b).symm)
 congr 1
 have key:∀ l:List aj,(l.any fun r=>r.DI x&&(ib r.perms b&&ib x.allow b))=true↔ib x.allow b=true∧∃ s t:Nat,x.src=s∧x.tgt=t∧(s<256∧t<256)∧GN l 4 x.cls s t b:=fun l=>by
  rw[List.any_eq_true];constructor
  ·rintro⟨r,hr,h⟩;unfold aj.DI at h;rw[ayr,ayr,ayr,ayr,decide_eq_true_eq,decide_eq_true_eq,PN] at h;obtain⟨⟨⟨h1,h2⟩,s,t,h3,h4,h5,h6⟩,h7,h8⟩:=h;exact⟨h8,s,t,h3,h4,h5,r,hr,h1,h2,h6,h7⟩
  ·rintro⟨h8,s,t,h3,h4,h5,r,hr,h1,h2,h6,h7⟩;refine⟨r,hr,?_⟩;unfold aj.DI;rw[ayr,ayr,ayr,ayr,decide_eq_true_eq,decide_eq_true_eq,PN];exact⟨⟨⟨h1,h2⟩,s,t,h3,h4,h5,h6⟩,h7,h8⟩
 rw[Bool.eq_iff_iff,key l,key l'];refine and_congr_right fun _=>⟨?_,?_⟩
 ·rintro⟨s,t,a1,a2,⟨a3,a4⟩,h⟩;exact⟨s,t,a1,a2,⟨a3,a4⟩,(hg _ _ _ _ _ a3 a4).1 h⟩
 ·rintro⟨s,t,a1,a2,⟨a3,a4⟩,h⟩;exact⟨s,t,a1,a2,⟨a3,a4⟩,(hg _ _ _ _ _ a3 a4).2 h⟩
theorem yS{l l':List aj}(hl:∀ r∈l,fS r.perms)(hl':∀ r∈l',fS r.perms)(hg:jN l l'):∀ {E:List aS},(∀ x∈E,fS x.allow)→iN l E=iN l' E
 | [],_=>rfl
 | x::E,h=>by
  have e:=MQ hl hl' hg (h x (ayq ..));have ih:=yS hl hl' hg (E:=E) fun y hy=>h y (ayn _ hy)
  unfold iN at ih ⊢;rw[List.filter_cons,List.filter_cons,e];split
  ·rw[List.map_cons,List.map_cons,e,ih]
  ·exact ih
def Tn(l:List aj):Value→World→Prop:=fun u w=>∃ E,Canon (accum (nJ l)) E∧XF E u w
theorem Ca(l:List aj):eC (Tn l):=fun _ _ _ ⟨E,h1,h⟩ hb=>⟨E,h1,SliceAt.keep h hb⟩
def Tj(l:List aj):Value→World→Prop:=fun u w=>∃ E,Canon (accum (nJ l)) E∧XF (iN l E) u w
theorem B_(l:List aj):eC (Tj l):=fun _ _ _ ⟨E,h1,h⟩ hb=>⟨E,h1,SliceAt.keep h hb⟩
theorem Km(w0:World)(c0 c1 c2 c3 c4 c5 c6 c7 c8 c9 aR aO aN aQ aM aL aP:Value)(p:aF)(hp:aK w0 c0 c1 c2 c3 c4 c5 c6 c7 c8 c9 aR aO aN aQ aM aL aP p)(hok:p.Ok)(hl:p.rules.length≤1000):Calls Tryz.prog 15 #[.agg #[c0,c1,c2,c3,c4,c5,c6,c7,c8,c9,aR,aO,aN,aQ,aM,aL,aP]] w0 fun r w'=>∃ v,r=.returned v∧(Tn p.rules v w'∧ayp w0.heap.size w0 w'):=
 (qM _ _ _ _ _ _ _ _ _ _ _ _ _ _ _ _ _ _ p.rules hp.rules (fun r hr=>(hok.rules r hr).wf) hl).mono fun _ _ ⟨v,E,e,h1,_,_,h2,h3⟩=>⟨v,e,⟨E,h1,h2⟩,h3⟩
theorem JD(w0:World)(c0 c1 c2 c3 c4 c5 c6 c7 c8 c9 aR aO aN aQ aM aL aP:Value)(p:aF)(hp:aK w0 c0 c1 c2 c3 c4 c5 c6 c7 c8 c9 aR aO aN aQ aM aL aP p)(hok:p.Ok)(hl:p.rules.length≤1000):Calls Tryz.prog 38 #[.agg #[c0,c1,c2,c3,c4,c5,c6,c7,c8,c9,aR,aO,aN,aQ,aM,aL,aP]] w0 fun r w'=>∃ v,r=.returned v∧(Tj p.rules v w'∧ayp w0.heap.size w0 w'):=Rx w0 c0 c1 c2 c3 c4 c5 c6 c7 c8 c9 aR aO aN aQ aM aL aP p hp hok hl
theorem Kk(w0:World)(c0 c1 c2 c3 c4 c5 c6 c7 c8 c9 aR aO aN aQ aM aL aP:Value)(p:aF)(hp:aK w0 c0 c1 c2 c3 c4 c5 c6 c7 c8 c9 aR aO aN aQ aM aL aP p)(hop:p.Ok):Calls Tryz.prog 10 #[.agg #[c0,c1,c2,c3,c4,c5,c6,c7,c8,c9,aR,aO,aN,aQ,aM,aL,aP]] w0 fun r w'=>r=.returned (.bool true)∧ayp w0.heap.size w0 w':=by
 have hpr:=hp.rules;obtain⟨_,_,_,_,_,_,_,_,_,_,_,_,_,_,_,_,_,_,_,_,_,_,_,_,_,_,_,_,_,_,_,_,_,_,rfl,rfl,rfl,rfl,rfl,rfl,rfl,rfl,rfl,rfl,rfl,rfl,rfl,rfl,rfl,rfl,rfl⟩:=hp.open;refine dD [] (fn:=Tryz.f10) Tryz.func10 rfl Tryz.ntmps10 rfl<|fun g1 w1 M1=>lr (ι:=Nat) (fun m=>[(3,.int .i64 (m:Int))]) (fun m _=>m≤p.rules.length∧∀ i r,i<m→p.rules[i]?=some r→r.cond=0) (fun m=>p.rules.length-m) 0 (an ⟨⟨rfl,trivial⟩,fun M=>⟨M,ayc _,fun i r h=>absurd h (Nat.not_lt_zero i)⟩⟩ ?_)
 intro m w M ⟨hm,hz⟩;refine lb 0<|an rfl<|an (fun h=>?_) fun h=>?_
 ·have hlt:m<p.rules.length:=by simp at h;omega
  have hl0:m<100:=by simp at h;omega
  obtain⟨y,hy⟩:∃ y,p.rules[m]?=some y:=⟨_,ayd hlt⟩;obtain⟨b,o,e,hc⟩:=SliceAt.elt hpr (fun _=>rfl) (by decide) hy hlt;refine lb 0<|an rfl<|ia<|an ⟨e,rfl,hlt⟩<|lc (x:=.int .i64 y.cond)<|an (dH M.below hc 12 _ rfl)<|an (fun h2=>cl<|an (jL _) fun w M=>fun M=>⟨rfl,M.below⟩) fun h2=>an (by omega)<|bk (m+1) ⟨rfl,trivial⟩ (fun M=>⟨M,by omega,fun i r h3 h4=>?_⟩) (by dsimp only;omega)
  by_cases e:i=m
  ·subst e;obtain rfl:y=r:=ayj (hy.symm.trans h4);simpa using h2
  ·exact hz i r (by omega) h4
 refine lb 0<|an rfl<|cg<|an (F7 _ _ _ _ _ _ _ _ _ _ _ _ _ _ _ _ _ _ p (hp.keep M.below) hop) fun v w2 hR=>?_
 obtain⟨⟨b,rfl,hb⟩,hB⟩:=hR;have M2:=M.keep hB;refine⟨_,_,M2,an (fun h=>cl<|an (jL _) fun w M=>fun M=>⟨rfl,M.below⟩) fun h5=>?_⟩;have fp:=hb (by simpa using h5);have zr:p.rules.length≤40:=fp.small.sizes.rules
 have hc:∀ r∈p.rules,r.cond=0:=fun r hr=>by
  obtain⟨i,hi⟩:=List.getElem?_of_mem hr;exact hz i r (by have:=(aya.1 hi).1;simp at h;omega) hi
 obtain⟨h1,h2,h3,h4⟩:=Zz fp hop;have hq:Om (tB p):=KM h4
 have zq:(tB p).rules.length≤1000:=by
  have a1:(tB p).rules.length≤(dQ (mK (bw p) (eM (bw p)))).rules.length:=List.length_filterMap_le _ _;have a2:(dQ (mK (bw p) (eM (bw p)))).rules.length≤(mK (bw p) (eM (bw p))).rules.length:=uS _ _;have a3:(mK (bw p) (eM (bw p))).rules.length≤(bw p).rules.length:=wF _;have a4:(bw p).rules.length≤p.rules.length:=List.length_filterMap_le _ _;omega
 have hw:∀ r∈p.rules,fS r.perms:=fun r hr=>(hop.rules r hr).perms
 obtain⟨hw',hc',hg⟩:=adh h1.bools hw hc;have hE:accum (nJ (tB p).rules)=accum (nJ p.rules):=Ob hw' hw hc' hc hg
 have hN:∀ E,Canon (accum (nJ p.rules)) E→iN p.rules E=iN (tB p).rules E:=fun E hC=>yS hw hw' (fun _ _ _ _ _ hs ht=>(hg _ _ _ _ _ hs ht).symm) fun x hx=>by
  have:=((hC.mem x).1 hx).1;have e:x.allow=(accum (nJ p.rules) x.key).allow:=congrArg bh.allow this;rw[e];exact SY hw _
 have sE:∀ w' u v,Tn p.rules u w'→Tn (tB p).rules v w'→Calls Tryz.prog 37 #[u,v] w' fun r w''=>r=.returned (.bool true)∧ayp w'.heap.size w' w'':=fun w' u v ⟨E,a1,a2⟩ ⟨F,b1,b2⟩=>by
  rw[hE] at b1;have e:=a1.uniq b1;subst e;have h:=yO w' u v E E a2 b2
  rwa [decide_eq_true rfl] at h
 have sN:∀ w' u v,Tj p.rules u w'→Tj (tB p).rules v w'→Calls Tryz.prog 37 #[u,v] w' fun r w''=>r=.returned (.bool true)∧ayp w'.heap.size w' w'':=fun w' u v ⟨E,a1,a2⟩ ⟨F,b1,b2⟩=>by
  rw[hE] at b1;have e:=a1.uniq b1;subst e;rw[← hN E a1] at b2;have h:=yO w' u v _ _ a2 b2
  rwa [decide_eq_true rfl] at h
 refine lb 0<|an rfl<|cg<|an (uP _ _ _ _ _ _ _ _ _ _ _ _ _ _ _ _ _ _ p (hp.keep M2.below) h1 h2 h3 h4) fun v w3 hR=>?_
 obtain⟨⟨x0,n0,x1,n1,x2,n2,x3,n3,x4,n4,x5,n5,x6,n6,x7,n7,x8,n8,x9,n9,x10,n10,pH,n11,pG,n12,IE,n13,IC,n14,IB,n15,Iz,n16,T,rfl,hT,hQ⟩,sG⟩:=hR;refine⟨_,_,M2.eA sG hT,ei<|an lJ fun g2 w4 M4=>lb 0<|an ⟨rfl,rfl⟩ fun w5 M5=>?_⟩;have hoq:=hq.ok;clear hg hc' hw' hE hN h2 h3 h4 hq;generalize tB p=q at *
 refine dr (by kernel_rfl)<|lb 1<|an rfl<|cr (Tn p.rules)<|an (Ca _)<|an (fun w' hb' M'=>Km w' _ _ _ _ _ _ _ _ _ _ _ _ _ _ _ _ _ p (hp.keep M'.below) hop (by omega))<|lb 0<|an rfl<|cr (Tn q.rules)<|an (Ca _)<|an (fun w' hb' M'=>Km w' _ _ _ _ _ _ _ _ _ _ _ _ _ _ _ _ _ q (hQ _ _ M'.dW) hoq zq)<|cu<|an (fun u1 u2 _ w' hb' M' hR=>sE w' _ _ hR.1 hR.2)<|
  lb 1<|an (fun _=>rfl)<|cr (Tj p.rules)<|an (B_ _)<|an (fun _ w' hb' M'=>JD w' _ _ _ _ _ _ _ _ _ _ _ _ _ _ _ _ _ p (hp.keep M'.below) hop (by omega))<|
  lb 0<|an (fun _=>rfl)<|cr (Tj q.rules)<|an (B_ _)<|an (fun _ w' hb' M'=>JD w' _ _ _ _ _ _ _ _ _ _ _ _ _ _ _ _ _ q (hQ _ _ M'.dW) hoq zq)<|
  cu<|an (fun u1 u2 h w' hb' M' hR=>sN w' _ _ (hR.1 h) (hR.2 h))<|cl<|an (fun _ w' hb' M'=>jL w') fun rz xJ nI=>?_
 exact fun M=>⟨by simp[kQ],M.below⟩
end Go.Proofs.YtdcofoaihmongaaGreat

import Derived.Laws.BitsLemmas
import Derived.Test.YtdcofoaihmongaaGreatS3
open Bool renaming and_eq_true→au_
open Go renaming wp_seq_k→auU,wpList_nil→auV,wp_block→auW,wp_cond_split→auY,wp_cond_false→au0,cell_later→avb
open Go.RowKit renaming Below→auT
open List renaming mem_map→auH,mem_append→auI,mem_singleton→auJ,getElem?_eq_some_iff→auK,mem_of_getElem?→auL,filterMap_append→auM,length_map→auN,getElem?_map→auO,length_append→auQ,flatMap_append→auR,map_append→auS,getElem?_eq_getElem→auZ,mem_cons→au4,getElem?_append_left→au5,getElem?_append_right→au6,mem_cons_of_mem→au7,mem_cons_self→au8,take_length→au9,getD_eq_getElem?_getD→ava
open Nat renaming le_trans→auP,zero_le→auX,lt_of_lt_of_le→au1,mul_le_mul_right→au3
open Option.some renaming inj→au2
set_option maxRecDepth 100000
set_option maxHeartbeats 8000000
namespace Go.Proofs.YtdcofoaihmongaaGreat
open Go Go.RowKit
theorem Mu{s:ay}{k:Nat}:k∈elems s↔k<256∧s.has k=true:=by
 unfold elems cG;rw[List.mem_filter,List.mem_range]
theorem Ms{r:aj}{s o:Nat}(hs:s<256)(ho:o<256):(s,o)∈r.pairs↔r.src.has s=true∧(r.tgt.has o||r.self&&decide (s=o))=true:=by
 unfold aj.pairs aj.dg;simp only[List.mem_flatMap,auH,Prod.mk.injEq,Mu];constructor
 ·rintro⟨a,⟨-,ha⟩,b,⟨-,hb⟩,rfl,rfl⟩;refine⟨ha,?_⟩;unfold aj.tgts at hb
  cases hq:r.self with
  | false=>rw[hq]at hb;simpa using hb
  | true=>
   rw[hq,if_pos rfl]at hb;unfold ay.with at hb;rw[if_pos ⟨by omega,by omega⟩,Int.toNat_natCast,ay.has_add _ hs ho]at hb;rcases Bool.or_eq_true_iff.1 hb with h|h
   ·have:b=a:=by simpa using h
    subst this;simp
   ·simp[h]
 ·rintro⟨h1,h2⟩;refine⟨s,⟨hs,h1⟩,o,⟨ho,?_⟩,rfl,rfl⟩;unfold aj.tgts
  cases hq:r.self with
  | false=>rw[hq]at h2;simpa using h2
  | true=>
   rw[if_pos rfl]
   unfold ay.with
   rw[if_pos ⟨by omega,by omega⟩,Int.toNat_natCast,ay.has_add _ hs ho];rw[hq]at h2;rcases Bool.or_eq_true_iff.1 h2 with h|h
   ·simp[h]
   ·have:s=o:=by simpa using h
    subst this;simp
theorem Qw{r:aj}{p:Nat×Nat}(h:p∈r.pairs):p.1<256∧p.2<256:=by
 unfold aj.pairs aj.dg at h;obtain⟨s,hs,hp⟩:=List.mem_flatMap.1 h;obtain⟨t,ht,rfl⟩:=auH.1 hp;simp[elems,cG]at hs ht;exact⟨hs.1,ht.1⟩
def ib(x:Int)(r:Nat):Bool:=x.toNat.testBit r
def z7(x:Int):Prop:=0≤x∧x<18446744073709551616
def W32(x:Int):Prop:=0≤x∧x<4294967296
theorem EC(n:Int):IntKind.u64.wrap n=n%18446744073709551616:=by simp[IntKind.wrap,IntKind.bits,IntKind.signed]
theorem dN(op:BinOp)(a b:Int):z7 (bits op .u64 a b):=by
 unfold bits;simp only[EC];constructor<;>omega
theorem yu{x:Int}(h:z7 x):(BitVec.ofInt 64 x).toNat=x.toNat:=by
 obtain⟨a,rfl⟩:=Int.eq_ofNat_of_zero_le h.1;rw[BitVec.ofInt_natCast,BitVec.toNat_ofNat];have:=h.2;simp only[Int.toNat_natCast];exact Nat.mod_eq_of_lt (by omega)
theorem lQ(op:BinOp){a b:Int}(ha:z7 a)(hb:z7 b)(r:Nat):ib (bits op .u64 a b) r=match op with|.and=>ib a r&&ib b r|.or=>ib a r||ib b r|.xor=>ib a r ^^ ib b r|_=>ib a r&&!ib b r:=by
 have key:∀ v:BitVec 64,ib (IntKind.u64.wrap (v.toNat:Int)) r=v.getLsbD r:=by
  intro v;have:=v.isLt;unfold ib;rw[EC,Int.emod_eq_of_lt (by omega) (by omega),Int.toNat_natCast];rfl
 have ga:(BitVec.ofInt 64 a).getLsbD r=ib a r:=by unfold BitVec.getLsbD;rw[yu ha];rfl
 have gb:(BitVec.ofInt 64 b).getLsbD r=ib b r:=by unfold BitVec.getLsbD;rw[yu hb];rfl
 have apn:ib b r=true→r<64:=fun h=>by rw[← gb]at h;exact BitVec.lt_of_getLsbD h
 have aiQ:ib a r=true→r<64:=fun h=>by rw[← ga]at h;exact BitVec.lt_of_getLsbD h
 unfold bits;show ib (IntKind.u64.wrap ((BitVec.toNat (match op with|.and=>BitVec.ofInt 64 a&&&BitVec.ofInt 64 b|.or=>BitVec.ofInt 64 a|||BitVec.ofInt 64 b|.xor=>BitVec.ofInt 64 a ^^^ BitVec.ofInt 64 b|_=>BitVec.ofInt 64 a&&&~~~BitVec.ofInt 64 b):Nat):Int)) r=_;rw[key];cases op<;>simp only[BitVec.getLsbD_and,BitVec.getLsbD_or,BitVec.getLsbD_xor,BitVec.getLsbD_not,ga,gb] <;>
 ·cases h:ib a r<;>simp;intro _;exact aiQ h
theorem Ft(r:Nat):ib 18446744073709551615 r=decide (r<64):=by
 unfold ib;rw[show(18446744073709551615:Int).toNat=2^64-1 from rfl,Nat.testBit_two_pow_sub_one]
theorem X7(n r:Nat):ib (2^n-1) r=decide (r<n):=by
 unfold ib
 have:((2:Int)^n-1).toNat=2^n-1:=by
  rw[show((2:Int)^n-1)=((2^n-1:Nat):Int) by rw[Int.natCast_sub (Nat.two_pow_pos n)];simp];exact Int.toNat_natCast _
 rw[this,Nat.testBit_two_pow_sub_one]
theorem Fu{x y:Int}(hx:0≤x)(hy:0≤y)(h:∀ r,ib x r=ib y r):x=y:=by
 have:=Nat.eq_of_testBit_eq (x:=x.toNat) (y:=y.toNat) h;omega
theorem uL(r:Nat):ib 0 r=false:=by unfold ib;simp
theorem aa8(k r:Nat):ib ((2:Int)^k) r=decide (k=r):=by
 unfold ib;rw[show((2:Int)^k).toNat=2^k by rw[show((2:Int)^k)=((2^k:Nat):Int) by simp];exact Int.toNat_natCast _,Nat.testBit_two_pow]
theorem X8{x:Int}(h:0≤x):x=0↔∀ r,ib x r=false:=⟨fun e r=>by rw[e];exact uL r,fun H=>Fu h (Int.le_refl _) fun r=>by rw[H r,uL]⟩
def Gv(l:List (aj×Int))(kind cls:Int)(s t k r:Nat):Prop:=∃ y∈l,y.1.kind=kind∧y.1.cls=cls∧ib y.1.perms k=true∧Vz y.1 s t=true∧ib y.2 r=true
structure LOk (l:List (aj×Int)):Prop where
 perms:∀ y∈l,W32 y.1.perms
 adq:∀ y∈l,z7 y.2
def Db(n r:Nat)(op a:Int)(l:List Bool):Bool:=
 if dG n op a l.length=true then false else if op=1 then r.testBit a.toNat else if op=2 then !(l.getD 0 false) else
  if op=3 then l.getD 0 false&&l.getD 1 false else if op=4 then l.getD 0 false||l.getD 1 false else if op=6 then !(l.getD 0 false ^^ l.getD 1 false) else l.getD 0 false ^^ l.getD 1 false
mutual
def jN(n r:Nat):aq→Bool
 | .node op a _ _ _ _ kids=>Db n r op a (WU n r kids)
def WU(n r:Nat):List aq→List Bool
 | []=>[]
 | k::l=>jN n r k::WU n r l
end
theorem ni(n r:Nat)(e:aq):jN n r e=Db n r e.op e.a (WU n r e.kids):=by cases e;rw[jN];rfl
theorem zo{n:Nat}(h:n≤5):z7 (aK n):=by
 unfold z7 aK;rcases five h with rfl|rfl|rfl|rfl|rfl|rfl<;>decide
theorem uM(n r:Nat):ib (aK n) r=decide (r<2^n):=X7 (2^n) r
theorem Ai:z7 18446744073709551615:=by unfold z7;decide
theorem Ah:z7 0:=by unfold z7;decide
theorem aaU(u x:Int):z7 (notM u x):=dN _ _ _
theorem Fq{n:Nat}(hn:n≤5){x:Int}(hx:z7 x)(r:Nat):ib (notM (aK n) x) r=(decide (r<2^n)&&!ib x r):=by
 have h6:=nt6 hn;unfold notM;rw[lQ .and (dN _ _ _) (zo hn),lQ .xor Ai hx,Ft,uM];by_cases h:r<2^n
 ·simp[h,show r<64 by omega]
 ·simp[h]
theorem Cv{i:Int}{k:Nat}(hk:k<64):jO i k=k.testBit i.toNat:=by
 unfold jO
 have e:((0*64+(k:Int))/2^i.toNat)=((k/2^i.toNat:Nat):Int):=by
  rw[show(0*64+(k:Int))=(k:Int) by omega,Int.natCast_ediv];simp
 have hd:k/2^i.toNat<64:=Nat.lt_of_le_of_lt (Nat.div_le_self _ _) hk;have hb:=(bits_nat .i64 63 (by decide) (fun n h0 h1=>by rw[IntKind.wrap_i64];omega) (k/2^i.toNat) 1 (by omega) (by decide)).1;rw[e];have h1:((1:Nat):Int)=1:=rfl;rw[h1]at hb;rw[hb,Nat.and_one_is_mod,Nat.testBit_eq_decide_div_mod_eq];exact decide_eq_decide.2 (by omega)
theorem DM{k:Nat}(h:k<64):∃ m:Nat,(2:Int)^k=(m:Int)∧m<18446744073709551616:=
 ⟨2^k,by simp,Nat.pow_lt_pow_right (by decide) h⟩
theorem rK(i:Int):∀ k,z7 (fT i k)
 | 0=>Ah
 | k+1=>by
  unfold fT;split
  ·exact dN _ _ _
  ·exact rK i k
theorem wU(i:Int)(aeE:∀ k:Nat,k<64→jO i k=k.testBit i.toNat):∀ k,k≤64→∀ r,ib (fT i k) r=(decide (r<k)&&r.testBit i.toNat)
 | 0,_,r=>by unfold fT;rw[uL];simp
 | k+1,hk,r=>by
  have ih:=wU i aeE k (by omega) r;have hb:=aeE k (by omega)
  have hp:IntKind.u64.wrap (1*2^((k:Int)).toNat)=(2:Int)^k:=by
   rw[EC,Int.toNat_natCast,Int.one_mul];obtain⟨m,e,hm⟩:=DM (by omega:k<64);rw[e];omega
  have hw:z7 ((2:Int)^k):=by
   obtain⟨m,e,hm⟩:=DM (by omega:k<64);unfold z7;rw[e];omega
  unfold fT;rw[hb,hp];split
  ·rename_i hc;rw[lQ .or (rK i k) hw,ih,aa8];by_cases e:k=r
   ·subst e;simp[hc]
   ·have:decide (r<k+1)=decide (r<k):=decide_eq_decide.2 (by omega);simp[e,this]
  ·rename_i hc;rw[ih];by_cases e:r=k
   ·subst e;simp[show r.testBit i.toNat=false by simpa using hc]
   ·have:decide (r<k+1)=decide (r<k):=decide_eq_decide.2 (by omega);rw[this]
theorem YH(u i:Int):z7 (yJ u i):=dN _ _ _
theorem X9{n:Nat}(hn:n≤5)(i:Int)(r:Nat):ib (yJ (aK n) i) r=(decide (r<2^n)&&r.testBit i.toNat):=by
 have h6:=nt6 hn;unfold yJ;rw[lQ .and (rK i 64) (zo hn),wU i (fun k hk=>Cv hk) 64 (Nat.le_refl _),uM];by_cases h:r<2^n
 ·simp[h,show r<64 by omega]
 ·simp[h]
theorem acr{u op x y:Int}:z7 (Dm u op x y):=by
 unfold Dm;split
 ·exact dN _ _ _
 ·split
  ·exact dN _ _ _
  ·split<;>exact dN _ _ _
theorem sI{n:Nat}(hn:n≤5):∀ e:aq,z7 (bN (aK n) n e)∧∀ r,ib (bN (aK n) n e) r=(decide (r<2^n)&&jN n r e):=by
 refine aq.ind fun e ih=>?_
 have hlen:∀ l:List aq,(nA (aK n) n l).length=l.length:=fun l=>by induction l with
  | nil=>rw[nA];rfl
  | cons k l h=>rw[nA,List.length_cons,h,List.length_cons]
 have aeB:∀ (r:Nat) (l:List aq),(WU n r l).length=l.length:=fun r l=>by induction l with
  | nil=>rw[WU];rfl
  | cons k l h=>rw[WU,List.length_cons,h,List.length_cons]
 have hget:∀ (l:List aq),(∀ k∈l,z7 (bN (aK n) n k)∧∀ r,ib (bN (aK n) n k) r=(decide (r<2^n)&&jN n r k))→∀ i,z7 ((nA (aK n) n l).getD i 0)∧∀ r,ib ((nA (aK n) n l).getD i 0) r=(decide (r<2^n)&&(WU n r l).getD i false):=by
  intro l
  induction l with
  | nil=>intro _ i;rw[nA];exact⟨Ah,fun r=>by rw[WU];simp[uL]⟩
  | cons k l h=>
   intro H i;rw[nA]
   cases i with
   | zero=>exact⟨(H k (by simp)).1,fun r=>by rw[WU];exact(H k (by simp)).2 r⟩
   | succ i=>
    have:=h (fun k hk=>H k (by simp[hk])) i;exact⟨this.1,fun r=>by rw[WU];exact this.2 r⟩
 have h0:=hget e.kids ih 0;have h1:=hget e.kids ih 1;rw[tW];unfold Lp;constructor
 ·split
  ·exact Ah
  ·split
   ·exact YH _ _
   ·split
    ·exact aaU _ _
    ·exact acr
 ·intro r;rw[ni];unfold Db;rw[hlen,aeB];split
  ·rw[uL];simp
  ·split
   ·exact X9 hn e.a r
   ·split
    ·rw[Fq hn h0.1,h0.2];by_cases hr:r<2^n<;>simp[hr]
    ·unfold Dm;split
     ·rw[lQ .and h0.1 h1.1,h0.2,h1.2];by_cases hr:r<2^n<;>simp[hr]
     ·split
      ·rw[lQ .or h0.1 h1.1,h0.2,h1.2];by_cases hr:r<2^n<;>simp[hr]
      ·split
       ·rw[show bits .and .u64 (bits .xor .u64 18446744073709551615 (bits .xor .u64 ((nA (aK n) n e.kids).getD 0 0) ((nA (aK n) n e.kids).getD 1 0))) (aK n)=notM (aK n) (bits .xor .u64 ((nA (aK n) n e.kids).getD 0 0) ((nA (aK n) n e.kids).getD 1 0)) from rfl,Fq hn (dN _ _ _),lQ .xor h0.1 h1.1,h0.2,h1.2];by_cases hr:r<2^n<;>simp[hr]
       ·rw[lQ .xor h0.1 h1.1,h0.2,h1.2];by_cases hr:r<2^n<;>simp[hr]
def E_(n:Nat)(conds:List aq)(k:Int)(r:Nat):Bool:=
 if 0<k∧k≤conds.length then (match conds[(k-1).toNat]? with|some e=>jN n r e|none=>false)
 else if k<0∧0-(conds.length:Int)≤k then !(match conds[(0-k-1).toNat]? with|some e=>jN n r e|none=>false)
 else true
def ixN(T C:Nat)(r:aj)(p:Nat×Nat):Nat:=(((r.kind-1).toNat*T+p.1)*T+p.2)*C+r.cls.toNat
def TV(at_:Nat)(v:Int)(out:List Int):List Int:=out.set at_ (bits .or .u32 (out.getD at_ 0) v)
def sS(T C:Nat)(r:aj)(out:List Int)(l:List (Nat×Nat)):List Int:=l.foldl (fun o p=>TV (ixN T C r p) r.perms o) out
def iw(T C:Nat)(on:aj→Bool)(out:List Int)(l:List aj):List Int:=l.foldl (fun o r=>if on r=true then sS T C r o r.pairs else o) out
structure RV (T C:Nat) (r:aj):Prop where
 kind:1≤r.kind∧r.kind≤4
 cls:0≤r.cls∧r.cls<C
 perms:W32 r.perms
 pairs:∀ p∈r.pairs,p.1<T∧p.2<T
theorem TU(i:Nat)(v:Int)(o:List Int):(TV i v o).length=o.length:=List.length_set ..
theorem AU(T C:Nat)(r:aj):∀ (l:List (Nat×Nat)) (o:List Int),(sS T C r o l).length=o.length
 | [],_=>rfl
 | p::l,o=>by
  show(sS T C r (TV (ixN T C r p) r.perms o) l).length=_;rw[AU T C r l,TU]
theorem BH(T C:Nat)(on:aj→Bool):∀ (l:List aj) (o:List Int),(iw T C on o l).length=o.length
 | [],_=>rfl
 | r::l,o=>by
  show(iw T C on (if on r=true then sS T C r o r.pairs else o) l).length=_;rw[BH T C on l];split
  ·exact AU ..
  ·rfl
def iL(T C:Nat)(on:aj→Bool)(l:List aj):List Int:=iw T C on (List.replicate (4*T*T*C) 0) l
theorem BI(T C:Nat)(on:aj→Bool)(l:List aj):(iL T C on l).length=4*T*T*C:=by unfold iL;rw[BH,List.length_replicate]
def kE{α:Type}(l:List α)(o:List Nat)(m:Nat):List α:=(List.range l.length).filterMap fun k=>if (o.contains k||decide (k=m))=true then none else l[k]?
def jS(l:List (aj×Int)):Nat→List Nat
 | 0=>[]
 | m+1=>match l[m]? with
  | some x=>if jD x (kE l (jS l m) m)=true then jS l m++[m] else jS l m
  | none=>jS l m
theorem uD(l:List (aj×Int)):∀ m,∀ k∈jS l m,k<m
 | 0,k,h=>by cases h
 | m+1,k,h=>by
  unfold jS at h;split at h
  ·split at h
   ·rcases auI.1 h with h|h
    ·have:=uD l m k h;omega
    ·rw[auJ.1 h];omega
   ·have:=uD l m k h;omega
  ·have:=uD l m k h;omega
theorem Mt{α:Type}{l:List α}{o:List Nat}{m:Nat}{y:α}:y∈kE l o m↔∃ k,k∉o∧k≠m∧l[k]?=some y:=by
 unfold kE;rw[List.mem_filterMap];constructor
 ·rintro⟨k,hk,h⟩;split at h
  ·cases h
  ·rename_i hc;simp only[Bool.or_eq_true,List.contains_eq_mem,decide_eq_true_iff,not_or]at hc;exact⟨k,by simpa using hc.1,hc.2,h⟩
 ·rintro⟨k,h1,h2,h3⟩;refine⟨k,List.mem_range.2 (auK.1 h3).1,?_⟩;rw[if_neg (by simp[h1,h2])];exact h3
def Zg{α:Type}(l:List α)(o:List Nat):List α:=(List.range l.length).filterMap fun k=>if o.contains k=true then none else l[k]?
theorem mem_left{α:Type}{l:List α}{o:List Nat}{y:α}:y∈Zg l o↔∃ k,k∉o∧l[k]?=some y:=by
 unfold Zg;rw[List.mem_filterMap];constructor
 ·rintro⟨k,hk,h⟩;split at h
  ·cases h
  ·rename_i hc;exact⟨k,by simpa using hc,h⟩
 ·rintro⟨k,h1,h3⟩;refine⟨k,List.mem_range.2 (auK.1 h3).1,?_⟩;rw[if_neg (by simpa using h1)];exact h3
def oU(a b:List (aj×Int)):Prop:=∀ (kind cls:Int) (s t k r:Nat),s<256→t<256→(Gv a kind cls s t k r↔Gv b kind cls s t k r)
theorem LOk.sub{l l':List (aj×Int)}(h:LOk l)(hs:∀ y∈l',y∈l):LOk l':=⟨fun y hy=>h.perms y (hs y hy),fun y hy=>h.adq y (hs y hy)⟩
theorem Mf{α:Type}{l:List α}{o:List Nat}{m:Nat}:∀ y∈kE l o m,y∈l:=fun y hy=>by
 obtain⟨k,-,-,h⟩:=Mt.1 hy;exact auL h
theorem oU.refl(a:List (aj×Int)):oU a a:=fun _ _ _ _ _ _ _ _=>Iff.rfl
theorem oU.trans{a b c:List (aj×Int)}(h:oU a b)(h':oU b c):oU a c:=fun _ _ _ _ _ _ hs ht=>(h _ _ _ _ _ _ hs ht).trans (h' _ _ _ _ _ _ hs ht)
theorem oU.symm{a b:List (aj×Int)}(h:oU a b):oU b a:=fun _ _ _ _ _ _ hs ht=>(h _ _ _ _ _ _ hs ht).symm
section
variable {ops:Array Oper} {Q:Exit→Act→World→Prop} {rest:List Oper} {a:Act} {B:Nat} {w w0:World} {o:Oper} {bs:List Bx} {rs:List Rw} {mb:Nat} {L:List (Int×Value)}
theorem ahj(hg:o.guard=none){t e:TypeId}{m x:Operand}{k:Int}(ho:o.op=.call { callee:=.builtin .delete,args:=#[m,x],argTypes:=#[t,3] })(ht:Tryz.prog.underlying t=some (.map 3 e))(hm:a.eval m=.map (some mb))(hx:a.eval x=.int .i64 k)(hk:iR k)(hd:o.dst=none)(M:aY B w0 w bs rs)(i:Nat)(h:bs[i]?=some (mb,9003,eE L))(hin:(jI L k).isSome=true)
 (next:∀ w',aY B w0 w' (bs.set i (mb,9003,eE (gX L k))) rs→wpList Tryz.prog ops Q rest a w'):wpList Tryz.prog ops Q (o::rest) a w:=
 rX w hg m x t 3 ho _ _ hm hx _ (M.ahc ht i h hk hin) fun w' M'=>by
  rw[hd];exact next w' M'
end
def lval(z:(aj×Int)×Nat):Value:=.agg (mP z).toArray
def Ho(N:List ((aj×Int)×Nat))(A:Nat→Bool)(L:List (Int×Value)):Prop:=∀ k:Nat,jI L (k:Int)=if A k=true then (N[k]?).map lval else none
section
variable {N:List ((aj×Int)×Nat)} {A A':Nat→Bool} {L:List (Int×Value)} {m:Nat} {z:(aj×Int)×Nat}
theorem Ho.congr(h:Ho N A L)(e:∀ k,k<N.length→A' k=A k):Ho N A' L:=fun k=>by
 rw[h k];by_cases hk:k<N.length
 ·rw[e k hk]
 ·rw[List.getElem?_eq_none (by omega)];split<;>split<;>rfl
theorem Ho.put(h:Ho N A L)(hz:N[m]?=some z):Ho N (fun k=>decide (k=m)||A k) (((m:Int),lval z)::gX L (m:Int)):=fun k=>by
 rw[zN];by_cases e:k=m
 ·subst e;simp[hz]
 ·rw[if_neg (by omega),h k];simp[e]
theorem Ho.cut(h:Ho N A L):Ho N (fun k=>A k&&!decide (k=m)) (gX L (m:Int)):=fun k=>by
 rw[Fl];by_cases e:k=m
 ·subst e;simp
 ·rw[if_neg (by omega),h k];simp[e]
theorem Ho.yes(h:Ho N A L){k:Nat}(hA:A k=true)(hz:N[k]?=some z):jI L (k:Int)=some (lval z):=by rw[h k,if_pos hA,hz];rfl
theorem Ho.no(h:Ho N A L){k:Nat}(hA:A k=false):jI L (k:Int)=none:=by rw[h k,if_neg (by rw[hA];decide)]
theorem Ho.nil:Ho N (fun k=>decide (k<0)) []:=fun k=>by simp[jI]
end
def fB{α:Type}(l:List α)(o:List Nat)(m n:Nat):List α:=(List.range n).filterMap fun k=>if (o.contains k||decide (k=m))=true then none else l[k]?
section
variable {α:Type} {l:List α} {o:List Nat} {m j:Nat} {z:α}
theorem XJ(hz:l[j]?=some z)(h:(o.contains j||decide (j=m))=false):fB l o m (j+1)=fB l o m j++[z]:=by
 unfold fB;rw[List.range_succ,auM,List.filterMap_cons,if_neg (by rw[h];decide),hz];rfl
theorem aaL(h:(o.contains j||decide (j=m))=true):fB l o m (j+1)=fB l o m j:=by
 unfold fB;rw[List.range_succ,auM,List.filterMap_cons,if_pos h];simp
theorem OL{β:Type}(f:α→β):(kE l o m).map f=kE (l.map f) o m:=by
 unfold kE;rw[auN,List.map_filterMap];congr 1
 funext k
 split
 ·rfl
 ·rw[auO]
theorem OM:∀ n,(fB l o m n).length≤n:=fun n=>auP (List.length_filterMap_le _ _) (by simp)
end
section
variable {N:List ((aj×Int)×Nat)} {o:List Nat} {m:Nat} {z:(aj×Int)×Nat}
theorem XE(ho:o=jS (N.map (·.1)) m)(hz:N[m]?=some z)(h:jD z.1 ((kE N o m).map (·.1))=true):o++[m]=jS (N.map (·.1)) (m+1):=by
 rw[jS,auO,hz,← ho];show _=if jD z.1 (kE (N.map (·.1)) o m)=true then o++[m] else o
 rw[← OL,if_pos h]
theorem aaJ(ho:o=jS (N.map (·.1)) m)(hz:N[m]?=some z)(h:jD z.1 ((kE N o m).map (·.1))=false):o=jS (N.map (·.1)) (m+1):=by
 rw[jS,auO,hz,← ho];show _=if jD z.1 (kE (N.map (·.1)) o m)=true then o++[m] else o
 rw[← OL,if_neg (by rw[h];decide)]
theorem XF(ho:o=jS (N.map (·.1)) m):o.contains m=false:=by
 cases h:o.contains m with
 | false=>rfl
 | true=>
  have:m∈o:=by simpa using h
  rw[ho]at this;exact absurd (uD _ _ _ this) (Nat.lt_irrefl _)
end
theorem XK{N:List ((aj×Int)×Nat)}{o:List Nat}{m j:Nat}{z:(aj×Int)×Nat}{v:Value}{e:TypeId}{k:Nat}{rs:List Rw}(hz:N[j]?=some z)(h:(o.contains j||decide (j=m))=false):
 (⟨v,e,k,(fB N o m j).length+1,(fB N o m j).flatMap mP++mP z⟩::rs:List Rw)=⟨v,e,k,(fB N o m (j+1)).length,(fB N o m (j+1)).flatMap mP⟩::rs:=by
 rw[XJ hz h,auQ,auR,List.flatMap_cons,List.flatMap_nil,List.append_nil];rfl
theorem pW{x:Option Value}{v z:Value}(h:x=some v):Value.tuple #[x.getD z,.bool x.isSome]=.tuple #[v,.bool true]:=by rw[h];rfl
theorem pX{x:Option Value}{z:Value}(h:x=none):Value.tuple #[x.getD z,.bool x.isSome]=.tuple #[z,.bool false]:=by rw[h];rfl
theorem cH.sub{α:Type}{w:World}{b:Nat}{N N':List ((α×Int)×Nat)}(h:cH w b N)(hs:∀ z∈N',z∈N):cH w b N':=fun z hz=>h z (hs z hz)
theorem OJ{α:Type}{l:List α}{o:List Nat}{m:Nat}:∀ z∈kE l o m,z∈l:=Mf
theorem XY{p:aC}(hok:p.Ok){N:List ((aj×Int)×Nat)}{f:aj→Int}(hN:N.map (·.1)=p.rules.map fun y=>(y,f y)):∀ z∈N,z.1.1.Ok:=fun z hz=>by
 have:z.1∈N.map (·.1):=auH.2 ⟨z,hz,rfl⟩;rw[hN]at this;obtain⟨r,hr,e⟩:=auH.1 this;rw[← e];exact⟨(hok.rules r hr).src,(hok.rules r hr).tgt⟩
theorem QV(o:List Nat)(m:Nat):ints o++[Value.int .i64 (m:Int)]=ints (o++[m]):=by unfold ints;rw[auS];rfl
def ze(p:aC):List Nat:=jS (lC p) p.rules.length
theorem OD(l:List (aj×Int)):∀ m,(jS l m).length≤m
 | 0=>Nat.le_refl _
 | m+1=>by
  have:=OD l m;unfold jS;split
  ·split
   ·rw[auQ];simp;omega
   ·omega
  ·omega
theorem sy(w0:World)(c0 c1 c2 c3 c4 c5 c6 c7 c8 c9 aV aP aO aU aT aS aR:Value)(p:aC)(hp:aM w0 c0 c1 c2 c3 c4 c5 c6 c7 c8 c9 aV aP aO aU aT aS aR p)(hok:p.Ok)(hn:p.bools.length≤5)(hcl:p.conds.length≤1000)(hcr:p.rules.length≤900):Calls Tryz.prog 27 #[.agg #[c0,c1,c2,c3,c4,c5,c6,c7,c8,c9,aV,aP,aO,aU,aT,aS,aR]] w0 (fun(r:Ending) (w':World)=>∃ v,r=.returned v∧((w'.ownsRow w0.heap.size 3 1 v (ze p).length (ints (ze p)))∧auT w0.heap.size w0 w')):=by
 obtain⟨g_,gZ,rfl,hk5,hm5,Na⟩:=SliceAt.form hp.bools (by decide);obtain⟨XZ,Uy,rfl,hk9,hm9,Vh⟩:=SliceAt.form hp.rules (by decide);have bL:=hr1 Tryz.prog Tryz.f27 (fun(r:Ending) (w':World)=>∃ v,r=.returned v∧((w'.ownsRow w0.heap.size 3 1 v (ze p).length (ints (ze p)))∧auT w0.heap.size w0 w')) 66 2 rfl;refine en Tryz.func27 rfl Tryz.ntmps27 rfl (vs:=[.agg #[c0,c1,c2,c3,c4,.slice g_ p.bools.length gZ,c6,c7,c8,.slice XZ p.rules.length Uy,aV,aP,aO,aU,aT,aS,aR]]) rfl fun _ F=>?_
 have M:=Mm.start w0;refine auU fun K1 gV=>ah<|Hf (on rfl) rfl (F.u rf) rfl F rfl M fun g1 _ _ F M=>xA (v:=.slice none 0 0) F rf rf rf fun _ F=>auV<|gV _ _ ?_
 refine auU fun K2 h_=>ah<|xW F (M.b 0 rfl) rf rf rf Oj rf Aw rf fun _ F=>kt (on rfl) (fS rfl Tryz.func78 ag_ rfl (args1 (F.u rf))) (Bg _ _ _ _ _ _ _ _ _ _ _ _ _ _ _ _ _ _ p (hp.keep M.below) hok hn hcl (by omega)) rfl F rfl fun v9 _ w1 hR F=>?_
 obtain⟨⟨N,Da,hoR,hN⟩,hB1⟩:=hR;have pG:=(M.below).trans (hB1.mono (M.below).size);have HS1:=M.below.trans (hB1.mono M.below.size);have ahF:∀ j uu,[c0,c1,c2,c3,c4,.slice g_ p.bools.length gZ,c6,c7,c8,.slice XZ p.rules.length Uy,aV,aP,aO,aU,aT,aS,aR][j]?=some uu→w1.cell? ⟨g1,0+j,none⟩=some uu:=fun j u hu=>by rw[Nat.zero_add];exact((Whole.under hB1 (M.b 0 rfl) (M.b 0 rfl).lt).cell j).trans (by simpa using hu)
 replace M:=Mm.start w1;have hLs:=SliceAt.bF hoR (DX N);obtain⟨ra,rc,rfl,hrc,hrm,U6⟩:=hLs.form (by decide)
 have hNl:N.length=p.rules.length:=by
  have h:=congrArg List.length Da;simpa using h
 refine xA F rf rf rf fun _ F=>auV<|h_ _ _ ?_
 refine auU fun K3 nh=>ah<|kmk (on rfl) rfl rfl F rfl M fun mb _ _ F M=>xA F rf rf rf fun _ F=>auV<|nh _ _ ?_
 refine auU fun K4 n_=>auU fun K5 nZ=>ah<|xM F rf rf rf fun _ F=>kz F rf (fQ rfl (F.u rf) yV) fun _ F=>xM (v:=.int .i64 0) F rf rf rf fun _ F=>auV<|nZ _ _ ?_
 refine auW<|?_;refine eH (ι:=Nat×List (Int×Value)) (fun|(t,L),a,w=>Fs a 66 [(3,.slice ra N.length rc),(4,(.map (some mb))),(17,.slice ra N.length rc),(18,.int .i64 (N.length:Int)),(19,.int .i64 (t:Int))]∧Mm w1 w [(mb,9003,eE L)] []∧t≤N.length∧Ho N (fun k=>decide (k<t)) L) (fun|(t,L)=>N.length-t) (0,[]) ⟨F.sub ⟨rfl,rfl,rfl,rfl,rfl,trivial⟩,M,auX _,Ho.nil⟩ ?_
 (repeat clear F);(repeat clear M)
 rintro⟨t,L⟩ _ _ ⟨F,M,hm,ZB⟩;refine auU fun K6 pN=>ah<|kz F rf (jf rfl (F.u rf) (F.u rf)) fun _ F=>auV<|pN _ _ ?_
 refine auU fun K7 rR=>?_
 refine auY (F.e 20 rfl) (fun hc2=>?_) (fun hc2=>?_)
 ·have hd3:=of_decide_eq_true hc2;refine wp_skip<|rR _ _ ?_;refine auU fun K8 wX=>auW<|auU fun K9 yD=>?_
  have hltz:t<N.length:=by omega
  obtain⟨z,hz⟩:∃ z,N[t]?=some z:=⟨_,auZ hltz⟩;obtain⟨bz,obz,rfl,abz⟩:=U6 t hltz
  have abd:∀ j uu,[.int .i64 z.1.1.kind,.int .u64 z.1.1.src.a,.int .u64 z.1.1.src.b,.int .u64 z.1.1.src.c,.int .u64 z.1.1.src.d,.int .u64 z.1.1.tgt.a,.int .u64 z.1.1.tgt.b,.int .u64 z.1.1.tgt.c,.int .u64 z.1.1.tgt.d,.bool z.1.1.self,.int .i64 z.1.1.cls,.int .u32 z.1.1.perms,.int .i64 z.1.1.cond,.slice (some ⟨z.2,0,none⟩) 1 1][j]?=some uu→w1.cell? ⟨bz,obz+t*14+j,none⟩=some uu:=fun j u hu=>abz j u (by
   rw[kM wP hz j (auK.1 hu).1];exact hu)
  refine ah<|xM F rf rf rf fun _ F=>
   kz F rf (bE (i:=t) rfl (F.u rf) (F.u rf) (by omega) yV jQ) fun _ F=>
   kz F rf (gW [.int .i64 z.1.1.kind,.int .u64 z.1.1.src.a,.int .u64 z.1.1.src.b,.int .u64 z.1.1.src.c,.int .u64 z.1.1.src.d,.int .u64 z.1.1.tgt.a,.int .u64 z.1.1.tgt.b,.int .u64 z.1.1.tgt.c,.int .u64 z.1.1.tgt.d,.bool z.1.1.self,.int .i64 z.1.1.cls,.int .u32 z.1.1.perms,.int .i64 z.1.1.cond,.slice (some ⟨z.2,0,none⟩) 1 1] rfl (F.u rf) Ig rfl jQ (cF M.below abd)) fun _ F=>
   Jh (on rfl) rfl xT rfl F rfl M fun g4 _ _ F M=>
   xA F rf rf rf fun _ F=>
   KG (on rfl) rfl (F.u rf) (F.u rf) F M 0 rfl jQ rfl rfl rfl fun _ M=>
   auV<|
   yD _ _ ?_
  refine ah<|xM F rf rf rf fun _ F=>xM F rf rf rf fun _ F=>xW F (M.b 0 rfl) rf rf rf Ig rf jQ rf fun _ F=>
   kmp rfl rfl rfl Tn (F.u rf) (F.u rf) (F.u rf) (by constructor<;>omega) M 1 rfl fun _ M=>
   auV<|
   wX _ _ ?_
  refine ah<|
   ke (on rfl) (eV rfl (F.u rf) rfl) rfl F rfl (congrArg (Value.int .i64) (wrap_i64 (by omega))) fun _ F=>
   xM F rf rf rf fun _ F=>
   auV<|?_
  exact⟨(t+1,((t:Int),.agg #[.int .i64 z.1.1.kind,.int .u64 z.1.1.src.a,.int .u64 z.1.1.src.b,.int .u64 z.1.1.src.c,.int .u64 z.1.1.src.d,.int .u64 z.1.1.tgt.a,.int .u64 z.1.1.tgt.b,.int .u64 z.1.1.tgt.c,.int .u64 z.1.1.tgt.d,.bool z.1.1.self,.int .i64 z.1.1.cls,.int .u32 z.1.1.perms,.int .i64 z.1.1.cond,.slice (some ⟨z.2,0,none⟩) 1 1])::gX L (t:Int)),⟨F.sub ⟨rfl,rfl,rfl,rfl,rfl,trivial⟩,(M.only (.cons _ (.cons_cons _ .slnil)) .slnil),by omega,(ZB.put hz).congr fun k _=>by rw[← Bool.decide_or];exact decide_eq_decide.2 (by omega)⟩,by show N.length-(t+1)<N.length-t;omega⟩
 ·have Sq:=of_decide_eq_false hc2;refine wp_exit<|n_ _ _ ?_;refine auU fun WG lS=>?_
  have M:=M.bC 3 1;refine ah<|xA (v:=.slice none 0 0) F rf rf rf fun _ F=>auV<|lS _ _ ?_
  refine auU fun Z7 qE=>auU fun Z6 pI=>?_
  have aec:=XY hok Da;refine ah<|xM F rf rf rf fun _ F=>kz F rf (fQ rfl (F.u rf) yV) fun _ F=>xM (v:=.int .i64 0) F rf rf rf fun _ F=>auV<|pI _ _ ?_
  refine auW<|?_;refine eH (ι:=Nat×Value×List Nat×List (Int×Value)) (fun|(m,v,o,L),a,w=>Fs a 66 [(3,.slice ra N.length rc),(4,(.map (some mb))),(7,v),(28,.slice ra N.length rc),(29,.int .i64 (N.length:Int)),(30,.int .i64 (m:Int))]∧Mm w1 w [(mb,9003,eE L)] [⟨v,3,1,o.length,ints o⟩]∧m≤N.length∧o=jS (N.map (·.1)) m∧Ho N (fun k=>!o.contains k) L) (fun|(m,v,o,L)=>N.length-m) (0,.slice none 0 0,[],L) ⟨F.sub ⟨rfl,rfl,rfl,rfl,rfl,rfl,trivial⟩,M,auX _,rfl,ZB.congr fun k hk=>by simp;omega⟩ ?_
  (repeat clear F);(repeat clear M)
  rintro⟨m,v,o,L⟩ _ _ ⟨F,M,hm,ho,ZB⟩;refine auU fun Z5 pH=>ah<|kz F rf (jf rfl (F.u rf) (F.u rf)) fun _ F=>auV<|pH _ _ ?_
  refine auU fun K14 tC=>?_
  refine auY (F.e 31 rfl) (fun rQ=>?_) (fun rQ=>?_)
  ·have hd7:=of_decide_eq_true rQ;refine wp_skip<|tC _ _ ?_;refine auU fun K15 rS=>auW<|auU fun K16 Fy=>?_
   have hltz:m<N.length:=by omega
   obtain⟨z,hz⟩:∃ z,N[m]?=some z:=⟨_,auZ hltz⟩;obtain⟨bz,obz,rfl,abz⟩:=U6 m hltz
   have abd:∀ j uu,[.int .i64 z.1.1.kind,.int .u64 z.1.1.src.a,.int .u64 z.1.1.src.b,.int .u64 z.1.1.src.c,.int .u64 z.1.1.src.d,.int .u64 z.1.1.tgt.a,.int .u64 z.1.1.tgt.b,.int .u64 z.1.1.tgt.c,.int .u64 z.1.1.tgt.d,.bool z.1.1.self,.int .i64 z.1.1.cls,.int .u32 z.1.1.perms,.int .i64 z.1.1.cond,.slice (some ⟨z.2,0,none⟩) 1 1][j]?=some uu→w1.cell? ⟨bz,obz+m*14+j,none⟩=some uu:=fun j u hu=>abz j u (by
    rw[kM wP hz j (auK.1 hu).1];exact hu)
   have hmo:=XF ho
   refine ah<|xM F rf rf rf fun _ F=>
    kz F rf (bE (i:=m) rfl (F.u rf) (F.u rf) (by omega) yV jQ) fun _ F=>
    kz F rf (gW [.int .i64 z.1.1.kind,.int .u64 z.1.1.src.a,.int .u64 z.1.1.src.b,.int .u64 z.1.1.src.c,.int .u64 z.1.1.src.d,.int .u64 z.1.1.tgt.a,.int .u64 z.1.1.tgt.b,.int .u64 z.1.1.tgt.c,.int .u64 z.1.1.tgt.d,.bool z.1.1.self,.int .i64 z.1.1.cls,.int .u32 z.1.1.perms,.int .i64 z.1.1.cond,.slice (some ⟨z.2,0,none⟩) 1 1] rfl (F.u rf) Ig rfl jQ (cF M.below abd)) fun _ F=>
    Jh (on rfl) rfl xT rfl F rfl M fun g8 _ _ F M=>
    xA F rf rf rf fun _ F=>
    KG (on rfl) rfl (F.u rf) (F.u rf) F M 0 rfl jQ rfl rfl rfl fun _ M=>
    auV<|
    Fy _ _ ?_
   refine auU fun K17 Vw=>ah<|xM F rf rf rf fun _ F=>xM F rf rf rf fun _ F=>
    ahj rfl rfl Tn (F.u rf) (F.u rf) (by constructor<;>omega) rfl M 1 rfl (by rw[ZB.yes (by rw[hmo];rfl) hz];rfl) fun _ M=>
    auV<|
    Vw _ _ ?_
   refine auU fun K18 abO=>?_
   have M:=M.bC 146 14;refine ah<|xA (v:=.slice none 0 0) F rf rf rf fun _ F=>auV<|abO _ _ ?_
   refine auU fun K19 abN=>auU fun K20 abM=>ah<|xM F rf rf rf fun _ F=>kz F rf (fQ rfl (F.u rf) yV) fun _ F=>xM (v:=.int .i64 0) F rf rf rf fun _ F=>auV<|abM _ _ ?_
   refine auW<|?_;refine eH (ι:=Nat×Value) (fun|(j,v2),a,w=>Fs a 66 [(3,.slice (some ⟨bz,obz,none⟩) N.length rc),(4,(.map (some mb))),(7,v),(8,.int .i64 (m:Int)),(9,.pointer (some ⟨g8,0,none⟩)),(10,v2),(28,.slice (some ⟨bz,obz,none⟩) N.length rc),(29,.int .i64 (N.length:Int)),(30,.int .i64 (m:Int)),(38,.int .i64 (N.length:Int)),(39,.int .i64 (j:Int))]∧Mm w1 w [(g8,146,#[.int .i64 z.1.1.kind,.int .u64 z.1.1.src.a,.int .u64 z.1.1.src.b,.int .u64 z.1.1.src.c,.int .u64 z.1.1.src.d,.int .u64 z.1.1.tgt.a,.int .u64 z.1.1.tgt.b,.int .u64 z.1.1.tgt.c,.int .u64 z.1.1.tgt.d,.bool z.1.1.self,.int .i64 z.1.1.cls,.int .u32 z.1.1.perms,.int .i64 z.1.1.cond,.slice (some ⟨z.2,0,none⟩) 1 1]),(mb,9003,eE (gX L (m:Int)))] [⟨v2,146,14,(fB N o m j).length,(fB N o m j).flatMap mP⟩,⟨v,3,1,o.length,ints o⟩]∧j≤N.length) (fun|(j,v2)=>N.length-j) (0,.slice none 0 0) ⟨F.sub ⟨rfl,rfl,rfl,rfl,rfl,rfl,rfl,rfl,rfl,rfl,rfl,trivial⟩,M,auX _⟩ ?_
   (repeat clear F);(repeat clear M)
   rintro⟨j,v2⟩ _ _ ⟨F,M,hj⟩;refine auU fun K21 abL=>ah<|kz F rf (jf rfl (F.u rf) (F.u rf)) fun _ F=>auV<|abL _ _ ?_
   refine auU fun K22 abK=>?_
   refine auY (F.e 40 rfl) (fun hc9=>?_) (fun hc9=>?_)
   ·have aeM:=of_decide_eq_true hc9;refine wp_skip<|abK _ _ ?_;refine auU fun K23 Yq=>auW<|auU fun K24 abJ=>ah<|xM F rf rf rf fun _ F=>xA F rf rf rf fun _ F=>auV<|abJ _ _ ?_
    refine auU fun K25 Yp=>?_
    have hlty:j<N.length:=by omega
    obtain⟨y,hy⟩:∃ y,N[j]?=some y:=⟨_,auZ hlty⟩
    cases aes:((o.contains j||decide (j=m)):Bool) with
    | true=>
     have hoff:(o.contains j||decide (j=m))=true:=aes;have hlk:=ZB.cut.no (k:=j) (by rw[← Bool.not_or,hoff];rfl)
     refine ah<|xM F rf rf rf fun _ F=>xM F rf rf rf fun _ F=>
      ke (on rfl) (FT (z:=.agg #[.int .i64 0,.int .u64 0,.int .u64 0,.int .u64 0,.int .u64 0,.int .u64 0,.int .u64 0,.int .u64 0,.int .u64 0,.bool false,.int .i64 0,.int .u32 0,.int .i64 0,.slice none 0 0]) Tn (by kernel_rfl) M 1 rfl rfl (F.u rf) (F.u rf) (by constructor<;>omega)) rfl F rfl (show _=.tuple #[.agg #[.int .i64 0,.int .u64 0,.int .u64 0,.int .u64 0,.int .u64 0,.int .u64 0,.int .u64 0,.int .u64 0,.int .u64 0,.bool false,.int .i64 0,.int .u32 0,.int .i64 0,.slice none 0 0],.bool false] from pX hlk) fun _ F=>
      xM F rf rf rf fun _ F=>
      kz F rf (bX rfl (F.u rf) rfl) fun _ F=>
      kz F rf (bX rfl (F.u rf) rfl) fun _ F=>
      Jh (on rfl) rfl xT rfl F rfl M fun g12 _ _ F M=>
      KG (on rfl) rfl (F.u rf) (F.u rf) F M 0 rfl jQ rfl rfl rfl fun _ M=>
      xA F rf rf rf fun _ F=>
      auV<|
      Yp _ _ ?_
     refine auU fun K26 abI=>ah<|xM F rf rf rf fun _ F=>auV<|abI _ _ ?_
     refine au0 (F.e 48 rfl) ?_;refine wp_skip<|Yq _ _ ?_
     refine ah<|
      ke (on rfl) (eV rfl (F.u rf) rfl) rfl F rfl (congrArg (Value.int .i64) (wrap_i64 (by omega))) fun _ F=>
      xM F rf rf rf fun _ F=>
      auV<|?_
     exact⟨(j+1,v2),⟨F.sub ⟨rfl,rfl,rfl,rfl,rfl,rfl,rfl,rfl,rfl,rfl,rfl,trivial⟩,((M.only (.cons _ (.cons_cons _ (.cons_cons _ .slnil))) (.cons_cons _ (.cons_cons _ .slnil)))).cast rfl (by rw[aaL hoff]),by omega⟩,by show N.length-(j+1)<N.length-j;omega⟩
    | false=>
     have hoff:(o.contains j||decide (j=m))=false:=aes;have hlk:=ZB.cut.yes (k:=j) (by rw[← Bool.not_or,hoff];rfl) hy
     refine ah<|xM F rf rf rf fun _ F=>xM F rf rf rf fun _ F=>
      ke (on rfl) (FT (z:=.agg #[.int .i64 0,.int .u64 0,.int .u64 0,.int .u64 0,.int .u64 0,.int .u64 0,.int .u64 0,.int .u64 0,.int .u64 0,.bool false,.int .i64 0,.int .u32 0,.int .i64 0,.slice none 0 0]) Tn (by kernel_rfl) M 1 rfl rfl (F.u rf) (F.u rf) (by constructor<;>omega)) rfl F rfl (show _=.tuple #[.agg #[.int .i64 y.1.1.kind,.int .u64 y.1.1.src.a,.int .u64 y.1.1.src.b,.int .u64 y.1.1.src.c,.int .u64 y.1.1.src.d,.int .u64 y.1.1.tgt.a,.int .u64 y.1.1.tgt.b,.int .u64 y.1.1.tgt.c,.int .u64 y.1.1.tgt.d,.bool y.1.1.self,.int .i64 y.1.1.cls,.int .u32 y.1.1.perms,.int .i64 y.1.1.cond,.slice (some ⟨y.2,0,none⟩) 1 1],.bool true] from pW hlk) fun _ F=>
      xM F rf rf rf fun _ F=>
      kz F rf (bX rfl (F.u rf) rfl) fun _ F=>
      kz F rf (bX rfl (F.u rf) rfl) fun _ F=>
      Jh (on rfl) rfl xT rfl F rfl M fun g13 _ _ F M=>
      KG (on rfl) rfl (F.u rf) (F.u rf) F M 0 rfl jQ rfl rfl rfl fun _ M=>
      xA F rf rf rf fun _ F=>
      auV<|
      Yp _ _ ?_
     refine auU fun K27 abH=>ah<|xM F rf rf rf fun _ F=>auV<|abH _ _ ?_
     refine wp_cond_true (F.e 48 rfl) ?_;have an9:=OM (l:=N) (o:=o) (m:=m) j
     refine ah<|xM F rf rf rf fun _ F=>xW F (M.b 0 rfl) rf rf rf Ig rf jQ rf fun _ F=>
      kl (on rfl) rfl yV jQ xT rfl (pv:=#[(0,.agg #[.int .i64 y.1.1.kind,.int .u64 y.1.1.src.a,.int .u64 y.1.1.src.b,.int .u64 y.1.1.src.c,.int .u64 y.1.1.src.d,.int .u64 y.1.1.tgt.a,.int .u64 y.1.1.tgt.b,.int .u64 y.1.1.tgt.c,.int .u64 y.1.1.tgt.d,.bool y.1.1.self,.int .i64 y.1.1.cls,.int .u32 y.1.1.perms,.int .i64 y.1.1.cond,.slice (some ⟨y.2,0,none⟩) 1 1])]) (by simp[(F.e 50 rfl)]) (cells:=#[.int .i64 y.1.1.kind,.int .u64 y.1.1.src.a,.int .u64 y.1.1.src.b,.int .u64 y.1.1.src.c,.int .u64 y.1.1.src.d,.int .u64 y.1.1.tgt.a,.int .u64 y.1.1.tgt.b,.int .u64 y.1.1.tgt.c,.int .u64 y.1.1.tgt.d,.bool y.1.1.self,.int .i64 y.1.1.cls,.int .u32 y.1.1.perms,.int .i64 y.1.1.cond,.slice (some ⟨y.2,0,none⟩) 1 1]) (by kernel_rfl) rfl F rfl M fun g14 _ _ F M=>
      kp (on rfl) rfl yV UR rfl M 0 rfl (F.u rf) (F.u rf) (M.slice 0 rfl rfl rfl (by simp[maxLen])) ⟨by unfold maxLen;omega,by omega⟩ rfl F rfl fun v15 _ _ F M=>
      xA F rf rf rf fun _ F=>
      auV<|
      Yq _ _ ?_
     refine ah<|
      ke (on rfl) (eV rfl (F.u rf) rfl) rfl F rfl (congrArg (Value.int .i64) (wrap_i64 (by omega))) fun _ F=>
      xM F rf rf rf fun _ F=>
      auV<|?_
     exact⟨(j+1,v15),⟨F.sub ⟨rfl,rfl,rfl,rfl,rfl,rfl,rfl,rfl,rfl,rfl,rfl,trivial⟩,((M.only (.cons _ (.cons _ (.cons_cons _ (.cons_cons _ .slnil)))) (.cons_cons _ (.cons_cons _ .slnil)))).cast rfl (XK hy hoff),by omega⟩,by show N.length-(j+1)<N.length-j;omega⟩
   ·have aoA:=of_decide_eq_false hc9;refine wp_exit<|abN _ _ ?_;refine auU fun K28 abG=>?_
    have hjN:j=N.length:=by omega
    subst hjN
    have hol:((kE N o m).map (·.1)).length≤1000:=by
     rw[auN];exact auP (OM N.length) (by omega)
    refine ah<|xW F (M.b 0 rfl) rf rf rf Ig rf jQ rf fun _ F=>xM F rf rf rf fun _ F=>
     xC F M rf rf q80 (args2 (F.u rf) (F.u rf)) (yG _ z.1 (aec z (auL hz)) z.2 (by simpa using((hN.keep M.below) z (auL hz)).1.cell 0) _ v2 ((kE N o m).map (·.1)) (Mw (M.r 0 rfl) rfl ((hN.keep M.below).sub OJ)) hol (fun y hy=>by obtain⟨x,hx,rfl⟩:=auH.1 hy;exact aec x (OJ x hx))) fun _ _ F M=>
     auV<|
     abG _ _ ?_
    refine auY (F.e 56 rfl) (fun hc17=>?_) (fun hc17=>?_)
    ·have hcv:jD z.1 ((kE N o m).map (·.1))=true:=hc17;have an8:o.length≤1000:=by rw[ho];exact auP (OD _ _) (by omega)
     refine ah<|xM F rf rf rf fun _ F=>xM F rf rf rf fun _ F=>xS F M rf rf rf u64 Tz zr3 rf rf fun g18 _ _ F M=>
      kp (on rfl) rfl u64 ahq rfl M 1 rfl (F.u rf) (F.u rf) (M.slice 0 rfl rfl rfl (by simp[maxLen])) ⟨by unfold maxLen;omega,by omega⟩ rfl F rfl fun v19 _ _ F M=>
      xA F rf rf rf fun _ F=>
      auV<|
      rS _ _ ?_
     refine ah<|
      ke (on rfl) (eV rfl (F.u rf) rfl) rfl F rfl (congrArg (Value.int .i64) (wrap_i64 (by omega))) fun _ F=>
      xM F rf rf rf fun _ F=>
      auV<|?_
     exact⟨(m+1,v19,o++[m],gX L (m:Int)),⟨F.sub ⟨rfl,rfl,rfl,rfl,rfl,rfl,trivial⟩,((M.only (.cons _ (.cons _ (.cons_cons _ .slnil))) (.cons _ (.cons_cons _ .slnil)))).cast rfl (by rw[QV,auQ];rfl),by omega,XE ho hz hcv,ZB.cut.congr fun k _=>by simp[Bool.and_comm]⟩,by show N.length-(m+1)<N.length-m;omega⟩
    ·have hcv:jD z.1 ((kE N o m).map (·.1))=false:=hc17
     refine ah<|xM F rf rf rf fun _ F=>xM F rf rf rf fun _ F=>xW F (M.b 0 rfl) rf rf rf Ig rf jQ rf fun _ F=>
      kmp rfl rfl rfl Tn (F.u rf) (F.u rf) (F.u rf) (by constructor<;>omega) M 1 rfl fun _ M=>
      auV<|
      rS _ _ ?_
     refine ah<|
      ke (on rfl) (eV rfl (F.u rf) rfl) rfl F rfl (congrArg (Value.int .i64) (wrap_i64 (by omega))) fun _ F=>
      xM F rf rf rf fun _ F=>
      auV<|?_
     exact⟨(m+1,v,o,((m:Int),.agg #[.int .i64 z.1.1.kind,.int .u64 z.1.1.src.a,.int .u64 z.1.1.src.b,.int .u64 z.1.1.src.c,.int .u64 z.1.1.src.d,.int .u64 z.1.1.tgt.a,.int .u64 z.1.1.tgt.b,.int .u64 z.1.1.tgt.c,.int .u64 z.1.1.tgt.d,.bool z.1.1.self,.int .i64 z.1.1.cls,.int .u32 z.1.1.perms,.int .i64 z.1.1.cond,.slice (some ⟨z.2,0,none⟩) 1 1])::gX (gX L (m:Int)) (m:Int)),⟨F.sub ⟨rfl,rfl,rfl,rfl,rfl,rfl,trivial⟩,(M.only (.cons _ (.cons_cons _ .slnil)) (.cons _ (.cons_cons _ .slnil))),by omega,aaJ ho hz hcv,(ZB.cut.put hz).congr fun k _=>by
      by_cases e:k=m
      ·subst e;rw[hmo];simp
      ·simp[e]⟩,by show N.length-(m+1)<N.length-m;omega⟩
  ·have aoz:=of_decide_eq_false rQ;refine wp_exit<|qE _ _ ?_;refine auU fun K29 abF=>ah<|xM F rf rf rf fun _ F=>xA F rf rf rf fun _ F=>auV<|abF _ _ ?_
   refine wp_ret<|bL _ _ _ _ F rfl ?_;have hmN:m=N.length:=by omega
   have hor:o=ze p:=by rw[ho,hmN,hNl,Da];rfl
   subst hor;exact⟨_,rfl,oH (M.r 0 rfl) pG.size,(pG.trans (M.below.mono pG.size))⟩
theorem aY.Ol{w0 w w':World}{bs:List Bx}{rs:List Rw}{mb:Nat}(M:aY w0.heap.size w0 w bs rs)(hlt:mb<w0.heap.size)(hg:w.grownBy w' (some mb))(aez:∀ g cs,Whole w' g 52 cs→g≠mb):
 ∃ wa:World,St [mb] w0 wa∧wa.heap[mb]?=w'.heap[mb]?∧aY wa.heap.size wa w' bs rs:=by
 have ahu:mb<w.heap.size:=au1 hlt M.below.size;have U3:mb<w'.heap.size:=au1 ahu hg.size;have hS:=St.grown (X:=[mb]) hg (auJ.2 rfl)
 obtain⟨wa,ho,ht,hp,e1,e2,e3⟩:∃ wa:World,wa.os=w0.os∧wa.tape=w0.tape∧wa.output=w0.output∧wa.heap.size=w0.heap.size∧(∀ k,k≠mb→wa.heap[k]?=w0.heap[k]?)∧wa.heap[mb]?=w'.heap[mb]?:=
  ⟨{ w0 with heap:=w0.heap.setIfInBounds mb (w'.heap[mb]'U3) },rfl,rfl,rfl,Array.size_setIfInBounds ..,fun k hk=>Array.getElem?_setIfInBounds_ne (Ne.symm hk),by
   show(w0.heap.setIfInBounds mb (w'.heap[mb]'U3))[mb]?=_;rw[Array.getElem?_setIfInBounds_self_of_lt hlt,Array.getElem?_eq_getElem U3]⟩
 refine⟨wa,⟨ho,ht,hp,Nat.le_of_eq e1.symm,fun k _ hx=>e2 k (by simpa using hx)⟩,e3,?_⟩;refine⟨⟨hS.os.trans (M.below.os.trans ho.symm),hS.tape.trans (M.below.tape.trans ht.symm),hS.output.trans (M.below.output.trans hp.symm),by rw[e1];exact auP M.below.size hS.size,fun k hk=>?_⟩,Nat.le_refl _,fun g cs h=>?_,fun b hb=>?_,fun b hb=>by rw[e1];exact M.lo b hb,M.nd,fun r hr=>?_,M.far,M.wv⟩
 ·by_cases hkm:k=mb
  ·subst hkm;exact e3.symm
  ·rw[e1]at hk;rw[e2 k hkm,hS.block k (au1 hk M.below.size) (by simpa using hkm),M.below.block k hk]
 ·have hne:g≠mb:=fun e=>by
   subst e;have h':wa.heap[g]?=some (.cells cs 52 (0,0)):=h;rw[e3]at h';exact aez g cs h' rfl
  have h0:Whole w0 g 52 cs:=by
   have h':wa.heap[g]?=some (.cells cs 52 (0,0)):=h;rw[e2 g hne]at h';exact h'
  exact hS.whole (M.old g cs h0) (by simpa using hne)
 ·exact(M.box b hb).kept (hS.block _ (M.box b hb).lt fun hm=>by
   have:=M.lo b hb;rw[auJ.1 hm]at this;omega)
 ·rw[e1]
  exact hS.own (M.row r hr) fun q hq e=>by
   rw[auJ.1 hq]at e;have:=((M.row r hr).lt _ e).1;omega
section
variable {ops:Array Oper} {Q:Exit→Act→World→Prop} {rest:List Oper} {a:Act} {w w0:World} {o:Oper} {bs:List Bx} {rs:List Rw} {mb:Nat} {L:List (Int×Value)}
theorem kpo(hg:o.guard=none)(hd:o.dst=none){t e:TypeId}{m x y:Operand}{v:Value}{k:Int}(ho:o.op=.mapUpdate t m x y)(ht:Tryz.prog.underlying t=some (.map 3 e))(hm:a.eval m=.map (some mb))(hx:a.eval x=.int .i64 k)(hy:a.eval y=v)(hk:iR k)(M:aY w0.heap.size w0 w bs rs)(hM:aX w0 Tryz.prog 3 mb (L.map ival))
 (next:∀ wa w',St [mb] w0 wa→aX wa Tryz.prog 3 mb (((k,v)::gX L k).map ival)→aY wa.heap.size wa w' bs rs→wpList Tryz.prog ops Q rest a w'):wpList Tryz.prog ops Q (o::rest) a w:=
 kmu hg hd ho hm hx hy (aX.TW ht (hM.kept (M.below.block _ hM.lt)) hk v) fun w' ⟨Nf,hg'⟩=>by
  obtain⟨wa,hS,e3,M'⟩:=M.Ol hM.lt hg' fun g cs h=>gP h Nf
  exact next wa w' hS (Nf.kept e3) M'
theorem aX.aiZ{t e ty:TypeId}(ht:Tryz.prog.underlying t=some (.map 3 e))(hM:aX w Tryz.prog 3 mb (L.map ival)){k:Int}(hk:iR k)(hin:(jI L k).isSome=true):
 ∃ w',(Builtin.delete_ #[t,3] ty #[.map (some mb),.int .i64 k]).run Tryz.prog w=.ok (.tuple #[]) w'∧(aX w' Tryz.prog 3 mb ((gX L k).map ival)∧w.grownBy w' (some mb)):=by
 obtain⟨l,hl⟩:=X3 hk;obtain⟨u,hf⟩:=Option.isSome_iff_exists.1 hin;obtain⟨w',hw,Nf,hg,-⟩:=hM.del (ty:=ty) (key:=.int .i64 k) (old:=u) (R:=(gX L k).map ival) wT ht hl ((xu hM.Mn hf).map ival);exact⟨w',hw,Nf,hg⟩
theorem kdo(hg:o.guard=none)(hd:o.dst=none){t e:TypeId}{m x:Operand}{k:Int}(ho:o.op=.call { callee:=.builtin .delete,args:=#[m,x],argTypes:=#[t,3] })(ht:Tryz.prog.underlying t=some (.map 3 e))(hm:a.eval m=.map (some mb))(hx:a.eval x=.int .i64 k)(hk:iR k)(M:aY w0.heap.size w0 w bs rs)(hM:aX w0 Tryz.prog 3 mb (L.map ival))(hin:(jI L k).isSome=true)
 (next:∀ wa w',St [mb] w0 wa→aX wa Tryz.prog 3 mb ((gX L k).map ival)→aY wa.heap.size wa w' bs rs→wpList Tryz.prog ops Q rest a w'):wpList Tryz.prog ops Q (o::rest) a w:=
 rX w hg m x t 3 ho _ _ hm hx _ (aX.aiZ ht (hM.kept (M.below.block _ hM.lt)) hk hin) fun w' ⟨Nf,hg'⟩=>by
  rw[hd];obtain⟨wa,hS,e3,M'⟩:=M.Ol hM.lt hg' fun g cs h=>gP h Nf
  exact next wa w' hS (Nf.kept e3) M'
theorem qM{t e:TypeId}{m x:Operand}{z:Value}{k:Int}(ht:Tryz.prog.underlying t=some (.map 3 e))(hz:(zeroValue e).run Tryz.prog w=.ok z w)(hM:aX w Tryz.prog 3 mb (L.map ival))(ho:o.op=.lookup t m x false)(hm:a.eval m=.map (some mb))(hx:a.eval x=.int .i64 k)(hk:iR k):
 (execOp a.eval o).run Tryz.prog w=.ok (.value ((jI L k).getD z)) w:=by
 have hl:=aX.Uw ht hz hM hk false;unfold execOp;simp[ho,hm,hx,hl]
end
def rval(r:aj):Value:=.agg r.cells.toArray
def Dn(f:Nat→Option aj)(L:List (Int×Value)):Prop:=∀ k:Nat,jI L (k:Int)=(f k).map rval
section
variable {f:Nat→Option aj} {L:List (Int×Value)} {m:Nat} {r:aj}
theorem Dn.put(h:Dn f L):Dn (kg f m (some r)) (((m:Int),rval r)::gX L (m:Int)):=fun k=>by
 rw[zN];unfold kg;by_cases e:k=m
 ·subst e;simp
 ·rw[if_neg (by omega),if_neg e,h k]
theorem Dn.cut(h:Dn f L):Dn (kg f m none) (gX L (m:Int)):=fun k=>by
 rw[Fl];unfold kg;by_cases e:k=m
 ·subst e;simp
 ·rw[if_neg (by omega),if_neg e,h k]
theorem Dn.yes(h:Dn f L){k:Nat}(e:f k=some r):jI L (k:Int)=some (rval r):=by rw[h k,e];rfl
theorem Dn.no(h:Dn f L){k:Nat}(e:f k=none):jI L (k:Int)=none:=by rw[h k,e];rfl
end
theorem JE{x:Option Value}{v z:Value}(h:x=some v):x.getD z=v:=by rw[h];rfl
theorem Ud{x y:ay}(hx:x.Ok)(hy:y.Ok):(x.or y).Ok:=⟨Nat.or_lt_two_pow (n:=64) hx.a hy.a,Nat.or_lt_two_pow (n:=64) hx.b hy.b,Nat.or_lt_two_pow (n:=64) hx.c hy.c,Nat.or_lt_two_pow (n:=64) hx.d hy.d⟩
theorem O0{a b c:aj}(ha:a.Ok)(hb:b.Ok)(h:aL a b=some c):c.Ok:=by
 unfold aL at h;split at h
 ·cases h
 ·split at h
  ·obtain rfl:=au2 h;exact⟨ha.src,ha.tgt⟩
  ·split at h
   ·obtain rfl:=au2 h;exact⟨ha.src,Ud ha.tgt hb.tgt⟩
   ·split at h
    ·obtain rfl:=au2 h;exact⟨Ud ha.src hb.src,ha.tgt⟩
    ·cases h
def Sy(f:Nat→Option aj):Prop:=∀ k r,f k=some r→r.Ok
theorem Sy.set{f:Nat→Option aj}(h:Sy f){m:Nat}{v:Option aj}(hv:∀ r,v=some r→r.Ok):Sy (kg f m v):=fun k r e=>by
 unfold kg at e;split at e
 ·exact hv r e
 ·exact h k r e
def G7(f f':Nat→Option aj)(i n:Nat)(t:Bool):Prop:=
 (t=false∧f'=f∧∀ a,f i=some a→∀ k y,i<k→k<n→f k=some y→aL a y=none) ∨
 (t=true∧∃ k a b c,i<k∧k<n∧f i=some a∧f k=some b∧aL a b=some c∧(∀ j y,i<j→j<k→f j=some y→aL a y=none)∧f'=kg (kg f i (some c)) k none)
theorem Fp{α:Type}{x:Option α}{v:α}(h:x=some v):x.isSome=true:=by rw[h];rfl
theorem OV{f:Nat→Option aj}{a:aj}{i k:Nat}(h:∀ j y,i<j→j<k→f j=some y→aL a y=none)(h2:∀ y,f k=some y→aL a y=none):∀ j y,i<j→j<k+1→f j=some y→aL a y=none:=fun j y h1 h3 h4=>by
 by_cases e:j=k
 ·subst e;exact h2 y h4
 ·exact h j y h1 (by omega) h4
structure WK (f f':Nat→Option aj) (n t0 t:Nat):Prop where
 le:t≤t0
 some_:(f' t).isSome=true
 np:NP aL f' n t n
 nf:I5 aL (seg f' 0 n)=I5 aL (seg f 0 n)
 len:(seg f' 0 n).length≤(seg f 0 n).length
theorem Ox{f:Nat→Option aj}{h t:Nat}(hs:∀ j x y,j<h→f j=some x→f t=some y→aL x y=none)(h2:∀ x y,f h=some x→f t=some y→aL x y=none):∀ j x y,j<h+1→f j=some x→f t=some y→aL x y=none:=fun j x y h1 h3 h4=>by
 by_cases e:j=h
 ·subst e;exact h2 x y h3 h4
 ·exact hs j x y (by omega) h3 h4
theorem aaT{f:Nat→Option aj}{n h t:Nat}(ht:t≤h)(hp:NP aL f n t t)(hs:∀ j x y,j<h→f j=some x→f t=some y→aL x y=none):NP aL f n t n:=fun j x k y h1 h2 h3 h4 _ h6=>by
 by_cases e:k=t
 ·subst e;exact hs j x y (by omega) h2 h6
 ·exact hp j x k y h1 h2 h3 h4 e h6
theorem Nt{f:Nat→Option aj}{n h t:Nat}{a b c:aj}(hlt:h<t)(ht:t<n)(ha:f h=some a)(hb:f t=some b)(hc:aL a b=some c)(hp:NP aL f n t t)(hs:∀ j x y,j<h→f j=some x→f t=some y→aL x y=none):
 NP aL (kg (kg f h (some c)) t none) n h h∧I5 aL (seg (kg (kg f h (some c)) t none) 0 n)=I5 aL (seg f 0 n)∧(seg (kg (kg f h (some c)) t none) 0 n).length≤(seg f 0 n).length:=by
 have hp':NP aL f n h n:=fun j x k y h1 h2 h3 h4 _ h6=>by
  by_cases e:k=t
  ·subst e;exact hs j x y h1 h2 h6
  ·exact hp j x k y (by omega) h2 h3 h4 e h6
 have h1:=IB aL hlt ht ha hb hc hp' fun j y h1 h2 h3=>hp h a j y hlt ha h1 (by omega) (by omega) h3
 have h2:=rB aL h1;exact⟨NP.joined aL hp',(I4 aL h1).symm,by omega⟩
theorem QM(w0:World)(mb n:Nat)(hn:n≤1000)(L:List (Int×Value))(hM:aX w0 Tryz.prog 3 mb (L.map ival))(f:Nat→Option aj)(hRv:Dn f L)(hfo:Sy f)(i:Nat)(hi:i<n)(qa:aj)(ha:f i=some qa):Calls Tryz.prog 84 #[.map (some mb),.int .i64 (i:Int),.int .i64 (n:Int)] w0 (fun(r:Ending) (w':World)=>∃ v,r=.returned v∧((∃ t L' f',v=.bool t∧aX w' Tryz.prog 3 mb (L'.map ival)∧Dn f' L'∧Sy f'∧G7 f f' i n t)∧St [mb] w0 w')):=by
 have HS:=iy [mb] _ _ (Below.refl w0.heap.size w0);have hla:=hRv.yes ha;have bL:=hr1 Tryz.prog Tryz.f84 (fun(r:Ending) (w':World)=>∃ v,r=.returned v∧((∃ t L' f',v=.bool t∧aX w' Tryz.prog 3 mb (L'.map ival)∧Dn f' L'∧Sy f'∧G7 f f' i n t)∧St [mb] w0 w')) 41 6 rfl;refine en Tryz.func84 rfl Tryz.ntmps84 rfl (vs:=[(.map (some mb)),.int .i64 (i:Int),.int .i64 (n:Int)]) rfl fun _ F=>?_
 have M:=Mm.start w0;refine auU fun K1 gV=>ah<|xA (v:=.bool false) F rf rf rf fun _ F=>auV<|gV _ _ ?_
 refine auU fun K2 h_=>auU fun K3 nh=>ah<|xM F rf rf rf fun _ F=>
  ke (on rfl) (eV rfl (F.u rf) rfl) rfl F rfl (congrArg (Value.int .i64) (wrap_i64 (by omega))) fun _ F=>
  xA F rf rf rf fun _ F=>
  auV<|
  nh _ _ ?_
 refine auW<|?_;refine eH (ι:=Nat) (fun k a w=>Fs a 41 [(0,(.map (some mb))),(1,.int .i64 (i:Int)),(2,.int .i64 (n:Int)),(7,.int .i64 (k:Int))]∧Mm w0 w [] []∧(i<k∧k≤n)∧∀ j y,i<j→j<k→f j=some y→aL qa y=none) (fun k=>n-k) (i+1) ⟨F.sub ⟨rfl,rfl,rfl,rfl,trivial⟩,M,⟨by omega,by omega⟩,(fun j y h1 h2=>by omega)⟩ ?_
 (repeat clear F);(repeat clear M)
 rintro k _ _ ⟨F,M,hk,hno⟩;refine auU fun K4 n_=>auU fun K5 nZ=>?_
 refine ah<|xM F rf rf rf fun _ F=>xM F rf rf rf fun _ F=>kz F rf (jf rfl (F.u rf) (F.u rf)) fun _ F=>auV<|nZ _ _ ?_
 refine auY (F.e 16 rfl) (fun hc1=>?_) (fun hc1=>?_)
 ·have hd2:=of_decide_eq_true hc1;refine wp_skip<|n_ _ _ ?_;refine auU fun K6 pN=>auW<|auU fun K7 rR=>?_
  cases yC:f k with
  | none=>
   have hlk:=hRv.no yC
   refine ah<|xM F rf rf rf fun _ F=>xM F rf rf rf fun _ F=>
    ke (on rfl) (uR (z:=.agg #[.int .i64 0,.int .u64 0,.int .u64 0,.int .u64 0,.int .u64 0,.int .u64 0,.int .u64 0,.int .u64 0,.int .u64 0,.bool false,.int .i64 0,.int .u32 0,.int .i64 0]) vV (by kernel_rfl) (hM.kept (M.below.block _ hM.lt)) rfl (F.u rf) (F.u rf) (by constructor<;>omega)) rfl F rfl (show _=.tuple #[.agg #[.int .i64 0,.int .u64 0,.int .u64 0,.int .u64 0,.int .u64 0,.int .u64 0,.int .u64 0,.int .u64 0,.int .u64 0,.bool false,.int .i64 0,.int .u32 0,.int .i64 0],.bool false] from pX hlk) fun _ F=>
    xM F rf rf rf fun _ F=>
    kz F rf (bX rfl (F.u rf) rfl) fun _ F=>
    kz F rf (bX rfl (F.u rf) rfl) fun _ F=>
    Jh (on rfl) rfl oy rfl F rfl M fun g3 _ _ F M=>
    KG (on rfl) rfl (F.u rf) (F.u rf) F M 0 rfl sM rfl rfl rfl fun _ M=>
    xA F rf rf rf fun _ F=>
    auV<|
    rR _ _ ?_
   refine auU fun K8 wX=>auU fun K9 yD=>ah<|xM F rf rf rf fun _ F=>kz F rf (pq rfl (F.u rf)) fun _ F=>auV<|yD _ _ ?_
   refine wp_cond_true (F.e 26 rfl) ?_;refine wp_exit<|pN _ _ ?_
   refine ah<|xM F rf rf rf fun _ F=>
    ke (on rfl) (eV rfl (F.u rf) rfl) rfl F rfl (congrArg (Value.int .i64) (wrap_i64 (by omega))) fun _ F=>
    xA F rf rf rf fun _ F=>
    auV<|?_
   exact⟨k+1,⟨F.sub ⟨rfl,rfl,rfl,rfl,trivial⟩,(M.only (.cons _ .slnil) .slnil),by omega,OV (f:=f) (k:=k) hno (fun y hy=>by rw[yC]at hy;cases hy)⟩,by show n-(k+1)<n-k;omega⟩
  | some qb=>
   have hlk:=hRv.yes yC
   refine ah<|xM F rf rf rf fun _ F=>xM F rf rf rf fun _ F=>
    ke (on rfl) (uR (z:=.agg #[.int .i64 0,.int .u64 0,.int .u64 0,.int .u64 0,.int .u64 0,.int .u64 0,.int .u64 0,.int .u64 0,.int .u64 0,.bool false,.int .i64 0,.int .u32 0,.int .i64 0]) vV (by kernel_rfl) (hM.kept (M.below.block _ hM.lt)) rfl (F.u rf) (F.u rf) (by constructor<;>omega)) rfl F rfl (show _=.tuple #[.agg #[.int .i64 qb.kind,.int .u64 qb.src.a,.int .u64 qb.src.b,.int .u64 qb.src.c,.int .u64 qb.src.d,.int .u64 qb.tgt.a,.int .u64 qb.tgt.b,.int .u64 qb.tgt.c,.int .u64 qb.tgt.d,.bool qb.self,.int .i64 qb.cls,.int .u32 qb.perms,.int .i64 qb.cond],.bool true] from pW hlk) fun _ F=>
    xM F rf rf rf fun _ F=>
    kz F rf (bX rfl (F.u rf) rfl) fun _ F=>
    kz F rf (bX rfl (F.u rf) rfl) fun _ F=>
    Jh (on rfl) rfl oy rfl F rfl M fun g4 _ _ F M=>
    KG (on rfl) rfl (F.u rf) (F.u rf) F M 0 rfl sM rfl rfl rfl fun _ M=>
    xA F rf rf rf fun _ F=>
    auV<|
    rR _ _ ?_
   refine auU fun WG lS=>auU fun Z7 qE=>ah<|xM F rf rf rf fun _ F=>kz F rf (pq rfl (F.u rf)) fun _ F=>auV<|qE _ _ ?_
   refine au0 (F.e 26 rfl) ?_;refine wp_skip<|lS _ _ ?_
   refine auU fun Z6 pI=>ah<|xM F rf rf rf fun _ F=>xM F rf rf rf fun _ F=>
    ke (on rfl) (qM (z:=.agg #[.int .i64 0,.int .u64 0,.int .u64 0,.int .u64 0,.int .u64 0,.int .u64 0,.int .u64 0,.int .u64 0,.int .u64 0,.bool false,.int .i64 0,.int .u32 0,.int .i64 0]) vV (by kernel_rfl) (hM.kept (M.below.block _ hM.lt)) rfl (F.u rf) (F.u rf) (by constructor<;>omega)) rfl F rfl (show _=.agg #[.int .i64 qa.kind,.int .u64 qa.src.a,.int .u64 qa.src.b,.int .u64 qa.src.c,.int .u64 qa.src.d,.int .u64 qa.tgt.a,.int .u64 qa.tgt.b,.int .u64 qa.tgt.c,.int .u64 qa.tgt.d,.bool qa.self,.int .i64 qa.cls,.int .u32 qa.perms,.int .i64 qa.cond] from JE hla) fun _ F=>
    xW F (M.b 0 rfl) rf rf rf Xf rf sM rf fun _ F=>
    xC F M rf rf adF (args2 (F.u rf) (F.u rf)) (Ji _ qa qb (hfo _ _ ha) (hfo _ _ yC)) fun _ _ F M=>
    xM F rf rf rf fun _ F=>
    kz F rf (bX rfl (F.u rf) rfl) fun _ F=>
    kz F rf (bX rfl (F.u rf) rfl) fun _ F=>
    Jh (on rfl) rfl oy rfl F rfl M fun g5 _ _ F M=>
    KG (on rfl) rfl (F.u rf) (F.u rf) F M 0 rfl sM rfl rfl rfl fun _ M=>
    xA F rf rf rf fun _ F=>
    auV<|
    pI _ _ ?_
   refine auU fun Z5 pH=>ah<|xM F rf rf rf fun _ F=>auV<|pH _ _ ?_
   refine auY (F.e 35 rfl) (fun rQ=>?_) (fun rQ=>?_)
   ·obtain⟨qc,Vc⟩:=Option.isSome_iff_exists.1 rQ;refine auU fun K14 tC=>ah<|xM F rf rf rf fun _ F=>xM F rf rf rf fun _ F=>xW F (M.b 0 rfl) rf rf rf Xf rf sM rf fun _ F=>kpo rfl rfl rfl vV (F.u rf) (F.u rf) (F.u rf) (by constructor<;>omega) M hM fun wa7 _ Ss hM M=>?_
    have HS:=gB _ _ _ _ HS Ss;have hRv:=hRv.put (m:=i) (r:=(aL qa qb).getD qa);refine auV<|tC _ _ ?_;refine auU fun K15 rS=>ah<|xM F rf rf rf fun _ F=>xM F rf rf rf fun _ F=>kdo rfl rfl rfl vV (F.u rf) (F.u rf) (by constructor<;>omega) M hM (Fp (hRv.yes (r:=qb) (by rw[fN _ _ (by omega)];exact yC))) fun wa8 _ Ss hM M=>?_
    have HS:=gB _ _ _ _ HS Ss;have hRv:=hRv.cut (m:=k);refine auV<|rS _ _ ?_;refine auU fun K16 Fy=>ah<|xA (v:=.bool true) F rf rf rf fun _ F=>auV<|Fy _ _ ?_
    refine wp_ret<|bL _ _ _ _ F rfl ?_;rw[show(aL qa qb).getD qa=qc by rw[Vc];rfl]at hRv hM;exact⟨_,rfl,⟨true,_,_,rfl,(hM.kept (M.below.block _ hM.lt)),hRv,(hfo.set fun r e=>by cases e;exact O0 (hfo _ _ ha) (hfo _ _ yC) Vc).set (fun r e=>by cases e),.inr ⟨rfl,k,qa,qb,qc,hk.1,by omega,ha,yC,Vc,hno,rfl⟩⟩,gB _ _ _ _ HS (iy _ _ _ M.below)⟩
   ·have hjn:aL qa qb=none:=by simpa using rQ
    refine wp_skip<|pN _ _ ?_
    refine ah<|xM F rf rf rf fun _ F=>
     ke (on rfl) (eV rfl (F.u rf) rfl) rfl F rfl (congrArg (Value.int .i64) (wrap_i64 (by omega))) fun _ F=>
     xA F rf rf rf fun _ F=>
     auV<|?_
    exact⟨k+1,⟨F.sub ⟨rfl,rfl,rfl,rfl,trivial⟩,(M.only (.cons _ (.cons _ .slnil)) .slnil),by omega,OV (f:=f) (k:=k) hno (fun y hy=>by rw[yC]at hy;obtain rfl:=au2 hy;exact hjn)⟩,by show n-(k+1)<n-k;omega⟩
 ·have hd9:=of_decide_eq_false hc1;refine wp_exit<|h_ _ _ ?_;refine auU fun K17 Vw=>ah<|xA (v:=.bool false) F rf rf rf fun _ F=>auV<|Vw _ _ ?_
  refine wp_ret<|bL _ _ _ _ F rfl ?_
  exact⟨_,rfl,⟨false,_,f,rfl,(hM.kept (M.below.block _ hM.lt)),hRv,hfo,.inl ⟨rfl,rfl,fun a' ha' k' y h1 h2 h3=>by
   rw[ha]at ha';obtain rfl:=au2 ha';exact hno k' y h1 (by omega) h3⟩⟩,gB _ _ _ _ HS (iy _ _ _ M.below)⟩
theorem JR(w0:World)(mb n:Nat)(hn:n≤1000)(L:List (Int×Value))(hM:aX w0 Tryz.prog 3 mb (L.map ival))(f:Nat→Option aj)(hRv:Dn f L)(hfo:Sy f)(t0:Nat)(ht0:t0<n)(q0:aj)(ha:f t0=some q0)(hNP:NP aL f n t0 t0):Calls Tryz.prog 85 #[.map (some mb),.int .i64 (t0:Int)] w0 (fun(r:Ending) (w':World)=>∃ v,r=.returned v∧((∃ t L' f',v=.int .i64 ((t:Nat):Int)∧aX w' Tryz.prog 3 mb (L'.map ival)∧Dn f' L'∧Sy f'∧WK f f' n t0 t)∧St [mb] w0 w')):=by
 have HS:=iy [mb] _ _ (Below.refl w0.heap.size w0);have bL:=hr1 Tryz.prog Tryz.f85 (fun(r:Ending) (w':World)=>∃ v,r=.returned v∧((∃ t L' f',v=.int .i64 ((t:Nat):Int)∧aX w' Tryz.prog 3 mb (L'.map ival)∧Dn f' L'∧Sy f'∧WK f f' n t0 t)∧St [mb] w0 w')) 39 4 rfl;refine en Tryz.func85 rfl Tryz.ntmps85 rfl (vs:=[(.map (some mb)),.int .i64 (t0:Int)]) rfl fun _ F=>?_
 have M:=Mm.start w0;refine auU fun K1 gV=>ah<|xA (v:=.int .i64 0) F rf rf rf fun _ F=>auV<|gV _ _ ?_
 refine auU fun K2 h_=>auU fun K3 nh=>ah<|xA (v:=.int .i64 0) F rf rf rf fun _ F=>auV<|nh _ _ ?_
 refine auW<|?_;refine eH (ι:=Nat×Nat×(Nat→Option aj)×List (Int×Value)×World) (fun|(hh,tt,ff,LL,wb),a,w=>Fs a 39 [(0,(.map (some mb))),(1,.int .i64 (tt:Int)),(5,.int .i64 (hh:Int))]∧Mm wb w [] []∧aX wb Tryz.prog 3 mb (LL.map ival)∧Dn ff LL∧Sy ff∧St [mb] w0 wb∧tt<n∧tt≤t0∧hh≤tt∧(ff tt).isSome=true∧NP aL ff n tt tt∧(∀ j x y,j<hh→ff j=some x→ff tt=some y→aL x y=none)∧I5 aL (seg ff 0 n)=I5 aL (seg f 0 n)∧(seg ff 0 n).length≤(seg f 0 n).length) (fun|(hh,tt,ff,LL,wb)=>tt*(n+1)+(tt-hh)) (0,t0,f,L,w0) ⟨F.sub ⟨rfl,rfl,rfl,trivial⟩,M,hM,hRv,hfo,HS,ht0,Nat.le_refl _,auX _,Fp ha,hNP,(fun j _ _ h=>absurd h (Nat.not_lt_zero j)),rfl,Nat.le_refl _⟩ ?_
 (repeat clear F);(repeat clear M)
 rintro⟨hh,tt,ff,LL,wb⟩ _ _ ⟨F,M,hM,hRv,hfo,HS,ht,hle,hh1,hta,hNP,hsc,hnf,hlen⟩;obtain⟨qt,hqt⟩:=Option.isSome_iff_exists.1 hta;refine auU fun K4 n_=>auU fun K5 nZ=>ah<|xM F rf rf rf fun _ F=>xM F rf rf rf fun _ F=>kz F rf (jf rfl (F.u rf) (F.u rf)) fun _ F=>auV<|nZ _ _ ?_
 refine auY (F.e 12 rfl) (fun hc1=>?_) (fun hc1=>?_)
 ·have hd2:=of_decide_eq_true hc1;refine wp_skip<|n_ _ _ ?_;refine auU fun K6 pN=>auW<|auU fun K7 rR=>?_
  cases yC:ff hh with
  | none=>
   have hlk:=hRv.no yC
   refine ah<|xM F rf rf rf fun _ F=>xM F rf rf rf fun _ F=>
    ke (on rfl) (uR (z:=.agg #[.int .i64 0,.int .u64 0,.int .u64 0,.int .u64 0,.int .u64 0,.int .u64 0,.int .u64 0,.int .u64 0,.int .u64 0,.bool false,.int .i64 0,.int .u32 0,.int .i64 0]) vV (by kernel_rfl) (hM.kept (M.below.block _ hM.lt)) rfl (F.u rf) (F.u rf) (by constructor<;>omega)) rfl F rfl (show _=.tuple #[.agg #[.int .i64 0,.int .u64 0,.int .u64 0,.int .u64 0,.int .u64 0,.int .u64 0,.int .u64 0,.int .u64 0,.int .u64 0,.bool false,.int .i64 0,.int .u32 0,.int .i64 0],.bool false] from pX hlk) fun _ F=>
    xM F rf rf rf fun _ F=>
    kz F rf (bX rfl (F.u rf) rfl) fun _ F=>
    kz F rf (bX rfl (F.u rf) rfl) fun _ F=>
    Jh (on rfl) rfl oy rfl F rfl M fun g3 _ _ F M=>
    KG (on rfl) rfl (F.u rf) (F.u rf) F M 0 rfl sM rfl rfl rfl fun _ M=>
    xA F rf rf rf fun _ F=>
    auV<|
    rR _ _ ?_
   refine auU fun K8 wX=>auU fun K9 yD=>ah<|xM F rf rf rf fun _ F=>kz F rf (pq rfl (F.u rf)) fun _ F=>auV<|yD _ _ ?_
   refine wp_cond_true (F.e 22 rfl) ?_;refine wp_exit<|pN _ _ ?_
   refine ah<|xM F rf rf rf fun _ F=>
    ke (on rfl) (eV rfl (F.u rf) rfl) rfl F rfl (congrArg (Value.int .i64) (wrap_i64 (by omega))) fun _ F=>
    xA F rf rf rf fun _ F=>
    auV<|?_
   exact⟨(hh+1,tt,ff,LL,wb),⟨F.sub ⟨rfl,rfl,rfl,trivial⟩,(M.only (.cons _ .slnil) .slnil),hM,hRv,hfo,HS,ht,hle,(by omega),hta,hNP,Ox hsc (fun x y hx _=>by rw[yC]at hx;cases hx),hnf,hlen⟩,by show tt*(n+1)+(tt-(hh+1))<tt*(n+1)+(tt-hh);omega⟩
  | some qa=>
   have hlk:=hRv.yes yC
   refine ah<|xM F rf rf rf fun _ F=>xM F rf rf rf fun _ F=>
    ke (on rfl) (uR (z:=.agg #[.int .i64 0,.int .u64 0,.int .u64 0,.int .u64 0,.int .u64 0,.int .u64 0,.int .u64 0,.int .u64 0,.int .u64 0,.bool false,.int .i64 0,.int .u32 0,.int .i64 0]) vV (by kernel_rfl) (hM.kept (M.below.block _ hM.lt)) rfl (F.u rf) (F.u rf) (by constructor<;>omega)) rfl F rfl (show _=.tuple #[.agg #[.int .i64 qa.kind,.int .u64 qa.src.a,.int .u64 qa.src.b,.int .u64 qa.src.c,.int .u64 qa.src.d,.int .u64 qa.tgt.a,.int .u64 qa.tgt.b,.int .u64 qa.tgt.c,.int .u64 qa.tgt.d,.bool qa.self,.int .i64 qa.cls,.int .u32 qa.perms,.int .i64 qa.cond],.bool true] from pW hlk) fun _ F=>
    xM F rf rf rf fun _ F=>
    kz F rf (bX rfl (F.u rf) rfl) fun _ F=>
    kz F rf (bX rfl (F.u rf) rfl) fun _ F=>
    Jh (on rfl) rfl oy rfl F rfl M fun g4 _ _ F M=>
    KG (on rfl) rfl (F.u rf) (F.u rf) F M 0 rfl sM rfl rfl rfl fun _ M=>
    xA F rf rf rf fun _ F=>
    auV<|
    rR _ _ ?_
   refine auU fun WG lS=>auU fun Z7 qE=>ah<|xM F rf rf rf fun _ F=>kz F rf (pq rfl (F.u rf)) fun _ F=>auV<|qE _ _ ?_
   refine au0 (F.e 22 rfl) ?_;refine wp_skip<|lS _ _ ?_
   refine auU fun Z6 pI=>ah<|xW F (M.b 0 rfl) rf rf rf Xf rf sM rf fun _ F=>xM F rf rf rf fun _ F=>xM F rf rf rf fun _ F=>
    ke (on rfl) (qM (z:=.agg #[.int .i64 0,.int .u64 0,.int .u64 0,.int .u64 0,.int .u64 0,.int .u64 0,.int .u64 0,.int .u64 0,.int .u64 0,.bool false,.int .i64 0,.int .u32 0,.int .i64 0]) vV (by kernel_rfl) (hM.kept (M.below.block _ hM.lt)) rfl (F.u rf) (F.u rf) (by constructor<;>omega)) rfl F rfl (show _=.agg #[.int .i64 qt.kind,.int .u64 qt.src.a,.int .u64 qt.src.b,.int .u64 qt.src.c,.int .u64 qt.src.d,.int .u64 qt.tgt.a,.int .u64 qt.tgt.b,.int .u64 qt.tgt.c,.int .u64 qt.tgt.d,.bool qt.self,.int .i64 qt.cls,.int .u32 qt.perms,.int .i64 qt.cond] from JE (hRv.yes hqt)) fun _ F=>
    xC F M rf rf adF (args2 (F.u rf) (F.u rf)) (Ji _ qa qt (hfo _ _ yC) (hfo _ _ hqt)) fun _ _ F M=>
    xM F rf rf rf fun _ F=>
    kz F rf (bX rfl (F.u rf) rfl) fun _ F=>
    kz F rf (bX rfl (F.u rf) rfl) fun _ F=>
    Jh (on rfl) rfl oy rfl F rfl M fun g5 _ _ F M=>
    KG (on rfl) rfl (F.u rf) (F.u rf) F M 0 rfl sM rfl rfl rfl fun _ M=>
    xA F rf rf rf fun _ F=>
    auV<|
    pI _ _ ?_
   refine auU fun Z5 pH=>ah<|xM F rf rf rf fun _ F=>auV<|pH _ _ ?_
   refine auY (F.e 31 rfl) (fun rQ=>?_) (fun rQ=>?_)
   ·obtain⟨qc,Vc⟩:=Option.isSome_iff_exists.1 rQ;refine auU fun K14 tC=>ah<|xM F rf rf rf fun _ F=>xM F rf rf rf fun _ F=>xW F (M.b 0 rfl) rf rf rf Xf rf sM rf fun _ F=>kpo rfl rfl rfl vV (F.u rf) (F.u rf) (F.u rf) (by constructor<;>omega) M hM fun wa7 _ Ss hM M=>?_
    have HS:=gB _ _ _ _ HS Ss;have hRv:=hRv.put (m:=hh) (r:=((aL qa qt).getD qa));refine auV<|tC _ _ ?_;refine auU fun K15 rS=>ah<|xM F rf rf rf fun _ F=>xM F rf rf rf fun _ F=>kdo rfl rfl rfl vV (F.u rf) (F.u rf) (by constructor<;>omega) M hM (Fp (hRv.yes (r:=qt) (by rw[fN _ _ (by omega)];exact hqt))) fun wa8 _ Ss hM M=>?_
    have HS:=gB _ _ _ _ HS Ss;have hRv:=hRv.cut (m:=tt);refine auV<|rS _ _ ?_;refine ah<|xM F rf rf rf fun _ F=>xA F rf rf rf fun _ F=>xA (v:=.int .i64 (-1)) F rf rf rf fun _ F=>auV<|pN _ _ ?_
    refine ah<|xM F rf rf rf fun _ F=>
     ke (on rfl) (eV rfl (F.u rf) rfl) rfl F rfl (congrArg (Value.int .i64) (wrap_i64 (by omega))) fun _ F=>
     xA F rf rf rf fun _ F=>
     auV<|?_
    rw[show((aL qa qt).getD qa)=qc by rw[Vc];rfl]at hRv hM;obtain⟨hE1,hE2,hE3⟩:=Nt (n:=n) (by omega) ht yC hqt Vc hNP hsc;have hE4:=au3 (n+1) (show hh+1≤tt by omega);rw[Nat.add_mul,Nat.one_mul]at hE4;exact⟨(0,hh,kg (kg ff hh (some qc)) tt none,_,wa8),⟨F.sub ⟨rfl,rfl,rfl,trivial⟩,(M.only (.cons _ (.cons _ .slnil)) .slnil),hM,hRv,((hfo.set fun r e=>by cases e;exact O0 (hfo _ _ yC) (hfo _ _ hqt) Vc).set fun r e=>by cases e),HS,by omega,by omega,auX _,(by rw[fN _ _ (by omega),q6];rfl),hE1,(fun j _ _ h=>absurd h (Nat.not_lt_zero j)),hE2.trans hnf,auP hE3 hlen⟩,by show hh*(n+1)+(hh-0)<tt*(n+1)+(tt-hh);omega⟩
   ·have hjn:aL qa qt=none:=by simpa using rQ
    refine wp_skip<|pN _ _ ?_
    refine ah<|xM F rf rf rf fun _ F=>
     ke (on rfl) (eV rfl (F.u rf) rfl) rfl F rfl (congrArg (Value.int .i64) (wrap_i64 (by omega))) fun _ F=>
     xA F rf rf rf fun _ F=>
     auV<|?_
    exact⟨(hh+1,tt,ff,LL,wb),⟨F.sub ⟨rfl,rfl,rfl,trivial⟩,(M.only (.cons _ (.cons _ .slnil)) .slnil),hM,hRv,hfo,HS,ht,hle,(by omega),hta,hNP,Ox hsc (fun x y hx hy=>by rw[yC]at hx;rw[hqt]at hy;obtain rfl:=au2 hx;obtain rfl:=au2 hy;exact hjn),hnf,hlen⟩,by show tt*(n+1)+(tt-(hh+1))<tt*(n+1)+(tt-hh);omega⟩
 ·have hd9:=of_decide_eq_false hc1;refine wp_exit<|h_ _ _ ?_;refine auU fun K16 Fy=>ah<|xM F rf rf rf fun _ F=>xA F rf rf rf fun _ F=>auV<|Fy _ _ ?_
  refine wp_ret<|bL _ _ _ _ F rfl ?_;exact⟨_,rfl,⟨tt,_,ff,rfl,(hM.kept (M.below.block _ hM.lt)),hRv,hfo,⟨hle,hta,aaT (by omega) hNP hsc,hnf,hlen⟩⟩,gB _ _ _ _ HS (iy _ _ _ M.below)⟩
def RowsIn(B:Nat)(w:World)(T:List Rw):Prop:=(∀ r∈T,w.ownsRow B r.e r.k r.v r.n r.xs)∧T.Pairwise fun r s=>r.v.ownBlock=none∨r.v.ownBlock≠s.v.ownBlock
theorem RowsIn.keep{B:Nat}{w w':World}{T:List Rw}(h:RowsIn B w T)(hb:auT w.heap.size w w'):RowsIn B w' T:=⟨fun r hr=>gE hb (h.1 r hr) (Nat.le_refl _),h.2⟩
theorem RowsIn.low{B C:Nat}{w:World}{T:List Rw}(h:RowsIn B w T)(hc:C≤B):RowsIn C w T:=⟨fun r hr=>oH (h.1 r hr) hc,h.2⟩
theorem RowsIn.nil(B:Nat)(w:World):RowsIn B w []:=⟨fun _ h=>(by cases h),.nil⟩
theorem aY.dS{B:Nat}{w0 w w':World}{bs:List Bx}{rs T:List Rw}(M:aY B w0 w bs rs)(hb:auT w.heap.size w w')(hT:RowsIn w.heap.size w' T):aY B w0 w' bs (rs++T):=by
 have M':=M.keep hb;refine⟨M'.below,M'.le,M'.old,M'.box,M.lo,M.nd,fun r hr=>?_,fun r hr b hb'=>?_,List.pairwise_append.2 ⟨M.wv,hT.2,fun r hr s hs=>?_⟩⟩
 ·rcases auI.1 hr with hr|hr
  ·exact M'.row r hr
  ·exact oH (hT.1 r hr) M.big
 ·rcases auI.1 hr with hr|hr
  ·exact M.far r hr b hb'
  ·intro e;have:=((hT.1 r hr).lt _ e).1;have:=(M.box b hb').lt;omega
 ·cases e:r.v.ownBlock with
  | none=>exact .inl rfl
  | some q=>
   refine .inr fun e2=>?_
   have h1:=((M.row r hr).lt q e).2;have h2:=((hT.1 s hs).lt q e2.symm).1;omega
theorem aY.dV{B:Nat}{w0 w:World}{bs:List Bx}{rs:List Rw}(M:aY B w0 w bs rs):RowsIn B w rs:=⟨M.row,M.wv⟩
theorem aY.form{B:Nat}{w0 w:World}{bs:List Bx}{rs:List Rw}(M:aY B w0 w bs rs)(i:Nat){v:Value}{e:TypeId}{k n:Nat}{xs:List Value}(h:rs[i]?=some ⟨v,e,k,n,xs⟩):∃ a c,v=.slice a n c:=by
 obtain⟨a,c,h,-⟩:=gF (M.r i h);exact⟨a,c,h⟩
inductive bV (T:List Rw):List Value→aq→Prop
 | node {op a rel b:Int} {names:List ByteArray} {set:ay} {kids:List aq} {nv kv:Value} {es:List (List Value)}:nv.oneCell'=true→kv.oneCell'=true→(⟨nv,9,1,names.length,names.flatMap aW⟩:Rw)∈T→(⟨kv,89,10,kids.length,es.flatten⟩:Rw)∈T→es.length=kids.length→(∀ x∈es,x.length=10) →
  (∀ (i:Nat) x y,es[i]?=some x→kids[i]?=some y→bV T x y) →
  bV T [.int .i64 op,.int .i64 a,.int .i64 rel,.int .i64 b,nv,.int .u64 set.a,.int .u64 set.b,.int .u64 set.c,.int .u64 set.d,kv] (.node op a rel b names set kids)
theorem bV.mono{T T':List Rw}(hs:∀ r∈T,r∈T'){cs:List Value}{e:aq}(h:bV T cs e):bV T' cs e:=by
 induction h with
 | node h1 h2 h3 h4 h5 h6 _ ih=>exact .node h1 h2 (hs _ h3) (hs _ h4) h5 h6 ih
theorem bV.one{T:List Rw}{cs:List Value}{e:aq}(h:bV T cs e):∀ u∈cs,u.oneCell'=true:=by
 cases h with
 | node h1 h2=>
  intro u hu;simp only[au4,List.not_mem_nil,or_false]at hu;rcases hu with rfl|rfl|rfl|rfl|rfl|rfl|rfl|rfl|rfl|rfl<;>first|rfl|assumption
theorem ET(l:List ByteArray):∀ u∈l.flatMap aW,u.oneCell'=true:=fun u hu=>by
 obtain⟨s,-,hs⟩:=List.mem_flatMap.1 hu;simp only[aW,auJ]at hs;subst hs;rfl
theorem bV.at_{T:List Rw}{B:Nat}{w:World}(hT:RowsIn B w T){cs:List Value}{e:aq}(h:bV T cs e):bf w cs e:=by
 induction h with
 | @node op a rel b names set kids nv kv es h1 h2 h3 h4 h5 h6 hk ih=>
  refine .node (SliceAt.bF (hT.1 _ h3) (ET _)) h5 h6 (SliceAt.bF (hT.1 _ h4) ?_) ih;intro u hu;obtain⟨x,hx,hux⟩:=List.mem_flatten.1 hu;obtain⟨i,hi⟩:=List.getElem?_of_mem hx;obtain⟨y,hy⟩:∃ y,kids[i]?=some y:=⟨_,auZ (by have:=(auK.1 hi).1;rw[h5]at this;exact this)⟩;exact(hk i x y hi hy).one u hux
inductive mw:aq→Prop
 | node {op a rel b:Int} {names:List ByteArray} {set:ay} {kids:List aq}:names.length≤1000000→kids.length≤1000000→(∀ k∈kids,mw k)→mw (.node op a rel b names set kids)
theorem mw.parts{e:aq}(h:mw e):e.names.length≤1000000∧e.kids.length≤1000000∧∀ k∈e.kids,mw k:=by
 cases h with
 | node h1 h2 h3=>exact⟨h1,h2,h3⟩
def vu(wb:World)(y:aq):Good:=fun v u=>∃ na nc ka kc T,v=.agg #[.int .i64 y.op,.int .i64 y.a,.int .i64 y.rel,.int .i64 y.b,.slice na y.names.length nc,.int .u64 y.set.a,.int .u64 y.set.b,.int .u64 y.set.c,.int .u64 y.set.d,.slice ka y.kids.length kc]∧bV T [.int .i64 y.op,.int .i64 y.a,.int .i64 y.rel,.int .i64 y.b,.slice na y.names.length nc,.int .u64 y.set.a,.int .u64 y.set.b,.int .u64 y.set.c,.int .u64 y.set.d,.slice ka y.kids.length kc] y∧RowsIn wb.heap.size u T
theorem MH(wb:World)(y:aq):eN (vu wb y):=fun _ _ _ ⟨na,nc,ka,kc,T,e,h,k⟩ hb=>⟨na,nc,ka,kc,T,e,h,k.keep hb⟩
def SlE(wb:World)(y:aq):Good:=fun v u=>∃ g na nc ka kc T,v=.slice (some ⟨g,0,none⟩) 1 1∧Whole u g 89 #[.int .i64 y.op,.int .i64 y.a,.int .i64 y.rel,.int .i64 y.b,.slice na y.names.length nc,.int .u64 y.set.a,.int .u64 y.set.b,.int .u64 y.set.c,.int .u64 y.set.d,.slice ka y.kids.length kc]∧bV T [.int .i64 y.op,.int .i64 y.a,.int .i64 y.rel,.int .i64 y.b,.slice na y.names.length nc,.int .u64 y.set.a,.int .u64 y.set.b,.int .u64 y.set.c,.int .u64 y.set.d,.slice ka y.kids.length kc] y∧RowsIn wb.heap.size u T
theorem QN(wb:World)(y:aq):eN (SlE wb y):=fun _ _ _ ⟨g,na,nc,ka,kc,T,e,hw,h,k⟩ hb=>⟨g,na,nc,ka,kc,T,e,Whole.under hb hw hw.lt,h,k.keep hb⟩
theorem yg{w:World}{g:Nat}{t:TypeId}{cs:List Value}{k:Nat}(h:Whole w g t cs.toArray)(hl:cs.length=k)(h1:∀ u∈cs,u.oneCell'=true):SliceAt w (.slice (some ⟨g,0,none⟩) 1 1) k 1 cs:=
 ⟨by simpa using hl,by decide,h1,.inr ⟨_,1,rfl,Nat.le_refl _,fun j u hu=>by rw[Addr.add_lit,Nat.zero_add,h.cell];simpa using hu⟩⟩
theorem VG(e:aq):aq.node e.op e.a e.rel e.b e.names e.set e.kids=e:=by cases e;rfl
theorem QU{T T9:List Rw}{es:List (List Value)}{kids:List aq}{m:Nat}{x:List Value}{y:aq}(hl:es.length=m)(h:∀ (i:Nat) x y,es[i]?=some x→kids[i]?=some y→bV T x y)(hy:kids[m]?=some y)(hx:bV T9 x y):
 ∀ (i:Nat) x' y',(es++[x])[i]?=some x'→kids[i]?=some y'→bV (T++T9) x' y':=fun i x' y' h1 h2=>by
 by_cases hi:i<m
 ·rw[au5 (by omega)]at h1;exact(h i x' y' h1 h2).mono fun r hr=>auI.2 (.inl hr)
 ·have hlt:=(auK.1 h1).1;rw[auQ,List.length_singleton,hl]at hlt;obtain rfl:i=m:=by omega
  rw[au6 (by omega),hl,Nat.sub_self]at h1;obtain rfl:x=x':=by simpa using h1
  obtain rfl:=au2 (hy.symm.trans h2);exact hx.mono fun r hr=>auI.2 (.inr hr)
theorem i_{es:List (List Value)}{x:List Value}{k:Nat}(h:∀ z∈es,z.length=k)(hx:x.length=k):∀ z∈es++[x],z.length=k:=fun z hz=>by
 rcases auI.1 hz with hz|hz
 ·exact h z hz
 ·rw[auJ.1 hz];exact hx
theorem fP{es:List (List Value)}{x:List Value}:es.flatten++x=(es++[x]).flatten:=by rw[List.flatten_append];simp
theorem Rt{P:Program}{f:FuncId}{args:Array Value}{w wb:World}{y:aq}(h:Calls P f args w fun r w'=>∃ v,r=.returned v∧(vu w y v w'∧auT w.heap.size w w'))(hi:auT wb.heap.size wb w):Calls P f args w fun r w'=>∃ v,r=.returned v∧(vu wb y v w'∧auT w.heap.size w w'):=
 h.mono fun _ _ ⟨v,e,⟨na,nc,ka,kc,T,h1,h2,h3⟩,hb⟩=>⟨v,e,⟨na,nc,ka,kc,T,h1,h2,h3.low hi.size⟩,hb⟩
theorem Hg{B:Nat}{w0 w:World}{bs:List Bx}{rs:List Rw}{X:Prop}{f:FuncId}{args:Array Value}{e kk n:Nat}{xs:List Value}{K:Value→List Bx→List Rw→World→Prop}(M:aY B w0 w bs rs)
 (hc:Calls Tryz.prog f args w fun r w'=>∃ u,r=.returned u∧(w'.ownsRow w.heap.size e kk u n xs∧auT w.heap.size w w')) (h:∀ a c w',aY B w0 w' bs (⟨.slice a n c,e,kk,n,xs⟩::rs)→K (.slice a n c) bs (⟨.slice a n c,e,kk,n,xs⟩::rs) w') :
 X∨∃ R:Value→World→Prop,(Calls Tryz.prog f args w fun e w'=>∃ v,e=.returned v∧R v w')∧∀ v w',R v w'→∃ bs' rs',aY B w0 w' bs' rs'∧K v bs' rs' w':=
 .inr ⟨_,hc,fun v w' ⟨h1,h2⟩=>by
  obtain⟨a,c,rfl,-,-⟩:=gF h1;have M':=M.BG (r:=⟨.slice a n c,e,kk,n,xs⟩) h2 h1;exact⟨_,_,M',h a c w' M'⟩⟩
theorem Xu{α:Type}{l:List α}{i:Nat}{b:α}{f:List α→Prop}(hi:i<l.length)(h:f (l.set i b)):AF l i b f:=by
 induction l generalizing i f with
 | nil=>exact absurd hi (Nat.not_lt_zero _)
 | cons x r ih=>cases i with
  | zero=>exact h
  | succ i=>exact ih (f:=fun r'=>f (x::r')) (by simpa using hi) h
theorem KJ{B:Nat}{w0 w:World}{bs RO:List Bx}{rs Qo:List Rw}{u v:Value}{e kk Pt nn mm:Nat}{xs news:List Value}{k:Value→List Bx→List Rw→World→Prop}(i:Nat)(hM:aY B w0 w bs rs→aY B w0 w RO Qo)(hr:Qo[i]?=some ⟨v,e,kk,nn,xs⟩)(hs:SliceAt w u kk mm news)
 (hb:nn+mm≤maxLen∧(nn+mm)*Pt≤140737488355328) (h:∀ a c w',AF Qo i ⟨.slice a (nn+mm) c,e,kk,nn+mm,xs++news⟩ fun rs'=>aY B w0 w' RO rs'→k (.slice a (nn+mm) c) RO rs' w') (hW:Nat.beq e 52=false∨w0.heap.size≤B:=by first|exact .inl rfl|exact .inr (Nat.le_refl _)):apO B w0 bs rs w u v e kk Pt k:=
 ap i hM hr hs hb (fun v' w'=>Xu (auK.1 hr).1 fun M=>by
  obtain⟨a,c,rfl⟩:=M.form i (v:=v') (e:=e) (k:=kk) (n:=nn+mm) (xs:=xs++news) (by rw[List.getElem?_set_self (auK.1 hr).1]);exact zB (h a c w') M) hW
theorem q_{α:Type}{R:List Rw→List Value→α→Prop}(hm:∀ T T' x y,(∀ r∈T,r∈T')→R T x y→R T' x y){T T':List Rw}{es:List (List Value)}{l:List α}{m:Nat}{x:List Value}{y:α}(hl:es.length=m)(h:∀ (i:Nat) x y,es[i]?=some x→l[i]?=some y→R T x y)(hy:l[m]?=some y)(hs:∀ r∈T,r∈T')(hx:R T' x y):
 ∀ (i:Nat) x' y',(es++[x])[i]?=some x'→l[i]?=some y'→R T' x' y':=fun i x' y' h1 h2=>by
 by_cases hi:i<m
 ·rw[au5 (by omega)]at h1;exact hm _ _ _ _ hs (h i x' y' h1 h2)
 ·have hlt:=(auK.1 h1).1;rw[auQ,List.length_singleton,hl]at hlt;obtain rfl:i=m:=by omega
  rw[au6 (by omega),hl,Nat.sub_self]at h1;obtain rfl:x=x':=by simpa using h1
  obtain rfl:=au2 (hy.symm.trans h2);exact hx
theorem dX{α:Type}{f:α→List Value}{l:List α}(h:∀ x,(f x).all (·.oneCell')=true):∀ u∈l.flatMap f,u.oneCell'=true:=fun u hu=>by
 obtain⟨x,-,hx⟩:=List.mem_flatMap.1 hu;exact List.all_eq_true.1 (h x) u hx
theorem Mj:∀ (e:aq) (w0:World) (cs:List Value),bf w0 cs e→mw e→Calls Tryz.prog 156 #[.agg cs.toArray] w0 (fun(r:Ending) (w':World)=>∃ v,r=.returned v∧(vu w0 e v w'∧auT w0.heap.size w0 w')):=by
 refine aq.ind fun e ih=>?_
 intro w0 cs hE iT;obtain⟨nv,kv,rfl,C9,hkv⟩:=hE.open;obtain⟨_,_,rfl,-⟩:=aF.get C9;obtain⟨_,_,rfl,-,hkm,-⟩:=au.form hkv (by decide);have hkl:=iT.parts;refine cL [] (fn:=Tryz.f156) Tryz.func156 rfl Tryz.ntmps156 rfl<|fun g1 w1 M1=>ei<|an rM fun g2 w2 M2=>lb 1<|an rfl<|lb 1<|an rfl<|Hg M2 ((ji _ _ _ _ (C9.keep M2.below) (by omega)).mono fun _ _ ⟨v',e,h1,_,h3⟩=>⟨v',e,h1,h3⟩) fun na nc w3 M3=>lb 1<|an ⟨rfl,rfl⟩ fun w4 M4=>lb 1<|an ⟨rfl,rfl⟩ fun w5 M5=>?_
 refine lp (ι:=Nat×Value×List (List Value)×List Rw) (fun(m,u,es,T)=>[(15,.int .i64 (m:Int))]) (fun(m,u,es,T)=>[_,(g1,89,#[.int .i64 e.op,.int .i64 e.a,.int .i64 e.rel,.int .i64 e.b,.slice na e.names.length nc,.int .u64 e.set.a,.int .u64 e.set.b,.int .u64 e.set.c,.int .u64 e.set.d,u])]) (fun(m,u,es,T)=>⟨u,89,10,m,es.flatten⟩::_::T) (fun(m,u,es,T) _=>m≤e.kids.length∧es.length=m∧(∀ x∈es,x.length=10)∧∀ (i:Nat) x y,es[i]?=some x→e.kids[i]?=some y→bV T x y) (fun(m,u,es,T)=>e.kids.length-m) (0,.slice none 0 0,[],[]) (an ⟨⟨rfl,trivial⟩,fun M=>⟨M.bC 89 10,auX _,rfl,(fun _ h=>by cases h),fun i x y h=>by simp at h⟩⟩ ?_);rintro⟨m,u,es,T⟩ w M ⟨hm,hl,he,hR⟩;refine an (fun h=>?_) fun h=>?_
 ·have hlt:m<e.kids.length:=by simp at h;omega
  obtain⟨y,hy⟩:∃ y,e.kids[m]?=some y:=⟨_,auZ hlt⟩;have qz:=auL hy;obtain⟨b,o,_,e1,qF,hc⟩:=au.elt hkv (by decide) hy;obtain⟨_,_,rfl,hn',hk'⟩:=qF.open;obtain⟨_,_,rfl,-⟩:=aF.get hn';obtain⟨_,_,rfl,-⟩:=au.form hk' (by decide);refine ia<|an ⟨e1,rfl,hlt⟩<|lc<|an (cF M.below hc)<|ei<|an rM fun g3 w7 M7=>lb 0<|an ⟨rfl,rfl⟩ fun w8 M8=>sp [0,1,2,6] (.step 3 (.step 4 (.step 5 (.last 7)))) [0,2] (by kernel_rfl)<|lb 0<|an rfl<|lb 1<|an rfl<|fun w9 Zv M9=>cg<|an (ih y qz _ _ (qF.keep M9.below) (iT.parts.2.2 y qz)) fun v tS ⟨⟨xa,xc,ka,kc,T9,hv,D9,Fx⟩,zh⟩=>⟨_,_,M9.dS zh Fx,?_⟩
  subst hv;exact an rfl<|fun g7 Dw M11=>an rfl<|KJ 0 id rfl (M11.slice 0 rfl (k:=10) (n:=1) rfl rfl (by simp[maxLen])) ⟨by unfold maxLen;omega,by omega⟩ fun va vc He Dr=>an rfl<|lb 3<|an ⟨rfl,rfl⟩ fun KE vI=>an (by omega)<|bk (m+1,.slice va (m+1) vc,es++[[.int .i64 y.op,.int .i64 y.a,.int .i64 y.rel,.int .i64 y.b,.slice xa y.names.length xc,.int .u64 y.set.a,.int .u64 y.set.b,.int .u64 y.set.c,.int .u64 y.set.d,.slice ka y.kids.length kc]],T++T9) ⟨rfl,trivial⟩ (fun M=>⟨(M.only (.cons _ (.cons _ (.refl _))) (.refl _)).cast rfl (by dsimp only;rw[← fP];rfl),by omega,by rw[auQ,hl];rfl,i_ he rfl,QU hl hR hy D9⟩) (by dsimp only;omega)
 obtain rfl:m=e.kids.length:=by simp at h;omega
 obtain⟨x1,y1,rfl⟩:=M.form 0 rfl
 exact lb 1<|an rfl<|lb 0<|an ⟨rfl,rfl⟩ fun w M=>ei (x:=0)<|an rfl fun M=>⟨_,rfl,⟨_,_,_,_,_,rfl,(by
  have h:=bV.node (T:=_) (op:=e.op) (a:=e.a) (rel:=e.rel) (b:=e.b) (names:=e.names) (set:=e.set) (kids:=e.kids) (es:=es) (nv:=.slice na e.names.length nc) (kv:=.slice x1 e.kids.length y1) rfl rfl (au7 _ (au8 ..)) (au8 ..) hl he (fun i x y h1 h2=>(hR i x y h1 h2).mono fun r hr=>au7 _ (au7 _ hr))
  rwa [VG]at h),M.dV⟩,M.below⟩
def vw(T:List Rw)(x:List Value)(y:mD):Prop:=∃ a c,x=[.string y.name,.slice a y.perms.length c]∧(⟨.slice a y.perms.length c,9,1,y.perms.length,y.perms.flatMap aW⟩:Rw)∈T
def vm(T:List Rw)(x:List Value)(y:mH):Prop:=∃ a c,x=[.string y.name,.slice a y.oT.length c,.bool y.perm]∧(⟨.slice a y.oT.length c,9,1,y.oT.length,y.oT.flatMap aW⟩:Rw)∈T
def vv(T:List Rw)(x:List Value)(y:oZ):Prop:=∃ es,x=[.int .i64 y.cls,.int .u32 y.perms,.bool y.val]++es∧bV T es y.expr
theorem vw.mono{T T':List Rw}(hs:∀ r∈T,r∈T'){x:List Value}{y:mD}(h:vw T x y):vw T' x y:=by
 obtain⟨a,c,e,h⟩:=h;exact⟨a,c,e,hs _ h⟩
theorem vm.mono{T T':List Rw}(hs:∀ r∈T,r∈T'){x:List Value}{y:mH}(h:vm T x y):vm T' x y:=by
 obtain⟨a,c,e,h⟩:=h;exact⟨a,c,e,hs _ h⟩
theorem vv.mono{T T':List Rw}(hs:∀ r∈T,r∈T'){x:List Value}{y:oZ}(h:vv T x y):vv T' x y:=by
 obtain⟨es,e,h⟩:=h;exact⟨es,e,h.mono hs⟩
theorem vw.at_{T:List Rw}{B:Nat}{w:World}(hT:RowsIn B w T){x:List Value}{y:mD}(h:vw T x y):qZ w x y:=by
 obtain⟨a,c,e,h⟩:=h;exact⟨_,e,SliceAt.bF (hT.1 _ h) (ET _)⟩
theorem vm.at_{T:List Rw}{B:Nat}{w:World}(hT:RowsIn B w T){x:List Value}{y:mH}(h:vm T x y):qU w x y:=by
 obtain⟨a,c,e,h⟩:=h;exact⟨_,e,SliceAt.bF (hT.1 _ h) (ET _)⟩
theorem vv.at_{T:List Rw}{B:Nat}{w:World}(hT:RowsIn B w T){x:List Value}{y:oZ}(h:vv T x y):qY w x y:=by
 obtain⟨es,e,h⟩:=h;exact⟨es,e,h.at_ hT⟩
theorem vw.one{T:List Rw}{x:List Value}{y:mD}(h:vw T x y):∀ u∈x,u.oneCell'=true:=by
 obtain⟨a,c,rfl,-⟩:=h;intro u hu;simp only[au4,List.not_mem_nil,or_false]at hu;rcases hu with rfl|rfl<;>rfl
theorem vm.one{T:List Rw}{x:List Value}{y:mH}(h:vm T x y):∀ u∈x,u.oneCell'=true:=by
 obtain⟨a,c,rfl,-⟩:=h;intro u hu;simp only[au4,List.not_mem_nil,or_false]at hu;rcases hu with rfl|rfl|rfl<;>rfl
theorem vv.one{T:List Rw}{x:List Value}{y:oZ}(h:vv T x y):∀ u∈x,u.oneCell'=true:=by
 obtain⟨es,rfl,h⟩:=h;intro u hu;rcases auI.1 hu with hu|hu
 ·simp only[au4,List.not_mem_nil,or_false]at hu;rcases hu with rfl|rfl|rfl<;>rfl
 ·exact h.one u hu
theorem q8{α:Type}{k:Nat}{R:List Value→α→Prop}{w:World}{B e n:Nat}{v:Value}{es:List (List Value)}{l:List α}(ho:w.ownsRow B e k v n es.flatten)(hn:n=l.length)(hl:es.length=n)(hk:∀ x∈es,x.length=k)(h1:∀ (i:Nat) x y,es[i]?=some x→l[i]?=some y→R x y)(hone:∀ x y,R x y→∀ u∈x,u.oneCell'=true):au k R w v l:=by
 subst hn;refine⟨es,hl,hk,SliceAt.bF ho fun u hu=>?_,h1⟩;obtain⟨x,hx,hux⟩:=List.mem_flatten.1 hu;obtain⟨i,hi⟩:=List.getElem?_of_mem hx;obtain⟨y,hy⟩:∃ y,l[i]?=some y:=⟨_,auZ (by have:=(auK.1 hi).1;rw[hl]at this;exact this)⟩;exact hone x y (h1 i x y hi hy) u hux
theorem nN{α:Type}{k:Nat}{R R':List Value→α→Prop}{w:World}{v:Value}{l:List α}(h:au k R w v l)(hr:∀ x y,R x y→R' x y):au k R' w v l:=by
 obtain⟨es,h1,h2,h3,h4⟩:=h;exact⟨es,h1,h2,h3,fun i x y hx hy=>hr x y (h4 i x y hx hy)⟩
structure pF (p:aC):Prop where
 classes:p.classes.length≤1000000
 perms:∀ x∈p.classes,x.perms.length≤1000000
 types:p.types.length≤1000000
 oT:∀ x∈p.types,x.oT.length≤1000000
 attrs:p.attrs.length≤1000000
 roles:p.roles.length≤1000000
 users:p.users.length≤1000000
 bools:p.bools.length≤1000000
 aZ:p.aZ.length≤1000000
 cats:p.cats.length≤1000000
 conds:p.conds.length≤1000000
 Pp:∀ x∈p.conds,mw x
 rules:p.rules.length≤1000000
 trans:p.trans.length≤1000000
 aN:p.aN.length≤1000000
 ranges:p.ranges.length≤1000000
 cons:p.cons.length≤1000000
 ai2:∀ x∈p.cons,mw x.expr
 bO:p.bO.length≤1000000
 files:p.files.length≤1000000
 asserts:p.asserts.length≤1000000
def Dq(wb:World)(p:aC):Good:=fun v u=>∃ x0 n0 x1 n1 x2 n2 x3 n3 x4 n4 x5 n5 x6 n6 x7 n7 x8 n8 x9 n9 x10 n10 pK n11 pJ n12 Ll n13 Lk n14 Lj n15 Li n16 T,v=.agg #[.slice x0 p.classes.length n0,.slice x1 p.types.length n1,.slice x2 p.attrs.length n2,.slice x3 p.roles.length n3,.slice x4 p.users.length n4,.slice x5 p.bools.length n5,.slice x6 p.aZ.length n6,.slice x7 p.cats.length n7,.slice x8 p.conds.length n8,.slice x9 p.rules.length n9,.slice x10 p.trans.length n10,.slice pK p.aN.length n11,.slice pJ p.ranges.length n12,.slice Ll p.cons.length n13,.slice Lk p.bO.length n14,.slice Lj p.files.length n15,.slice Li p.asserts.length n16]∧RowsIn wb.heap.size u T∧∀ B u',RowsIn B u' T→aM u' (.slice x0 p.classes.length n0) (.slice x1 p.types.length n1) (.slice x2 p.attrs.length n2) (.slice x3 p.roles.length n3) (.slice x4 p.users.length n4) (.slice x5 p.bools.length n5) (.slice x6 p.aZ.length n6) (.slice x7 p.cats.length n7) (.slice x8 p.conds.length n8) (.slice x9 p.rules.length n9) (.slice x10 p.trans.length n10) (.slice pK p.aN.length n11) (.slice pJ p.ranges.length n12) (.slice Ll p.cons.length n13) (.slice Lk p.bO.length n14) (.slice Lj p.files.length n15) (.slice Li p.asserts.length n16) p
theorem xw(w0:World)(c0 c1 c2 c3 c4 c5 c6 c7 c8 c9 aV aP aO aU aT aS aR:Value)(p:aC)(hp:aM w0 c0 c1 c2 c3 c4 c5 c6 c7 c8 c9 aV aP aO aU aT aS aR p)(iT:pF p):Calls Tryz.prog 81 #[.agg #[c0,c1,c2,c3,c4,c5,c6,c7,c8,c9,aV,aP,aO,aU,aT,aS,aR]] w0 (fun(r:Ending) (w':World)=>∃ v,r=.returned v∧(Dq w0 p v w'∧auT w0.heap.size w0 w')):=by
 obtain⟨a0,a1,a2,a3,a4,a5,a6,a7,a8,a9,Z1,WC,a12,a13,WB,WA,Wz,k0,k1,k2,k3,k4,k5,k6,k7,k8,k9,k10,k11,k12,k13,k14,k15,k16,rfl,rfl,rfl,rfl,rfl,rfl,rfl,rfl,rfl,rfl,rfl,rfl,rfl,rfl,rfl,rfl,rfl⟩:=hp.open;refine cL [] (fn:=Tryz.f81) Tryz.func81 rfl Tryz.ntmps81 rfl<|fun g1 w1 M1=>ei<|an nu fun g2 w2 M2=>lb 1<|an rfl<|ei<|an nu fun g3 w3 M3=>lb 0<|an ⟨rfl,rfl⟩ fun w4 M4=>lb 0<|an ⟨rfl,rfl⟩ fun w5 M5=>lb 0<|an ⟨rfl,rfl⟩ fun w6 M6=>lb 0<|an ⟨rfl,rfl⟩ fun w7 M7=>lb 0<|an ⟨rfl,rfl⟩ fun w8 M8=>?_
 clear M1 M2 M3 M4 M5 M6 M7 M8;refine lb 2<|an rfl<|lp (ι:=Nat×Value×List (List Value)×List Rw) (fun(m0,u,Pb,T0)=>[(20,.int .i64 (m0:Int))]) (fun(m0,u,Pb,T0)=>(g3,39,#[u,.slice none 0 0,.slice a2 p.attrs.length k2,.slice a3 p.roles.length k3,.slice a4 p.users.length k4,.slice a5 p.bools.length k5,.slice a6 p.aZ.length k6,.slice a7 p.cats.length k7,.slice none 0 0,.slice a9 p.rules.length k9,.slice Z1 p.trans.length k10,.slice WC p.aN.length k11,.slice a12 p.ranges.length k12,.slice none 0 0,.slice WB p.bO.length k14,.slice WA p.files.length k15,.slice Wz p.asserts.length k16])::_) (fun(m0,u,Pb,T0)=>⟨u,180,2,m0,Pb.flatten⟩::([]++T0)) (fun(m0,u,Pb,T0) _=>m0≤p.classes.length∧Pb.length=m0∧(∀ x∈Pb,x.length=2)∧(∀ (i:Nat) x y,Pb[i]?=some x→p.classes[i]?=some y→vw T0 x y)∧∀ r∈([]:List Rw),r∈T0) (fun(m0,u,Pb,T0)=>p.classes.length-m0) (0,.slice none 0 0,[],[]) (an ⟨⟨rfl,trivial⟩,fun M=>⟨M.bC 180 2,auX _,rfl,(fun _ h=>by cases h),(fun i x y h=>by simp at h),fun _ h=>h⟩⟩ ?_);rintro⟨m0,u,Pb,T0⟩ w M ⟨hm0,hl0,he0,hR0,hs0⟩;refine an (fun h=>?_) fun h=>?_
 ·have hlt:m0<p.classes.length:=by simp at h;omega
  have hB:=iT.classes;obtain⟨y,hy⟩:∃ y,p.classes[m0]?=some y:=⟨_,auZ hlt⟩;obtain⟨b,o,_,e,⟨pv,rfl,hpv⟩,hc⟩:=au.elt hp.classes (by decide) hy;obtain⟨_,_,rfl,-⟩:=aF.get hpv;have hsY:=iT.perms y (auL hy);exact ia<|an ⟨e,rfl,hlt⟩<|lc<|an (cF M.below hc)<|ei<|an N9 fun g4 w9 M9=>lb 0<|an ⟨rfl,rfl⟩ fun tS nr=>lb 0<|an rfl<|Hg nr ((ji _ _ _ _ (hpv.keep nr.below) (by omega)).mono fun _ _ ⟨v',e,h1,_,h3⟩=>⟨v',e,h1,h3⟩) fun pa pc Dw M11=>lb 0<|an ⟨rfl,rfl⟩ fun He Dr=>lb 1<|an rfl<|lb 0<|an rfl<|fun g5 KE vI=>KJ 1 id rfl (vI.slice 0 rfl (k:=2) (n:=1) rfl rfl (by simp[maxLen])) ⟨by unfold maxLen;omega,by omega⟩ fun va vc Te Hl=>lb 2<|an ⟨rfl,rfl⟩ fun Ob Eu=>an (by omega)<|bk (m0+1,.slice va (m0+1) vc,Pb++[[.string y.name,.slice pa y.perms.length pc]],⟨.slice pa y.perms.length pc,9,1,y.perms.length,y.perms.flatMap aW⟩::T0) ⟨rfl,trivial⟩ (fun M=>⟨((M.only (.cons _ (.cons _ (.refl _))) (.refl _)).perm (List.perm_middle (l₁:=_::[])).symm).cast rfl (by dsimp only;rw[← fP];rfl),by omega,by rw[auQ,hl0];rfl,i_ he0 rfl,q_ (R:=vw) (fun _ _ _ _ hs0 h=>vw.mono hs0 h) hl0 hR0 hy (fun r hr=>au7 _ hr) ⟨_,_,rfl,au8 ..⟩,fun r hr=>au7 _ (hs0 r hr)⟩) (by dsimp only;omega)
 have hq0:m0=p.classes.length:=by simp at h;omega
 obtain⟨x0,y0,rfl⟩:=M.form 0 rfl;clear M h;refine lb 2<|an rfl<|lp (ι:=Nat×Value×List (List Value)×List Rw) (fun(m1,u,Ru,T1)=>[(38,.int .i64 (m1:Int))]) (fun(m1,u,Ru,T1)=>(g3,39,#[.slice x0 m0 y0,u,.slice a2 p.attrs.length k2,.slice a3 p.roles.length k3,.slice a4 p.users.length k4,.slice a5 p.bools.length k5,.slice a6 p.aZ.length k6,.slice a7 p.cats.length k7,.slice none 0 0,.slice a9 p.rules.length k9,.slice Z1 p.trans.length k10,.slice WC p.aN.length k11,.slice a12 p.ranges.length k12,.slice none 0 0,.slice WB p.bO.length k14,.slice WA p.files.length k15,.slice Wz p.asserts.length k16])::_) (fun(m1,u,Ru,T1)=>⟨u,86,3,m1,Ru.flatten⟩::([(⟨.slice x0 m0 y0,180,2,m0,Pb.flatten⟩:Rw)]++T1)) (fun(m1,u,Ru,T1) _=>m1≤p.types.length∧Ru.length=m1∧(∀ x∈Ru,x.length=3)∧(∀ (i:Nat) x y,Ru[i]?=some x→p.types[i]?=some y→vm T1 x y)∧∀ r∈(T0:List Rw),r∈T1) (fun(m1,u,Ru,T1)=>p.types.length-m1) (0,.slice none 0 0,[],T0) (an ⟨⟨rfl,trivial⟩,fun M=>⟨M.bC 86 3,auX _,rfl,(fun _ h=>by cases h),(fun i x y h=>by simp at h),fun _ h=>h⟩⟩ ?_);rintro⟨m1,u,Ru,T1⟩ w M ⟨hm1,hl1,BD,hR1,hs1⟩;refine an (fun h=>?_) fun h=>?_
 ·have hlt:m1<p.types.length:=by simp at h;omega
  have hB:=iT.types;obtain⟨y,hy⟩:∃ y,p.types[m1]?=some y:=⟨_,auZ hlt⟩;obtain⟨b,o,_,e,⟨pv,rfl,hpv⟩,hc⟩:=au.elt hp.types (by decide) hy;obtain⟨_,_,rfl,-⟩:=aF.get hpv;have hsY:=iT.oT y (auL hy);exact ia<|an ⟨e,rfl,hlt⟩<|lc<|an (cF M.below hc)<|ei<|an Z_ fun g4 w9 M9=>lb 0<|an ⟨rfl,rfl⟩ fun tS nr=>lb 0<|an rfl<|Hg nr ((ji _ _ _ _ (hpv.keep nr.below) (by omega)).mono fun _ _ ⟨v',e,h1,_,h3⟩=>⟨v',e,h1,h3⟩) fun pa pc Dw M11=>lb 0<|an ⟨rfl,rfl⟩ fun He Dr=>lb 1<|an rfl<|lb 0<|an rfl<|fun g5 KE vI=>KJ 1 id rfl (vI.slice 0 rfl (k:=3) (n:=1) rfl rfl (by simp[maxLen])) ⟨by unfold maxLen;omega,by omega⟩ fun va vc Te Hl=>lb 2<|an ⟨rfl,rfl⟩ fun Ob Eu=>an (by omega)<|bk (m1+1,.slice va (m1+1) vc,Ru++[[.string y.name,.slice pa y.oT.length pc,.bool y.perm]],⟨.slice pa y.oT.length pc,9,1,y.oT.length,y.oT.flatMap aW⟩::T1) ⟨rfl,trivial⟩ (fun M=>⟨((M.only (.cons _ (.cons _ (.refl _))) (.refl _)).perm (List.perm_middle (l₁:=_::[(⟨.slice x0 m0 y0,180,2,m0,Pb.flatten⟩:Rw)])).symm).cast rfl (by dsimp only;rw[← fP];rfl),by omega,by rw[auQ,hl1];rfl,i_ BD rfl,q_ (R:=vm) (fun _ _ _ _ hs1 h=>vm.mono hs1 h) hl1 hR1 hy (fun r hr=>au7 _ hr) ⟨_,_,rfl,au8 ..⟩,fun r hr=>au7 _ (hs1 r hr)⟩) (by dsimp only;omega)
 have hq1:m1=p.types.length:=by simp at h;omega
 obtain⟨x1,y1,rfl⟩:=M.form 0 rfl;clear M h;refine lb 2<|an rfl<|lp (ι:=Nat×Value×List (List Value)×List Rw) (fun(m8,u,VH,T8)=>[(56,.int .i64 (m8:Int))]) (fun(m8,u,VH,T8)=>(g3,39,#[.slice x0 m0 y0,.slice x1 m1 y1,.slice a2 p.attrs.length k2,.slice a3 p.roles.length k3,.slice a4 p.users.length k4,.slice a5 p.bools.length k5,.slice a6 p.aZ.length k6,.slice a7 p.cats.length k7,u,.slice a9 p.rules.length k9,.slice Z1 p.trans.length k10,.slice WC p.aN.length k11,.slice a12 p.ranges.length k12,.slice none 0 0,.slice WB p.bO.length k14,.slice WA p.files.length k15,.slice Wz p.asserts.length k16])::_) (fun(m8,u,VH,T8)=>⟨u,89,10,m8,VH.flatten⟩::([(⟨.slice x1 m1 y1,86,3,m1,Ru.flatten⟩:Rw),(⟨.slice x0 m0 y0,180,2,m0,Pb.flatten⟩:Rw)]++T8)) (fun(m8,u,VH,T8) _=>m8≤p.conds.length∧VH.length=m8∧(∀ x∈VH,x.length=10)∧(∀ (i:Nat) x y,VH[i]?=some x→p.conds[i]?=some y→bV T8 x y)∧∀ r∈(T1:List Rw),r∈T8) (fun(m8,u,VH,T8)=>p.conds.length-m8) (0,.slice none 0 0,[],T1) (an ⟨⟨rfl,trivial⟩,fun M=>⟨M.bC 89 10,auX _,rfl,(fun _ h=>by cases h),(fun i x y h=>by simp at h),fun _ h=>h⟩⟩ ?_);rintro⟨m8,u,VH,T8⟩ w M ⟨hm8,Ye,he8,hR8,hs8⟩;refine an (fun h=>?_) fun h=>?_
 ·have hlt:m8<p.conds.length:=by simp at h;omega
  have hB:=iT.conds;obtain⟨y,hy⟩:∃ y,p.conds[m8]?=some y:=⟨_,auZ hlt⟩;obtain⟨b,o,_,e,hE,hc⟩:=au.elt hp.conds (by decide) hy;obtain⟨_,_,rfl,hn,hk⟩:=hE.open;obtain⟨_,_,rfl,-⟩:=aF.get hn;obtain⟨_,_,rfl,-⟩:=au.form hk (by decide);have hsY:=iT.Pp y (auL hy);refine ia<|an ⟨e,rfl,hlt⟩<|lc<|an (cF M.below hc)<|ei<|an rM fun g4 w9 M9=>lb 0<|an ⟨rfl,rfl⟩ fun tS nr=>?_
  refine dr (by kernel_rfl)<|lb 1<|an rfl<|lb 0<|an rfl<|cr (vu tS y)<|an (MH _ _)<|an (fun w' hb' M'=>Rt (Mj y _ _ (hE.keep M'.below) hsY) hb')<|br (SlE tS y)<|an (QN _ _)<|an (fun u w1 a o' hb M' hu hop ou=>?_)<|fun u Dw hu C_ M11=>?_
  ·obtain⟨na,nc,ka,kc,T9,rfl,D9,Fx⟩:=hu;obtain⟨v,w2,h1,⟨g,h2,h3,h4⟩,h5⟩:=bK (w:=tS) (p:=fun _=>True) (kk:=10) (b:=112) (by kernel_rfl) rfl rfl (by decide) (by decide) (by simp[Value.cells]) rfl w1 a o' hb trivial hop ou;exact⟨v,w2,h1,⟨g,na,nc,ka,kc,T9,h2,h3,D9,Fx.keep h5⟩,h5⟩
  obtain⟨g,na,nc,ka,kc,T9,rfl,hW,D9,Fx⟩:=hu;exact KJ 0 (fun _=>nr.dS C_ Fx) rfl (yg hW rfl D9.one) ⟨by unfold maxLen;omega,by omega⟩ fun va vc He Dr=>lb 1<|an ⟨rfl,rfl⟩ fun KE vI=>an (by omega)<|bk (m8+1,.slice va (m8+1) vc,VH++[[.int .i64 y.op,.int .i64 y.a,.int .i64 y.rel,.int .i64 y.b,.slice na y.names.length nc,.int .u64 y.set.a,.int .u64 y.set.b,.int .u64 y.set.c,.int .u64 y.set.d,.slice ka y.kids.length kc]],T8++T9) ⟨rfl,trivial⟩ (fun M=>⟨(M.only (.cons _ (.refl _)) (.refl _)).cast rfl (by dsimp only;rw[← fP];simp),by omega,by rw[auQ,Ye];rfl,i_ he8 rfl,q_ (R:=bV) (fun _ _ _ _ hs8 h=>bV.mono hs8 h) Ye hR8 hy (fun r hr=>auI.2 (.inl hr)) (D9.mono fun r hr=>auI.2 (.inr hr)),fun r hr=>auI.2 (.inl (hs8 r hr))⟩) (by dsimp only;omega)
 have hq8:m8=p.conds.length:=by simp at h;omega
 obtain⟨x8,y8,rfl⟩:=M.form 0 rfl;clear M h;refine lb 2<|an rfl<|lp (ι:=Nat×Value×List (List Value)×List Rw) (fun(m13,u,Dc,R3)=>[(71,.int .i64 (m13:Int))]) (fun(m13,u,Dc,R3)=>(g3,39,#[.slice x0 m0 y0,.slice x1 m1 y1,.slice a2 p.attrs.length k2,.slice a3 p.roles.length k3,.slice a4 p.users.length k4,.slice a5 p.bools.length k5,.slice a6 p.aZ.length k6,.slice a7 p.cats.length k7,.slice x8 m8 y8,.slice a9 p.rules.length k9,.slice Z1 p.trans.length k10,.slice WC p.aN.length k11,.slice a12 p.ranges.length k12,u,.slice WB p.bO.length k14,.slice WA p.files.length k15,.slice Wz p.asserts.length k16])::_) (fun(m13,u,Dc,R3)=>⟨u,91,13,m13,Dc.flatten⟩::([(⟨.slice x8 m8 y8,89,10,m8,VH.flatten⟩:Rw),(⟨.slice x1 m1 y1,86,3,m1,Ru.flatten⟩:Rw),(⟨.slice x0 m0 y0,180,2,m0,Pb.flatten⟩:Rw)]++R3)) (fun(m13,u,Dc,R3) _=>m13≤p.cons.length∧Dc.length=m13∧(∀ x∈Dc,x.length=13)∧(∀ (i:Nat) x y,Dc[i]?=some x→p.cons[i]?=some y→vv R3 x y)∧∀ r∈(T8:List Rw),r∈R3) (fun(m13,u,Dc,R3)=>p.cons.length-m13) (0,.slice none 0 0,[],T8) (an ⟨⟨rfl,trivial⟩,fun M=>⟨M.bC 91 13,auX _,rfl,(fun _ h=>by cases h),(fun i x y h=>by simp at h),fun _ h=>h⟩⟩ ?_);rintro⟨m13,u,Dc,R3⟩ w M ⟨ahX,abp,aeK,ae2,Q5⟩;refine an (fun h=>?_) fun h=>?_
 ·have hlt:m13<p.cons.length:=by simp at h;omega
  have hB:=iT.cons;obtain⟨y,hy⟩:∃ y,p.cons[m13]?=some y:=⟨_,auZ hlt⟩;obtain⟨b,o,_,e,⟨_,rfl,hE⟩,hc⟩:=au.elt hp.cons (by decide) hy;obtain⟨_,_,rfl,hn,hk⟩:=hE.open;obtain⟨_,_,rfl,-⟩:=aF.get hn;obtain⟨_,_,rfl,-⟩:=au.form hk (by decide);have hsY:=iT.ai2 y (auL hy);refine ia<|an ⟨e,rfl,hlt⟩<|lc<|an (cF M.below hc)<|ei<|an PL fun g4 w9 M9=>lb 0<|an ⟨rfl,rfl⟩ fun tS nr=>?_
  refine lb 0<|an rfl<|cg<|an (Mj y.expr _ _ (hE.keep nr.below) hsY) fun v Dw ⟨⟨na,nc,ka,kc,T9,hv,D9,Fx⟩,C_⟩=>⟨_,_,nr.dS C_ Fx,?_⟩
  subst hv;exact lb 0<|an ⟨rfl,rfl⟩ fun He Dr=>lb 1<|an rfl<|lb 0<|an rfl<|fun g5 KE vI=>KJ 0 id rfl (vI.slice 0 rfl (k:=13) (n:=1) rfl rfl (by simp[maxLen])) ⟨by unfold maxLen;omega,by omega⟩ fun va vc Te Hl=>lb 2<|an ⟨rfl,rfl⟩ fun Ob Eu=>an (by omega)<|bk (m13+1,.slice va (m13+1) vc,Dc++[[.int .i64 y.cls,.int .u32 y.perms,.bool y.val,.int .i64 y.expr.op,.int .i64 y.expr.a,.int .i64 y.expr.rel,.int .i64 y.expr.b,.slice na y.expr.names.length nc,.int .u64 y.expr.set.a,.int .u64 y.expr.set.b,.int .u64 y.expr.set.c,.int .u64 y.expr.set.d,.slice ka y.expr.kids.length kc]],R3++T9) ⟨rfl,trivial⟩ (fun M=>⟨(M.only (.cons _ (.cons _ (.refl _))) (.refl _)).cast rfl (by dsimp only;rw[← fP];simp),by omega,by rw[auQ,abp];rfl,i_ aeK rfl,q_ (R:=vv) (fun _ _ _ _ Q5 h=>vv.mono Q5 h) abp ae2 hy (fun r hr=>auI.2 (.inl hr)) ⟨_,rfl,D9.mono fun r hr=>auI.2 (.inr hr)⟩,fun r hr=>auI.2 (.inl (Q5 r hr))⟩) (by dsimp only;omega)
 have ahL:m13=p.cons.length:=by simp at h;omega
 obtain⟨Ll,y13,rfl⟩:=M.form 0 rfl;clear M h;refine sp [0,1,3,4,6,7,9,10,12,14,16,18] (.step 2 (.step 5 (.step 8 (.step 11 (.step 13 (.step 15 (.step 17 (.step 19 (.done))))))))) [0] (by kernel_rfl)<|lb 0<|an rfl<|lb 0<|an rfl<|lb 0<|an rfl<|lb 0<|an rfl<|fun w hb M=>Hg M ((GP _ _ _ _ (hp.attrs.keep M.below) (by have:=iT.attrs;omega)).mono fun _ _ ⟨v',e,h1,_,h3⟩=>⟨v',e,h1,h3⟩) fun x2 y2 w M=>an rfl<|Hg M ((GJ _ _ _ _ (hp.roles.keep M.below) (by have:=iT.roles;omega)).mono fun _ _ ⟨v',e,h1,_,h3⟩=>⟨v',e,h1,h3⟩) fun x3 y3 w M=>an rfl<|Hg M ((GF _ _ _ _ (hp.users.keep M.below) (by have:=iT.users;omega)).mono fun _ _ ⟨v',e,h1,_,h3⟩=>⟨v',e,h1,h3⟩) fun x4 y4 w M=>an rfl<|Hg M ((Gz _ _ _ _ (hp.bools.keep M.below) (by have:=iT.bools;omega)).mono fun _ _ ⟨v',e,h1,_,h3⟩=>⟨v',e,h1,h3⟩) fun x5 y5 w M=>an rfl<|lb 0<|an ⟨rfl,rfl⟩ fun w M=>an rfl<|lb 0<|an ⟨rfl,rfl⟩ fun w M=>an rfl<|lb 0<|an ⟨rfl,rfl⟩ fun w M=>an rfl<|lb 0<|an ⟨rfl,rfl⟩ fun w M=>an rfl<|?_
 refine sp [0,1,3,4,6,7,9,10,12,14,16,18] (.step 2 (.step 5 (.step 8 (.step 11 (.step 13 (.step 15 (.step 17 (.step 19 (.done))))))))) [0] (by kernel_rfl)<|lb 0<|an rfl<|lb 0<|an rfl<|lb 0<|an rfl<|lb 0<|an rfl<|fun w hb M=>Hg M ((ji _ _ _ _ (hp.aZ.keep M.below) (by have:=iT.aZ;omega)).mono fun _ _ ⟨v',e,h1,_,h3⟩=>⟨v',e,h1,h3⟩) fun x6 y6 w M=>an rfl<|Hg M ((ji _ _ _ _ (hp.cats.keep M.below) (by have:=iT.cats;omega)).mono fun _ _ ⟨v',e,h1,_,h3⟩=>⟨v',e,h1,h3⟩) fun x7 y7 w M=>an rfl<|Hg M ((Gw _ _ _ _ (hp.rules.keep M.below) (by have:=iT.rules;omega)).mono fun _ _ ⟨v',e,h1,_,h3⟩=>⟨v',e,h1,h3⟩) fun x9 y9 w M=>an rfl<|Hg M ((Gs _ _ _ _ (hp.trans.keep M.below) (by have:=iT.trans;omega)).mono fun _ _ ⟨v',e,h1,_,h3⟩=>⟨v',e,h1,h3⟩) fun x10 vD w M=>an rfl<|lb 0<|an ⟨rfl,rfl⟩ fun w M=>an rfl<|lb 0<|an ⟨rfl,rfl⟩ fun w M=>an rfl<|lb 0<|an ⟨rfl,rfl⟩ fun w M=>an rfl<|lb 0<|an ⟨rfl,rfl⟩ fun w M=>an rfl<|?_
 refine sp [0,1,3,4,6,7,9,11,13] (.step 2 (.step 5 (.step 8 (.step 10 (.step 12 (.step 14 (.done))))))) [0] (by kernel_rfl)<|lb 0<|an rfl<|lb 0<|an rfl<|lb 0<|an rfl<|fun w hb M=>Hg M ((Gp _ _ _ _ (hp.aN.keep M.below) (by have:=iT.aN;omega)).mono fun _ _ ⟨v',e,h1,_,h3⟩=>⟨v',e,h1,h3⟩) fun pK CW w M=>an rfl<|Hg M ((Gl _ _ _ _ (hp.ranges.keep M.below) (by have:=iT.ranges;omega)).mono fun _ _ ⟨v',e,h1,_,h3⟩=>⟨v',e,h1,h3⟩) fun pJ CV w M=>an rfl<|Hg M ((Gh _ _ _ _ (hp.bO.keep M.below) (by have:=iT.bO;omega)).mono fun _ _ ⟨v',e,h1,_,h3⟩=>⟨v',e,h1,h3⟩) fun Lk y14 w M=>an rfl<|lb 0<|an ⟨rfl,rfl⟩ fun w M=>an rfl<|lb 0<|an ⟨rfl,rfl⟩ fun w M=>an rfl<|lb 0<|an ⟨rfl,rfl⟩ fun w M=>an rfl<|?_
 refine sp [0,1,3,4,6,8] (.step 2 (.step 5 (.step 7 (.step 9 (.done))))) [0] (by kernel_rfl)<|lb 0<|an rfl<|lb 0<|an rfl<|fun w hb M=>Hg M ((Ge _ _ _ _ (hp.files.keep M.below) (by have:=iT.files;omega)).mono fun _ _ ⟨v',e,h1,_,h3⟩=>⟨v',e,h1,h3⟩) fun Lj y15 w M=>an rfl<|Hg M ((Ga _ _ _ _ (hp.asserts.keep M.below) (by have:=iT.asserts;omega)).mono fun _ _ ⟨v',e,h1,_,h3⟩=>⟨v',e,h1,h3⟩) fun Li y16 w M=>an rfl<|lb 0<|an ⟨rfl,rfl⟩ fun w M=>an rfl<|lb 0<|an ⟨rfl,rfl⟩ fun w M=>an rfl<|?_
 refine lb 0<|an rfl<|lb 1<|an ⟨rfl,rfl⟩ fun w M=>ei (x:=1)<|an rfl fun M=>?_
 subst hq0 hq1 hq8 ahL
 exact⟨_,rfl,⟨_,_,_,_,_,_,_,_,_,_,_,_,_,_,_,_,_,_,_,_,_,_,_,_,_,_,_,_,_,_,_,_,_,_,_,rfl,M.dV,fun B u qD=>⟨nN (q8 (R:=vw _) (qD.1 _ (auL (i:=16) rfl)) rfl hl0 he0 (fun i x y h1 h2=>vw.mono (fun r hr=>show r∈[_,_,_,_,_,_,_,_,_,_,_,_,_,_,_,_,_]++R3 from auI.2 (.inr (Q5 r (hs8 r (hs1 r hr))))) (hR0 i x y h1 h2)) fun _ _ h=>vw.one h) fun _ _ h=>vw.at_ qD h,
  nN (q8 (R:=vm _) (qD.1 _ (auL (i:=15) rfl)) rfl hl1 BD (fun i x y h1 h2=>vm.mono (fun r hr=>show r∈[_,_,_,_,_,_,_,_,_,_,_,_,_,_,_,_,_]++R3 from auI.2 (.inr (Q5 r (hs8 r hr)))) (hR1 i x y h1 h2)) fun _ _ h=>vm.one h) fun _ _ h=>vm.at_ qD h,
  SliceAt.bF (qD.1 _ (auL (i:=12) rfl)) (dX fun _=>rfl),
  SliceAt.bF (qD.1 _ (auL (i:=11) rfl)) (dX fun _=>rfl),
  SliceAt.bF (qD.1 _ (auL (i:=10) rfl)) (dX fun _=>rfl),
  SliceAt.bF (qD.1 _ (auL (i:=9) rfl)) (dX fun _=>rfl),
  SliceAt.bF (qD.1 _ (auL (i:=8) rfl)) (Iq _),
  SliceAt.bF (qD.1 _ (auL (i:=7) rfl)) (Iq _),
  nN (q8 (R:=bV _) (qD.1 _ (auL (i:=14) rfl)) rfl Ye he8 (fun i x y h1 h2=>bV.mono (fun r hr=>show r∈[_,_,_,_,_,_,_,_,_,_,_,_,_,_,_,_,_]++R3 from auI.2 (.inr (Q5 r hr))) (hR8 i x y h1 h2)) fun _ _ h=>bV.one h) fun _ _ h=>bV.at_ qD h,
  SliceAt.bF (qD.1 _ (auL (i:=6) rfl)) (dX fun _=>rfl),
  SliceAt.bF (qD.1 _ (auL (i:=5) rfl)) (dX fun _=>rfl),
  SliceAt.bF (qD.1 _ (auL (i:=4) rfl)) (dX fun _=>rfl),
  SliceAt.bF (qD.1 _ (auL (i:=3) rfl)) (dX fun _=>rfl),
  nN (q8 (R:=vv _) (qD.1 _ (auL (i:=13) rfl)) rfl abp aeK (fun i x y h1 h2=>vv.mono (fun r hr=>show r∈[_,_,_,_,_,_,_,_,_,_,_,_,_,_,_,_,_]++R3 from auI.2 (.inr (hr))) (ae2 i x y h1 h2)) fun _ _ h=>vv.one h) fun _ _ h=>vv.at_ qD h,
  SliceAt.bF (qD.1 _ (auL (i:=2) rfl)) (dX fun _=>rfl),
  SliceAt.bF (qD.1 _ (auL (i:=1) rfl)) (dX fun _=>rfl),
  SliceAt.bF (qD.1 _ (auL (i:=0) rfl)) (dX fun _=>rfl)⟩⟩,M.below⟩
def rN{α:Type}(l:List α)(o:List Int)(n:Nat):List α:=(List.range n).filterMap fun(k:Nat)=>if o.contains (k:Int)=true then none else l[k]?
def Sn(p:aC)(o:List Int):aC:={ p with rules:=rN p.rules o p.rules.length }
section
variable {α:Type} {l:List α} {o:List Int} {m:Nat} {z:α}
theorem aak(hz:l[m]?=some z)(h:o.contains (m:Int)=false):rN l o (m+1)=rN l o m++[z]:=by
 unfold rN;rw[List.range_succ,auM,List.filterMap_cons,if_neg (by rw[h];decide),hz];rfl
theorem adp(h:o.contains (m:Int)=true):rN l o (m+1)=rN l o m:=by
 unfold rN;rw[List.range_succ,auM,List.filterMap_cons,if_pos h];simp
theorem aal{l:List aj}{z:aj}{v:Value}{e:TypeId}{k:Nat}{rs:List Rw}(hz:l[m]?=some z)(h:o.contains (m:Int)=false):
 (⟨v,e,k,(rN l o m).length+1,(rN l o m).flatMap aj.cells++z.cells⟩::rs:List Rw)=⟨v,e,k,(rN l o (m+1)).length,(rN l o (m+1)).flatMap aj.cells⟩::rs:=by
 rw[aak hz h,auQ,auR,List.flatMap_cons,List.flatMap_nil,List.append_nil];rfl
theorem aam:∀ n,(rN l o n).length≤n:=fun n=>auP (List.length_filterMap_le _ _) (by simp)
end
def MW(l:List Int)(x:Int):Int:=match l.findIdx? (fun y=>decide (x=y)) with|some i=>(i:Int)|none=>-1
theorem aa7{l:List Int}{x:Int}{m:Nat}{y:Int}(hy:l[m]?=some y)(h:∀ j z,j<m→l[j]?=some z→x≠z)(e:x=y):(m:Int)=MW l x:=by
 unfold MW
 have:l.findIdx? (fun y=>decide (x=y))=some m:=by
  obtain⟨hm,hy'⟩:=auK.1 hy;rw[List.findIdx?_eq_some_iff_getElem];refine⟨hm,by rw[hy'];simpa using e,fun j hj=>?_⟩;have:=h j (l[j]) hj (auZ (by omega));simpa using this
 rw[this]
theorem X5{l:List Int}{x:Int}{m:Nat}(hm:m=l.length)(h:∀ j z,j<m→l[j]?=some z→x≠z):-1=MW l x:=by
 unfold MW
 have:l.findIdx? (fun y=>decide (x=y))=none:=by
  rw[List.findIdx?_eq_none_iff];intro y hy;obtain⟨j,hj⟩:=List.getElem?_of_mem hy;have:=h j y (by have:=(auK.1 hj).1;omega) hj;simpa using this
 rw[this]
theorem UZ{l:List Int}{x:Int}{m:Nat}{y:Int}(hy:l[m]?=some y)(h:∀ j z,j<m→l[j]?=some z→x≠z)(e:x≠y):∀ j z,j<m+1→l[j]?=some z→x≠z:=fun j z hj hz=>by
 by_cases ej:j=m
 ·subst ej;obtain rfl:=au2 (hy.symm.trans hz);exact e
 ·exact h j z (by omega) hz
theorem X4(l:List Int)(x:Int):decide (0≤MW l x)=l.contains x:=by
 unfold MW
 cases h:l.findIdx? (fun y=>decide (x=y)) with
 | none=>
  rw[List.findIdx?_eq_none_iff]at h
  have:l.contains x=false:=by
   cases hc:l.contains x with
   | false=>rfl
   | true=>
    have hm:x∈l:=by simpa using hc
    have:=h x hm;simp at this
  rw[this];rfl
 | some i=>
  obtain⟨hi,h2,-⟩:=List.findIdx?_eq_some_iff_getElem.1 h;have e:x=l[i]:=by simpa using h2
  have:l.contains x=true:=by
   have:x∈l:=e▸List.getElem_mem hi;simpa using this
  rw[this];show decide (0≤((i:Nat):Int))=true;exact decide_eq_true (by omega)
def anyI(n:Int):List Value:=[.int .i64 n]
theorem MV(w0:World)(v:Value)(l:List Int)(h:SliceAt w0 v 1 l.length (l.flatMap anyI))(x:Int):Calls Tryz.prog 168 #[v,.int .i64 x] w0 (fun(r:Ending) (w':World)=>r=.returned (.int .i64 (MW l x))∧auT w0.heap.size w0 w'):=by
 obtain⟨_,_,rfl,-,hm5,-⟩:=SliceAt.form h (by decide);refine cL [] (fn:=Tryz.f168) Tryz.func168 rfl Tryz.ntmps168 rfl<|lr (ι:=Nat) (fun m=>[(8,.int .i64 (m:Int))]) (fun m _=>m≤l.length∧∀ j z,j<m→l[j]?=some z→x≠z) (fun m=>l.length-m) 0 (an ⟨⟨rfl,trivial⟩,fun M=>⟨M,auX _,fun j z h=>absurd h (Nat.not_lt_zero j)⟩⟩ ?_);intro m w M ⟨hm,hne⟩;refine an (fun h1=>?_) fun h1 M=>⟨ri (X5 (by simp at h1;omega) hne).symm,M.below⟩
 have hlt:m<l.length:=by simp at h1;omega
 obtain⟨y,hy⟩:∃ y,l[m]?=some y:=⟨_,auZ hlt⟩;obtain⟨b,o,e,hc⟩:=SliceAt.elt h (fun _=>rfl) (by decide) hy hlt;refine ia<|an ⟨e,rfl,hlt⟩<|lc (x:=.int .i64 y)<|an (cF M.below hc 0 _ rfl)<|an (fun h2 M=>⟨ri (aa7 hy hne (by simpa using h2)).symm,M.below⟩) fun h2=>an (by omega)<|bk (m+1) ⟨rfl,trivial⟩ (fun M=>⟨M,by omega,UZ hy hne (by simpa using h2)⟩) (by dsimp only;omega)
theorem Dh(w0:World)(v:Value)(l:List Int)(h:SliceAt w0 v 1 l.length (l.flatMap anyI))(x:Int):Calls Tryz.prog 82 #[v,.int .i64 x] w0 (fun(r:Ending) (w':World)=>r=.returned (.bool (l.contains x))∧auT w0.heap.size w0 w'):=by
 obtain⟨_,_,rfl,-⟩:=SliceAt.form h (by decide);exact cL [] (fn:=Tryz.f82) Tryz.func82 rfl Tryz.ntmps82 rfl<|cl<|an (MV _ _ l h x) fun w1 M1=>fun M=>⟨rb (X4 l x).symm,M.below⟩
theorem H7(w0:World)(c0 c1 c2 c3 c4 c5 c6 c7 c8 c9 aV aP aO aU aT aS aR:Value)(p:aC)(hp:aM w0 c0 c1 c2 c3 c4 c5 c6 c7 c8 c9 aV aP aO aU aT aS aR p)(_:p.Ok)(iT:pF p)(lv:Value)(o:List Int)(hlv:SliceAt w0 lv 1 o.length (o.flatMap anyI)):Calls Tryz.prog 30 #[.agg #[c0,c1,c2,c3,c4,c5,c6,c7,c8,c9,aV,aP,aO,aU,aT,aS,aR],lv] w0 (fun(r:Ending) (w':World)=>∃ v,r=.returned v∧(Dq w0 (Sn p o) v w'∧auT w0.heap.size w0 w')):=by
 obtain⟨_,_,-,-,hmR,-⟩:=SliceAt.form hp.rules (by decide);obtain⟨_,_,_,_,_,_,_,_,_,_,_,_,_,_,_,_,_,_,_,_,_,_,_,_,_,_,_,_,_,_,_,_,_,_,rfl,rfl,rfl,rfl,rfl,rfl,rfl,rfl,rfl,rfl,rfl,rfl,rfl,rfl,rfl,rfl,rfl⟩:=hp.open;refine cL [] (fn:=Tryz.f30) Tryz.func30 rfl Tryz.ntmps30 rfl<|fun g1 w1 M1=>ei<|an nu fun g2 w2 M2=>lb 1<|an rfl<|cg<|an (xw _ _ _ _ _ _ _ _ _ _ _ _ _ _ _ _ _ _ p (hp.keep M2.below) iT) fun v w6 ⟨⟨x0,n0,x1,n1,x2,n2,x3,n3,x4,n4,x5,n5,x6,n6,x7,n7,x8,n8,x9,n9,x10,n10,pK,n11,pJ,n12,Ll,n13,Lk,n14,Lj,n15,Li,n16,TC,hv,hRC,hPC⟩,Nb⟩=>⟨_,_,M2.dS Nb hRC,?_⟩
 subst hv;refine ei<|an nu fun gp w7 M7=>lb 0<|an ⟨rfl,rfl⟩ fun w8 M8=>lb 0<|an ⟨rfl,rfl⟩ fun w9 M9=>lb 2<|an rfl<|lp (ι:=Nat×Value) (fun(k,v)=>[(14,.int .i64 (k:Int))]) (fun(k,v)=>(gp,39,#[.slice x0 p.classes.length n0,.slice x1 p.types.length n1,.slice x2 p.attrs.length n2,.slice x3 p.roles.length n3,.slice x4 p.users.length n4,.slice x5 p.bools.length n5,.slice x6 p.aZ.length n6,.slice x7 p.cats.length n7,.slice x8 p.conds.length n8,v,.slice x10 p.trans.length n10,.slice pK p.aN.length n11,.slice pJ p.ranges.length n12,.slice Ll p.cons.length n13,.slice Lk p.bO.length n14,.slice Lj p.files.length n15,.slice Li p.asserts.length n16])::_) (fun(k,v)=>⟨v,56,13,(rN p.rules o k).length,(rN p.rules o k).flatMap aj.cells⟩::_) (fun(k,v) _=>k≤p.rules.length) (fun(k,v)=>p.rules.length-k) (0,.slice none 0 0) (an ⟨⟨rfl,trivial⟩,fun M=>⟨M.bC 56 13,auX _⟩⟩ ?_)
 rintro⟨k,v⟩ w M hk;refine an (fun h=>?_) fun h=>?_
 ·have hlt:k<p.rules.length:=by simp at h;omega
  obtain⟨y,hy⟩:∃ y,p.rules[k]?=some y:=⟨_,auZ hlt⟩;obtain⟨b,of,e,hc⟩:=SliceAt.elt hp.rules (fun _=>rfl) (by decide) hy hlt;have hsl:=aam (l:=p.rules) (o:=o) k;have hrl:=iT.rules;refine ia<|an ⟨e,rfl,hlt⟩<|lc<|an (cF M.below hc)<|ei<|an oy fun g4 tS nr=>lb 0<|an ⟨rfl,rfl⟩ fun Dw M11=>cl<|an (Dh _ lv o (hlv.keep M11.below) k) fun He Dr=>an (fun hq=>?_) fun hq=>?_
  ·refine lb 1<|an rfl<|lb 0<|an rfl<|fun g7 Ob Eu=>KJ 0 id rfl (Eu.slice 0 rfl (k:=13) (n:=1) rfl rfl (by simp[maxLen])) ⟨by unfold maxLen;omega,by omega⟩ fun va vc W_ KL=>?_
   exact lb 2<|an ⟨rfl,rfl⟩ fun W9 WE=>an (by omega)<|bk (k+1,.slice va ((rN p.rules o k).length+1) vc) ⟨rfl,trivial⟩ (fun M=>⟨(M.only (.cons _ (.cons _ (.refl _))) (.refl _)).cast rfl (aal hy (by simpa using hq)),by dsimp only;omega⟩) (by dsimp only;omega)
  ·exact an (by omega)<|bk (k+1,v) ⟨rfl,trivial⟩ (fun M=>⟨(M.only (.cons _ (.refl _)) (.refl _)).cast rfl (by dsimp only;rw[adp (by simpa using hq)]),by dsimp only;omega⟩) (by dsimp only;omega)
 obtain rfl:k=p.rules.length:=by simp at h;omega
 obtain⟨xa9,xc9,rfl⟩:=M.form 0 rfl;exact lb 0<|an rfl<|lb 1<|an ⟨rfl,rfl⟩ fun w M=>ei (x:=1)<|an rfl fun M=>⟨_,rfl,⟨_,_,_,_,_,_,_,_,_,_,_,_,_,_,_,_,_,_,_,_,_,_,_,_,_,_,_,_,_,_,_,_,_,_,_,rfl,M.dV,fun B u qD=>{ hPC B u ⟨fun r hr=>qD.1 r (au7 _ hr),(List.pairwise_cons.1 qD.2).2⟩ with rules:=SliceAt.bF (qD.1 _ (auL (i:=0) rfl)) (dX fun _=>rfl) }⟩,M.below⟩
def wk(p:aC):aC:={ p with rules:=I5 aL p.rules }
def BR(l:List aj)(t:Nat):Nat→Option aj:=fun k=>if k<t then l[k]? else none
theorem abZ{l:List aj}{t:Nat}{r:aj}(h:l[t]?=some r){L:List (Int×Value)}(hR:Dn (BR l t) L):Dn (BR l (t+1)) (((t:Int),rval r)::gX L (t:Int)):=fun k=>by
 rw[hR.put k];congr 1;unfold kg BR;by_cases e:k=t
 ·subst e;simp[h]
 ·rw[if_neg e];by_cases h2:k<t
  ·rw[if_pos h2,if_pos (by omega)]
  ·rw[if_neg h2,if_neg (by omega)]
theorem abY(l:List aj):seg (BR l l.length) 0 l.length=l:=by
 have key:∀ n,n≤l.length→seg (BR l l.length) 0 n=l.take n:=by
  intro n
  induction n with
  | zero=>intro _;rfl
  | succ n ih=>
   intro hn;rw[iO _ (auX n) (Nat.le_succ n),ih (by omega),iY _ (Nat.lt_succ_self n),zC _ (Nat.le_refl _),List.append_nil,List.take_add_one];congr 1;unfold BR;rw[if_pos (by omega)]
 rw[key _ (Nat.le_refl _),au9]
theorem afd{l:List aj}(h:∀ r∈l,r.Ok)(t:Nat):Sy (BR l t):=fun k r e=>by
 unfold BR at e;split at e
 ·exact h r (auL e)
 ·cases e
section
variable {f f':Nat→Option aj} {n i:Nat}
theorem XO(hp:NP aL f n i n)(h:f i=none):NP aL f n (i+1) n:=fun j x k y h1 h2 h3 h4 h5 h6=>by
 by_cases e:j=i
 ·subst e;rw[h]at h2;cases h2
 ·exact hp j x k y (by omega) h2 h3 h4 h5 h6
theorem aaR(hp:NP aL f n i n)(h:∀ a,f i=some a→∀ k y,i<k→k<n→f k=some y→aL a y=none):NP aL f n (i+1) n:=fun j x k y h1 h2 h3 h4 h5 h6=>by
 by_cases e:j=i
 ·subst e;exact h x h2 k y h3 h4 h6
 ·exact hp j x k y (by omega) h2 h3 h4 h5 h6
theorem aaS(hp:NP aL f n i n)(h:n≤i):iB aL (seg f 0 n)=none:=by
 have h2:=Un aL (f:=f) (n:=n) (i:=n) (s:=0) (auX _) (Nat.le_refl _) fun j x k y _ h1 h2 h3 h4 h5=>hp j x k y (by omega) h2 h3 h4 (by omega) h5
 rw[zC f (Nat.le_refl n)]at h2;exact I3 aL h2
theorem ME(hp:NP aL f n i n)(h:G7 f f' i n true):∃ q,f' i=some q∧NP aL f' n i i∧I5 aL (seg f' 0 n)=I5 aL (seg f 0 n)∧(seg f' 0 n).length+1=(seg f 0 n).length:=by
 rcases h with⟨h,-⟩|⟨-,k,a,b,c,h1,h2,h3,h4,h5,h6,rfl⟩
 ·cases h
 ·have hj:=IB aL h1 h2 h3 h4 h5 hp h6;exact⟨c,by rw[fN _ _ (by omega),q6],NP.joined aL hp,(I4 aL hj).symm,rB aL hj⟩
theorem Jb(h:G7 f f' i n false):f'=f∧∀ a,f i=some a→∀ k y,i<k→k<n→f k=some y→aL a y=none:=by
 rcases h with⟨-,h1,h2⟩|⟨h,-⟩
 ·exact⟨h1,h2⟩
 ·cases h
end
theorem Iz{α:Type}(f:Nat→Option α)(n:Nat):seg f 0 (n+1)=seg f 0 n++(f n).toList:=by
 rw[iO _ (auX n) (Nat.le_succ n),iY _ (Nat.lt_succ_self n),zC _ (Nat.le_refl _),List.append_nil]
theorem Xw{α:Type}(f:Nat→Option α)(n:Nat):(seg f 0 n).length≤n:=by
 unfold seg;exact auP (List.length_filterMap_le _ _) (by simp)
theorem Xv{f:Nat→Option aj}{k:Nat}{z:aj}{v:Value}{e:TypeId}{c:Nat}{rs:List Rw}(h:f k=some z):
 (⟨v,e,c,(seg f 0 k).length+1,(seg f 0 k).flatMap aj.cells++z.cells⟩::rs:List Rw)=⟨v,e,c,(seg f 0 (k+1)).length,(seg f 0 (k+1)).flatMap aj.cells⟩::rs:=by
 rw[Iz,h,Option.toList_some,auQ,auR,List.flatMap_cons,List.flatMap_nil,List.append_nil];rfl
theorem Mh(w0:World)(c0 c1 c2 c3 c4 c5 c6 c7 c8 c9 aV aP aO aU aT aS aR:Value)(p:aC)(hp:aM w0 c0 c1 c2 c3 c4 c5 c6 c7 c8 c9 aV aP aO aU aT aS aR p)(hok:p.Ok)(iT:pF p)(hsR:p.rules.length≤1000):Calls Tryz.prog 32 #[.agg #[c0,c1,c2,c3,c4,c5,c6,c7,c8,c9,aV,aP,aO,aU,aT,aS,aR]] w0 (fun(r:Ending) (w':World)=>∃ v,r=.returned v∧(Dq w0 (wk p) v w'∧auT w0.heap.size w0 w')):=by
 have Q6:∀ r∈p.rules,r.Ok:=fun r hr=>⟨(hok.rules r hr).src,(hok.rules r hr).tgt⟩
 obtain⟨_,_,_,_,_,_,_,_,_,_,_,_,_,_,_,_,_,_,_,_,_,_,_,_,_,_,_,_,_,_,_,_,_,_,rfl,rfl,rfl,rfl,rfl,rfl,rfl,rfl,rfl,rfl,rfl,rfl,rfl,rfl,rfl,rfl,rfl⟩:=hp.open;refine cL [] (fn:=Tryz.f32) Tryz.func32 rfl Tryz.ntmps32 rfl<|fun g1 w1 M1=>ei<|an nu fun g2 w2 M2=>mmk M2 fun mb w3 M3=>lb 2<|an rfl<|lp (ι:=Nat×List (Int×Value)) (fun(t,L)=>[(18,.int .i64 (t:Int))]) (fun(t,L)=>(mb,9003,eE L)::_) (fun _=>[]) (fun(t,L) _=>t≤p.rules.length∧Dn (BR p.rules t) L) (fun(t,L)=>p.rules.length-t) (0,[]) (an ⟨⟨rfl,trivial⟩,fun M=>⟨M,auX _,fun k=>by simp[jI,BR]⟩⟩ ?_)
 rintro⟨t,L⟩ w M ⟨ht,hRv⟩;refine an (fun h=>?_) fun h=>?_
 ·have hlt:t<p.rules.length:=by simp at h;omega
  obtain⟨y,hy⟩:∃ y,p.rules[t]?=some y:=⟨_,auZ hlt⟩;obtain⟨b,o,e,hc⟩:=SliceAt.elt hp.rules (fun _=>rfl) (by decide) hy hlt;exact ia<|an ⟨e,rfl,hlt⟩<|lc<|an (cF M.below hc)<|ei<|an oy fun g3 w4 M4=>lb 0<|an ⟨rfl,rfl⟩ fun w5 M5=>lb 0<|an rfl<|Ut M5 1 rfl vV (by constructor<;>omega) fun w6 M6=>an (by omega)<|bk (t+1,_) ⟨rfl,trivial⟩ (fun M=>⟨M.only (.cons _ (.refl _)) (.refl _),by omega,abZ hy hRv⟩) (by dsimp only;omega)
 obtain rfl:t=p.rules.length:=by simp at h;omega
 clear M M1 M2 M3 h ht;refine lb 2<|an rfl<|lp (ι:=Nat×(Nat→Option aj)×List (Int×Value)) (fun(i,ff,L)=>[(7,.int .i64 (i:Int))]) (fun(i,ff,L)=>(mb,9003,eE L)::_) (fun _=>[]) (fun(i,ff,L) _=>i≤p.rules.length∧Dn ff L∧Sy ff∧NP aL ff p.rules.length i p.rules.length∧I5 aL (seg ff 0 p.rules.length)=I5 aL p.rules) (fun(i,ff,L)=>(seg ff 0 p.rules.length).length*(p.rules.length+1)+(p.rules.length-i)) (0,BR p.rules p.rules.length,L) (an ⟨⟨rfl,trivial⟩,fun M=>⟨M,auX _,hRv,afd Q6 _,(fun j _ _ _ h=>absurd h (Nat.not_lt_zero j)),by rw[abY]⟩⟩ ?_);clear hRv L;rintro⟨i,ff,L⟩ w M ⟨hi,hRv,hfo,hNP,hnf⟩;refine an (fun h=>?_) fun h=>?_
 ·have hlt:i<p.rules.length:=by simp at h;omega
  refine mlk M 0 rfl vV (fun _=>rfl) (by constructor<;>omega) fun M=>?_
  cases yC:ff i with
  | none=>
   rw[pX (hRv.no yC)];exact ei<|an oy fun g4 w5 M5=>lb 0<|an ⟨rfl,rfl⟩ fun w6 M6=>cl (v:=.bool false)<|an (fun h=>by cases h) fun w7 M7=>an (fun h=>by cases h) fun _=>an (by omega)<|bk (i+1,ff,L) ⟨rfl,trivial⟩ (fun M=>⟨M.only (.cons _ (.refl _)) (.refl _),by omega,hRv,hfo,XO hNP yC,hnf⟩) (by dsimp only;omega)
  | some y=>
   rw[pW (hRv.yes yC)];refine ei<|an oy fun g4 w5 M5=>lb 0<|an ⟨rfl,rfl⟩ fun w6 M6=>cg<|an (fun _=>QM _ mb p.rules.length hsR L (M6.map 1 rfl) ff hRv hfo i hlt y yC)<|an (fun h=>by cases h) fun v w7 ⟨⟨t9,L9,f9,hv,O4,aeZ,aeI,hLP⟩,Ss⟩=>⟨_,_,M6.Ih 1 rfl Ss O4,?_⟩
   subst hv;have M7:=M6.Ih 1 rfl Ss O4;refine an (fun ht9=>?_) fun ht9=>?_
   ·obtain rfl:t9=true:=ht9;obtain⟨q9,Ya,aiq,ahQ,aol⟩:=ME hNP hLP;refine cg<|an (JR _ mb p.rules.length hsR L9 (M7.map 1 rfl) f9 aeZ aeI i hlt q9 Ya aiq) fun v w8 ⟨⟨t8,L8,f8,hv,hM8,aio,ah3,hEP⟩,hS8⟩=>⟨_,_,M7.Ih 1 rfl hS8 hM8,?_⟩
    subst hv;have hle:=hEP.le;have hE4:=au3 (p.rules.length+1) (show(seg f8 0 p.rules.length).length+1≤(seg ff 0 p.rules.length).length by have:=hEP.len;omega);rw[Nat.add_mul,Nat.one_mul]at hE4;exact an (by omega)<|an (by omega)<|bk (t8,f8,L8) ⟨congrArg (fun z:Int=>some (Value.int .i64 z)) (show((t8:Nat):Int)-1+1=(t8:Int) by omega),trivial⟩ (fun M=>⟨M.only (.cons _ (.refl _)) (.refl _),by omega,aio,ah3,hEP.np,hEP.nf.trans (ahQ.trans hnf)⟩) (by dsimp only;omega)
   ·obtain rfl:t9=false:=ht9;obtain⟨rfl,hLf⟩:=Jb hLP;exact an (by omega)<|bk (i+1,f9,L9) ⟨rfl,trivial⟩ (fun M=>⟨M.only (.cons _ (.refl _)) (.refl _),by omega,aeZ,aeI,aaR hNP hLf,hnf⟩) (by dsimp only;omega)
 have D8:=aaS hNP (show p.rules.length≤i by simp at h;omega);have aej:seg ff 0 p.rules.length=I5 aL p.rules:=by rw[← hnf,Uq aL D8]
 refine lb 2<|an rfl<|cg<|an (xw _ _ _ _ _ _ _ _ _ _ _ _ _ _ _ _ _ _ p (hp.keep M.below) iT) fun v w6 ⟨⟨x0,n0,x1,n1,x2,n2,x3,n3,x4,n4,x5,n5,x6,n6,x7,n7,x8,n8,x9,n9,x10,n10,pK,n11,pJ,n12,Ll,n13,Lk,n14,Lj,n15,Li,n16,TC,hv,hRC,hPC⟩,Nb⟩=>⟨_,_,M.dS Nb hRC,?_⟩
 subst hv;clear M;refine ei<|an nu fun gp w7 M7=>lb 0<|an ⟨rfl,rfl⟩ fun w8 M8=>lb 0<|an ⟨rfl,rfl⟩ fun w9 M9=>lp (ι:=Nat×Value) (fun(k,v)=>[(56,.int .i64 (k:Int))]) (fun(k,v)=>(gp,39,#[.slice x0 p.classes.length n0,.slice x1 p.types.length n1,.slice x2 p.attrs.length n2,.slice x3 p.roles.length n3,.slice x4 p.users.length n4,.slice x5 p.bools.length n5,.slice x6 p.aZ.length n6,.slice x7 p.cats.length n7,.slice x8 p.conds.length n8,v,.slice x10 p.trans.length n10,.slice pK p.aN.length n11,.slice pJ p.ranges.length n12,.slice Ll p.cons.length n13,.slice Lk p.bO.length n14,.slice Lj p.files.length n15,.slice Li p.asserts.length n16])::_) (fun(k,v)=>⟨v,56,13,(seg ff 0 k).length,(seg ff 0 k).flatMap aj.cells⟩::_) (fun(k,v) _=>k≤p.rules.length) (fun(k,v)=>p.rules.length-k) (0,.slice none 0 0) (an ⟨⟨rfl,trivial⟩,fun M=>⟨M.bC 56 13,auX _⟩⟩ ?_)
 rintro⟨k,v⟩ w M hk;refine an (fun h=>?_) fun h=>?_
 ·have hlt:k<p.rules.length:=by simp at h;omega
  have hsl:=Xw ff k;refine mlk M 1 rfl vV (fun _=>rfl) (by constructor<;>omega) fun M=>?_
  cases yC:ff k with
  | none=>
   rw[pX (hRv.no yC)];exact ei<|an oy fun g6 KE vI=>lb 0<|an ⟨rfl,rfl⟩ fun Te Hl=>an (fun h=>by cases h) fun _=>an (by omega)<|bk (k+1,v) ⟨rfl,trivial⟩ (fun M=>⟨(M.only (.cons _ (.refl _)) (.refl _)).cast rfl (by dsimp only;rw[Iz,yC,Option.toList_none,List.append_nil]),by dsimp only;omega⟩) (by dsimp only;omega)
  | some z=>
   rw[pW (hRv.yes yC)];refine ei<|an oy fun g6 KE vI=>lb 0<|an ⟨rfl,rfl⟩ fun Te Hl=>?_
   refine an (fun _=>?_) fun h=>by cases h
   refine lb 1<|an rfl<|lb 0<|an rfl<|fun g7 Ob Eu=>KJ 0 id rfl (Eu.slice 0 rfl (k:=13) (n:=1) rfl rfl (by simp[maxLen])) ⟨by unfold maxLen;omega,by omega⟩ fun va vc W_ KL=>?_
   exact lb 2<|an ⟨rfl,rfl⟩ fun W9 WE=>an (by omega)<|bk (k+1,.slice va ((seg ff 0 k).length+1) vc) ⟨rfl,trivial⟩ (fun M=>⟨(M.only (.cons _ (.cons _ (.refl _))) (.refl _)).cast rfl (Xv yC),by dsimp only;omega⟩) (by dsimp only;omega)
 obtain rfl:k=p.rules.length:=by simp at h;omega
 obtain⟨xa9,xc9,rfl⟩:=M.form 0 rfl;refine lb 0<|an rfl<|lb 2<|an ⟨rfl,rfl⟩ fun w M=>ei (x:=2)<|an rfl fun M=>?_
 dsimp only at M;rw[aej]at M;exact⟨_,rfl,⟨_,_,_,_,_,_,_,_,_,_,_,_,_,_,_,_,_,_,_,_,_,_,_,_,_,_,_,_,_,_,_,_,_,_,_,(by rw[aej];rfl),M.dV,fun B u qD=>{ hPC B u ⟨fun r hr=>qD.1 r (au7 _ hr),(List.pairwise_cons.1 qD.2).2⟩ with rules:=SliceAt.bF (qD.1 _ (auL (i:=0) rfl)) (dX fun _=>rfl) }⟩,M.below⟩
theorem uo{P:Program}{w:World}{t:TypeId}{d:TypeDesc}(h:P.underlying t=some d):(underlying t).run P w=.ok d w:=by
 unfold underlying;simp[Sem.run_bind,h]
theorem Pk{P:Program}{a:Act}{w:World}{o:Oper}{ss tt:TypeId}{x:Operand}{m:Nat}(ho:o.op=.convert ss tt x)(hx:a.eval x=.int .u8 (m:Int))(hs:P.underlying ss=some (.int .u8))(ht:P.underlying tt=some (.int .i32))(hm:m<256):(execOp a.eval o).run P w=.ok (.value (.int .i32 (m:Int))) w:=by
 have hw:IntKind.i32.wrap (m:Int)=m:=by
  simp[IntKind.wrap,IntKind.bits,IntKind.signed];omega
 unfold execOp;simp[ho,hx,convert,Sem.run_bind,Sem.run_pure,uo hs,uo ht,Conv.intToInt,hw]
theorem Mr{s:ByteArray}(h:yw s=true):1≤s.size∧s.size≤32∧nj (dY s 0)=false∧∀ i,i<s.size→jK (dY s i)=true∨nj (dY s i)=true:=by
 unfold yw at h;simp only[au_,Bool.not_eq_true',decide_eq_true_iff]at h;obtain⟨h1,h2,h3⟩:=h
 have hb:∀ i,i<s.size→tN s i=false:=fun i hi=>by
  cases e:tN s i with
  | false=>rfl
  | true=>rw[(sO _ _).2 ⟨i,auX _,by omega,e⟩]at h1;cases h1
 have h0:=hb 0 (by omega);refine⟨by omega,by omega,?_,fun i hi=>?_⟩
 ·unfold tN at h0;have e:jK (dY s 0)=true:=by simpa using h0
  cases hd:nj (dY s 0) with
  | false=>rfl
  | true=>
   unfold nj at hd;unfold jK at e;simp only[au_,Bool.or_eq_true,decide_eq_true_iff]at hd e;omega
 ·have:=hb i hi;unfold tN at this
  cases hl:jK (dY s i) with
  | true=>exact .inl rfl
  | false=>
   rw[hl]at this;right;simp at this;exact this.2
theorem dw{s w:ByteArray}(h:jY s=false)(hw:jY w=true):(s.toList == w.toList)=false:=by
 cases e:s.toList == w.toList with
 | false=>rfl
 | true=>
  rw[oD]at e;rw[of_decide_eq_true e,hw]at h;cases h
theorem Av(w0:World)(x:Nat):Calls Tryz.prog 326 #[.int .i32 (x:Int)] w0 (fun(r:Ending) (w':World)=>r=.returned (.bool (nj x))∧auT w0.heap.size w0 w'):=by
 refine cL [] (fn:=Tryz.f326) Tryz.func326 rfl Tryz.ntmps326 rfl<|fun M=>⟨rb ?_,M.below⟩
 rfl
theorem Ij(w0:World)(x:Nat):Calls Tryz.prog 327 #[.int .i32 (x:Int)] w0 (fun(r:Ending) (w':World)=>r=.returned (.bool (jK x))∧auT w0.heap.size w0 w'):=by
 refine cL [] (fn:=Tryz.f327) Tryz.func327 rfl Tryz.ntmps327 rfl<|fun M=>⟨rb ?_,M.below⟩
 unfold jK;congr 1;exact Bool.or_comm _ _
theorem QI(w0:World)(s:ByteArray)(hs:dF s)(h:yw s=true):Calls Tryz.prog 323 #[.string s] w0 (fun(r:Ending) (w':World)=>r=.returned (.bool (true))∧auT w0.heap.size w0 w'):=by
 obtain⟨h1,h32,Zs,hall⟩:=Mr h;have hs':s.size≤140737488355328:=hs
 have hne:gI s=false:=by
  unfold gI;rw[oD];refine decide_eq_false fun e=>?_
  rw[e]at h1;exact absurd h1 (by decide)
 have bL:=hr1 Tryz.prog Tryz.f323 (fun(r:Ending) (w':World)=>r=.returned (.bool (true))∧auT w0.heap.size w0 w') 36 2 rfl;refine en Tryz.func323 rfl Tryz.ntmps323 rfl (vs:=[.string s]) rfl fun _ F=>?_
 have M:=Mm.start w0;refine auU fun K1 gV=>ah<|xA (v:=.bool false) F rf rf rf fun _ F=>auV<|gV _ _ ?_
 refine auU fun K2 h_=>auU fun K3 nh=>ah<|xM F rf rf rf fun _ F=>ke (on rfl) (afn rfl (F.u rf) rfl) rfl F rfl (congrArg Value.bool hne) fun _ F=>xM F rf rf rf fun _ F=>kv (gn rfl rfl (F.g 7 rfl)) (cQ rfl (F.u rf)) rfl F rfl fun _ F=>kv (gn rfl rfl (F.g 7 rfl)) (B_ rfl (F.u rf) u9) rfl F rfl fun _ F=>
  ke (gn rfl rfl (F.g 7 rfl)) (JV rfl (F.u rf) rfl) rfl F rfl (congrArg Value.bool (decide_eq_false (by omega))) fun _ F=>
  ke (u:=.bool false) (on rfl) (tH rfl (F.u rf) rfl (F.u rf)) rfl F rfl rfl fun _ F=>
  xM F rf rf rf fun _ F=>
  kv (gn rfl rfl (F.g 12 rfl)) (cQ rfl (F.u rf)) rfl F rfl fun _ F=>
  ke (gn rfl rfl (F.g 12 rfl)) (tI (i:=0) rfl (F.u rf) rfl (by omega) u9) rfl F rfl (congrArg (Value.int .u8) (congrArg Nat.cast (ot (by omega:0<s.size)))) fun _ F=>
  kv (gn rfl rfl (F.g 12 rfl)) (Pk rfl (F.u rf) u5 u21 (oq _ _)) rfl F rfl fun _ F=>
  kc (gn rfl rfl (F.g 12 rfl)) (fS rfl Tryz.func326 Zb rfl (args1 (F.u rf))) ((Av _ (dY s 0)).mono fun _ _ ⟨e,h⟩=>⟨by rw[e,Zs],h⟩) rfl F rfl M fun _ _ F M=>
  ke (u:=.bool false) (on rfl) (tH rfl (F.u rf) rfl (F.u rf)) rfl F rfl rfl fun _ F=>
  auV<|
  nh _ _ ?_
 refine au0 (F.e 17 rfl) ?_;refine wp_skip<|h_ _ _ ?_;refine auU fun K4 n_=>auU fun K5 nZ=>ah<|xM F rf rf rf fun _ F=>kz F rf (B_ rfl (F.u rf) u9) fun _ F=>xM (v:=.int .i64 0) F rf rf rf fun _ F=>auV<|nZ _ _ ?_
 refine auW<|?_;refine eH (ι:=Nat) (fun m a w=>Fs a 36 [(0,.string s),(19,.int .i64 ((s).size:Int)),(20,.int .i64 (m:Int))]∧Mm w0 w [] []∧m≤s.size) (fun m=>s.size-m) 0 ⟨F.sub ⟨rfl,rfl,rfl,trivial⟩,M,auX _⟩ ?_
 (repeat clear F);(repeat clear M)
 rintro m _ _ ⟨F,M,hm⟩;refine auU fun K6 pN=>ah<|kz F rf (jf rfl (F.u rf) (F.u rf)) fun _ F=>auV<|pN _ _ ?_
 refine auU fun K7 rR=>?_
 refine auY (F.e 21 rfl) (fun hc1=>?_) (fun hc1=>?_)
 ·have hd2:=of_decide_eq_true hc1;refine wp_skip<|rR _ _ ?_;refine auU fun K8 wX=>auW<|auU fun K9 yD=>ah<|xM F rf rf rf fun _ F=>xA F rf rf rf fun _ F=>auV<|yD _ _ ?_
  refine auU fun WG lS=>?_
  have hlt:m<s.size:=by omega
  have hld:=hall m hlt
  refine ah<|xM F rf rf rf fun _ F=>xM F rf rf rf fun _ F=>
   ke (on rfl) (tI (i:=m) rfl (F.u rf) (F.u rf) (by omega) u9) rfl F rfl (congrArg (Value.int .u8) (congrArg Nat.cast (ot (by omega:m<s.size)))) fun _ F=>
   kz F rf (Pk rfl (F.u rf) u5 u21 (oq _ _)) fun _ F=>
   xA F rf rf rf fun _ F=>
   auV<|
   lS _ _ ?_
  refine auU fun Z7 qE=>ah<|xM F rf rf rf fun _ F=>xC F M rf rf agV (args1 (F.u rf)) (Ij _ (dY s m)) fun _ _ F M=>kz F rf (pq rfl (F.u rf)) fun _ F=>xM F rf rf rf fun _ F=>Fo (x:=.int .i32 (dY s m:Int)) rfl rfl (F.g 30 rfl) (bt _) (fun ge=>(cQ rfl (F.u rf))) rfl F rfl rfl fun _ F=>ahk rfl rfl (F.g 30 rfl) (bt _) (fun ge=>(fS rfl Tryz.func326 Zb rfl (args1 ((F.g 31 rfl).on ge).ev))) (fun ge=>Av _ (dY s m)) rfl F rfl M fun _ _ F M=>Fo (x:=.bool (!(nj (dY s m)))) rfl rfl (F.g 30 rfl) (bt _) (fun ge=>(pq rfl ((F.g 32 rfl).on ge).ev)) rfl F rfl rfl fun _ F=>kz F rf (rq (tH rfl (F.u rf) (F.u rf) rfl) (pkF _ _)) fun _ F=>auV<|qE _ _ ?_
  refine auY (F.e 34 rfl) (fun hc3=>?_) (fun hc3=>?_)
  ·refine auU fun Z6 pI=>ah<|xA (v:=.bool false) F rf rf rf fun _ F=>auV<|pI _ _ ?_
   refine wp_ret<|bL _ _ _ _ F rfl ?_;rcases hld with h|h<;>simp[h]at hc3
  ·refine wp_skip<|wX _ _ ?_
   refine ah<|
    ke (on rfl) (eV rfl (F.u rf) rfl) rfl F rfl (congrArg (Value.int .i64) (wrap_i64 (by omega))) fun _ F=>
    xM F rf rf rf fun _ F=>
    auV<|?_
   exact⟨m+1,⟨F.sub ⟨rfl,rfl,rfl,trivial⟩,M,by omega⟩,by show s.size-(m+1)<s.size-m;omega⟩
 ·have Vf:=of_decide_eq_false hc1;refine wp_exit<|n_ _ _ ?_;refine auU fun Z5 pH=>ah<|xA (v:=.bool true) F rf rf rf fun _ F=>auV<|pH _ _ ?_
  refine wp_ret<|bL _ _ _ _ F rfl ?_;exact⟨rfl,M.below⟩
theorem EO(w0:World)(s:ByteArray)(oL:jY s=false):Calls Tryz.prog 324 #[.string s] w0 (fun(r:Ending) (w':World)=>r=.returned (.bool (false))∧auT w0.heap.size w0 w'):=by
 have bL:=hr1 Tryz.prog Tryz.f324 (fun(r:Ending) (w':World)=>r=.returned (.bool (false))∧auT w0.heap.size w0 w') 47 2 rfl;refine en Tryz.func324 rfl Tryz.ntmps324 rfl (vs:=[.string s]) rfl fun _ F=>?_
 have M:=Mm.start w0;refine auU fun K1 gV=>ah<|xA (v:=.bool false) F rf rf rf fun _ F=>auV<|gV _ _ ?_
 refine auU fun K2 h_=>auU fun K3 nh=>ah<|xM F rf rf rf fun _ F=>auV<|nh _ _ ?_
 refine auW<|auU fun K4 n_=>auU fun K5 nZ=>ah<|
  ke (on rfl) (cO rfl (F.u rf) rfl) rfl F rfl (congrArg Value.bool (dw oL (by kernel_rfl))) fun _ F=>
  xA F rf rf rf fun _ F=>
  auV<|
  nZ _ _ ?_
 refine au0 (F.e 4 rfl) ?_
 refine auU fun K6 pN=>ah<|
  ke (on rfl) (cO rfl (F.u rf) rfl) rfl F rfl (congrArg Value.bool (dw oL (by kernel_rfl))) fun _ F=>
  xA F rf rf rf fun _ F=>
  auV<|
  pN _ _ ?_
 refine au0 (F.e 4 rfl) ?_
 refine auU fun K7 rR=>ah<|
  ke (on rfl) (cO rfl (F.u rf) rfl) rfl F rfl (congrArg Value.bool (dw oL (by kernel_rfl))) fun _ F=>
  xA F rf rf rf fun _ F=>
  auV<|
  rR _ _ ?_
 refine au0 (F.e 4 rfl) ?_
 refine auU fun K8 wX=>ah<|
  ke (on rfl) (cO rfl (F.u rf) rfl) rfl F rfl (congrArg Value.bool (dw oL (by kernel_rfl))) fun _ F=>
  xA F rf rf rf fun _ F=>
  auV<|
  wX _ _ ?_
 refine au0 (F.e 4 rfl) ?_
 refine auU fun K9 yD=>ah<|
  ke (on rfl) (cO rfl (F.u rf) rfl) rfl F rfl (congrArg Value.bool (dw oL (by kernel_rfl))) fun _ F=>
  xA F rf rf rf fun _ F=>
  auV<|
  yD _ _ ?_
 refine au0 (F.e 4 rfl) ?_
 refine auU fun WG lS=>ah<|
  ke (on rfl) (cO rfl (F.u rf) rfl) rfl F rfl (congrArg Value.bool (dw oL (by kernel_rfl))) fun _ F=>
  xA F rf rf rf fun _ F=>
  auV<|
  lS _ _ ?_
 refine au0 (F.e 4 rfl) ?_
 refine auU fun Z7 qE=>ah<|
  ke (on rfl) (cO rfl (F.u rf) rfl) rfl F rfl (congrArg Value.bool (dw oL (by kernel_rfl))) fun _ F=>
  xA F rf rf rf fun _ F=>
  auV<|
  qE _ _ ?_
 refine au0 (F.e 4 rfl) ?_
 refine auU fun Z6 pI=>ah<|
  ke (on rfl) (cO rfl (F.u rf) rfl) rfl F rfl (congrArg Value.bool (dw oL (by kernel_rfl))) fun _ F=>
  xA F rf rf rf fun _ F=>
  auV<|
  pI _ _ ?_
 refine au0 (F.e 4 rfl) ?_
 refine auU fun Z5 pH=>ah<|
  ke (on rfl) (cO rfl (F.u rf) rfl) rfl F rfl (congrArg Value.bool (dw oL (by kernel_rfl))) fun _ F=>
  xA F rf rf rf fun _ F=>
  auV<|
  pH _ _ ?_
 refine au0 (F.e 4 rfl) ?_
 refine ah<|
  ke (on rfl) (cO rfl (F.u rf) rfl) rfl F rfl (congrArg Value.bool (dw oL (by kernel_rfl))) fun _ F=>
  xA F rf rf rf fun _ F=>
  auV<|
  n_ _ _ ?_
 refine au0 (F.e 4 rfl) ?_
 refine auU fun K14 tC=>auU fun K15 rS=>ah<|
  ke (on rfl) (cO rfl (F.u rf) rfl) rfl F rfl (congrArg Value.bool (dw oL (by kernel_rfl))) fun _ F=>
  xA F rf rf rf fun _ F=>
  auV<|
  rS _ _ ?_
 refine au0 (F.e 15 rfl) ?_
 refine auU fun K16 Fy=>ah<|
  ke (on rfl) (cO rfl (F.u rf) rfl) rfl F rfl (congrArg Value.bool (dw oL (by kernel_rfl))) fun _ F=>
  xA F rf rf rf fun _ F=>
  auV<|
  Fy _ _ ?_
 refine au0 (F.e 15 rfl) ?_
 refine auU fun K17 Vw=>ah<|
  ke (on rfl) (cO rfl (F.u rf) rfl) rfl F rfl (congrArg Value.bool (dw oL (by kernel_rfl))) fun _ F=>
  xA F rf rf rf fun _ F=>
  auV<|
  Vw _ _ ?_
 refine au0 (F.e 15 rfl) ?_
 refine auU fun K18 abO=>ah<|
  ke (on rfl) (cO rfl (F.u rf) rfl) rfl F rfl (congrArg Value.bool (dw oL (by kernel_rfl))) fun _ F=>
  xA F rf rf rf fun _ F=>
  auV<|
  abO _ _ ?_
 refine au0 (F.e 15 rfl) ?_
 refine auU fun K19 abN=>ah<|
  ke (on rfl) (cO rfl (F.u rf) rfl) rfl F rfl (congrArg Value.bool (dw oL (by kernel_rfl))) fun _ F=>
  xA F rf rf rf fun _ F=>
  auV<|
  abN _ _ ?_
 refine au0 (F.e 15 rfl) ?_
 refine auU fun K20 abM=>ah<|
  ke (on rfl) (cO rfl (F.u rf) rfl) rfl F rfl (congrArg Value.bool (dw oL (by kernel_rfl))) fun _ F=>
  xA F rf rf rf fun _ F=>
  auV<|
  abM _ _ ?_
 refine au0 (F.e 15 rfl) ?_
 refine auU fun K21 abL=>ah<|
  ke (on rfl) (cO rfl (F.u rf) rfl) rfl F rfl (congrArg Value.bool (dw oL (by kernel_rfl))) fun _ F=>
  xA F rf rf rf fun _ F=>
  auV<|
  abL _ _ ?_
 refine au0 (F.e 15 rfl) ?_
 refine auU fun K22 abK=>ah<|
  ke (on rfl) (cO rfl (F.u rf) rfl) rfl F rfl (congrArg Value.bool (dw oL (by kernel_rfl))) fun _ F=>
  xA F rf rf rf fun _ F=>
  auV<|
  abK _ _ ?_
 refine au0 (F.e 15 rfl) ?_
 refine ah<|
  ke (on rfl) (cO rfl (F.u rf) rfl) rfl F rfl (congrArg Value.bool (dw oL (by kernel_rfl))) fun _ F=>
  xA F rf rf rf fun _ F=>
  auV<|
  tC _ _ ?_
 refine au0 (F.e 15 rfl) ?_
 refine auU fun K23 Yq=>auU fun K24 abJ=>ah<|
  ke (on rfl) (cO rfl (F.u rf) rfl) rfl F rfl (congrArg Value.bool (dw oL (by kernel_rfl))) fun _ F=>
  xA F rf rf rf fun _ F=>
  auV<|
  abJ _ _ ?_
 refine au0 (F.e 25 rfl) ?_
 refine auU fun K25 Yp=>ah<|
  ke (on rfl) (cO rfl (F.u rf) rfl) rfl F rfl (congrArg Value.bool (dw oL (by kernel_rfl))) fun _ F=>
  xA F rf rf rf fun _ F=>
  auV<|
  Yp _ _ ?_
 refine au0 (F.e 25 rfl) ?_
 refine auU fun K26 abI=>ah<|
  ke (on rfl) (cO rfl (F.u rf) rfl) rfl F rfl (congrArg Value.bool (dw oL (by kernel_rfl))) fun _ F=>
  xA F rf rf rf fun _ F=>
  auV<|
  abI _ _ ?_
 refine au0 (F.e 25 rfl) ?_
 refine auU fun K27 abH=>ah<|
  ke (on rfl) (cO rfl (F.u rf) rfl) rfl F rfl (congrArg Value.bool (dw oL (by kernel_rfl))) fun _ F=>
  xA F rf rf rf fun _ F=>
  auV<|
  abH _ _ ?_
 refine au0 (F.e 25 rfl) ?_
 refine auU fun K28 abG=>ah<|
  ke (on rfl) (cO rfl (F.u rf) rfl) rfl F rfl (congrArg Value.bool (dw oL (by kernel_rfl))) fun _ F=>
  xA F rf rf rf fun _ F=>
  auV<|
  abG _ _ ?_
 refine au0 (F.e 25 rfl) ?_
 refine auU fun K29 abF=>ah<|
  ke (on rfl) (cO rfl (F.u rf) rfl) rfl F rfl (congrArg Value.bool (dw oL (by kernel_rfl))) fun _ F=>
  xA F rf rf rf fun _ F=>
  auV<|
  abF _ _ ?_
 refine au0 (F.e 25 rfl) ?_
 refine auU fun K30 aiH=>ah<|
  ke (on rfl) (cO rfl (F.u rf) rfl) rfl F rfl (congrArg Value.bool (dw oL (by kernel_rfl))) fun _ F=>
  xA F rf rf rf fun _ F=>
  auV<|
  aiH _ _ ?_
 refine au0 (F.e 25 rfl) ?_
 refine ah<|
  ke (on rfl) (cO rfl (F.u rf) rfl) rfl F rfl (congrArg Value.bool (dw oL (by kernel_rfl))) fun _ F=>
  xA F rf rf rf fun _ F=>
  auV<|
  Yq _ _ ?_
 refine au0 (F.e 25 rfl) ?_
 refine auU fun K31 aiG=>auU fun K32 aiF=>ah<|
  ke (on rfl) (cO rfl (F.u rf) rfl) rfl F rfl (congrArg Value.bool (dw oL (by kernel_rfl))) fun _ F=>
  xA F rf rf rf fun _ F=>
  auV<|
  aiF _ _ ?_
 refine au0 (F.e 34 rfl) ?_
 refine auU fun K33 aiE=>ah<|
  ke (on rfl) (cO rfl (F.u rf) rfl) rfl F rfl (congrArg Value.bool (dw oL (by kernel_rfl))) fun _ F=>
  xA F rf rf rf fun _ F=>
  auV<|
  aiE _ _ ?_
 refine au0 (F.e 34 rfl) ?_
 refine auU fun K34 aiD=>ah<|
  ke (on rfl) (cO rfl (F.u rf) rfl) rfl F rfl (congrArg Value.bool (dw oL (by kernel_rfl))) fun _ F=>
  xA F rf rf rf fun _ F=>
  auV<|
  aiD _ _ ?_
 refine au0 (F.e 34 rfl) ?_
 refine auU fun K35 aiC=>ah<|
  ke (on rfl) (cO rfl (F.u rf) rfl) rfl F rfl (congrArg Value.bool (dw oL (by kernel_rfl))) fun _ F=>
  xA F rf rf rf fun _ F=>
  auV<|
  aiC _ _ ?_
 refine au0 (F.e 34 rfl) ?_
 refine auU fun K36 aiB=>ah<|
  ke (on rfl) (cO rfl (F.u rf) rfl) rfl F rfl (congrArg Value.bool (dw oL (by kernel_rfl))) fun _ F=>
  xA F rf rf rf fun _ F=>
  auV<|
  aiB _ _ ?_
 refine au0 (F.e 34 rfl) ?_
 refine auU fun K37 aiA=>ah<|
  ke (on rfl) (cO rfl (F.u rf) rfl) rfl F rfl (congrArg Value.bool (dw oL (by kernel_rfl))) fun _ F=>
  xA F rf rf rf fun _ F=>
  auV<|
  aiA _ _ ?_
 refine au0 (F.e 34 rfl) ?_
 refine auU fun K38 aiz=>ah<|
  ke (on rfl) (cO rfl (F.u rf) rfl) rfl F rfl (congrArg Value.bool (dw oL (by kernel_rfl))) fun _ F=>
  xA F rf rf rf fun _ F=>
  auV<|
  aiz _ _ ?_
 refine au0 (F.e 34 rfl) ?_
 refine auU fun K39 aiy=>ah<|
  ke (on rfl) (cO rfl (F.u rf) rfl) rfl F rfl (congrArg Value.bool (dw oL (by kernel_rfl))) fun _ F=>
  xA F rf rf rf fun _ F=>
  auV<|
  aiy _ _ ?_
 refine au0 (F.e 34 rfl) ?_
 refine auU fun K40 aix=>ah<|
  ke (on rfl) (cO rfl (F.u rf) rfl) rfl F rfl (congrArg Value.bool (dw oL (by kernel_rfl))) fun _ F=>
  xA F rf rf rf fun _ F=>
  auV<|
  aix _ _ ?_
 refine au0 (F.e 34 rfl) ?_
 refine auU fun K41 aiw=>ah<|
  ke (on rfl) (cO rfl (F.u rf) rfl) rfl F rfl (congrArg Value.bool (dw oL (by kernel_rfl))) fun _ F=>
  xA F rf rf rf fun _ F=>
  auV<|
  aiw _ _ ?_
 refine au0 (F.e 34 rfl) ?_
 refine auU fun K42 aiv=>ah<|
  ke (on rfl) (cO rfl (F.u rf) rfl) rfl F rfl (congrArg Value.bool (dw oL (by kernel_rfl))) fun _ F=>
  xA F rf rf rf fun _ F=>
  auV<|
  aiv _ _ ?_
 refine au0 (F.e 34 rfl) ?_
 refine ah<|
  ke (on rfl) (cO rfl (F.u rf) rfl) rfl F rfl (congrArg Value.bool (dw oL (by kernel_rfl))) fun _ F=>
  xA F rf rf rf fun _ F=>
  auV<|
  aiG _ _ ?_
 refine au0 (F.e 34 rfl) ?_;refine auU fun K43 aiu=>ah<|xA (v:=.bool false) F rf rf rf fun _ F=>auV<|aiu _ _ ?_
 refine wp_ret<|bL _ _ _ _ F rfl ?_;exact⟨rfl,M.below⟩
theorem Lv(w0:World)(s:ByteArray)(hs:dF s)(h:iK s=true):Calls Tryz.prog 318 #[.string s] w0 (fun(r:Ending) (w':World)=>r=.returned (.bool (true))∧auT w0.heap.size w0 w'):=by
 have h1:yw s=true:=(Bool.and_eq_true_iff.1 h).1;have h2:jY s=false:=by have:=(Bool.and_eq_true_iff.1 h).2;simpa using this
 have bL:=hr1 Tryz.prog Tryz.f318 (fun(r:Ending) (w':World)=>r=.returned (.bool (true))∧auT w0.heap.size w0 w') 10 2 rfl;refine en Tryz.func318 rfl Tryz.ntmps318 rfl (vs:=[.string s]) rfl fun _ F=>?_
 have M:=Mm.start w0;refine auU fun K1 gV=>ah<|xA (v:=.bool false) F rf rf rf fun _ F=>auV<|gV _ _ ?_
 refine auU fun K2 h_=>ah<|xM F rf rf rf fun _ F=>xC F M rf rf agW (args1 (F.u rf)) (QI _ s hs h1) fun _ _ F M=>xM F rf rf rf fun _ F=>kv (gn rfl rfl (F.g 5 rfl)) (cQ rfl (F.u rf)) rfl F rfl fun _ F=>kc (gn rfl rfl (F.g 5 rfl)) (fS rfl Tryz.func324 adP rfl (args1 (F.u rf))) (EO _ s h2) rfl F rfl M fun _ _ F M=>kv (gn rfl rfl (F.g 5 rfl)) (pq rfl (F.u rf)) rfl F rfl fun _ F=>ke (u:=.bool true) (on rfl) (tH rfl (F.u rf) (F.u rf) rfl) rfl F rfl rfl fun _ F=>xA F rf rf rf fun _ F=>auV<|h_ _ _ ?_
 refine wp_ret<|bL _ _ _ _ F rfl ?_;exact⟨rfl,M.below⟩
def tT(op:Int):Int:=if op=1 then 0 else if op=2 then 1 else if op=3 then 2 else if op=4 then 2 else if op=5 then 2 else if op=6 then 2 else if op=7 then 2 else -1
inductive eX:Nat→aq→Prop
 | name {d:Nat} {s:ByteArray}:iK s=true→dF s→eX (d+1) (.node 1 0 0 0 [s] ay.zero [])
 | not {d:Nat} {k:aq}:eX d k→eX (d+1) (.node 2 0 0 0 [] ay.zero [k])
 | bin {d:Nat} {op:Int} {k l:aq}:3≤op→op≤7→eX d k→eX d l→eX (d+1) (.node op 0 0 0 [] ay.zero [k,l])
theorem XL{op:Int}(h1:3≤op)(h2:op≤7):tT op=2:=by
 unfold tT;rcases(show op=3∨op=4∨op=5∨op=6∨op=7 by omega) with rfl|rfl|rfl|rfl|rfl<;>rfl
structure xQ (d:Nat) (e:aq):Prop where
 a:e.a=0
 rel:e.rel=0
 b:e.b=0
 set:e.set=ay.zero
 kids:(e.kids.length:Int)=tT e.op
 nm:tT e.op=0→∃ s,e.names=[s]∧iK s=true∧dF s
 nn:tT e.op≠0→e.names=[]
 Zk:∀ k∈e.kids,∃ c,d=c+1∧eX c k
 pos:1≤d
 op1:tT e.op=0↔e.op=1
theorem eX.facts{d:Nat}{e:aq}(h:eX d e):xQ d e:=by
 cases h with
 | name h1 h2=>exact⟨rfl,rfl,rfl,rfl,rfl,fun _=>⟨_,rfl,h1,h2⟩,fun h=>absurd rfl h,fun _ h=>(by cases h),(by omega),⟨fun _=>rfl,fun _=>rfl⟩⟩
 | not h1=>exact⟨rfl,rfl,rfl,rfl,rfl,fun h=>(by cases h),fun _=>rfl,fun k hk=>⟨_,rfl,(by rw[auJ.1 hk];exact h1)⟩,(by omega),⟨fun h=>(by cases h),fun h=>(by cases h)⟩⟩
 | @bin d op k l h1 h2 h3 h4=>
  have ho:=XL h1 h2;refine⟨rfl,rfl,rfl,rfl,by rw[show(aq.node op 0 0 0 [] ay.zero [k,l]).op=op from rfl,ho];rfl,fun h=>?_,fun _=>rfl,fun x hx=>⟨_,rfl,?_⟩,by omega,?_⟩
  ·rw[show(aq.node op 0 0 0 [] ay.zero [k,l]).op=op from rfl,ho]at h;cases h
  ·rcases au4.1 hx with hx|hx
   ·rw[hx];exact h3
   ·rw[auJ.1 hx];exact h4
  ·rw[show(aq.node op 0 0 0 [] ay.zero [k,l]).op=op from rfl,ho];exact⟨fun h=>(by cases h),fun h=>by omega⟩
mutual
def bh:aq→List ByteArray
 | .node _ _ _ _ names _ kids=>names++bG kids
def bG:List aq→List ByteArray
 | []=>[]
 | k::l=>bh k++bG l
end
theorem dR(e:aq):bh e=e.names++bG e.kids:=by cases e;rw[bh];rfl
def eM(e:aq)(m:Nat):List ByteArray:=e.names++bG (e.kids.take m)
theorem qv:∀ a b:List aq,bG (a++b)=bG a++bG b
 | [],b=>by rw[bG];rfl
 | k::a,b=>by rw[List.cons_append,bG,bG,qv a b,List.append_assoc]
theorem Bc{e:aq}{m:Nat}{y:aq}(hy:e.kids[m]?=some y):eM e (m+1)=eM e m++bh y:=by
 unfold eM;rw[List.take_add_one,hy,qv,Option.toList_some,bG,bG,List.append_nil,List.append_assoc]
theorem QH{e:aq}:eM e e.kids.length=bh e:=by unfold eM;rw[au9,dR]
theorem QG(e:aq):e.names.length≤(bh e).length:=by rw[dR,auQ];omega
theorem Mq{e:aq}{m:Nat}{y:aq}(hy:e.kids[m]?=some y):(eM e m).length+(bh y).length≤(bh e).length:=by
 have h1:=Bc hy;have h2:=congrArg List.length h1;rw[auQ]at h2;have h3:bG e.kids=bG (e.kids.take (m+1))++bG (e.kids.drop (m+1)):=by rw[← qv,List.take_append_drop]
 have h4:=congrArg List.length (dR e);rw[h3]at h4;unfold eM at h2 ⊢;simp only[auQ]at h2 h4 ⊢;omega
theorem aaV{e:aq}{m n k t:Nat}{y:aq}{v:Value}{xs:List Value}{rs:List Rw}(hy:e.kids[m]?=some y):(⟨v,t,k,n+(eM e m).length+(bh y).length,(xs++(eM e m).flatMap aW)++(bh y).flatMap aW⟩::rs:List Rw)=⟨v,t,k,n+(eM e (m+1)).length,xs++(eM e (m+1)).flatMap aW⟩::rs:=by
 rw[Bc hy,auQ,auR,List.append_assoc,Nat.add_assoc]
theorem XQ{e:aq}{n k t:Nat}{v:Value}{xs:List Value}{rs:List Rw}:(⟨v,t,k,n+e.names.length,xs++e.names.flatMap aW⟩::rs:List Rw)=⟨v,t,k,n+(eM e 0).length,xs++(eM e 0).flatMap aW⟩::rs:=by
 have h:eM e 0=e.names:=by unfold eM;rw[List.take_zero,bG,List.append_nil]
 rw[h]
theorem Wl(w0:World)(op:Int):Calls Tryz.prog 317 #[.int .i64 op] w0 (fun(r:Ending) (w':World)=>r=.returned (.int .i64 (tT op))∧auT w0.heap.size w0 w'):=by
 exact cL [] (fn:=Tryz.f317) Tryz.func317 rfl Tryz.ntmps317 rfl<|an (fun a1=>fun M=>⟨ri (by simp_all [tT]),M.below⟩) fun a1=>an (fun a2=>fun M=>⟨ri (by simp_all [tT]),M.below⟩) fun a2=>an (fun a3=>an (fun b3=>fun M=>⟨ri (by simp_all [tT]),M.below⟩) fun b3=>fun M=>⟨ri (by simp_all []),M.below⟩) fun a3=>an (fun a4=>an (fun b4=>fun M=>⟨ri (by simp_all [tT]),M.below⟩) fun b4=>fun M=>⟨ri (by simp_all []),M.below⟩) fun a4=>an (fun a5=>an (fun b5=>fun M=>⟨ri (by simp_all [tT]),M.below⟩) fun b5=>fun M=>⟨ri (by simp_all []),M.below⟩) fun a5=>an (fun a6=>an (fun b6=>fun M=>⟨ri (by simp_all [tT]),M.below⟩) fun b6=>fun M=>⟨ri (by simp_all []),M.below⟩) fun a6=>an (fun a7=>fun M=>⟨ri (by simp_all [tT]),M.below⟩) fun a7=>fun M=>⟨ri (by simp_all [tT]),M.below⟩
theorem Ul(w0:World)(cs:List Value)(e:aq)(d:Nat)(hE:bf w0 cs e)(hB:eX d e)(lv:Nat)(hlv:lv≤12):Calls Tryz.prog 306 #[.agg cs.toArray,.int .i64 (lv:Int)] w0 (fun(r:Ending) (w':World)=>r=.returned (.int .i64 (0))∧auT w0.heap.size w0 w'):=by
 have hb:=hB.facts;have hko:=hb.kids;obtain⟨_,_,rfl,hnn,hkk⟩:=hE.open;obtain⟨_,_,rfl,-⟩:=aF.get hnn;obtain⟨_,_,rfl,-⟩:=au.form hkk (by decide);refine cL [] (fn:=Tryz.f306) Tryz.func306 rfl Tryz.ntmps306 rfl<|fun g1 w1 M1=>lb 0<|an rfl<|cl<|an (Wl _ e.op) fun w2 M2=>?_
 refine an (fun hz=>?_) fun hz=>?_
 all_goals
  refine an (fun h=>?_) fun h=>?_
  ·exact absurd h (by simp;omega)
  refine lb 0<|an (fun _=>rfl)<|lb 0<|an (fun _=>rfl)<|lb 0<|an (fun _=>rfl)<|lb 0<|an (fun _=>rfl)<|ei (x:=.agg #[.int .u64 0,.int .u64 0,.int .u64 0,.int .u64 0])<|an (fun _=>bd (by kernel_rfl))<|ei (x:=decide (e.set=ay.zero))<|an (fun _=>⟨xg,fun w=>uQ e.set ay.zero w⟩)<|lb 0<|an (fun _=>rfl)<|lb 0<|an (fun _=>rfl)<|?_
 ·obtain⟨sn,zR,hsI,hsO⟩:=hb.nm (of_decide_eq_true hz);have hnl:e.names.length=1:=by rw[zR];rfl
  refine an (fun h2=>?_) fun h2=>?_
  ·exfalso;simp[hb.a,hb.b,hb.rel,hb.set,hnl,← hko]at h2;try omega
  obtain⟨b,o,e1,hc⟩:=SliceAt.elt (i:=0) hnn (fun _=>rfl) (by decide) (show e.names[0]?=some sn by rw[zR];rfl) (show 0<e.names.length by omega);refine lb 0<|an (fun _=>rfl)<|ia<|an (fun _=>⟨e1,rfl,show 0<e.names.length by omega⟩)<|lc (x:=.string sn)<|an (fun _=>cF M2.below hc 0 _ rfl)<|cl<|an (fun _=>Lv _ sn hsO hsI) fun w3 M3=>?_
  exact an (fun h=>by simp at h) fun h M=>⟨rfl,M.below⟩
 ·have hz:tT e.op≠0:=of_decide_eq_false hz;have hnl:e.names.length=0:=by rw[hb.nn hz];rfl
  refine an (fun h2=>?_) fun h2=>?_
  ·exfalso;simp[hb.a,hb.b,hb.rel,hb.set,hnl,← hko]at h2;try omega
  refine lb 0<|an (fun _=>rfl)<|ia (b:=0) (off:=0) (i:=0)<|an (fun h=>absurd (of_decide_eq_true h) hz)<|lc (x:=.string ByteArray.empty)<|an (fun h=>absurd (of_decide_eq_true h) hz)<|cl (v:=.bool true)<|an (fun h=>absurd (of_decide_eq_true h) hz) fun w3 M3=>?_
  exact an (fun h=>by simp at h) fun h M=>⟨rfl,M.below⟩
theorem Nz:∀ (e:aq) (w0:World) (cs:List Value) (d lv:Nat),bf w0 cs e→eX d e→lv+d≤13→Calls Tryz.prog 295 #[.agg cs.toArray,.int .i64 (lv:Int)] w0 (fun(r:Ending) (w':World)=>r=.returned (.int .i64 (0))∧auT w0.heap.size w0 w'):=by
 refine aq.ind fun e ih=>?_
 intro w0 cs d lv hE hB hlv;have hb:=hB.facts;have hE0:=hE;obtain⟨_,_,rfl,hnn,hkk⟩:=hE0.open;obtain⟨_,_,rfl,-⟩:=aF.get hnn;obtain⟨_,_,rfl,-,hkm,-⟩:=au.form hkk (by decide);refine cL [] (fn:=Tryz.f295) Tryz.func295 rfl Tryz.ntmps295 rfl<|fun g1 w1 M1=>lb 0<|an rfl<|cl<|an (Ul _ _ e d (hE.keep M1.below) hB lv (by have:=hb.pos;omega)) fun w2 M2=>?_
 refine an (fun h=>by simp at h) fun _=>?_
 refine lb 0<|an rfl<|lr (ι:=Nat) (fun m=>[(18,.int .i64 (m:Int))]) (fun m _=>m≤e.kids.length) (fun m=>e.kids.length-m) 0 (an ⟨⟨rfl,trivial⟩,fun M=>⟨M,auX _⟩⟩ ?_);intro m w M hm;refine an (fun h=>?_) fun h M=>⟨rfl,M.below⟩
 have hlt:m<e.kids.length:=by simp at h;omega
 obtain⟨y,hy⟩:∃ y,e.kids[m]?=some y:=⟨_,auZ hlt⟩;have qz:=auL hy;obtain⟨b,o,_,e1,qF,hc⟩:=au.elt hkk (by decide) hy;obtain⟨_,_,rfl,hn2,hk2⟩:=qF.open;obtain⟨_,_,rfl,-⟩:=aF.get hn2;obtain⟨_,_,rfl,-⟩:=au.form hk2 (by decide);obtain⟨c,rfl,ZG⟩:=hb.Zk y qz;refine ia<|an ⟨e1,rfl,hlt⟩<|lc<|an (cF M.below hc)<|ei<|an rM fun g2 w3 M3=>lb 0<|an ⟨rfl,rfl⟩ fun w4 M4=>lb 0<|an rfl<|an (by omega)<|cl<|an (ih y qz _ _ c (lv+1) (qF.keep M4.below) ZG (by omega)) fun w5 M5=>?_
 exact an (fun h=>by simp at h) fun _=>an (by omega)<|bk (m+1) ⟨rfl,trivial⟩ (fun M=>⟨M.only (.cons _ (.refl _)) (.refl _),by omega⟩) (by dsimp only;omega)
theorem NA(w0:World)(cs:List Value)(e:aq)(d:Nat)(hE:bf w0 cs e)(hB:eX d e)(hd:d≤12):Calls Tryz.prog 267 #[.agg cs.toArray] w0 (fun(r:Ending) (w':World)=>r=.returned (.int .i64 (0))∧auT w0.heap.size w0 w'):=by
 have hE0:=hE;obtain⟨_,_,rfl,hnn,hkk⟩:=hE0.open;obtain⟨pa9,pc9,rfl,hnk,hnm,abh⟩:=SliceAt.form hnn (by decide);obtain⟨qa,qc,rfl,hkc,hkm,hcell⟩:=au.form hkk (by decide);have bL:=hr1 Tryz.prog Tryz.f267 (fun(r:Ending) (w':World)=>r=.returned (.int .i64 (0))∧auT w0.heap.size w0 w') 5 2 rfl;refine en Tryz.func267 rfl Tryz.ntmps267 rfl (vs:=[.agg #[.int .i64 e.op,.int .i64 e.a,.int .i64 e.rel,.int .i64 e.b,.slice pa9 e.names.length pc9,.int .u64 e.set.a,.int .u64 e.set.b,.int .u64 e.set.c,.int .u64 e.set.d,.slice qa e.kids.length qc]]) rfl fun _ F=>?_
 have M:=Mm.start w0;refine auU fun K1 gV=>ah<|Hf (on rfl) rfl (F.u rf) rfl F rfl M fun g1 _ _ F M=>xA (v:=.int .i64 0) F rf rf rf fun _ F=>auV<|gV _ _ ?_
 refine auU fun K2 h_=>ah<|xW F (M.b 0 rfl) rf rf rf Oh rf rO rf fun _ F=>
  xC F M rf rf agX (args2 (F.u rf) rfl) (Nz e _ _ d 1 (hE.keep M.below) hB (by omega)) fun _ _ F M=>
  xA F rf rf rf fun _ F=>
  auV<|
  h_ _ _ ?_
 refine wp_ret<|bL _ _ _ _ F rfl ?_;exact⟨rfl,M.below⟩
theorem Ka:∀ (e:aq) (wa w0:World) (bs:List Bx) (rs:List Rw) (d:Nat) (v:Value) (n:Nat) (xs:List Value) (cs:List Value),Mm wa w0 bs (⟨v,9,1,n,xs⟩::rs)→bf wa cs e→eX d e→n+(bh e).length≤100000→Calls Tryz.prog 268 #[v,.agg cs.toArray] w0 (fun(r:Ending) (w':World)=>∃ v',r=.returned v'∧Mm wa w' bs (⟨v',9,1,n+(bh e).length,xs++(bh e).flatMap aW⟩::rs)):=by
 refine aq.ind fun e ih=>?_
 intro wa w0 bs rs d v n xs cs hM hE hB hlen;have hb:=hB.facts;have hko:=hb.kids;obtain⟨_,_,rfl,hnn,hkk⟩:=hE.open;obtain⟨pa9,pc9,rfl,hnk,hnm,-⟩:=SliceAt.form hnn (by decide);obtain⟨qa,qc,rfl,hkc,hkm,hcell⟩:=au.form hkk (by decide);have hnE:=QG e;have bL:=hr1 Tryz.prog Tryz.f268 (fun(r:Ending) (w':World)=>∃ v',r=.returned v'∧Mm wa w' bs (⟨v',9,1,n+(bh e).length,xs++(bh e).flatMap aW⟩::rs)) 23 4 rfl;refine en Tryz.func268 rfl Tryz.ntmps268 rfl (vs:=[v,.agg #[.int .i64 e.op,.int .i64 e.a,.int .i64 e.rel,.int .i64 e.b,.slice pa9 e.names.length pc9,.int .u64 e.set.a,.int .u64 e.set.b,.int .u64 e.set.c,.int .u64 e.set.d,.slice qa e.kids.length qc]]) rfl fun _ F=>?_
 have M:=hM;refine auU fun K1 gV=>ah<|Hf (on rfl) rfl (F.u rf) rfl F rfl M fun g1 _ _ F M=>xA (v:=.slice none 0 0) F rf rf rf fun _ F=>auV<|gV _ _ ?_
 refine auU fun K2 h_=>ah<|xM F rf rf rf fun _ F=>xF 4 F rf rf rf Oh rf agQ rf fun _ F=>xL F (M.b 0 rfl) rf rf rf u28 rf rf fun _ F=>
  kp (on rfl) rfl u28 ahp rfl M 0 rfl (F.u rf) (F.u rf) (SliceAt.keep hnn M.below) ⟨by unfold maxLen;omega,by omega⟩ rfl F rfl fun v2 _ _ F M=>
  xA F rf rf rf fun _ F=>
  auV<|
  h_ _ _ ?_
 refine auU fun K3 nh=>auU fun K4 n_=>ah<|xF 9 F rf rf rf Oh rf TA rf fun _ F=>xL F (M.b 0 rfl) rf rf rf Tm rf rf fun _ F=>kz F rf (fQ rfl (F.u rf) Tm) fun _ F=>xM (v:=.int .i64 0) F rf rf rf fun _ F=>auV<|n_ _ _ ?_
 refine auW<|?_;refine eH (ι:=Nat×Value) (fun|(m,v2),a,w=>Fs a 23 [(0,v2),(12,.slice qa e.kids.length qc),(13,.int .i64 (e.kids.length:Int)),(14,.int .i64 (m:Int))]∧Mm wa w ([]++bs) ([⟨v2,9,1,n+(eM e m).length,xs++(eM e m).flatMap aW⟩]++rs)∧m≤e.kids.length) (fun|(m,v2)=>e.kids.length-m) (0,v2) ⟨F.sub ⟨rfl,rfl,rfl,rfl,trivial⟩,((M.only (List.sublist_cons_self _ _) (List.Sublist.refl _):Mm wa _ bs _).cast rfl (XQ)),auX _⟩ ?_
 (repeat clear F);(repeat clear M)
 rintro⟨m,v2⟩ _ _ ⟨F,M,hm⟩;refine auU fun K5 nZ=>ah<|kz F rf (jf rfl (F.u rf) (F.u rf)) fun _ F=>auV<|nZ _ _ ?_
 refine auU fun K6 pN=>?_
 refine auY (F.e 15 rfl) (fun hc3=>?_) (fun hc3=>?_)
 ·have Vf:=of_decide_eq_true hc3;refine wp_skip<|pN _ _ ?_;refine auU fun K7 rR=>auW<|auU fun K8 wX=>?_
  have hlty:m<e.kids.length:=by omega
  obtain⟨y,hy⟩:∃ y,e.kids[m]?=some y:=⟨_,auZ hlty⟩;have qz:=auL hy;obtain⟨b9,o9,cs9,rfl,qF,-,hr9⟩:=hcell m y hy;obtain⟨_,_,rfl,ahP,hkky⟩:=qF.open;obtain⟨nay,nky,rfl,-⟩:=SliceAt.form ahP (by decide);obtain⟨kay,kky,rfl,-⟩:=au.form hkky (by decide);obtain⟨c,hdc,ZG⟩:=hb.Zk y qz
  refine ah<|
   kz F rf (bE (i:=m) rfl (F.u rf) (F.u rf) (by omega) Tm rO) fun _ F=>
   kz F rf (gW [.int .i64 y.op,.int .i64 y.a,.int .i64 y.rel,.int .i64 y.b,.slice nay y.names.length nky,.int .u64 y.set.a,.int .u64 y.set.b,.int .u64 y.set.c,.int .u64 y.set.d,.slice kay y.kids.length kky] rfl (F.u rf) Oh rfl rO (cF M.below hr9)) fun _ F=>
   Jh (on rfl) rfl rM rfl F rfl M fun g5 _ _ F M=>
   KG (on rfl) rfl (F.u rf) (F.u rf) F M 0 rfl rO rfl rfl rfl fun _ M=>
   auV<|
   wX _ _ ?_
  have aom:=Mq hy;refine ah<|xM F rf rf rf fun _ F=>xW F (M.b 0 rfl) rf rf rf Oh rf rO rf fun _ F=>kt (on rfl) (fS rfl Tryz.func268 Zc rfl (args2 (F.u rf) (F.u rf))) (ih y qz wa _ _ _ c _ _ _ _ M qF ZG (by omega)) rfl F rfl fun v9 _ w9 hR F=>?_
  have M:=hR;refine xA F rf rf rf fun _ F=>auV<|rR _ _ ?_
  refine ah<|
   ke (on rfl) (eV rfl (F.u rf) rfl) rfl F rfl (congrArg (Value.int .i64) (wrap_i64 (by omega))) fun _ F=>
   xM F rf rf rf fun _ F=>
   auV<|?_
  exact⟨(m+1,v9),⟨F.sub ⟨rfl,rfl,rfl,rfl,trivial⟩,((M.only (List.Sublist.append (.cons _ .slnil) (List.Sublist.refl _)) (List.Sublist.refl _))).cast rfl (aaV hy),by omega⟩,by show e.kids.length-(m+1)<e.kids.length-m;omega⟩
 ·have hd6:=of_decide_eq_false hc3;refine wp_exit<|nh _ _ ?_;refine auU fun K9 yD=>ah<|xM F rf rf rf fun _ F=>xA F rf rf rf fun _ F=>auV<|yD _ _ ?_
  refine wp_ret<|bL _ _ _ _ F rfl ?_;obtain rfl:m=e.kids.length:=by omega
  rw[QH]at M;exact⟨_,rfl,M.only (show List.Sublist bs _ from List.sublist_append_right _ _) (List.Sublist.refl _)⟩
def gj(w:World)(v:Value)(s:List Bool):Prop:=SliceAt w v 1 s.length (s.map Value.bool)
theorem gj.keep{w w':World}{v:Value}{s:List Bool}(h:gj w v s)(hb:auT w.heap.size w w'):gj w' v s:=SliceAt.keep h hb
theorem zW{w:World}{B:Nat}{v:Value}{s:List Bool}{n:Nat}{xs:List Value}(h:w.ownsRow B 4 1 v n xs)(hn:n=s.length)(hx:xs=s.map Value.bool):gj w v s:=by
 subst hn hx;exact SliceAt.bF h fun u hu=>by obtain⟨b,-,rfl⟩:=auH.1 hu;rfl
def WW(s:List Bool)(n:Int):Bool:=decide (0≤n)&&(s[n.toNat]?).getD false
theorem Kp(w0:World)(v:Value)(s:List Bool)(n:Int)(h:gj w0 v s):Calls Tryz.prog 276 #[v,.int .i64 n] w0 fun r w'=>r=.returned (.bool (WW s n))∧auT w0.heap.size w0 w':=by
 obtain⟨la,lk,rfl,hk,hm,hcell⟩:=SliceAt.form h (by decide);by_cases hin:0≤n∧n<s.length
 ·obtain⟨i,rfl⟩:∃ i:Nat,n=i:=⟨n.toNat,by omega⟩;have hi:i<s.length:=by omega
  obtain⟨b,off,rfl,hc⟩:=hcell i hi;refine cL [] (fn:=Tryz.f276) Tryz.func276 rfl Tryz.ntmps276 rfl (ia (an (fun _=>⟨rfl,rfl,hi⟩) (lc (x:=.bool s[i]) (an (fun _=>hc 0 (.bool s[i]) (by simp[hi])) fun M=>⟨?_,M.below⟩))));simp[mE,WW,hi]
 ·refine cL [] (fn:=Tryz.f276) Tryz.func276 rfl Tryz.ntmps276 rfl (ia (b:=0) (off:=0) (i:=0) (an (fun h=>by simp at h;omega) (lc (x:=.bool false) (an (fun h=>by simp at h;omega) fun M=>⟨?_,M.below⟩))))
  have:WW s n=false:=by
   unfold WW;by_cases h0:0≤n
   ·rw[List.getElem?_eq_none (by omega)];simp
   ·simp[h0]
  simp[mE,this]
def zi(n:Nat)(s:List Bool):List Bool:=(List.range n).map fun(i:Nat)=>WW s (i:Int)
theorem RA(w0:World)(c0 c1 c2 c3 c4 c5 c6 c7 c8 c9 aV aP aO aU aT aS aR v:Value)(p:aC)(s:List Bool)(hp:aM w0 c0 c1 c2 c3 c4 c5 c6 c7 c8 c9 aV aP aO aU aT aS aR p)(hs:gj w0 v s)(hb:p.bools.length≤1000):
 Calls Tryz.prog 294 #[.agg #[c0,c1,c2,c3,c4,c5,c6,c7,c8,c9,aV,aP,aO,aU,aT,aS,aR],v] w0 fun r w'=>∃ u,r=.returned u∧(w'.ownsRow w0.heap.size 4 1 u p.bools.length ((zi p.bools.length s).map Value.bool)∧auT w0.heap.size w0 w'):=by
 obtain⟨g_,gZ,rfl,-⟩:=SliceAt.form hp.bools (by decide)
 refine cL [] (fn:=Tryz.f294) Tryz.func294 rfl Tryz.ntmps294 rfl fun g w1 M1=>lq (ι:=Nat×Value) (fun(m,u)=>[(5,u),(6,.int .i64 (m:Int))]) (fun(m,u)=>[⟨u,4,1,m,(zi m s).map Value.bool⟩]) (fun(m,u) _=>m≤p.bools.length) (fun(m,u)=>p.bools.length-m) (0,.slice none 0 0)
  (an ⟨⟨rfl,rfl,trivial⟩,fun M=>⟨M.bC 4 1,auX _⟩⟩ ?_)
 rintro⟨m,u⟩ w M hm;refine lb 0 (an rfl (an (fun h=>?_) fun h M=>?_))
 ·simp only[decide_eq_true_eq]at h;refine cl (an (Kp w _ s m (hs.keep M.below)) fun w2 M=>fun g2 w3 M=>ap 0 id rfl (M.slice 0 rfl rfl rfl (by simp[maxLen])) ⟨by unfold maxLen;omega,by omega⟩ fun v2 w4 M=>an (by omega) (bk (m+1,v2) ⟨rfl,rfl,trivial⟩ (fun M=>⟨(M.only (.cons _ (.refl _)) (.refl _)).cast rfl (by simp[zi,List.range_succ]),by omega⟩) (by simp;omega)))
 ·simp only[decide_eq_false_iff_not]at h;obtain rfl:m=p.bools.length:=by omega
  exact⟨_,rfl,M.r 0 rfl,M.below⟩
def k_(s:List Bool)(op a:Int)(l:List Bool):Bool:=
 if op=1 then WW s a else if l.length=0 then false else if op=2 then !(l.getD 0 false) else if op=3 then l.getD 0 false&&l.getD 1 false else
  if op=4 then l.getD 0 false||l.getD 1 false else if op=6 then l.getD 0 false == l.getD 1 false else !(l.getD 0 false == l.getD 1 false)
mutual
def gu(s:List Bool):aq→Bool
 | .node op a _ _ _ _ kids=>k_ s op a (pT s kids)
def pT(s:List Bool):List aq→List Bool
 | []=>[]
 | k::l=>gu s k::pT s l
end
theorem nD(s:List Bool)(e:aq):gu s e=k_ s e.op e.a (pT s e.kids):=by cases e;rw[gu];rfl
theorem ny(s:List Bool):∀ l,pT s l=l.map (gu s)
 | []=>by rw[pT];rfl
 | k::l=>by rw[pT,ny s l];rfl
theorem pR:∀ e:aq,∀ (w0:World) (cs:List Value) (v:Value) (s:List Bool),bf w0 cs e→gj w0 v s→Calls Tryz.prog 239 #[.agg cs.toArray,v] w0 fun r w'=>r=.returned (.bool (gu s e))∧auT w0.heap.size w0 w':=by
 refine aq.ind fun e ih=>?_
 intro w0 cs v s h hs;obtain⟨nv,kv,rfl,C9,hk⟩:=h.open;obtain⟨ka,kc,rfl,hc,CP,hcell⟩:=hk.form (by decide);refine cL [] (fn:=Tryz.f239) Tryz.func239 rfl Tryz.ntmps239 rfl fun g w1 M1=>lb 0 (an rfl (an (fun h1=>lb 0 (an rfl (cl (an (Kp _ _ s e.a (hs.keep M1.below)) fun w2 M=>fun M=>⟨?_,M.below⟩)))) fun h1=>lb 0 (an rfl (an (fun h2 M=>⟨?_,M.below⟩) fun h2=>?_))))
 ·simp only[decide_eq_true_eq]at h1;rw[nD,k_,if_pos h1];rfl
 ·simp only[decide_eq_true_eq,decide_eq_false_iff_not]at h1 h2;rw[nD,k_,if_neg h1,ny,if_pos (by rw[auN];omega)];rfl
 simp only[decide_eq_false_iff_not]at h1 h2;obtain⟨y0,hy0⟩:∃ y,e.kids[0]?=some y:=⟨_,auZ (by omega)⟩;obtain⟨b0,o0,x0,hka,he0,-,hr0⟩:=hcell 0 y0 hy0;obtain⟨nv0,kv0,rfl,-⟩:=he0.open
 obtain⟨y1,IY,UG,H1⟩:∃ y1 IY UG,1<e.kids.length→e.kids[1]?=some y1∧bf w0 [.int .i64 y1.op,.int .i64 y1.a,.int .i64 y1.rel,.int .i64 y1.b,IY,.int .u64 y1.set.a,.int .u64 y1.set.b,.int .u64 y1.set.c,.int .u64 y1.set.d,UG] y1 ∧
  ∀ (j:Nat) (u:Value),[Value.int .i64 y1.op,.int .i64 y1.a,.int .i64 y1.rel,.int .i64 y1.b,IY,.int .u64 y1.set.a,.int .u64 y1.set.b,.int .u64 y1.set.c,.int .u64 y1.set.d,UG][j]?=some u→w0.cell? ⟨b0,o0+1*10+j,none⟩=some u:=by
  by_cases h3:1<e.kids.length
  ·obtain⟨y1,hy1⟩:∃ y,e.kids[1]?=some y:=⟨_,auZ h3⟩;obtain⟨b1,o1,x1,aeD,BD,-,hr1⟩:=hcell 1 y1 hy1;obtain⟨IY,UG,rfl,-⟩:=BD.open;rw[hka]at aeD;cases aeD;exact⟨y1,IY,UG,fun _=>⟨hy1,BD,hr1⟩⟩
  ·exact⟨y0,nv0,kv0,fun h=>absurd h h3⟩
 have hl0:(pT s e.kids).getD 0 false=gu s y0:=by rw[ny];simp[hy0]
 have hl1:(pT s e.kids).getD 1 false=(decide (1<(e.kids.length:Int))&&gu s y1):=by
  rw[ny];by_cases h3:1<e.kids.length
  ·have hd:decide (1<(e.kids.length:Int))=true:=by simp;omega
   rw[hd,ava,auO,(H1 h3).1];rfl
  ·have hd:decide (1<(e.kids.length:Int))=false:=by simp;omega
   rw[hd,ava,auO,List.getElem?_eq_none (Nat.le_of_not_lt h3)];rfl
 have hV:gu s e=if e.op=2 then !(gu s y0) else if e.op=3 then gu s y0&&(decide (1<(e.kids.length:Int))&&gu s y1) else
  if e.op=4 then gu s y0||(decide (1<(e.kids.length:Int))&&gu s y1) else if e.op=6 then gu s y0 == (decide (1<(e.kids.length:Int))&&gu s y1) else !(gu s y0 == (decide (1<(e.kids.length:Int))&&gu s y1)):=by
  rw[nD,k_,if_neg h1,hl0,hl1,if_neg (by rw[ny,auN];omega)]
 clear hl0 hl1;refine lb 0 (an rfl (ia (i:=0) (an ⟨hka,rfl,by omega⟩ (lc (an (cF M1.below hr0) (cl (an (ih y0 (auL hy0) _ _ _ s (bf.keep M1.below he0) (hs.keep M1.below)) fun w2 M2=>lb 0 (an rfl ?_))))))));have vG:decide (1<(e.kids.length:Int))=true→1<e.kids.length:=fun h=>by have:=of_decide_eq_true h;omega
 refine lb 0 (an (fun _=>rfl) (ia (i:=1) (an (fun h3=>⟨hka,rfl,vG h3⟩) (lc (an (fun h3=>cF M2.below (H1 (vG h3)).2.2) (cl (an (fun h3=>ih y1 (auL (H1 (vG h3)).1) _ _ _ s (bf.keep M2.below (H1 (vG h3)).2.1) (hs.keep M2.below)) fun w3 M3=>lb 0 (an rfl ?_))))))));rw[hV];clear hV H1;refine an (fun h2 M=>⟨?_,M.below⟩) fun h2=>lb 0 (an rfl (an (fun h3 M=>⟨?_,M.below⟩) fun h3=>lb 0 (an rfl (an (fun h4 M=>⟨?_,M.below⟩) fun h4=>lb 0 (an rfl (an (fun h5 M=>⟨?_,M.below⟩) fun h5 M=>⟨?_,M.below⟩))))))
 all_goals simp_all [mE]
theorem V_(w0:World)(c0 c1 c2 c3 c4 c5 c6 c7 c8 c9 aV aP aO aU aT aS aR v:Value)(p:aC)(s:List Bool)(hp:aM w0 c0 c1 c2 c3 c4 c5 c6 c7 c8 c9 aV aP aO aU aT aS aR p)(hs:gj w0 v s)(hb:p.bools.length≤1000):
 Calls Tryz.prog 294 #[.agg #[c0,c1,c2,c3,c4,c5,c6,c7,c8,c9,aV,aP,aO,aU,aT,aS,aR],v] w0 fun r w'=>∃ u,r=.returned u∧(gj w' u (zi p.bools.length s)∧auT w0.heap.size w0 w'):=
 (RA w0 c0 c1 c2 c3 c4 c5 c6 c7 c8 c9 aV aP aO aU aT aS aR v p s hp hs hb).mono fun _ _ ⟨u,h1,h2,h3⟩=>⟨u,h1,zW h2 (by simp[zi]) rfl,h3⟩
theorem wR(s:List Bool):eN (fun u w=>gj w u s):=fun _ _ _ h hb=>h.keep hb
def kD(n:Nat)(conds:List aq)(s:List Bool):List Bool:=conds.map (gu (zi n s))
theorem EM(w0:World)(c0 c1 c2 c3 c4 c5 c6 c7 c8 c9 aV aP aO aU aT aS aR v:Value)(p:aC)(s:List Bool)(hp:aM w0 c0 c1 c2 c3 c4 c5 c6 c7 c8 c9 aV aP aO aU aT aS aR p)(hs:gj w0 v s)(hb:p.bools.length≤1000)(hc:p.conds.length≤1000):
 Calls Tryz.prog 265 #[.agg #[c0,c1,c2,c3,c4,c5,c6,c7,c8,c9,aV,aP,aO,aU,aT,aS,aR],v] w0 fun r w'=>∃ u,r=.returned u∧(w'.ownsRow w0.heap.size 4 1 u p.conds.length ((kD p.bools.length p.conds s).map Value.bool)∧auT w0.heap.size w0 w'):=by
 obtain⟨la8,lk8,rfl,-,-,Fv⟩:=au.form hp.conds (by decide)
 refine cL [] (fn:=Tryz.f265) Tryz.func265 rfl Tryz.ntmps265 rfl fun g w1 M1=>lq (ι:=Nat×Value) (fun(m,u)=>[(5,u),(6,.int .i64 (m:Int))]) (fun(m,u)=>[⟨u,4,1,m,(kD p.bools.length (p.conds.take m) s).map Value.bool⟩]) (fun(m,u) _=>m≤p.conds.length) (fun(m,u)=>p.conds.length-m) (0,.slice none 0 0)
  (an ⟨⟨rfl,rfl,trivial⟩,fun M=>⟨M.bC 4 1,auX _⟩⟩ ?_)
 rintro⟨m,u⟩ w M hm;refine lb 0 (an rfl (an (fun h=>?_) fun h M=>?_))
 ·simp only[decide_eq_true_eq]at h;obtain⟨y,hy⟩:∃ y,p.conds[m]?=some y:=⟨_,auZ (by omega)⟩;obtain⟨b0,o0,x0,rfl,he,-,hr⟩:=Fv m y hy;obtain⟨nv0,kv0,rfl,-⟩:=he.open;refine dr (by kernel_rfl)<|lb 0<|an rfl<|ia<|an ⟨rfl,rfl,by omega⟩<|lc<|an (cF M.below hr)<|lb 0<|an rfl<|cr (fun u w=>gj w u (zi p.bools.length s))<|an (wR _)<|an (fun w' hb' M'=>V_ _ _ _ _ _ _ _ _ _ _ _ _ _ _ _ _ _ _ _ p s (hp.keep M'.below) (hs.keep M'.below) hb)<|cu<|an (fun u _ w' hb' M' hR=>pR y _ _ _ _ (bf.keep M'.below he) hR) ?_;refine bl fun g2 w2 hb2 M=>ap 0 id rfl (M.slice 0 rfl rfl rfl (by simp[maxLen])) ⟨by unfold maxLen;omega,by omega⟩ fun v2 w4 M=>an (by omega) (bk (m+1,v2) ⟨rfl,rfl,trivial⟩ (fun M=>⟨(M.only (.cons _ (.refl _)) (.refl _)).cast rfl (by simp[kD,List.take_add_one,hy]),by omega⟩) (by simp;omega))
 ·simp only[decide_eq_false_iff_not]at h;obtain rfl:m=p.conds.length:=by omega
  exact⟨_,rfl,by have h1:=M.r 0 rfl;simp only[au9]at h1;exact h1,M.below⟩
def lF(n:Nat)(conds:List aq)(s:List Bool)(k:Int):Bool:=
 if 0<k∧k≤conds.length then ((kD n conds s)[(k-1).toNat]?).getD false else if k<0∧0-(conds.length:Int)≤k then !((kD n conds s)[(0-k-1).toNat]?).getD false else decide (k=0)
theorem vh(w0:World)(c0 c1 c2 c3 c4 c5 c6 c7 c8 c9 aV aP aO aU aT aS aR v:Value)(p:aC)(s:List Bool)(k:Int)(hp:aM w0 c0 c1 c2 c3 c4 c5 c6 c7 c8 c9 aV aP aO aU aT aS aR p)(hs:gj w0 v s)(hb:p.bools.length≤1000)(hc:p.conds.length≤1000)(hk:iR k):
 Calls Tryz.prog 211 #[.agg #[c0,c1,c2,c3,c4,c5,c6,c7,c8,c9,aV,aP,aO,aU,aT,aS,aR],v,.int .i64 k] w0 fun r w'=>r=.returned (.bool (lF p.bools.length p.conds s k))∧auT w0.heap.size w0 w':=by
 have hk1:=hk.1;have hk2:=hk.2;refine cL [] (fn:=Tryz.f211) Tryz.func211 rfl Tryz.ntmps211 rfl fun g w1 M1=>lb 0 (an rfl (cw M1 (EM _ _ _ _ _ _ _ _ _ _ _ _ _ _ _ _ _ _ _ p s (hp.keep M1.below) (hs.keep M1.below) hb hc) fun u w2 M2=>?_))
 have hrow:=M2.r 0 rfl;have hu:gj w2 u (kD p.bools.length p.conds s):=zW hrow (by simp[kD]) rfl;obtain⟨la,lk,rfl,-,-,hcell⟩:=SliceAt.form hu (by decide);have hlen:(kD p.bools.length p.conds s).length=p.conds.length:=by simp[kD]
 rw[hlen]at hcell;have hL:((kD p.bools.length p.conds s).map Value.bool).length=p.conds.length:=by simp[hlen]
 refine an (fun h=>?_) fun h=>?_
 ·simp only[au_,decide_eq_true_eq,hlen]at h;obtain⟨b,off,rfl,hc'⟩:=hcell (k-1).toNat (by omega);have hlt:(k-1).toNat<(kD p.bools.length p.conds s).length:=by rw[hlen];omega
  refine an (by omega)<|ia (i:=(k-1).toNat)<|an ⟨rfl,by omega,by omega⟩<|lc (x:=.bool (kD p.bools.length p.conds s)[(k-1).toNat])<|an (hc' 0 _ (by simp)) fun M=>⟨?_,M.below⟩
  unfold lF;rw[if_pos h,auZ hlt];rfl
 ·refine an (by omega)<|an (fun h2=>?_) fun h2 M=>⟨?_,M.below⟩
  ·simp only[au_,decide_eq_true_eq,hlen]at h2;simp only[Bool.and_eq_false_iff,decide_eq_false_iff_not,hlen]at h;obtain⟨b,off,rfl,hc'⟩:=hcell (0-k-1).toNat (by omega);have hlt:(0-k-1).toNat<(kD p.bools.length p.conds s).length:=by rw[hlen];omega
   refine an (by omega)<|an (by omega)<|ia (i:=(0-k-1).toNat)<|an ⟨rfl,by omega,by omega⟩<|lc (x:=.bool (kD p.bools.length p.conds s)[(0-k-1).toNat])<|an (hc' 0 _ (by simp)) fun M=>⟨?_,M.below⟩
   unfold lF;rw[if_neg (by omega),if_pos h2,auZ hlt];rfl
  ·simp only[Bool.and_eq_false_iff,decide_eq_false_iff_not,hlen]at h h2;unfold lF;rw[if_neg (by omega),if_neg (by omega)];rfl
theorem FU{P:Program}{a:Act}{w:World}{o:Oper}{ss tt:TypeId}{x:Operand}{m:Nat}(ho:o.op=.convert ss tt x)(hx:a.eval x=.int .i64 (m:Int))(hs:P.underlying ss=some (.int .i64))(ht:P.underlying tt=some (.int .u64))(hm:m<18446744073709551616):(execOp a.eval o).run P w=.ok (.value (.int .u64 (m:Int))) w:=by
 have hw:IntKind.u64.wrap (m:Int)=(m:Int):=by simp only[IntKind.wrap,IntKind.bits,IntKind.signed];simp;omega
 unfold execOp;have uo:∀ {t:TypeId} {d:TypeDesc},P.underlying t=some d→(underlying t).run P w=.ok d w:=fun h=>run_underlying h w
 simp[ho,hx,convert,Sem.run_bind,Sem.run_pure,uo hs,uo ht,Conv.intToInt,hw]
theorem Pz(q:Nat):IntKind.i64.wrap (((BitVec.ofInt 64 (q:Int))&&&BitVec.ofInt 64 1).toNat:Int)=((q%2:Nat):Int):=by
 have h:((BitVec.ofInt 64 (q:Int))&&&BitVec.ofInt 64 1).toNat=q%2:=by
  rw[BitVec.toNat_and,BitVec.ofInt_natCast,BitVec.toNat_ofNat];show q%2^64&&&1=_;rw[Nat.and_one_is_mod];omega
 rw[h];have:q%2<2:=Nat.mod_lt _ (by decide);simp only[IntKind.wrap,IntKind.bits,IntKind.signed];simp;omega
def nQ(n r:Nat):List Bool:=(List.range n).map fun i=>r.testBit i
theorem A9(w0:World)(c0 c1 c2 c3 c4 c5 c6 c7 c8 c9 aV aP aO aU aT aS aR:Value)(p:aC)(r:Nat)(hp:aM w0 c0 c1 c2 c3 c4 c5 c6 c7 c8 c9 aV aP aO aU aT aS aR p)(hb:p.bools.length≤60):
 Calls Tryz.prog 134 #[.agg #[c0,c1,c2,c3,c4,c5,c6,c7,c8,c9,aV,aP,aO,aU,aT,aS,aR],.int .i64 (r:Int)] w0 fun x w'=>∃ u,x=.returned u∧(w'.ownsRow w0.heap.size 4 1 u p.bools.length ((nQ p.bools.length r).map Value.bool)∧auT w0.heap.size w0 w'):=by
 obtain⟨g_,gZ,rfl,-⟩:=SliceAt.form hp.bools (by decide)
 refine cL [] (fn:=Tryz.f134) Tryz.func134 rfl Tryz.ntmps134 rfl fun g w1 M1=>lq (ι:=Nat×Value) (fun(m,u)=>[(5,u),(6,.int .i64 (m:Int))]) (fun(m,u)=>[⟨u,4,1,m,(nQ m r).map Value.bool⟩]) (fun(m,u) _=>m≤p.bools.length) (fun(m,u)=>p.bools.length-m) (0,.slice none 0 0)
  (an ⟨⟨rfl,rfl,trivial⟩,fun M=>⟨M.bC 4 1,auX _⟩⟩ ?_)
 rintro⟨m,u⟩ w M hm;refine lb 0 (an rfl (an (fun h=>?_) fun h M=>?_))
 ·simp only[decide_eq_true_eq]at h;have hq:((r:Int)/2^m)=((r/2^m:Nat):Int):=by simp
  refine ei<|an (fun a w o ho hv=>FU ho (kB hv) u3 Xh (by omega))<|ei (x:=.int .i64 ((r/2^m:Nat):Int))<|an (fun a w o ho hv=>?_)<|ei<|an (Pz _) fun g2 w3 M=>ap 0 id rfl (M.slice 0 rfl rfl rfl (by simp[maxLen])) ⟨by unfold maxLen;omega,by omega⟩ fun v2 w4 M=>an (by omega) (bk (m+1,v2) ⟨rfl,rfl,trivial⟩ (fun M=>⟨(M.only (.cons _ (.refl _)) (.refl _)).cast rfl (by
   have:decide ((((r/2^m)%2:Nat):Int)=1)=r.testBit m:=by
    rw[Nat.testBit_eq_decide_div_mod_eq];exact decide_eq_decide.2 (by omega)
   simp only[nQ,List.range_succ,auS,List.map_cons,List.map_nil,this]),by omega⟩) (by simp;omega))
  have:=Pg (P:=Tryz.prog) (w:=w) ho (kB hv) (qX hv) (by omega) (by simp[IntKind.bits];omega);rw[this,← hq];rfl
 ·simp only[decide_eq_false_iff_not]at h;obtain rfl:m=p.bools.length:=by omega
  exact⟨_,rfl,M.r 0 rfl,M.below⟩
theorem LS(w0:World)(v v':Value)(s s':List Bool)(h:gj w0 v s)(h':gj w0 v' s'):Calls Tryz.prog 136 #[v,v'] w0 fun r w'=>r=.returned (.bool (decide (s=s')))∧auT w0.heap.size w0 w':=by
 obtain⟨la,lk,rfl,-,CP,hcell⟩:=SliceAt.form h (by decide);obtain⟨la',lk',rfl,-,-,BF⟩:=SliceAt.form h' (by decide);refine cL [] (fn:=Tryz.f136) Tryz.func136 rfl Tryz.ntmps136 rfl<|an (fun h M=>⟨?_,M.below⟩) fun h=>lr (ι:=Nat) (fun m=>[(5,.int .i64 (m:Int))]) (fun m _=>m≤s.length∧s.take m=s'.take m) (fun m=>s.length-m) 0 (an ⟨⟨rfl,trivial⟩,fun M=>⟨M,auX _,rfl⟩⟩ ?_)
 ·have:s≠s':=fun e=>by rw[e]at h;simp at h
  rw[decide_eq_false this];rfl
 have hll:s.length=s'.length:=Int.ofNat_inj.1 (by simpa using h);rintro m w M ⟨hm,ht⟩;refine an (fun h2=>?_) fun h2 M=>⟨?_,M.below⟩
 ·simp only[decide_eq_true_eq]at h2;obtain⟨b,off,rfl,hc⟩:=hcell m (by omega);obtain⟨b',off',rfl,hc'⟩:=BF m (by omega);have hlt:m<s.length:=by omega
  have hlt':m<s'.length:=by omega
  refine dr (by kernel_rfl)<|ia<|an ⟨rfl,rfl,hlt⟩<|lc (x:=.bool s[m])<|an (avb M.below (hc 0 _ (by simp[hlt])))<|ia<|an ⟨rfl,rfl,hlt'⟩<|lc (x:=.bool s'[m])<|an (avb M.below (hc' 0 _ (by simp[hlt']))) fun w2 hb2 M=>an (fun h3 M=>⟨?_,M.below⟩) fun h3=>an (by omega) (bk (m+1) ⟨rfl,trivial⟩ (fun M=>⟨M,by omega,?_⟩) (by dsimp only;omega))
  ·have:s≠s':=fun e=>by subst e;simp at h3
   rw[decide_eq_false this];rfl
  ·rw[List.take_add_one,List.take_add_one,ht,auZ hlt,auZ hlt'];have:s[m]=s'[m]:=by simpa using h3
   rw[this]
 ·simp only[decide_eq_false_iff_not]at h2;have:s=s':=by rw[← au9 (l:=s),← au9 (l:=s'),← hll,← show m=s.length by omega];exact ht
  rw[decide_eq_true this];rfl
theorem aY.elt{α:Type}{f:α→List Value}{B:Nat}{w0 w:World}{bs:List Bx}{rs:List Rw}(M:aY B w0 w bs rs)(i:Nat){g n c:Nat}{e k:Nat}{l:List α}{m:Nat}{y:α}(hr:rs[i]?=some ⟨.slice (some ⟨g,0,none⟩) n c,e,k,n,l.flatMap f⟩)(hf:∀ x,(f x).length=k)(hy:l[m]?=some y):
 ∀ j u,(f y)[j]?=some u→w.cell? ⟨g,0+m*k+j,none⟩=some u:=fun j u hu=>by
 have h:=World.ownsRow.cells (M.r i hr) (g:=g) rfl (m*k+j) u (by
  show(l.flatMap f)[m*k+j]?=some u;rw[kM hf hy j (hf y▸(auK.1 hu).1)];exact hu)
 rw[Addr.add_mid]at h;simpa[Nat.add_assoc] using h
theorem aY.own{B:Nat}{w0 w:World}{bs:List Bx}{rs:List Rw}(M:aY B w0 w bs rs)(i:Nat){v:Value}{e k n:Nat}{xs:List Value}(hr:rs[i]?=some ⟨v,e,k,n,xs⟩)(hn:0<n):∃ g c,v=.slice (some ⟨g,0,none⟩) n c:=by
 obtain⟨g,c,-,h,-⟩:=uF (M.r i hr) hn;exact⟨g,c,h⟩
def oB(x:Int):List Value:=[.int .u32 x]
theorem UJ{K T C s t c:Nat}(hK:K≤3)(hT:T≤256)(hC:C≤256)(hs:s<T)(ht:t<T)(hc:c<C):K*T≤768∧K*T+s<4*T∧(K*T+s)*T≤262144∧(K*T+s)*T+t<4*T*T∧((K*T+s)*T+t)*C≤67108864∧((K*T+s)*T+t)*C+c<4*T*T*C:=by
 have h1:K*T≤3*256:=Nat.mul_le_mul hK hT;have h1':K*T≤3*T:=au3 _ hK;have h2:K*T+s<4*T:=by omega
 have h3:(K*T+s)*T≤(4*256)*256:=Nat.mul_le_mul (by omega) hT
 have h4:(K*T+s)*T+t<4*T*T:=by
  have:=au3 T (show K*T+s+1≤4*T by omega);rw[Nat.succ_mul]at this;omega
 have h4':(K*T+s)*T+t<262144:=by
  have:4*T*T≤(4*256)*256:=Nat.mul_le_mul (Nat.mul_le_mul_left _ hT) hT;omega
 have h5:((K*T+s)*T+t)*C≤262144*256:=Nat.mul_le_mul (by omega) hC;refine⟨by omega,h2,by omega,h4,by omega,?_⟩;have:=au3 C (show(K*T+s)*T+t+1≤4*T*T by omega);rw[Nat.succ_mul]at this;omega
theorem Xr{xs:List Int}{j:Nat}{v:Int}(hj:j<xs.length):(xs.flatMap oB).take (j*1)++bg (.int .u32 v)++(xs.flatMap oB).drop (j*1+1)=(xs.set j v).flatMap oB:=by
 have h:∀ l:List Int,l.flatMap oB=l.map (Value.int .u32):=fun l=>by induction l with
  | nil=>rfl
  | cons x r ih=>rw[List.flatMap_cons,ih];rfl
 rw[h,h,Nat.mul_one,List.map_set,List.set_eq_take_append_cons_drop,if_pos (by simpa using hj)];simp[bg]
theorem aY.shape{B:Nat}{w0 w:World}{bs:List Bx}{rs:List Rw}(M:aY B w0 w bs rs)(i:Nat){v:Value}{e k n:Nat}{xs:List Value}(hr:rs[i]?=some ⟨v,e,k,n,xs⟩):∃ a c,v=.slice a n c∧n≤9223372036854775807:=by
 obtain⟨a,c,h,-,h2⟩:=gF (M.r i hr);exact⟨a,c,h,h2⟩
def Oo(r:aj)(s q:Nat):List (Nat×Nat):=if r.src.has s=true then (cG (r.tgts s) q).map fun t=>(s,t) else []
theorem E3(w0:World)(r:aj)(hr:r.Ok):
 Calls Tryz.prog 212 #[.agg #[.int .i64 r.kind,.int .u64 r.src.a,.int .u64 r.src.b,.int .u64 r.src.c,.int .u64 r.src.d,.int .u64 r.tgt.a,.int .u64 r.tgt.b,.int .u64 r.tgt.c,.int .u64 r.tgt.d,.bool r.self,.int .i64 r.cls,.int .u32 r.perms,.int .i64 r.cond]] w0 fun e w'=>∃ v,e=.returned v∧(w'.ownsRow w0.heap.size 111 2 v r.pairs.length (f_ r.pairs)∧auT w0.heap.size w0 w'):=by
 refine cL [] (fn:=Tryz.f212) Tryz.func212 rfl Tryz.ntmps212 rfl<|fun g1 w1 M1=>lq (ι:=Nat×Value) (fun(s,u)=>[(3,u),(4,.int .i64 (s:Int))]) (fun(s,u)=>[⟨u,111,2,(r.dg (cG r.src s)).length,f_ (r.dg (cG r.src s))⟩]) (fun(s,u) _=>s≤256) (fun(s,u)=>256-s) (0,.slice none 0 0) (an ⟨⟨rfl,rfl,trivial⟩,fun M=>⟨M.bC 111 2,auX _⟩⟩ ?_)
 rintro⟨s,u⟩ w M hs;have hP:=yq r (cG r.src s);have hP2:=iQ r.src s;refine an (fun h=>?_) fun h=>?_
 ·have hlt:s<256:=by simp at h;omega
  refine lq (ι:=Nat×Value) (fun(q,u)=>[(3,u),(5,.int .i64 (q:Int))]) (fun(q,u)=>[⟨u,111,2,(r.dg (cG r.src s)++Oo r s q).length,f_ (r.dg (cG r.src s)++Oo r s q)⟩]) (fun(q,u) _=>q≤256) (fun(q,u)=>256-q) (0,u) (an ⟨⟨rfl,rfl,trivial⟩,fun M=>⟨M.cast rfl (by dsimp only;rw[show Oo r s 0=[] by unfold Oo cG;simp,List.append_nil]),auX _⟩⟩ ?_);rintro⟨q,u⟩ w M hq
  have hX:(r.dg (cG r.src s)++Oo r s q).length≤65536+256:=by
   have h3:=iQ (r.tgts s) q;rw[auQ];unfold Oo;split
   ·rw[auN];omega
   ·simp;omega
  refine lb 0<|an (fun _=>rfl)<|cl<|an (fun _=>uw _ r.src hr.src s) fun w2 M2=>?_
  refine an (fun h2=>?_) fun h2=>?_
  ·obtain⟨h3,h4⟩:q<256∧r.src.has s=true:=by rw[ay.rE r.src hlt]at h2;simp at h2;exact⟨by omega,h2.2⟩
   refine lb 0<|an rfl<|cl<|an (uw _ r.tgt hr.tgt q) fun w3 M3=>lb 0<|an (fun _=>rfl)<|?_
   have hth:=Tq r hlt h3;refine an (fun h5=>?_) fun h5=>?_
   ·have h6:(r.tgts s).has q=true:=by rw[hth,← ay.rE r.tgt h3];revert h5;cases r.tgt.mem (q:Int)<;>cases r.self<;>simp<;>omega
    refine ei (x:=.agg #[.int .i64 (s:Int),.int .i64 (q:Int)])<|an (bd (by kernel_rfl))<|fun g2 w4 M4=>ap 0 id rfl (M4.slice 0 rfl (k:=2) (n:=1) rfl rfl (by simp[maxLen])) ⟨by unfold maxLen;omega,by omega⟩ fun v3 w5 M5=>?_
    exact an (by omega)<|bk (q+1,v3) ⟨rfl,rfl,trivial⟩ (fun M=>⟨(M.only (.cons _ (.refl _)) (.refl _)).cast rfl (by dsimp only;rw[show Oo r s (q+1)=Oo r s q++[(s,q)] by unfold Oo;rw[if_pos h4,if_pos h4,qL h6,auS];rfl,← List.append_assoc,lD _ [(s,q)],auQ (bs:=[(s,q)])];rfl),by dsimp only;omega⟩) (by dsimp only;omega)
   ·have h6:(r.tgts s).has q=false:=by rw[hth,← ay.rE r.tgt h3];revert h5;cases r.tgt.mem (q:Int)<;>cases r.self<;>simp<;>omega
    exact an (by omega)<|bk (q+1,u) ⟨rfl,rfl,trivial⟩ (fun M=>⟨M.cast rfl (by dsimp only;rw[show Oo r s (q+1)=Oo r s q by unfold Oo;rw[tF h6]]),by dsimp only;omega⟩) (by dsimp only;omega)
  ·have h3:r.dg (cG r.src s)++Oo r s q=r.dg (cG r.src (s+1)):=by
    unfold Oo
    cases hh:r.src.has s with
    | true=>
     obtain rfl:q=256:=by rw[ay.rE r.src hlt,hh]at h2;simp at h2;omega
     rw[if_pos rfl,qL hh,uE];rfl
    | false=>rw[tF hh];simp
   exact an (by omega)<|bk (s+1,u) ⟨rfl,rfl,trivial⟩ (fun M=>⟨M.cast rfl (by dsimp only;rw[h3]),by dsimp only;omega⟩) (by dsimp only;omega)
 obtain rfl:s=256:=by simp at h;omega
 exact fun M=>⟨_,rfl,M.r 0 rfl,M.below⟩
theorem JG(w0:World)(c0 c1 c2 c3 c4 c5 c6 c7 c8 c9 aV aP aO aU aT aS aR v:Value)(p:aC)(s:List Bool)(hp:aM w0 c0 c1 c2 c3 c4 c5 c6 c7 c8 c9 aV aP aO aU aT aS aR p)(hs:gj w0 v s)(hb:p.bools.length≤1000)(hc:p.conds.length≤1000)(hT:p.types.length≤256)(hC:p.classes.length≤256)
 (hR:∀ r∈p.rules,RV p.types.length p.classes.length r∧r.yN) :
 Calls Tryz.prog 133 #[.agg #[c0,c1,c2,c3,c4,c5,c6,c7,c8,c9,aV,aP,aO,aU,aT,aS,aR],v] w0 fun x w'=>∃ u,x=.returned u∧(w'.ownsRow w0.heap.size 50 1 u (4*p.types.length*p.types.length*p.classes.length) ((iL p.types.length p.classes.length (fun r=>lF p.bools.length p.conds s r.cond) p.rules).flatMap oB)∧auT w0.heap.size w0 w'):=by
 obtain⟨la0,lk0,rfl,-⟩:=au.form hp.classes (by decide);obtain⟨la1,lk1,rfl,-⟩:=au.form hp.types (by decide);obtain⟨XZ,Uy,rfl,-,hm9,-⟩:=SliceAt.form hp.rules (by decide);generalize hTd:p.types.length=T at *;generalize hCd:p.classes.length=C at *
 have hN1:4*T*T*C≤67108864:=by
  have h1:4*T*T≤(4*256)*256:=Nat.mul_le_mul (Nat.mul_le_mul_left _ hT) hT;have h2:4*T*T*C≤((4*256)*256)*256:=Nat.mul_le_mul h1 hC;omega
 have hTT:4*T*T≤262144:=Nat.mul_le_mul (Nat.mul_le_mul_left _ hT) hT;refine cL [] (fn:=Tryz.f133) Tryz.func133 rfl Tryz.ntmps133 rfl fun g w1 M1=>dr (by kernel_rfl)<|lb 0<|an rfl<|lb 0<|an rfl ?_
 refine fun w2 hb2 M2=>?_
 have e1:(4*(T:Int))*(T:Int)=((4*T*T:Nat):Int):=by simp
 have e2:(4*(T:Int))*(T:Int)*(C:Int)=((4*T*T*C:Nat):Int):=by simp
 refine an (by omega)<|an (by omega)<|an (by omega)<|mz M2 agM ad_ agB rfl e2 ⟨by omega,by unfold maxLen;omega⟩ fun g2 w3 M3=>?_
 refine lq (ι:=Nat) (fun m=>[(8,.int .i64 (m:Int))]) (fun m=>[⟨.slice (some ⟨g2,0,none⟩) (4*T*T*C) (4*T*T*C),50,1,4*T*T*C,(iL T C (fun r=>lF p.bools.length p.conds s r.cond) (p.rules.take m)).flatMap oB⟩]) (fun m _=>m≤p.rules.length) (fun m=>p.rules.length-m) 0
  (an ⟨⟨rfl,trivial⟩,fun M=>⟨M.cast rfl ?_,auX _⟩⟩ ?_)
 ·have:∀ n:Nat,List.replicate n (Value.int .u32 0)=(List.replicate n (0:Int)).flatMap oB:=fun n=>by induction n with
   | zero=>rfl
   | succ n ih=>rw[List.replicate_succ,List.replicate_succ,List.flatMap_cons,← ih];rfl
  exact congrArg (fun x=>[(⟨_,50,1,_,x⟩:Rw)]) (this _)
 intro m w M hm;refine lb 0<|an rfl<|an (fun h=>?_) fun h M=>?_
 ·simp only[decide_eq_true_eq]at h;obtain⟨y,hy⟩:∃ y,p.rules[m]?=some y:=⟨_,auZ (by omega)⟩;obtain⟨hRV,hyk⟩:=hR y (auL hy);obtain⟨b0,o0,rfl,hcell⟩:=SliceAt.elt hp.rules (f:=aj.cells) (fun _=>rfl) (by decide) hy (by omega)
  have hstep:∀ out,iw T C (fun r=>lF p.bools.length p.conds s r.cond) out (p.rules.take (m+1))=if lF p.bools.length p.conds s y.cond=true then sS T C y (iw T C (fun r=>lF p.bools.length p.conds s r.cond) out (p.rules.take m)) y.pairs else iw T C (fun r=>lF p.bools.length p.conds s r.cond) out (p.rules.take m):=fun out=>by
   unfold iw;rw[List.take_add_one,hy];simp
  refine lb 0<|an rfl<|ia<|an ⟨rfl,rfl,by omega⟩<|lc<|an (cF M.below hcell)<|ei<|an oy fun g3 w4 M=>lb 0<|an ⟨rfl,rfl⟩ fun w5 M=>?_
  refine lb 1<|an rfl<|lb 0<|an rfl<|cl<|an (vh _ _ _ _ _ _ _ _ _ _ _ _ _ _ _ _ _ _ _ p s y.cond (hp.keep M.below) (hs.keep M.below) hb hc hyk.cond) fun w6 M=>an (fun hoff=>?_) fun hon=>?_
  ·refine an (by omega)<|bk (m+1) ⟨rfl,trivial⟩ (fun M=>⟨(M.only (.cons _ (.refl _)) (.refl _)).cast rfl ?_,by omega⟩) (by dsimp only;omega);refine congrArg (fun x=>[(⟨_,50,1,_,List.flatMap oB x⟩:Rw)]) ?_;unfold iL;rw[hstep,if_neg (by simpa using hoff)]
  ·have ahM:lF p.bools.length p.conds s y.cond=true:=by simpa using hon
   obtain⟨K,hK⟩:∃ K:Nat,y.kind=(K:Int)+1:=⟨(y.kind-1).toNat,by have:=hRV.kind;omega⟩;obtain⟨c,hcl⟩:∃ c:Nat,y.cls=(c:Int):=⟨y.cls.toNat,by have:=hRV.cls;omega⟩;have nh:K≤3:=by have:=hRV.kind;omega
   have hcC:c<C:=by have:=hRV.cls;omega
   refine lb 0<|an rfl<|cw M (E3 _ y ⟨hyk.src,hyk.tgt⟩) fun u w7 M=>?_
   refine lq (ι:=Nat) (fun k=>[(11,.int .i64 (k:Int))]) (fun k=>[⟨u,111,2,y.pairs.length,f_ y.pairs⟩,⟨.slice (some ⟨g2,0,none⟩) (4*T*T*C) (4*T*T*C),50,1,4*T*T*C,(sS T C y (iL T C (fun r=>lF p.bools.length p.conds s r.cond) (p.rules.take m)) (y.pairs.take k)).flatMap oB⟩]) (fun k _=>k≤y.pairs.length) (fun k=>y.pairs.length-k) 0
    (an ⟨⟨rfl,trivial⟩,fun M=>⟨M,auX _⟩⟩ ?_)
   intro k w M hk;obtain⟨ua,uc,rfl,CP⟩:=M.shape 0 rfl;refine an (fun h2=>?_) fun h2=>?_
   ·simp only[decide_eq_true_eq]at h2;obtain⟨q,hq⟩:∃ q,y.pairs[k]?=some q:=⟨_,auZ (by omega)⟩;obtain⟨hq1,hq2⟩:=hRV.pairs q (auL hq);obtain⟨gp,cp,hup⟩:=M.own 0 rfl (by omega);cases hup;have hcp:=M.elt 0 (f:=IQ) (l:=y.pairs) rfl (fun _=>rfl) hq;obtain⟨x1,x2,x3,x4,x5,x6⟩:=UJ nh hT hC hq1 hq2 hcC;have i1:y.kind-1=(K:Int):=by omega
    have i2:(y.kind-1)*(T:Int)=((K*T:Nat):Int):=by rw[i1];simp
    have i3:(y.kind-1)*(T:Int)+(q.1:Int)=((K*T+q.1:Nat):Int):=by rw[i2];simp
    have i4:((y.kind-1)*(T:Int)+(q.1:Int))*(T:Int)=(((K*T+q.1)*T:Nat):Int):=by rw[i3];simp
    have i5:((y.kind-1)*(T:Int)+(q.1:Int))*(T:Int)+(q.2:Int)=(((K*T+q.1)*T+q.2:Nat):Int):=by rw[i4];simp
    have i6:(((y.kind-1)*(T:Int)+(q.1:Int))*(T:Int)+(q.2:Int))*(C:Int)=((((K*T+q.1)*T+q.2)*C:Nat):Int):=by rw[i5];simp
    have i7:(((y.kind-1)*(T:Int)+(q.1:Int))*(T:Int)+(q.2:Int))*(C:Int)+y.cls=((((K*T+q.1)*T+q.2)*C+c:Nat):Int):=by rw[i6,hcl];simp
    have WM:ixN T C y q=((K*T+q.1)*T+q.2)*C+c:=by unfold ixN;rw[hcl,i1];simp
    refine dr (by kernel_rfl)<|lb 0<|an rfl<|an (by omega)<|an (by omega)<|ia<|an ⟨rfl,rfl,by omega⟩<|ei (x:=0)<|an ⟨rfl,by decide⟩<|lc<|an (hcp 0 _ rfl)<|an (by omega)<|an (by omega)<|ia<|an ⟨rfl,rfl,by omega⟩<|ei (x:=1)<|an ⟨rfl,by decide⟩<|lc<|an (hcp 1 _ rfl)<|an (by omega)<|an (by omega)<|lb 0<|an rfl<|an (by omega) fun w8 hb8 M=>?_
    have hol:(sS T C y (iL T C (fun r=>lF p.bools.length p.conds s r.cond) (p.rules.take m)) (y.pairs.take k)).length=4*T*T*C:=by rw[AU,BI]
    obtain⟨vo,hvo⟩:∃ vo,(sS T C y (iL T C (fun r=>lF p.bools.length p.conds s r.cond) (p.rules.take m)) (y.pairs.take k))[((K*T+q.1)*T+q.2)*C+c]?=some vo:=⟨_,auZ (by rw[hol];exact x6)⟩;have hco:=M.elt 1 (f:=oB) rfl (fun _=>rfl) hvo;refine dr (by kernel_rfl)<|ia<|an ⟨rfl,i7,x6⟩<|lc<|an (hco 0 _ rfl)<|lb 0<|an rfl<|ei<|an rfl<|ia<|an ⟨rfl,i7,x6⟩ fun w9 Zv M=>sr 1 _ ⟨rfl,Nat.zero_add _,x6⟩ rfl fun tS M=>an (by omega)<|bk (k+1) ⟨rfl,trivial⟩ (fun M=>⟨M.cast rfl ?_,by omega⟩) (by dsimp only;omega)
    refine congrArg (fun x=>[(⟨_,111,2,_,_⟩:Rw),⟨_,50,1,_,x⟩]) ?_
    have hput:sS T C y (iL T C (fun r=>lF p.bools.length p.conds s r.cond) (p.rules.take m)) (y.pairs.take (k+1))=(sS T C y (iL T C (fun r=>lF p.bools.length p.conds s r.cond) (p.rules.take m)) (y.pairs.take k)).set (((K*T+q.1)*T+q.2)*C+c) (bits .or .u32 vo y.perms):=by
     have e9:y.pairs.take (k+1)=y.pairs.take k++[q]:=by rw[List.take_add_one,hq];rfl
     have hs1:sS T C y (iL T C (fun r=>lF p.bools.length p.conds s r.cond) (p.rules.take m)) (y.pairs.take k++[q])=TV (ixN T C y q) y.perms (sS T C y (iL T C (fun r=>lF p.bools.length p.conds s r.cond) (p.rules.take m)) (y.pairs.take k)):=by
      unfold sS;rw[List.foldl_append];rfl
     rw[e9,hs1,TV,WM,ava,hvo];rfl
    rw[hput,← Xr (by rw[hol];exact x6),Nat.zero_add];rfl
   ·simp only[decide_eq_false_iff_not]at h2;obtain rfl:k=y.pairs.length:=by omega
    refine an (by omega)<|bk (m+1) ⟨rfl,trivial⟩ (fun M=>⟨(M.only (.cons _ (.refl _)) (.cons _ (.refl _))).cast rfl ?_,by omega⟩) (by dsimp only;omega);refine congrArg (fun x=>[(⟨_,50,1,_,List.flatMap oB x⟩:Rw)]) ?_;unfold iL;rw[hstep,if_pos ahM,au9]
 ·simp only[decide_eq_false_iff_not]at h;obtain rfl:m=p.rules.length:=by omega
  exact⟨_,rfl,by have h1:=M.r 0 rfl;simp only[au9]at h1;exact h1,M.below⟩
def qW(w:World)(u:Value)(l:List (List Int)):Prop:=∃ vs:List Value,vs.length=l.length∧SliceAt w u 1 l.length vs∧∀ (i:Nat) v row,vs[i]?=some v→l[i]?=some row→SliceAt w v 1 row.length (row.flatMap oB)
theorem qW.keep{w w':World}{u:Value}{l:List (List Int)}(h:qW w u l)(hb:auT w.heap.size w w'):qW w' u l:=by
 obtain⟨vs,h1,h2,h3⟩:=h;exact⟨vs,h1,h2.keep hb,fun i v row a b=>(h3 i v row a b).keep hb⟩
theorem Xg(l:List Int):∀ u∈l.flatMap oB,u.oneCell'=true:=fun u hu=>by
 obtain⟨x,-,hx⟩:=List.mem_flatMap.1 hu;simp only[oB,auJ]at hx;rw[hx];rfl
theorem A_(w0:World)(c0 c1 c2 c3 c4 c5 c6 c7 c8 c9 aV aP aO aU aT aS aR:Value)(p:aC)(r:Nat)(hp:aM w0 c0 c1 c2 c3 c4 c5 c6 c7 c8 c9 aV aP aO aU aT aS aR p)(hb:p.bools.length≤60):
 Calls Tryz.prog 134 #[.agg #[c0,c1,c2,c3,c4,c5,c6,c7,c8,c9,aV,aP,aO,aU,aT,aS,aR],.int .i64 (r:Int)] w0 fun x w'=>∃ u,x=.returned u∧(gj w' u (nQ p.bools.length r)∧auT w0.heap.size w0 w'):=
 (A9 w0 c0 c1 c2 c3 c4 c5 c6 c7 c8 c9 aV aP aO aU aT aS aR p r hp hb).mono fun _ _ ⟨u,h1,h2,h3⟩=>⟨u,h1,zW h2 (by simp[nQ]) rfl,h3⟩
def C8(p:aC)(i:Nat):List Int:=iL p.types.length p.classes.length (fun r=>lF p.bools.length p.conds (nQ p.bools.length i) r.cond) p.rules
def nW(p:aC):List (List Int):=(List.range (2^p.bools.length)).map (C8 p)
structure xJ (p:aC):Prop where
 bools:p.bools.length≤10
 conds:p.conds.length≤1000
 types:p.types.length≤256
 classes:p.classes.length≤256
 rules:∀ r∈p.rules,RV p.types.length p.classes.length r∧r.yN
def TQ(wb:World)(n:Nat)(l:List Int):Value→World→Prop:=fun v w=>w.ownsRow wb.heap.size 50 1 v n (l.flatMap oB)
theorem tu(wb:World)(n:Nat)(l:List Int):eN (TQ wb n l):=fun _ _ _ h hb=>gE hb h (Nat.le_refl _)
theorem AP{wb:World}{n:Nat}{l:List Int}{u:Value}{w:World}(h:TQ wb n l u w):u.cells=#[u]:=by
 obtain⟨a,c,rfl,-⟩:=gF h;rfl
theorem XA{wb:World}{n:Nat}{l:List Int}{u:Value}{w:World}{q:Nat}(h:TQ wb n l u w)(hq:u.ownBlock=some q):q<w.heap.size:=(World.ownsRow.lt h q hq).2
theorem P7(n:Nat)(h:n≤10):2^n≤1024:=Nat.pow_le_pow_right (by decide) h
theorem sC(w0:World)(c0 c1 c2 c3 c4 c5 c6 c7 c8 c9 aV aP aO aU aT aS aR:Value)(p:aC)(hp:aM w0 c0 c1 c2 c3 c4 c5 c6 c7 c8 c9 aV aP aO aU aT aS aR p)(hS:xJ p):
 Calls Tryz.prog 70 #[.agg #[c0,c1,c2,c3,c4,c5,c6,c7,c8,c9,aV,aP,aO,aU,aT,aS,aR]] w0 fun x w'=>∃ u,x=.returned u∧(qW w' u (nW p)∧auT w0.heap.size w0 w'):=by
 obtain⟨g_,gZ,rfl,-⟩:=SliceAt.form hp.bools (by decide);have Q7:=P7 _ hS.bools;have hNl:∀ i,(C8 p i).length=4*p.types.length*p.types.length*p.classes.length:=fun i=>BI ..
 refine cL [] (fn:=Tryz.f70) Tryz.func70 rfl Tryz.ntmps70 rfl fun g w1 M1=>lq (ι:=Nat×Value×List Rw) (fun(m,u,T)=>[(3,u),(4,.int .i64 (m:Int))]) (fun(m,u,T)=>⟨u,224,1,m,T.map (·.v)⟩::T)
  (fun(m,u,T) _=>m≤2^p.bools.length∧T.length=m∧∀ (i:Nat) r,T[i]?=some r→r=⟨r.v,50,1,4*p.types.length*p.types.length*p.classes.length,(C8 p i).flatMap oB⟩) (fun(m,u,T)=>2^p.bools.length-m) (0,.slice none 0 0,[])
  (an ⟨⟨rfl,rfl,trivial⟩,fun M=>⟨M.bC 224 1,auX _,rfl,fun i r h=>by simp at h⟩⟩ ?_)
 rintro⟨m,u,T⟩ w M ⟨hm,Vl,hT⟩;refine lb 0<|an rfl<|ei (x:=.int .i64 ((2^p.bools.length:Nat):Int))<|an (fun a w o ho hv=>?_)<|an (fun h=>?_) fun h M=>?_
 ·have:=j5 (P:=Tryz.prog) (w:=w) ho (kB hv) (qX hv) (by omega) (by simp[IntKind.bits];have:=hS.bools;omega);rw[this]
  have hw:IntKind.i64.wrap (1*2^(p.bools.length:Int).toNat)=((2^p.bools.length:Nat):Int):=by
   rw[Int.toNat_natCast,Int.one_mul,wrap_i64]
   ·simp
   ·have e:(2:Int)^p.bools.length=((2^p.bools.length:Nat):Int):=by simp
    rw[e];omega
  rw[hw]
 ·simp only[decide_eq_true_eq]at h;have hlt:m<2^p.bools.length:=by omega
  refine dr (by kernel_rfl)<|lb 0<|an rfl<|lb 0<|an rfl<|cr (fun u w=>gj w u (nQ p.bools.length m))<|an (wR _)<|an (fun w' hb' M'=>A_ _ _ _ _ _ _ _ _ _ _ _ _ _ _ _ _ _ _ p m (hp.keep M'.below) (auP hS.bools (by decide)))<|cv (TQ w (4*p.types.length*p.types.length*p.classes.length) (C8 p m))<|an (tu _ _ _)<|an (fun s _ w' hb' M' hR=>?_)<|br (acO w 224 (TQ w (4*p.types.length*p.types.length*p.classes.length) (C8 p m)))<|an (MI (tu _ _ _))<|an (fun u=>b1 (tu _ _ _) (fun _ _=>AP) (fun _ _ _=>XA) (b:=24) (by kernel_rfl)) fun v w2 hR hb2 M2=>?_
  ·exact(JG w' _ _ _ _ _ _ _ _ _ _ _ _ _ _ _ _ _ s p _ (hp.keep M'.below) hR (auP hS.bools (by decide)) hS.conds hS.types hS.classes hS.rules).mono fun _ _ ⟨u,h1,h2,h3⟩=>⟨u,h1,oH h2 hb'.size,h3⟩
  obtain⟨ur,gr,rfl,hW,hge,hne,hur⟩:=hR;have M3:=M.XS hb2 hW hge (r:=⟨ur,50,1,4*p.types.length*p.types.length*p.classes.length,(C8 p m).flatMap oB⟩) hur hne;have huc:=AP hur;obtain⟨ua,uc,rfl,-⟩:=gF hur;have hp:∀ a:Rw,(a::T).Perm (T++[a]):=fun a=>by simpa using List.perm_append_comm (l₁:=[a]) (l₂:=T)
  refine ap 1 (fun _=>M3) rfl (M3.slice 0 rfl rfl rfl (by simp[maxLen])) ⟨by unfold maxLen;omega,by omega⟩ fun v2 w4 M=>an (by omega)<|bk (m+1,v2,T++[⟨.slice ua (4*p.types.length*p.types.length*p.classes.length) uc,50,1,4*p.types.length*p.types.length*p.classes.length,(C8 p m).flatMap oB⟩]) ⟨rfl,rfl,trivial⟩ (fun M=>⟨((M.only (.cons _ (.refl _)) (.refl _)).perm ((List.Perm.swap _ _ _).trans (.cons _ (hp _)))).cast rfl ?_,?_⟩) (by dsimp only;omega)
  ·refine congrArg (fun x=>(⟨v2,224,1,m+1,x⟩:Rw)::(T++[_])) ?_;simp
  ·refine⟨by omega,by simp[Vl],fun i r hr=>?_⟩;by_cases hi:i<m
   ·rw[au5 (by omega)]at hr;exact hT i r hr
   ·have hlen:=(auK.1 hr).1;rw[auQ,Vl,List.length_singleton]at hlen;obtain rfl:i=m:=by omega
    rw[au6 (by omega),Vl,Nat.sub_self]at hr;obtain rfl:=au2 hr;rfl
 ·simp only[decide_eq_false_iff_not]at h;obtain rfl:m=2^p.bools.length:=by omega
  have hml:(nW p).length=2^p.bools.length:=by simp[nW]
  have hs1:SliceAt w u 1 (2^p.bools.length) (T.map (·.v)):=SliceAt.bF (M.r 0 rfl) fun x hx=>by
   obtain⟨r,hr,rfl⟩:=auH.1 hx;obtain⟨a,c,e,-⟩:=gF (M.row r (au7 _ hr));rw[e];rfl
  refine⟨_,rfl,⟨T.map (·.v),by rw[auN,Vl,hml],by rw[hml];exact hs1,fun i v row hv hrow=>?_⟩,M.below⟩
  ·rw[auO]at hv
   cases hr:T[i]? with
   | none=>rw[hr]at hv;cases hv
   | some r=>
    rw[hr]at hv;obtain rfl:=au2 hv;have h1:=M.row r (au7 _ (auL hr));rw[hT i r hr]at h1;have hi:i<2^p.bools.length:=Vl▸(auK.1 hr).1
    have aen:row=C8 p i:=by
     unfold nW at hrow;rw[auO,List.getElem?_range hi]at hrow;exact(au2 hrow).symm
    rw[aen,hNl];exact SliceAt.bF h1 (Xg _)
theorem qW.get{w:World}{u:Value}{l:List (List Int)}(h:qW w u l):∃ a c,u=.slice a l.length c∧l.length≤9223372036854775807∧∀ (i:Nat) row,l[i]?=some row→∃ b off a' c',a=some ⟨b,off,none⟩∧w.cell? ⟨b,off+i*1,none⟩=some (.slice a' row.length c')∧row.length≤9223372036854775807 ∧
 ∀ (j:Nat) x,row[j]?=some x→∃ b' off',a'=some ⟨b',off',none⟩∧w.cell? ⟨b',off'+j*1,none⟩=some (.int .u32 x):=by
 obtain⟨vs,h1,h2,h3⟩:=h;obtain⟨a,c,rfl,-,hm,hc⟩:=h2.form (by decide);refine⟨a,c,rfl,hm,fun i row hi=>?_⟩;have hlt:=(auK.1 hi).1;obtain⟨b,off,rfl,hc'⟩:=hc i hlt;obtain⟨v,hv⟩:∃ v,vs[i]?=some v:=⟨_,auZ (h1▸hlt)⟩;have h4:=h3 i v row hv hi;obtain⟨a',c',rfl,-,hm',-⟩:=h4.form (by decide);refine⟨b,off,a',c',rfl,hc' 0 _ (by simpa using hv),hm',fun j x hx=>?_⟩;obtain⟨b',off',e,h5⟩:=h4.elt (f:=oB) (fun _=>rfl) (by decide) hx (auK.1 hx).1;exact⟨b',off',e,h5 0 _ rfl⟩
theorem iX{α:Type}{a b:List α}{m:Nat}{x y:α}(h:a.take m=b.take m)(hx:a[m]?=some x)(hy:b[m]?=some y)(e:x=y):a.take (m+1)=b.take (m+1):=by
 rw[List.take_add_one,List.take_add_one,h,hx,hy,e]
theorem p9{α:Type}{a b:List α}{m:Nat}(h:a.take m=b.take m)(hl:a.length=b.length)(hm:a.length≤m):a=b:=by
 rwa [List.take_of_length_le hm,List.take_of_length_le (hl▸hm)]at h
theorem uj(w0:World)(v v':Value)(a b:List (List Int))(ha:qW w0 v a)(hb:qW w0 v' b):Calls Tryz.prog 69 #[v,v'] w0 fun r w'=>r=.returned (.bool (decide (a=b)))∧auT w0.heap.size w0 w':=by
 obtain⟨la,ka,rfl,hma,hca⟩:=ha.get;obtain⟨lb',kb',rfl,-,hcb⟩:=hb.get;have no:a≠b→Ending.returned (mE [Value.bool false])=.returned (.bool (decide (a=b))):=fun h=>by rw[decide_eq_false h];rfl
 refine cL [] (fn:=Tryz.f69) Tryz.func69 rfl Tryz.ntmps69 rfl<|an (fun h M=>⟨no fun e=>by rw[e]at h;simp at h,M.below⟩) fun h=>lr (ι:=Nat) (fun m=>[(5,.int .i64 (m:Int))]) (fun m _=>m≤a.length∧a.take m=b.take m) (fun m=>a.length-m) 0 (an ⟨⟨rfl,trivial⟩,fun M=>⟨M,auX _,rfl⟩⟩ ?_)
 have hll:a.length=b.length:=Int.ofNat_inj.1 (by simpa using h);intro m w M ⟨hm,ht⟩;refine an (fun h2=>?_) fun h2 M=>⟨?_,M.below⟩
 ·simp only[decide_eq_true_eq]at h2;obtain⟨x,hx⟩:∃ x,a[m]?=some x:=⟨_,auZ (by omega)⟩;obtain⟨y,hy⟩:∃ y,b[m]?=some y:=⟨_,auZ (by omega)⟩;obtain⟨b1,o1,a1,c1,rfl,hc1,hm1,hr1⟩:=hca m x hx;obtain⟨b2,o2,a2,c2,rfl,hc2,hm2,MZ⟩:=hcb m y hy;refine dr (by kernel_rfl)<|ia<|an ⟨rfl,rfl,by omega⟩<|lc<|an (avb M.below hc1)<|ia<|an ⟨rfl,rfl,by omega⟩<|lc<|an (avb M.below hc2) fun w2 hb2 M2=>an (fun h3 M=>⟨no fun e=>?_,M.below⟩) fun h3=>?_
  ·subst e;rw[hx]at hy;obtain rfl:=au2 hy;simp at h3
  have hxy:x.length=y.length:=Int.ofNat_inj.1 (by simpa using h3);refine lr (ι:=Nat) (fun k=>[(6,.int .i64 (k:Int))]) (fun k _=>k≤x.length∧x.take k=y.take k) (fun k=>x.length-k) 0 (an ⟨⟨rfl,trivial⟩,fun M=>⟨M,auX _,rfl⟩⟩ ?_);intro k w M ⟨hk,hkt⟩;refine ia<|an ⟨rfl,rfl,by omega⟩<|lc<|an (avb M.below hc1)<|an (fun h4=>?_) fun h4=>?_
  ·simp only[decide_eq_true_eq]at h4;obtain⟨p,hp⟩:∃ p,x[k]?=some p:=⟨_,auZ (by omega)⟩;obtain⟨q,hq⟩:∃ q,y[k]?=some q:=⟨_,auZ (by omega)⟩;obtain⟨b3,o3,e3,hc3⟩:=hr1 k p hp;obtain⟨b4,o4,e4,Q_⟩:=MZ k q hq;refine dr (by kernel_rfl)<|ia<|an ⟨rfl,rfl,by omega⟩<|lc<|an (avb M.below hc1)<|ia<|an ⟨e3,rfl,by omega⟩<|lc<|an (avb M.below hc3)<|ia<|an ⟨rfl,rfl,by omega⟩<|lc<|an (avb M.below hc2)<|ia<|an ⟨e4,rfl,by omega⟩<|lc<|an (avb M.below Q_) fun w3 vG M=>an (fun h5 M=>⟨no fun e=>?_,M.below⟩) fun h5=>an (by omega)<|bk (k+1) ⟨rfl,trivial⟩ (fun M=>⟨M,by omega,iX hkt hp hq (by simpa using h5)⟩) (by dsimp only;omega)
   subst e;rw[hx]at hy;obtain rfl:=au2 hy;rw[hp]at hq;obtain rfl:=au2 hq;simp at h5
  ·simp only[decide_eq_false_iff_not]at h4;exact an (by omega)<|bk (m+1) ⟨rfl,trivial⟩ (fun M=>⟨M,by omega,iX ht hx hy (p9 hkt hxy (by omega))⟩) (by dsimp only;omega)
 ·simp only[decide_eq_false_iff_not]at h2;rw[decide_eq_true (p9 ht hll (by omega))];rfl
def iU(p:aC)(k:Int):List Bool:=(List.range (2^p.bools.length)).map fun i=>lF p.bools.length p.conds (nQ p.bools.length i) k
def p8(p:aC)(y:bM):Option (bM×List Bool):=if (iU p y.cond).any id=true then some ({ y with cond:=0 },iU p y.cond) else none
def iI(p:aC):List (bM×List Bool):=p.trans.filterMap (p8 p)
def P9(z:bM×List Bool):List Value:=z.1.cells
structure mT (w:World) (u1 u2:Value) (L:List (bM×List Bool)):Prop where
 tr:SliceAt w u1 13 L.length (L.flatMap P9)
 wh:∃ vs:List Value,vs.length=L.length∧SliceAt w u2 1 L.length vs∧∀ (i:Nat) v z,vs[i]?=some v→L[i]?=some z→gj w v z.2
theorem mT.keep{w w':World}{u1 u2:Value}{L:List (bM×List Bool)}(h:mT w u1 u2 L)(hb:auT w.heap.size w w'):mT w' u1 u2 L:=by
 obtain⟨vs,h1,h2,h3⟩:=h.wh;exact⟨h.tr.keep hb,vs,h1,h2.keep hb,fun i v row a b=>(h3 i v row a b).keep hb⟩
theorem Tv(L:List (bM×List Bool)):∀ u∈L.flatMap P9,u.oneCell'=true:=fun u hu=>by
 obtain⟨x,-,hx⟩:=List.mem_flatMap.1 hu;simp only[P9,bM.cells,au4,List.not_mem_nil,or_false]at hx;rcases hx with rfl|rfl|rfl|rfl|rfl|rfl|rfl|rfl|rfl|rfl|rfl|rfl|rfl<;>rfl
theorem xZ(w0:World)(c0 c1 c2 c3 c4 c5 c6 c7 c8 c9 aV aP aO aU aT aS aR:Value)(p:aC)(hp:aM w0 c0 c1 c2 c3 c4 c5 c6 c7 c8 c9 aV aP aO aU aT aS aR p)(hS:xJ p)(ht:p.trans.length≤1000)(hk:∀ y∈p.trans,iR y.cond):
 Calls Tryz.prog 135 #[.agg #[c0,c1,c2,c3,c4,c5,c6,c7,c8,c9,aV,aP,aO,aU,aT,aS,aR]] w0 fun x w'=>∃ v,x=.returned v∧((∃ u1 u2,v=.tuple #[u1,u2]∧mT w' u1 u2 (iI p))∧auT w0.heap.size w0 w'):=by
 obtain⟨g_,gZ,rfl,-⟩:=SliceAt.form hp.bools (by decide);obtain⟨QT,QK,rfl,-⟩:=SliceAt.form hp.trans (by decide);have Q7:=P7 _ hS.bools;have hwl:∀ k,(iU p k).length=2^p.bools.length:=fun k=>by simp[iU]
 have ahE:∀ (a:Act) (w:World) (o:Oper) (x y:Operand) (ty yt:TypeId),o.op=.binOp .shl ty x y yt→a.eval x=.int .i64 1→a.eval y=.int .i64 (p.bools.length:Int)→(execOp a.eval o).run Tryz.prog w=.ok (.value (.int .i64 ((2^p.bools.length:Nat):Int))) w:=fun a w o x y ty yt ho hx hy=>by
  have:=j5 (P:=Tryz.prog) (w:=w) ho hx hy (by omega) (by simp[IntKind.bits];have:=hS.bools;omega);rw[this]
  have hw:IntKind.i64.wrap (1*2^(p.bools.length:Int).toNat)=((2^p.bools.length:Nat):Int):=by
   have e:(2:Int)^p.bools.length=((2^p.bools.length:Nat):Int):=by simp
   rw[Int.toNat_natCast,Int.one_mul,e];generalize 2^p.bools.length=P2 at Q7;exact wrap_i64 ⟨by omega,by omega⟩
  rw[hw]
 refine cL [] (fn:=Tryz.f135) Tryz.func135 rfl Tryz.ntmps135 rfl fun g w1 M1=>lq (ι:=Nat×Value×Value×List Rw×List (bM×List Bool)) (fun(m,u1,u2,T,L)=>[(4,u1),(5,u2),(6,.int .i64 (m:Int))]) (fun(m,u1,u2,T,L)=>⟨u1,84,13,L.length,L.flatMap P9⟩::⟨u2,40,1,L.length,T.map (·.v)⟩::T)
  (fun(m,u1,u2,T,L) _=>m≤p.trans.length∧(p.trans.take m).filterMap (p8 p)=L∧T.length=L.length∧∀ (i:Nat) r z,T[i]?=some r→L[i]?=some z→r=⟨r.v,4,1,z.2.length,z.2.map Value.bool⟩) (fun(m,u1,u2,T,L)=>p.trans.length-m) (0,.slice none 0 0,.slice none 0 0,[],[])
  (an ⟨⟨rfl,rfl,rfl,trivial⟩,fun M=>⟨(M.bC 40 1).bC 84 13,auX _,rfl,rfl,fun i r z h=>by simp at h⟩⟩ ?_)
 rintro⟨m,u1,u2,T,L⟩ w M ⟨hm,hLd,Vl,hT⟩;have hL:L.length≤m:=by rw[← hLd];exact auP (List.length_filterMap_le ..) (by simp;omega)
 refine lb 0<|an rfl<|an (fun h=>?_) fun h M=>?_
 ·simp only[decide_eq_true_eq]at h;obtain⟨y,hy⟩:∃ y,p.trans[m]?=some y:=⟨_,auZ (by omega)⟩;have hky:=hk y (auL hy);obtain⟨b0,o0,rfl,hcell⟩:=SliceAt.elt hp.trans (f:=bM.cells) (fun _=>rfl) (by decide) hy (by omega)
  have hnext:(p.trans.take (m+1)).filterMap (p8 p)=L++(p8 p y).toList:=by
   rw[List.take_add_one,hy,auM,hLd];cases hq:p8 p y<;>simp[hq]
  refine lq (ι:=Nat×Value) (fun(k,v7)=>[(7,v7),(8,.bool (((iU p y.cond).take k).any id)),(9,.int .i64 (k:Int))]) (fun(k,v7)=>⟨v7,4,1,k,((iU p y.cond).take k).map Value.bool⟩::⟨u1,84,13,L.length,L.flatMap P9⟩::⟨u2,40,1,L.length,T.map (·.v)⟩::T) (fun(k,v7) _=>k≤2^p.bools.length) (fun(k,v7)=>2^p.bools.length-k) (0,.slice none 0 0)
   (an ⟨⟨rfl,rfl,rfl,trivial⟩,fun M=>⟨M.bC 4 1,auX _⟩⟩ ?_)
  rintro⟨k,v7⟩ w M hk2;refine lb 0<|an rfl<|ei<|an (fun a w o ho hv=>ahE a w o _ _ _ _ ho (kB hv) (qX hv))<|an (fun h2=>?_) fun h2=>?_
  ·simp only[decide_eq_true_eq]at h2;have hlt:k<2^p.bools.length:=by omega
   have hwk:(iU p y.cond)[k]?=some (lF p.bools.length p.conds (nQ p.bools.length k) y.cond):=by
    unfold iU;rw[auO,List.getElem?_range hlt];rfl
   refine dr (by kernel_rfl)<|lb 0<|an rfl<|lb 0<|an rfl<|cr (fun u w=>gj w u (nQ p.bools.length k))<|an (wR _)<|an (fun w' hb' M'=>A_ _ _ _ _ _ _ _ _ _ _ _ _ _ _ _ _ _ _ p k (hp.keep M'.below) (auP hS.bools (by decide)))<|lb 0<|an rfl<|ia<|an ⟨rfl,rfl,by omega⟩<|lc<|an (avb M.below (hcell 12 _ rfl))<|cu<|an (fun u _ w' hb' M' hR=>vh w' _ _ _ _ _ _ _ _ _ _ _ _ _ _ _ _ _ u p _ y.cond (hp.keep M'.below) hR (auP hS.bools (by decide)) hS.conds hky) fun w2 hb2 M=>?_
   refine fun g3 w3 M=>ap 0 id rfl (M.slice 0 rfl rfl rfl (by simp[maxLen])) ⟨by unfold maxLen;omega,by omega⟩ fun v3 w4 M=>an (by omega)<|bk (k+1,v3) ⟨rfl,congrArg (fun b=>some (Value.bool b)) ?_,rfl,trivial⟩ (fun M=>⟨(M.only (.cons _ (.refl _)) (.refl _)).cast rfl ?_,by omega⟩) (by dsimp only;omega)
   ·rw[List.take_add_one,hwk];simp
   ·show _=(⟨v3,4,1,k+1,((iU p y.cond).take (k+1)).map Value.bool⟩:Rw)::_;rw[List.take_add_one,hwk];simp
  ·simp only[decide_eq_false_iff_not]at h2;obtain rfl:k=2^p.bools.length:=by omega
   have htk:(iU p y.cond).take (2^p.bools.length)=iU p y.cond:=List.take_of_length_le (by rw[hwl];exact Nat.le_refl _);refine an (fun h3=>?_) fun h3=>?_
   ·rw[htk]at h3;have hO:p8 p y=some ({ y with cond:=0 },iU p y.cond):=if_pos h3;obtain⟨a7,k7,rfl,-⟩:=M.shape 0 rfl;refine lb 0<|an rfl<|ia<|an ⟨rfl,rfl,by omega⟩<|lc<|an (cF M.below hcell)<|ei<|an KN fun g4 w5 M=>lb 0<|an ⟨rfl,rfl⟩ fun w6 M=>lb 0<|an ⟨rfl,rfl⟩ fun w7 M=>lb 0<|an rfl fun g5 w8 M=>ap 1 id rfl (M.slice 0 rfl rfl rfl (by simp[maxLen])) ⟨by unfold maxLen;omega,by omega⟩ fun u1' w9 M=>fun g6 tS M=>ap 2 id rfl (M.slice 0 rfl rfl rfl (by simp[maxLen])) ⟨by unfold maxLen;omega,by omega⟩ fun u2' Dw M=>an (by omega)<|bk (m+1,u1',u2',T++[⟨.slice a7 (2^p.bools.length) k7,4,1,2^p.bools.length,(iU p y.cond).map Value.bool⟩],L++[({ y with cond:=0 },iU p y.cond)]) ⟨rfl,rfl,rfl,trivial⟩ (fun M=>?_) (by dsimp only;omega)
    have hp:∀ a b c:Rw,(a::b::c::T).Perm (b::c::(T++[a])):=fun a b c=>by
     have h1:(a::(b::c::T)).Perm ((b::c::T)++[a]):=by simpa using List.perm_append_comm (l₁:=[a]) (l₂:=b::c::T)
     simpa using h1
    refine⟨((M.only (.cons _ (.cons _ (.cons _ (.refl _)))) (.refl _)).perm (hp _ _ _)).cast rfl ?_,by omega,by rw[hnext,hO];rfl,by simp[Vl],fun i r z hr hz=>?_⟩
    ·simp only[auR,auS,auQ,List.length_singleton,htk];rfl
    ·by_cases hi:i<T.length
     ·rw[au5 hi]at hr;rw[au5 (Vl▸hi)]at hz;exact hT i r z hr hz
     ·have hlen:=(auK.1 hr).1;rw[auQ,List.length_singleton]at hlen;obtain rfl:i=T.length:=by omega
      rw[au6 (Nat.le_refl _),Nat.sub_self]at hr;rw[Vl,au6 (Nat.le_refl _),Nat.sub_self]at hz;obtain rfl:=au2 hr;obtain rfl:=au2 hz;rw[hwl]
   ·rw[htk]at h3;have hO:p8 p y=none:=if_neg (by rw[h3];decide);refine an (by omega)<|bk (m+1,u1,u2,T,L) ⟨rfl,rfl,rfl,trivial⟩ (fun M=>?_) (by dsimp only;omega);exact⟨M.only (.refl _) (.cons _ (.refl _)),by omega,by rw[hnext,hO];simp,Vl,hT⟩
 ·simp only[decide_eq_false_iff_not]at h;obtain rfl:m=p.trans.length:=by omega
  rw[au9]at hLd;have hLt:L=iI p:=hLd.symm;rw[← hLt];refine⟨_,rfl,⟨_,_,rfl,⟨SliceAt.bF (M.r 0 rfl) (Tv _),T.map (·.v),by rw[auN,Vl],SliceAt.bF (M.r 1 rfl) ?_,fun i v z hv hz=>?_⟩⟩,M.below⟩
  ·intro x hx;obtain⟨r,hr,rfl⟩:=auH.1 hx;obtain⟨a,c,e,-⟩:=gF (M.row r (au7 _ (au7 _ hr)));rw[e];rfl
  ·rw[auO]at hv
   cases hr:T[i]? with
   | none=>rw[hr]at hv;cases hv
   | some r=>
    rw[hr]at hv;obtain rfl:=au2 hv;have h1:=M.row r (au7 _ (au7 _ (auL hr)));rw[hT i r z hr hz]at h1;exact zW h1 rfl rfl
theorem mT.get{w:World}{u1 u2:Value}{L:List (bM×List Bool)}(h:mT w u1 u2 L):∃ a c a' c',u1=.slice a L.length c∧u2=.slice a' L.length c'∧L.length≤9223372036854775807∧∀ (i:Nat) z,L[i]?=some z→∃ b off b' off' v,a=some ⟨b,off,none⟩∧(∀ j u,z.1.cells[j]?=some u→w.cell? ⟨b,off+i*13+j,none⟩=some u) ∧
 a'=some ⟨b',off',none⟩∧w.cell? ⟨b',off'+i*1,none⟩=some v∧gj w v z.2:=by
 obtain⟨vs,h1,h2,h3⟩:=h.wh;obtain⟨a,c,rfl,-,hm,-⟩:=h.tr.form (by decide);obtain⟨a',c',rfl,-,-,hc⟩:=h2.form (by decide);refine⟨a,c,a',c',rfl,rfl,hm,fun i z hz=>?_⟩;have hlt:=(auK.1 hz).1;obtain⟨b,off,rfl,hcz⟩:=h.tr.elt (f:=P9) (fun _=>rfl) (by decide) hz hlt;obtain⟨b',off',rfl,hc'⟩:=hc i hlt;obtain⟨v,hv⟩:∃ v,vs[i]?=some v:=⟨_,auZ (h1▸hlt)⟩;exact⟨b,off,b',off',v,rfl,hcz,rfl,hc' 0 _ (by simpa using hv),h3 i v z hv hz⟩
theorem yX(w0:World)(c0 c1 c2 c3 c4 c5 c6 c7 c8 c9 aV aP aO aU aT aS aR d0 d1 d2 d3 d4 d5 d6 d7 d8 d9 Ch Cg Ce Cd Cc Cb Ca:Value)(p q:aC)(hp:aM w0 c0 c1 c2 c3 c4 c5 c6 c7 c8 c9 aV aP aO aU aT aS aR p)(hq:aM w0 d0 d1 d2 d3 d4 d5 d6 d7 d8 d9 Ch Cg Ce Cd Cc Cb Ca q)(hS:xJ p)(hS':xJ q)(ht:p.trans.length≤1000)(ht':q.trans.length≤1000)(hk:∀ y∈p.trans,iR y.cond)(hk':∀ y∈q.trans,iR y.cond):
 Calls Tryz.prog 71 #[.agg #[c0,c1,c2,c3,c4,c5,c6,c7,c8,c9,aV,aP,aO,aU,aT,aS,aR],.agg #[d0,d1,d2,d3,d4,d5,d6,d7,d8,d9,Ch,Cg,Ce,Cd,Cc,Cb,Ca]] w0 fun x w'=>x=.returned (.bool (decide (iI p=iI q)))∧auT w0.heap.size w0 w':=by
 have no:iI p≠iI q→Ending.returned (mE [Value.bool false])=.returned (.bool (decide (iI p=iI q))):=fun h=>by rw[decide_eq_false h];rfl
 refine cL [] (fn:=Tryz.f71) Tryz.func71 rfl Tryz.ntmps71 rfl fun g1 w1 M1=>fun g2 w2 M2=>lb 1<|an rfl<|cg<|an (xZ w2 _ _ _ _ _ _ _ _ _ _ _ _ _ _ _ _ _ p (hp.keep M2.below) hS ht hk) fun v w3 hR=>?_
 obtain⟨⟨u1,u2,rfl,hT⟩,vG⟩:=hR;refine⟨_,_,M2.keep vG,lb 0<|an rfl<|cg<|an (xZ w3 _ _ _ _ _ _ _ _ _ _ _ _ _ _ _ _ _ q (hq.keep (M2.keep vG).below) hS' ht' hk') fun v w4 hR=>?_⟩;obtain⟨⟨u3,u4,rfl,hT'⟩,hb4⟩:=hR;have hT:=hT.keep hb4;generalize iI p=a at *;generalize iI q=b at *;obtain⟨a1,k1,a2,k2,rfl,rfl,hml,-⟩:=hT.get;obtain⟨a3,k3,a4,k4,rfl,rfl,-,-⟩:=hT'.get;refine⟨_,_,(M2.keep vG).keep hb4,an (fun h M=>⟨no fun e=>by rw[e]at h;simp at h,M.below⟩) fun h=>lr (ι:=Nat) (fun m=>[(9,.int .i64 (m:Int))]) (fun m w=>m≤a.length∧a.take m=b.take m∧mT w (.slice a1 a.length k1) (.slice a2 a.length k2) a∧mT w (.slice a3 b.length k3) (.slice a4 b.length k4) b) (fun m=>a.length-m) 0 (an ⟨⟨rfl,trivial⟩,fun M=>⟨M,auX _,rfl,hT,hT'⟩⟩ ?_)⟩;have hll:a.length=b.length:=Int.ofNat_inj.1 (by simpa using h);rintro m w M ⟨hm,ht,hT,hT'⟩;refine an (fun h2=>?_) fun h2 M=>⟨?_,M.below⟩
 ·simp only[decide_eq_true_eq]at h2;obtain⟨x,hx⟩:∃ x,a[m]?=some x:=⟨_,auZ (by omega)⟩;obtain⟨y,hy⟩:∃ y,b[m]?=some y:=⟨_,auZ (by omega)⟩
  obtain⟨b1,o1,b2,o2,v1,e1,hc1,e2,hv1,hs1⟩:∃ b off b' off' v,a1=some ⟨b,off,none⟩∧(∀ j u,x.1.cells[j]?=some u→w.cell? ⟨b,off+m*13+j,none⟩=some u)∧a2=some ⟨b',off',none⟩∧w.cell? ⟨b',off'+m*1,none⟩=some v∧gj w v x.2:=by
   obtain⟨_,_,_,_,e1,e2,-,hg⟩:=hT.get;injection e1 with e1;injection e2 with e2;subst e1 e2;exact hg m x hx
  obtain⟨b3,o3,b4,o4,v2,e3,hc2,e4,hv2,hs2⟩:∃ b off b' off' v,a3=some ⟨b,off,none⟩∧(∀ j u,y.1.cells[j]?=some u→w.cell? ⟨b,off+m*13+j,none⟩=some u)∧a4=some ⟨b',off',none⟩∧w.cell? ⟨b',off'+m*1,none⟩=some v∧gj w v y.2:=by
   obtain⟨_,_,_,_,e1,e2,-,hg⟩:=hT'.get;injection e1 with e1;injection e2 with e2;subst e1 e2;exact hg m y hy
  refine dr (by kernel_rfl)<|ia<|an ⟨e1,rfl,by omega⟩<|lc<|an hc1<|ia<|an ⟨e3,rfl,by omega⟩<|lc<|an hc2<|ei<|an ⟨acd,fun w=>VL x.1 y.1 w⟩<|ia<|an (fun _=>⟨e2,rfl,by omega⟩)<|lc (x:=v1)<|an (fun _=>hv1)<|ia<|an (fun _=>⟨e4,rfl,by omega⟩)<|lc (x:=v2)<|an (fun _=>hv2)<|cl<|an (fun _ w' hb' M'=>LS w' v1 v2 _ _ (hs1.keep hb') (hs2.keep hb')) fun w5 CR M=>an (fun h3 M=>⟨no fun e=>?_,M.below⟩) fun h3=>an (by omega)<|bk (m+1) ⟨rfl,trivial⟩ (fun M=>⟨M,by omega,iX ht hx hy ?_,hT.keep CR,hT'.keep CR⟩) (by dsimp only;omega)
  ·subst e;rw[hx]at hy;obtain rfl:=au2 hy;simp at h3
  ·have h4:x.1=y.1∧x.2=y.2:=by simpa using h3
   exact Prod.ext h4.1 h4.2
 ·simp only[decide_eq_false_iff_not]at h2;rw[decide_eq_true (p9 ht hll (by omega))];rfl
theorem nI(w0:World)(v v':Value)(l l':List ByteArray)(h:aF w0 v l)(h':aF w0 v' l'):Calls Tryz.prog 131 #[v,v'] w0 fun r w'=>r=.returned (.bool (decide (l=l')))∧auT w0.heap.size w0 w':=by
 obtain⟨la,lk,rfl,CP,hcell⟩:=h.get;obtain⟨la',lk',rfl,-,BF⟩:=h'.get;have no:l≠l'→Ending.returned (mE [Value.bool false])=.returned (.bool (decide (l=l'))):=fun h=>by rw[decide_eq_false h];rfl
 refine cL [] (fn:=Tryz.f131) Tryz.func131 rfl Tryz.ntmps131 rfl<|an (fun h M=>⟨no fun e=>by rw[e]at h;simp at h,M.below⟩) fun h=>lr (ι:=Nat) (fun m=>[(5,.int .i64 (m:Int))]) (fun m _=>m≤l.length∧l.take m=l'.take m) (fun m=>l.length-m) 0 (an ⟨⟨rfl,trivial⟩,fun M=>⟨M,auX _,rfl⟩⟩ ?_)
 have hll:l.length=l'.length:=Int.ofNat_inj.1 (by simpa using h);rintro m w M ⟨hm,ht⟩;refine an (fun h2=>?_) fun h2 M=>⟨?_,M.below⟩
 ·simp only[decide_eq_true_eq]at h2;obtain⟨x,hx⟩:∃ x,l[m]?=some x:=⟨_,auZ (by omega)⟩;obtain⟨y,hy⟩:∃ y,l'[m]?=some y:=⟨_,auZ (by omega)⟩;obtain⟨b,off,e1,hc⟩:=hcell m x hx;obtain⟨b',off',e2,hc'⟩:=BF m y hy;refine dr (by kernel_rfl)<|ia<|an ⟨e1,rfl,by omega⟩<|lc<|an (avb M.below hc)<|ia<|an ⟨e2,rfl,by omega⟩<|lc<|an (avb M.below hc') fun w2 hb2 M=>an (fun h3 M=>⟨no fun e=>?_,M.below⟩) fun h3=>an (by omega) (bk (m+1) ⟨rfl,trivial⟩ (fun M=>⟨M,by omega,iX ht hx hy ?_⟩) (by dsimp only;omega))
  ·subst e;rw[hx]at hy;obtain rfl:=au2 hy;simp at h3
  ·rw[oD]at h3;simpa using h3
 ·simp only[decide_eq_false_iff_not]at h2;rw[decide_eq_true (p9 ht hll (by omega))];rfl
section
variable {α:Type} {p:α→α→Bool} {l r:List α} {m:Nat} {x y:α}
theorem fq(hx:l[m]?=some x)(hy:r[m]?=some y):aA p (l.take (m+1)) (r.take (m+1))=(aA p (l.take m) (r.take m)&&p x y):=by
 induction l generalizing r m with
 | nil=>simp at hx
 | cons a l ih=>cases r with
  | nil=>simp at hy
  | cons b r=>cases m with
   | zero=>
    simp only[List.getElem?_cons_zero,Option.some.injEq]at hx hy;subst hx hy;simp[aA]
   | succ m=>
    simp only[List.getElem?_cons_succ]at hx hy;simp only[List.take_succ_cons,aA,ih hx hy,Bool.and_assoc]
theorem fu(h:l.length=r.length):aA p (l.take l.length) (r.take l.length)=aA p l r:=by
 rw[au9,h,au9]
theorem eZ:aA p (l.take 0) (r.take 0)=true:=by rw[List.take_zero,List.take_zero];rfl
end
theorem kA{α:Type}[DecidableEq α]:∀ l r:List α,aA (fun x y=>decide (x=y)) l r=decide (l=r)
 | [],[]=>by simp[aA]
 | [],_::_=>by simp[aA]
 | _::_,[]=>by simp[aA]
 | x::l,y::r=>by
  rw[aA,kA l r];by_cases h:x=y<;>simp[h]
theorem eC{a b:Bool}(h:a=b):(some (Value.bool a))=some (Value.bool b):=by rw[h]
theorem Wq{α:Type}{p:α→α→Bool}{l r:List α}{m:Nat}{x y:α}(hx:l[m]?=some x)(hy:r[m]?=some y)(h:p x y=false):aA p l r=false:=by
 induction l generalizing r m with
 | nil=>simp at hx
 | cons a l ih=>cases r with
  | nil=>simp at hy
  | cons b r=>cases m with
   | zero=>
    simp only[List.getElem?_cons_zero,Option.some.injEq]at hx hy;subst hx hy;simp[aA,h]
   | succ m=>
    simp only[List.getElem?_cons_succ]at hx hy;simp[aA,ih hx hy]
theorem qg:∀ e:aq,∀ (w0:World) (cs cs':List Value) (y:aq),bf w0 cs e→bf w0 cs' y→Calls Tryz.prog 132 #[.agg cs.toArray,.agg cs'.toArray] w0 fun r w'=>r=.returned (.bool (eU e y))∧auT w0.heap.size w0 w':=by
 refine aq.ind fun e ih=>?_
 intro w0 cs cs' y h h';obtain⟨nv,kv,rfl,C9,hk⟩:=h.open;obtain⟨ka,kc,rfl,-,CP,hcell⟩:=hk.form (by decide);obtain⟨nv',kv',rfl,ahO,hk'⟩:=h'.open;obtain⟨ka',kc',rfl,-,-,BF⟩:=hk'.form (by decide);have no:eU e y=false→Ending.returned (mE [Value.bool false])=.returned (.bool (eU e y)):=fun h=>by rw[h];rfl
 refine cL [] (fn:=Tryz.f132) Tryz.func132 rfl Tryz.ntmps132 rfl fun g1 w1 M1=>fun g2 w2 M2=>lb 1<|an rfl<|lb 0<|an rfl<|lb 1<|an (fun _=>rfl)<|lb 0<|an (fun _=>rfl)<|lb 1<|an (fun _=>rfl)<|lb 0<|an (fun _=>rfl)<|lb 1<|an (fun _=>rfl)<|lb 0<|an (fun _=>rfl)<|lb 1<|an (fun _=>rfl)<|lb 0<|an (fun _=>rfl)<|ei<|an (fun _=>⟨xg,fun w=>uQ e.set y.set w⟩)<|lb 1<|an (fun _=>rfl)<|lb 0<|an (fun _=>rfl)<|cl<|an (fun _=>nI _ _ _ _ _ (C9.keep M2.below) (ahO.keep M2.below)) fun w3 M=>lb 1<|an (fun _=>rfl)<|lb 0<|an (fun _=>rfl)<|an (fun h M=>⟨no ?_,M.below⟩) fun h=>?_
 ·rw[AJ];by_cases hl:e.kids.length=y.kids.length
  ·simp only[hl]at h;simp at h ⊢;intro a1 a2 a3 a4 a5 a6
   simp_all
  ·rw[← tO hl,Bool.and_false]
 simp only[Bool.or_eq_false_iff,Bool.not_eq_false',decide_eq_true_eq]at h;obtain⟨⟨⟨⟨⟨⟨h1,h2⟩,h3⟩,h4⟩,h5⟩,h6⟩,h7⟩:=h;have hll:e.kids.length=y.kids.length:=by omega
 have hE:eU e y=aA eU e.kids y.kids:=by
  rw[AJ];simp[h1,h2,h3,h4,h5,h6]
 refine lr (ι:=Nat) (fun m=>[(5,.int .i64 (m:Int))]) (fun m _=>m≤e.kids.length∧aA eU (e.kids.take m) (y.kids.take m)=true) (fun m=>e.kids.length-m) 0 (an ⟨⟨rfl,trivial⟩,fun M=>⟨M,auX _,eZ⟩⟩ ?_);rintro m w M ⟨hm,ht⟩;refine lb 1<|an rfl<|an (fun h8=>?_) fun h8 M=>⟨?_,M.below⟩
 ·simp only[decide_eq_true_eq]at h8;obtain⟨x1,hx⟩:∃ x,e.kids[m]?=some x:=⟨_,auZ (by omega)⟩;obtain⟨x2,hy⟩:∃ x,y.kids[m]?=some x:=⟨_,auZ (by omega)⟩;obtain⟨b1,o1,z1,e1,BD,-,hr1⟩:=hcell m x1 hx;obtain⟨b2,o2,z2,e2,he2,-,MZ⟩:=BF m x2 hy;obtain⟨IY,UG,rfl,-⟩:=BD.open;obtain⟨Uh,kv2,rfl,-⟩:=he2.open;refine dr (by kernel_rfl)<|lb 1<|an rfl<|ia<|an ⟨e1,rfl,by omega⟩<|lc<|an (cF M.below hr1)<|lb 0<|an rfl<|ia<|an ⟨e2,rfl,by omega⟩<|lc<|an (cF M.below MZ)<|cl<|an (fun w' hb' M'=>ih x1 (auL hx) _ _ _ x2 (bf.keep M'.below BD) (bf.keep M'.below he2)) fun w4 hb4 M=>an (fun h9 M=>⟨no ?_,M.below⟩) fun h9=>an (by omega) (bk (m+1) ⟨rfl,trivial⟩ (fun M=>⟨M,by omega,?_⟩) (by dsimp only;omega))
  ·rw[hE,Wq hx hy (by simpa using h9)]
  ·rw[fq hx hy,ht];simpa using h9
 ·simp only[decide_eq_false_iff_not]at h8;obtain rfl:m=e.kids.length:=by omega
  rw[hE,← fu hll,ht];rfl
theorem z6{α:Type}{p:α→α→Bool}{l r:List α}(h:aA p l r=true):l.length=r.length:=by
 by_cases hl:l.length=r.length
 ·exact hl
 ·rw[← tO hl]at h;cases h
theorem EY{p q:aC}(h:kq p q=true):p.classes.length=q.classes.length∧p.types.length=q.types.length∧p.attrs=q.attrs∧p.roles=q.roles∧p.users=q.users∧p.bools=q.bools∧p.aZ=q.aZ∧p.cats=q.cats:=by
 unfold kq at h;simp only[au_,decide_eq_true_eq]at h;obtain⟨⟨⟨⟨⟨⟨⟨h1,h2⟩,h3⟩,h4⟩,h5⟩,h6⟩,h7⟩,h8⟩:=h;exact⟨z6 h1,z6 h2,h3,h4,h5,h6,h7,h8⟩
theorem ug(w0:World)(c0 c1 c2 c3 c4 c5 c6 c7 c8 c9 aV aP aO aU aT aS aR d0 d1 d2 d3 d4 d5 d6 d7 d8 d9 Ch Cg Ce Cd Cc Cb Ca:Value)(p q:aC)(hp:aM w0 c0 c1 c2 c3 c4 c5 c6 c7 c8 c9 aV aP aO aU aT aS aR p)(hq:aM w0 d0 d1 d2 d3 d4 d5 d6 d7 d8 d9 Ch Cg Ce Cd Cc Cb Ca q):Calls Tryz.prog 67 #[.agg #[c0,c1,c2,c3,c4,c5,c6,c7,c8,c9,aV,aP,aO,aU,aT,aS,aR],.agg #[d0,d1,d2,d3,d4,d5,d6,d7,d8,d9,Ch,Cg,Ce,Cd,Cc,Cb,Ca]] w0 fun r w'=>r=.returned (.bool (kq p q))∧auT w0.heap.size w0 w':=by
 obtain⟨la0,lk0,rfl,-,hm0,hc0⟩:=au.form hp.classes (by decide);obtain⟨ma0,mk0,rfl,-,-,Zs⟩:=au.form hq.classes (by decide);obtain⟨la1,lk1,rfl,-,hm1,hc1⟩:=au.form hp.types (by decide);obtain⟨ma1,mk1,rfl,-,-,hd1⟩:=au.form hq.types (by decide);obtain⟨la2,lk2,rfl,-,hm2,-⟩:=SliceAt.form hp.attrs (by decide);obtain⟨ma2,mk2,rfl,-⟩:=SliceAt.form hq.attrs (by decide);obtain⟨la3,lk3,rfl,-,hm3,-⟩:=SliceAt.form hp.roles (by decide);obtain⟨ma3,mk3,rfl,-⟩:=SliceAt.form hq.roles (by decide);obtain⟨la4,lk4,rfl,-,hm4,-⟩:=SliceAt.form hp.users (by decide);obtain⟨ma4,mk4,rfl,-⟩:=SliceAt.form hq.users (by decide);obtain⟨g_,gZ,rfl,-,hm5,-⟩:=SliceAt.form hp.bools (by decide);obtain⟨ma5,mk5,rfl,-⟩:=SliceAt.form hq.bools (by decide);obtain⟨ka6,kk6,hv6,-⟩:=aF.get hp.aZ;have no:kq p q=false→Ending.returned (mE [Value.bool false])=.returned (.bool (kq p q)):=fun h=>by rw[h];rfl
 refine cL [] (fn:=Tryz.f67) Tryz.func67 rfl Tryz.ntmps67 rfl fun g1 w1 M1=>fun g2 w2 M2=>lb 1<|an rfl<|lb 0<|an rfl<|lb 1<|an (fun _=>rfl)<|lb 0<|an (fun _=>rfl)<|lb 1<|an (fun _=>rfl)<|lb 0<|an (fun _=>rfl)<|lb 1<|an (fun _=>rfl)<|lb 0<|an (fun _=>rfl)<|lb 1<|an (fun _=>rfl)<|lb 0<|an (fun _=>rfl)<|lb 1<|an (fun _=>rfl)<|lb 0<|an (fun _=>rfl)<|lb 1<|an (fun _=>rfl)<|lb 0<|an (fun _=>rfl)<|cl<|an (fun _=>nI _ _ _ _ _ (aF.keep hp.aZ M2.below) (aF.keep hq.aZ M2.below)) fun w3 M=>lb 1<|an (fun _=>rfl)<|lb 0<|an (fun _=>rfl)<|cl<|an (fun _=>nI _ _ _ _ _ (aF.keep hp.cats M.below) (aF.keep hq.cats M.below)) fun w4 M=>an (fun h M=>⟨no ?_,M.below⟩) fun h=>?_
 ·cases hs:kq p q with
  | false=>rfl
  | true=>
   obtain⟨a1,a2,a3,a4,a5,a6,a7,a8⟩:=EY hs;simp[a1,a2,a3,a4,a5,a6,a7,a8]at h
 simp only[Bool.or_eq_false_iff,Bool.not_eq_false',decide_eq_true_eq]at h;obtain⟨⟨⟨⟨⟨⟨⟨Ng,Vo⟩,Vv⟩,Vr⟩,Vn⟩,Vu⟩,hS1⟩,hS2⟩:=h;have M_:p.classes.length=q.classes.length:=by have:=Ng;omega
 have Va:p.types.length=q.types.length:=by have:=Vo;omega
 have Jx:p.attrs.length=q.attrs.length:=by have:=Vv;omega
 have Ju:p.roles.length=q.roles.length:=by have:=Vr;omega
 have Jr:p.users.length=q.users.length:=by have:=Vn;omega
 have Jw:p.bools.length=q.bools.length:=by have:=Vu;omega
 refine lr (ι:=Nat) (fun m=>[(5,.bool (true&&aA mK (p.classes.take m) (q.classes.take m))),(6,.int .i64 (m:Int))]) (fun m _=>m≤p.classes.length) (fun m=>p.classes.length-m) 0 (an ⟨⟨eC (by rw[eZ];rfl),rfl,trivial⟩,fun M=>⟨M,auX _⟩⟩ ?_);intro m w M hm;refine lb 1<|an rfl<|an (fun h=>?_) fun h=>?_
 ·simp only[decide_eq_true_eq]at h;obtain⟨x,hx⟩:∃ x,p.classes[m]?=some x:=⟨_,auZ (by omega)⟩;obtain⟨y,hy⟩:∃ y,q.classes[m]?=some y:=⟨_,auZ (by omega)⟩;obtain⟨b,o,z,e1,hz,-,hc⟩:=hc0 m x hx;obtain⟨b',o',z',e2,hz',-,hc'⟩:=Zs m y hy;obtain⟨pv,rfl,hpv⟩:=hz;obtain⟨pv',rfl,abf⟩:=hz';refine dr (by kernel_rfl)<|lb 1<|an (fun _=>rfl)<|ia<|an (fun _=>⟨e1,rfl,by omega⟩)<|lc<|an (fun _=>avb M.below (hc 0 _ rfl))<|lb 0<|an (fun _=>rfl)<|ia<|an (fun _=>⟨e2,rfl,by omega⟩)<|lc<|an (fun _=>avb M.below (hc' 0 _ rfl))<|lb 1<|an (fun _=>rfl)<|ia<|an (fun _=>⟨e1,rfl,by omega⟩)<|lc<|an (fun _=>avb M.below (hc 1 _ rfl))<|lb 0<|an (fun _=>rfl)<|ia<|an (fun _=>⟨e2,rfl,by omega⟩)<|lc<|an (fun _=>avb M.below (hc' 1 _ rfl))<|cl<|an (fun _ w' hb' M'=>nI w' _ _ _ _ (hpv.keep M'.below) (abf.keep M'.below)) fun w2 hb M=>an (by omega) (bk (m+1) ⟨eC (by rw[fq hx hy];unfold mK;simp[Bool.and_assoc,oD]),rfl,trivial⟩ (fun M=>⟨M,by omega⟩) (by dsimp only;omega))
 simp only[decide_eq_false_iff_not]at h;obtain rfl:m=p.classes.length:=by omega
 refine lr (ι:=Nat) (fun m=>[(5,.bool ((true&&aA mK p.classes q.classes)&&aA nL (p.types.take m) (q.types.take m))),(7,.int .i64 (m:Int))]) (fun m _=>m≤p.types.length) (fun m=>p.types.length-m) 0 (an ⟨⟨eC (by rw[fu M_,eZ,Bool.and_true]),rfl,trivial⟩,fun M=>⟨M,auX _⟩⟩ ?_);intro m w M hm;refine lb 1<|an rfl<|an (fun h=>?_) fun h=>?_
 ·simp only[decide_eq_true_eq]at h;obtain⟨x,hx⟩:∃ x,p.types[m]?=some x:=⟨_,auZ (by omega)⟩;obtain⟨y,hy⟩:∃ y,q.types[m]?=some y:=⟨_,auZ (by omega)⟩;obtain⟨b,o,z,e1,hz,-,hc⟩:=hc1 m x hx;obtain⟨b',o',z',e2,hz',-,hc'⟩:=hd1 m y hy;obtain⟨pv,rfl,hpv⟩:=hz;obtain⟨pv',rfl,abf⟩:=hz';refine dr (by kernel_rfl)<|lb 1<|an (fun _=>rfl)<|ia<|an (fun _=>⟨e1,rfl,by omega⟩)<|lc<|an (fun _=>avb M.below (hc 0 _ rfl))<|lb 0<|an (fun _=>rfl)<|ia<|an (fun _=>⟨e2,rfl,by omega⟩)<|lc<|an (fun _=>avb M.below (hc' 0 _ rfl))<|lb 1<|an (fun _=>rfl)<|ia<|an (fun _=>⟨e1,rfl,by omega⟩)<|lc<|an (fun _=>avb M.below (hc 2 _ rfl))<|lb 0<|an (fun _=>rfl)<|ia<|an (fun _=>⟨e2,rfl,by omega⟩)<|lc<|an (fun _=>avb M.below (hc' 2 _ rfl))<|lb 1<|an (fun _=>rfl)<|ia<|an (fun _=>⟨e1,rfl,by omega⟩)<|lc<|an (fun _=>avb M.below (hc 1 _ rfl))<|lb 0<|an (fun _=>rfl)<|ia<|an (fun _=>⟨e2,rfl,by omega⟩)<|lc<|an (fun _=>avb M.below (hc' 1 _ rfl))<|cl<|an (fun _ w' hb' M'=>nI w' _ _ _ _ (hpv.keep M'.below) (abf.keep M'.below)) fun w2 hb M=>an (by omega) (bk (m+1) ⟨eC (by rw[fq hx hy];unfold nL;simp[Bool.and_assoc,oD]),rfl,trivial⟩ (fun M=>⟨M,by omega⟩) (by dsimp only;omega))
 simp only[decide_eq_false_iff_not]at h;obtain rfl:m=p.types.length:=by omega
 refine lr (ι:=Nat) (fun m=>[(5,.bool (((true&&aA mK p.classes q.classes)&&aA nL p.types q.types)&&aA (fun x y=>decide (x=y)) (p.attrs.take m) (q.attrs.take m))),(8,.int .i64 (m:Int))]) (fun m _=>m≤p.attrs.length) (fun m=>p.attrs.length-m) 0 (an ⟨⟨eC (by rw[fu Va,eZ,Bool.and_true]),rfl,trivial⟩,fun M=>⟨M,auX _⟩⟩ ?_);intro m w M hm;refine lb 1<|an rfl<|an (fun h=>?_) fun h=>?_
 ·simp only[decide_eq_true_eq]at h;obtain⟨x,y,b,o,b',o',hx,hy,⟨e1,hc⟩,e2,hc'⟩:=dU (f:=kV.cells) (fun _=>rfl) (by decide) hp.attrs hq.attrs rfl rfl (m:=m) (by omega) Jx M.below;refine dr (by kernel_rfl)<|lb 1<|an (fun _=>rfl)<|ia<|an (fun _=>⟨e1,rfl,by omega⟩)<|lc<|an (fun _=>hc)<|lb 0<|an (fun _=>rfl)<|ia<|an (fun _=>⟨e2,rfl,by omega⟩)<|lc<|an (fun _=>hc')<|ei<|an (fun _=>⟨ZQ,fun w=>VU x y w⟩) fun w2 hb M=>an (by omega) (bk (m+1) ⟨eC (by rw[fq hx hy,Bool.and_assoc]),rfl,trivial⟩ (fun M=>⟨M,by omega⟩) (by dsimp only;omega))
 simp only[decide_eq_false_iff_not]at h;obtain rfl:m=p.attrs.length:=by omega
 refine lr (ι:=Nat) (fun m=>[(5,.bool ((((true&&aA mK p.classes q.classes)&&aA nL p.types q.types)&&aA (fun x y=>decide (x=y)) p.attrs q.attrs)&&aA (fun x y=>decide (x=y)) (p.roles.take m) (q.roles.take m))),(9,.int .i64 (m:Int))]) (fun m _=>m≤p.roles.length) (fun m=>p.roles.length-m) 0 (an ⟨⟨eC (by rw[fu Jx,eZ,Bool.and_true]),rfl,trivial⟩,fun M=>⟨M,auX _⟩⟩ ?_);intro m w M hm;refine lb 1<|an rfl<|an (fun h=>?_) fun h=>?_
 ·simp only[decide_eq_true_eq]at h;obtain⟨x,y,b,o,b',o',hx,hy,⟨e1,hc⟩,e2,hc'⟩:=dU (f:=iD.cells) (fun _=>rfl) (by decide) hp.roles hq.roles rfl rfl (m:=m) (by omega) Ju M.below;refine dr (by kernel_rfl)<|lb 1<|an (fun _=>rfl)<|ia<|an (fun _=>⟨e1,rfl,by omega⟩)<|lc<|an (fun _=>hc)<|lb 0<|an (fun _=>rfl)<|ia<|an (fun _=>⟨e2,rfl,by omega⟩)<|lc<|an (fun _=>hc')<|ei<|an (fun _=>⟨V1,fun w=>VT x y w⟩) fun w2 hb M=>an (by omega) (bk (m+1) ⟨eC (by rw[fq hx hy,Bool.and_assoc]),rfl,trivial⟩ (fun M=>⟨M,by omega⟩) (by dsimp only;omega))
 simp only[decide_eq_false_iff_not]at h;obtain rfl:m=p.roles.length:=by omega
 refine lr (ι:=Nat) (fun m=>[(5,.bool (((((true&&aA mK p.classes q.classes)&&aA nL p.types q.types)&&aA (fun x y=>decide (x=y)) p.attrs q.attrs)&&aA (fun x y=>decide (x=y)) p.roles q.roles)&&aA (fun x y=>decide (x=y)) (p.users.take m) (q.users.take m))),(10,.int .i64 (m:Int))]) (fun m _=>m≤p.users.length) (fun m=>p.users.length-m) 0 (an ⟨⟨eC (by rw[fu Ju,eZ,Bool.and_true]),rfl,trivial⟩,fun M=>⟨M,auX _⟩⟩ ?_);intro m w M hm;refine lb 1<|an rfl<|an (fun h=>?_) fun h=>?_
 ·simp only[decide_eq_true_eq]at h;obtain⟨x,y,b,o,b',o',hx,hy,⟨e1,hc⟩,e2,hc'⟩:=dU (f:=kC.cells) (fun _=>rfl) (by decide) hp.users hq.users rfl rfl (m:=m) (by omega) Jr M.below;refine dr (by kernel_rfl)<|lb 1<|an (fun _=>rfl)<|ia<|an (fun _=>⟨e1,rfl,by omega⟩)<|lc<|an (fun _=>hc)<|lb 0<|an (fun _=>rfl)<|ia<|an (fun _=>⟨e2,rfl,by omega⟩)<|lc<|an (fun _=>hc')<|ei<|an (fun _=>⟨ZP,fun w=>VR x y w⟩) fun w2 hb M=>an (by omega) (bk (m+1) ⟨eC (by rw[fq hx hy,Bool.and_assoc]),rfl,trivial⟩ (fun M=>⟨M,by omega⟩) (by dsimp only;omega))
 simp only[decide_eq_false_iff_not]at h;obtain rfl:m=p.users.length:=by omega
 refine lr (ι:=Nat) (fun m=>[(5,.bool ((((((true&&aA mK p.classes q.classes)&&aA nL p.types q.types)&&aA (fun x y=>decide (x=y)) p.attrs q.attrs)&&aA (fun x y=>decide (x=y)) p.roles q.roles)&&aA (fun x y=>decide (x=y)) p.users q.users)&&aA (fun x y=>decide (x=y)) (p.bools.take m) (q.bools.take m))),(11,.int .i64 (m:Int))]) (fun m _=>m≤p.bools.length) (fun m=>p.bools.length-m) 0 (an ⟨⟨eC (by rw[fu Jr,eZ,Bool.and_true]),rfl,trivial⟩,fun M=>⟨M,auX _⟩⟩ ?_);intro m w M hm;refine lb 1<|an rfl<|an (fun h=>?_) fun h=>?_
 ·simp only[decide_eq_true_eq]at h;obtain⟨x,y,b,o,b',o',hx,hy,⟨e1,hc⟩,e2,hc'⟩:=dU (f:=dP.cells) (fun _=>rfl) (by decide) hp.bools hq.bools rfl rfl (m:=m) (by omega) Jw M.below;refine dr (by kernel_rfl)<|lb 1<|an (fun _=>rfl)<|ia<|an (fun _=>⟨e1,rfl,by omega⟩)<|lc<|an (fun _=>hc)<|lb 0<|an (fun _=>rfl)<|ia<|an (fun _=>⟨e2,rfl,by omega⟩)<|lc<|an (fun _=>hc')<|ei<|an (fun _=>⟨ZO,fun w=>VQ x y w⟩) fun w2 hb M=>an (by omega) (bk (m+1) ⟨eC (by rw[fq hx hy,Bool.and_assoc]),rfl,trivial⟩ (fun M=>⟨M,by omega⟩) (by dsimp only;omega))
 simp only[decide_eq_false_iff_not]at h;obtain rfl:m=p.bools.length:=by omega
 intro M;refine⟨?_,M.below⟩;have e7:p.aZ=q.aZ:=by simpa using hS1
 have e8:p.cats=q.cats:=by simpa using hS2
 rw[fu Jw,kA,kA,kA,kA];unfold kq;simp only[e7,e8,decide_true,Bool.and_true,Bool.true_and,mE]
end Go.Proofs.YtdcofoaihmongaaGreat

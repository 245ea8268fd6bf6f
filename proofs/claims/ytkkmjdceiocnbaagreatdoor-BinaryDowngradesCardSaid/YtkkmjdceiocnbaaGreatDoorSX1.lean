import Derived.Great.BuildSlice
import Derived.Laws.OwnMore
import Derived.Laws.Rows
import Derived.Laws.StructEq
import Derived.Laws.Tables
import Derived.Maps.Own
import Derived.Maps.OwnSet
import Derived.Maps.Range
import Derived.Test.YtkkmjdceiocnbaaGreatDoorProg
import Derived.Test.YtkkmjdceiocnbaaGreatDoorSX0
open Array renaming getD_eq_getD_getElem?→ah6
open Bool renaming and_eq_true→ah8
open Go.RowKit renaming Below→ah7
open Go.Sem renaming run_bind→ah5
open Int renaming toNat_of_nonneg→ah2
open List renaming mem_map→ahX,getElem?_eq_getElem→ahY,length_take→ahZ,getElem?_map→ah0,mem_cons→ah1,getElem?_eq_some_iff→ah3,mem_of_getElem?→ah_,mem_cons_self→aib,mem_cons_of_mem→aic
open Nat renaming mul_le_mul_right→ah4,eq_of_beq_eq_true→aia
open Option.some renaming inj→ah9
set_option maxRecDepth 100000
set_option maxHeartbeats 8000000
set_option linter.unusedSectionVars false
set_option linter.unusedSimpArgs false
set_option linter.unusedVariables false
namespace Go.Proofs.YtkkmjdceiocnbaaGreatDoor
open Go Go.RowKit
def byteCells(l:List Nat):List Value:=l.map fun(x:Nat)=>Value.int .u8 (x:Int)
def Bytes(l:List Nat):Prop:=∀ x∈l,x<256
def aj(w:World)(v:Value)(l:List Nat):Prop:=SliceAt w v 1 l.length (byteCells l)∧Bytes l
theorem iW(l:List Nat):∀ u∈byteCells l,u.oneCell'=true:=fun u hu=>by
 obtain⟨x,_,rfl⟩:=ahX.1 hu;rfl
theorem byteCells_append(a b:List Nat):byteCells (a++b)=byteCells a++byteCells b:=by simp[byteCells]
theorem Bytes.append{a b:List Nat}(ha:Bytes a)(hb:Bytes b):Bytes (a++b):=fun x hx=>(List.mem_append.1 hx).elim (ha x) (hb x)
theorem Bytes.drop{l:List Nat}(h:Bytes l)(i:Nat):Bytes (l.drop i):=fun x hx=>h x (List.mem_of_mem_drop hx)
theorem Bytes.take{l:List Nat}(h:Bytes l)(i:Nat):Bytes (l.take i):=fun x hx=>h x (List.mem_of_mem_take hx)
theorem aj.keep{w w':World}{v:Value}{l:List Nat}(h:aj w v l)(hb:Below w.heap.size w w'):aj w' v l:=⟨h.1.keep hb,h.2⟩
theorem aj.nil(w:World):aj w (.slice none 0 0) []:=⟨SliceAt.nil w 1,by intro x hx;cases hx⟩
theorem kr{w:World}{v:Value}{l:List Nat}(h:aj w v l):
 ∃ a c,v=.slice a l.length c∧l.length≤c∧l.length≤9223372036854775807∧∀ k:Nat,k<l.length→∃ (y b off:Nat),a=some ⟨b,off,none⟩∧l[k]?=some y∧y<256∧w.cell? ⟨b,off+k,none⟩=some (.int .u8 y):=by
 obtain⟨a,c,rfl,hc0,hm,ha⟩:=h.1.form (by omega);refine⟨a,c,rfl,hc0,hm,fun k hk=>?_⟩;obtain⟨b,off,rfl,hc⟩:=ha k hk;exact⟨l[k],b,off,rfl,ahY hk,h.2 _ (List.getElem_mem hk),by simpa using hc 0 _ (by simp[byteCells,hk])⟩
theorem aj.part{w:World}{a:Addr}{c:Nat}{l:List Nat}(h:aj w (.slice (some a) l.length c) l){i j c':Nat}(hi:i≤j)(hj:j≤l.length)(hc:j-i≤c'):
 aj w (.slice (some (a.add i)) (j-i) c') ((l.take j).drop i):=by
 have hm:=h.1.2.1;have hl:((l.take j).drop i).length=j-i:=by rw[List.length_drop,ahZ];omega
 refine⟨⟨by simp[byteCells],by omega,iW _,.inr ⟨_,c',by rw[hl],by omega,fun k u hk=>?_⟩⟩,(h.2.take j).drop i⟩;rcases h.1.2.2.2 with⟨h1,_⟩|⟨a',c1,h1,_,hc1⟩
 ·cases h1
 ·simp only[Value.slice.injEq,Option.some.injEq] at h1;obtain⟨rfl,-,rfl⟩:=h1
  have:=hc1 (i+k) u (by
   rw[byteCells,ah0] at hk ⊢;obtain⟨y,hy,rfl⟩:=Option.map_eq_some_iff.1 hk;rw[List.getElem?_drop] at hy;rw[List.getElem?_take] at hy;split at hy
   ·rw[hy];rfl
   ·cases hy)
  unfold Addr.add at this ⊢;by_cases hi0:i=0<;>by_cases hk0:k=0<;>simp_all [Nat.add_assoc]
theorem aj.zero(w:World)(a:Option Addr):aj w (.slice a 0 0) []∨a=none:=by
 cases a with
 | none=>exact .inr rfl
 | some a=>exact .inl ⟨⟨by simp[byteCells],by simp[maxLen],iW _,.inr ⟨a,0,rfl,Nat.le_refl _,fun j u h=>by simp[byteCells] at h⟩⟩,by intro x hx;cases hx⟩
theorem aj.empty(w:World)(a:Option Addr):aj w (.slice a 0 0) []:=by
 rcases aj.zero w a with h|rfl
 ·exact h
 ·exact aj.nil w
def oz(n:Int)(c:Nat):Int:=bits .xor .u32 n (c:Int)*16777619%4294967296
def k_(l:List Nat):Int:=l.foldl oz 2166136261
theorem IL(l:List Nat)(c:Nat):k_ (l++[c])=oz (k_ l) c:=by simp[k_]
theorem OX(l:List Nat):∀ n:Int,0≤n→n<4294967296→0≤l.foldl oz n∧l.foldl oz n<4294967296:=by
 induction l with
 | nil=>intro n h0 h1;exact⟨h0,h1⟩
 | cons c l ih=>intro n _ _;exact ih _ (by unfold oz;omega) (by unfold oz;omega)
theorem Eo(l:List Nat):0≤k_ l∧k_ l<4294967296:=OX l _ (by omega) (by omega)
theorem aj.new{w w':World}{g:Nat}{l:List Nat}(h:Whole w g 5 (byteCells l).toArray)(hb:Below w.heap.size w w')(hl:l.length≤100000)(hx:Bytes l):aj w' (.slice (some ⟨g,0,none⟩) l.length l.length) l:=by
 refine aj.keep ⟨⟨by simp[byteCells],by unfold maxLen;omega,iW l,.inr ⟨_,_,rfl,Nat.le_refl _,fun j u hu=>?_⟩⟩,hx⟩ hb;rw[Addr.add_lit,Nat.zero_add,h.cell];simpa using hu
def dA(n:Int):List Nat:=[(n%256).toNat,(n/256%256).toNat,(n/65536%256).toNat,(n/16777216).toNat]
theorem uT{n:Int}(h0:0≤n)(h1:n<4294967296):Bytes (dA n):=fun x hx=>by
 simp only[dA,ah1,List.not_mem_nil,or_false] at hx;rcases hx with rfl|rfl|rfl|rfl<;>omega
theorem wY{n:Int}(h0:0≤n):(byteCells (dA n)).toArray=#[.int .u8 (n%256),.int .u8 (n/256%256),.int .u8 (n/65536%256),.int .u8 (n/16777216)]:=by
 have e1:((n%256).toNat:Int)=n%256:=ah2 (by omega);have e2:((n/256%256).toNat:Int)=n/256%256:=ah2 (by omega);have e3:((n/65536%256).toNat:Int)=n/65536%256:=ah2 (by omega);have e4:((n/16777216).toNat:Int)=n/16777216:=ah2 (by omega);simp only[byteCells,dA,List.map_cons,List.map_nil,e1,e2,e3,e4]
def iQ(l:List Nat):List Nat×Int:=
 if l.length<4 then ([],5) else if l.drop (l.length-4)=dA (k_ (l.take (l.length-4))) then (l.take (l.length-4),0) else ([],7)
theorem Cz(n:Int)(h0:0≤n)(h1:n<4294967296)(k:Nat)(hk:k<4):∃ m:Nat,(dA n)[k]?=some m∧(m:Int)=n/256^k%256:=by
 match k,hk with
 | 0,_=>exact⟨_,rfl,by simp;omega⟩
 | 1,_=>exact⟨_,rfl,by simp;omega⟩
 | 2,_=>exact⟨_,rfl,by simp;omega⟩
 | 3,_=>exact⟨_,rfl,by simp;omega⟩
def aL(n:Nat):List Nat:=if n<128 then [n] else (n%128+128)::aL (n/128)
 termination_by n
 decreasing_by omega
theorem eW(n:Nat):Bytes (aL n):=by
 induction n using Nat.strongRecOn with
 | ind n ih=>
  rw[aL];split
  ·intro x hx;simp at hx;omega
  ·intro x hx;rcases ah1.1 hx with rfl|hx
   ·omega
   ·exact ih (n/128) (by omega) x hx
theorem EP(k:Nat):∀ n:Nat,n<128^(k+1)→(aL n).length≤k+1:=by
 induction k with
 | zero=>intro n h;rw[aL,if_pos (by simpa using h)];simp
 | succ k ih=>
  intro n h;rw[aL];split
  ·simp
  ·have:=ih (n/128) (by rw[Nat.pow_succ] at h;omega);simp only[List.length_cons];omega
theorem aZ{n:Nat}(h:n<18446744073709551616):(aL n).length≤10:=EP 9 n (Nat.lt_of_lt_of_le h (by decide))
theorem V0:∀ x:Nat,x<256→bits .or .u8 (x:Int) 128=((x%128+128:Nat):Int):=by decide +kernel
def Ch(m:Int):Nat:=if 0≤m then (2*m).toNat else (-2*m-1).toNat
theorem wI{m:Int}(h:eF m):Ch m<18446744073709551616:=by
 unfold Ch eF at *;split<;>omega
theorem KS(a:Nat)(h:a<18446744073709551616):bits .xor .u64 (a:Int) ((18446744073709551615:Nat):Int)=((18446744073709551615-a:Nat):Int):=by
 rw[bits_xor_u64_nat _ _ h (by omega)];have h1:=congrArg BitVec.toNat (BitVec.xor_allOnes (x:=BitVec.ofNat 64 a));rw[BitVec.toNat_xor,BitVec.toNat_not,BitVec.toNat_allOnes,BitVec.toNat_ofNat,Nat.mod_eq_of_lt h] at h1;exact congrArg (fun n:Nat=>(n:Int)) h1
theorem KR{m:Int}(h:eF m):bits .xor .u64 (IntKind.u64.wrap (IntKind.u64.wrap m*2)) (IntKind.u64.wrap (m/9223372036854775808))=(Ch m:Int):=by
 unfold eF at h;rw[IntKind.wrap_u64,IntKind.wrap_u64,IntKind.wrap_u64];unfold Ch;by_cases h0:0≤m
 ·rw[if_pos h0];have e1:m%18446744073709551616*2%18446744073709551616=(((2*m).toNat:Nat):Int):=by omega
  have e2:m/9223372036854775808%18446744073709551616=((0:Nat):Int):=by omega
  rw[e1,e2,bits_xor_u64_nat _ _ (by omega) (by omega),Nat.xor_zero]
 ·rw[if_neg h0];have e1:m%18446744073709551616*2%18446744073709551616=(((2*m+18446744073709551616).toNat:Nat):Int):=by omega
  have e2:m/9223372036854775808%18446744073709551616=((18446744073709551615:Nat):Int):=by omega
  rw[e1,e2,KS _ (by omega)];omega
def bX(s:ByteArray):List Nat:=s.data.toList.map UInt8.toNat
theorem pT(s:ByteArray):Bytes (bX s):=fun x hx=>by
 obtain⟨y,_,rfl⟩:=ahX.1 hx;exact y.toNat_lt
theorem dF(s:ByteArray):(bX s).length=s.size:=by simp[bX]
def bM(a b c d:Nat):Nat:=if d≠0 then 4 else if c≠0 then 3 else if b≠0 then 2 else if a≠0 then 1 else 0
def iK(a b c d:Nat):List Nat:=aL (bM a b c d)++(([a,b,c,d]:List Nat).take (bM a b c d)).flatMap aL
theorem ny(a b c d:Nat):bM a b c d≤4:=by
 unfold bM
 repeat' split
 all_goals omega
theorem zT{a b c d j y:Nat}(h:([a,b,c,d]:List Nat)[j]?=some y)(hy:y≠0):j+1≤bM a b c d:=by
 match j,h with
 | 0,h=>simp at h;subst h;unfold bM;repeat' split
        all_goals omega
 | 1,h=>simp at h;subst h;unfold bM;repeat' split
        all_goals omega
 | 2,h=>simp at h;subst h;unfold bM;repeat' split
        all_goals omega
 | 3,h=>simp at h;subst h;unfold bM;repeat' split
        all_goals omega
 | j+4,h=>simp at h
theorem zS{a b c d j:Nat}(h:([a,b,c,d]:List Nat)[j]?=some 0)(hs:bM a b c d≤j+1):bM a b c d≤j:=by
 match j,h with
 | 0,h=>simp at h;subst h;unfold bM at *;repeat' split at hs
        all_goals simp_all
 | 1,h=>simp at h;subst h;unfold bM at *;repeat' split at hs
        all_goals simp_all
 | 2,h=>simp at h;subst h;unfold bM at *;repeat' split at hs
        all_goals simp_all
 | 3,h=>simp at h;subst h;unfold bM at *;repeat' split at hs
        all_goals simp_all
 | j+4,h=>simp at h
theorem vX{a b c d:Nat}(ha:cW a)(hb:cW b)(hc:cW c)(hd:cW d){j:Nat}(hj:j<4):∃ y,([a,b,c,d]:List Nat)[j]?=some y∧cW y:=by
 match j,hj with
 | 0,_=>exact⟨a,rfl,ha⟩
 | 1,_=>exact⟨b,rfl,hb⟩
 | 2,_=>exact⟨c,rfl,hc⟩
 | 3,_=>exact⟨d,rfl,hd⟩
theorem qI{a b c d j y:Nat}(h:([a,b,c,d]:List Nat)[j]?=some y):(#[.int .u64 (a:Int),.int .u64 (b:Int),.int .u64 (c:Int),.int .u64 (d:Int)]:Array Value)[j]?=some (.int .u64 (y:Int)):=by
 match j,h with
 | 0,h=>simp at h;subst h;rfl
 | 1,h=>simp at h;subst h;rfl
 | 2,h=>simp at h;subst h;rfl
 | 3,h=>simp at h;subst h;rfl
 | j+4,h=>simp at h
theorem yA{a b c d j:Nat}(hj:j≤4)(ha:cW a)(hb:cW b)(hc:cW c)(hd:cW d):((([a,b,c,d]:List Nat).take j).flatMap aL).length≤40:=by
 have h1:=aZ ha;have h2:=aZ hb;have h3:=aZ hc;have h4:=aZ hd
 match j,hj with
 | 0,_=>simp
 | 1,_=>simp;omega
 | 2,_=>simp;omega
 | 3,_=>simp;omega
 | 4,_=>simp;omega
def iR(i n:Nat):List Nat→Nat×List Nat×Int
 | []=>(0,[],if i<10 then 5 else 6)
 | c::r=>if 10≤i then (0,[],6) else if (i=9∧1<c)∨(0<i∧c=0) then (0,[],6) else if c<128 then (n+c%128*128^i,r,0) else iR (i+1) (n+c%128*128^i) r
def number(l:List Nat):Nat×List Nat×Int:=iR 0 0 l
theorem Jp(n:Nat)(l:List Nat):iR 10 n l=(0,[],6):=by cases l<;>simp[iR]
theorem Qx{l:List Nat}{k y:Nat}(h:l[k]?=some y):l.drop k=y::l.drop (k+1):=by
 obtain⟨hk,he⟩:=ah3.1 h;rw[List.drop_eq_getElem_cons hk,he]
theorem Ki:∀ y:Nat,y<256→bits .andNot .u8 (y:Int) 128=((y%128:Nat):Int):=by decide +kernel
theorem bits_or_u64_nat(a b:Nat)(ha:a<18446744073709551616)(hb:b<18446744073709551616):bits .or .u64 (a:Int) (b:Int)=((a|||b:Nat):Int):=by
 have hx:a|||b<2^64:=Nat.or_lt_two_pow (by omega) (by omega)
 have h1:(BitVec.ofInt 64 (a:Int)).toNat=a:=by
  rw[BitVec.ofInt_natCast,BitVec.toNat_ofNat];exact Nat.mod_eq_of_lt (by omega)
 have h2:(BitVec.ofInt 64 (b:Int)).toNat=b:=by
  rw[BitVec.ofInt_natCast,BitVec.toNat_ofNat];exact Nat.mod_eq_of_lt (by omega)
 show IntKind.u64.wrap ((BitVec.ofInt 64 (a:Int)|||BitVec.ofInt 64 (b:Int)).toNat:Int)=_;rw[BitVec.toNat_or,h1,h2,IntKind.wrap_u64];omega
theorem ER{k x:Nat}(hk:k≤9)(hx:x<128)(h9:k=9→x≤1):x*128^k<18446744073709551616:=by
 obtain rfl|rfl|rfl|rfl|rfl|rfl|rfl|rfl|rfl|rfl:k=0∨k=1∨k=2∨k=3∨k=4∨k=5∨k=6∨k=7∨k=8∨k=9:=by omega
 all_goals simp at h9 ⊢;omega
theorem Pj{k m:Nat}(hk:k≤9)(hm:m<128^k):m<18446744073709551616:=by
 have:=ER (k:=k) (x:=1) hk (by omega) (by omega);omega
theorem SC(k m y P:Nat)(hP:P=128^k)(hk:k≤9)(hm:m<128^k)(hy:y<256)(h9:k=9→y%128≤1):
 bits .or .u64 (m:Int) (IntKind.u64.wrap (IntKind.u64.wrap (bits .andNot .u8 (y:Int) 128)*(P:Int)))=((m+y%128*128^k:Nat):Int):=by
 have hb:=ER hk (Nat.mod_lt y (by omega)) h9;have hm':=Pj hk hm;rw[Ki y hy,IntKind.wrap_u64,IntKind.wrap_u64];have e1:((y%128:Nat):Int)%18446744073709551616=((y%128:Nat):Int):=by omega
 rw[e1,← Int.natCast_mul,hP]
 have e2:((y%128*128^k:Nat):Int)%18446744073709551616=((y%128*128^k:Nat):Int):=by
  generalize y%128*128^k=z at hb;omega
 rw[e2,bits_or_u64_nat _ _ hm' hb];have e3:(128:Nat)^k=2^(7*k):=by rw[Nat.pow_mul]
 rw[Nat.or_comm,Nat.add_comm m,Nat.mul_comm (y%128),e3,← Nat.two_pow_add_eq_or_of_lt (by rw[← e3];exact hm)]
theorem Fl{k m y:Nat}(hm:m<128^k):m+y%128*128^k<128^(k+1):=by
 rw[Nat.pow_succ];have h1:y%128*128^k≤127*128^k:=ah4 _ (by omega);omega
theorem C9:∀ (l:List Nat) (i n:Nat),i≤10→n<128^i→(iR i n l).1<18446744073709551616
 | [],i,n,_,_=>by simp[iR]
 | c::r,i,n,hi,hn=>by
  unfold iR;split
  ·simp
  ·split
   ·simp
   ·rename_i h1 h2;split
    ·rename_i h3;have h9:i=9→c%128≤1:=fun h=>by omega
     have hb:=ER (k:=i) (x:=c%128) (by omega) (by omega) h9;by_cases h8:i=9
     ·subst h8;have:c%128*128^9≤1*128^9:=ah4 _ (h9 rfl);simp at this hn ⊢;omega
     ·have h4:=Fl (y:=c) hn;have h5:(128:Nat)^(i+1)≤128^9:=Nat.pow_le_pow_right (by omega) (by omega);simp at h5 ⊢;omega
    ·exact C9 r (i+1) _ (by omega) (Fl hn)
theorem j8(l:List Nat):(number l).1<18446744073709551616:=C9 l 0 0 (by omega) Nat.one_pos
theorem jw:∀ (l:List Nat) (i n:Nat),Bytes l→Bytes (iR i n l).2.1∧(iR i n l).2.1.length≤l.length
 | [],i,n,h=>⟨h,Nat.le_refl _⟩
 | c::r,i,n,h=>by
  have hr:Bytes r:=fun x hx=>h x (by simp[hx])
  have h0:Bytes ([]:List Nat):=fun x hx=>nomatch hx
  unfold iR;split
  ·exact⟨h0,Nat.zero_le _⟩
  ·split
   ·exact⟨h0,Nat.zero_le _⟩
   ·split
    ·exact⟨hr,by simp⟩
    ·have:=jw r (i+1) (n+c%128*128^i) hr;exact⟨this.1,by simp;omega⟩
theorem Fj{l:List Nat}(h:Bytes l):(number l).2.1.length≤l.length:=(jw l 0 0 h).2
def OH(n:Nat):Int:=if n%2=0 then ((n/2:Nat):Int) else -((n/2:Nat):Int)-1
theorem Ax{a:Int}(h0:0≤a)(h1:a<9223372036854775808):bits .xor .i64 a 0=a:=by
 show IntKind.i64.wrap ((BitVec.ofInt 64 a ^^^ BitVec.ofInt 64 0).toNat:Int)=a;rw[show BitVec.ofInt 64 0=0#64 from rfl,BitVec.xor_zero,BitVec.toNat_ofInt,IntKind.wrap_i64];omega
theorem Ay{a:Int}(h0:0≤a)(h1:a<9223372036854775808):bits .xor .i64 a (-1)=-a-1:=by
 show IntKind.i64.wrap ((BitVec.ofInt 64 a ^^^ BitVec.ofInt 64 (-1)).toNat:Int)=-a-1;rw[show BitVec.ofInt 64 (-1)=BitVec.allOnes 64 from rfl,BitVec.xor_allOnes,BitVec.toNat_not,BitVec.toNat_ofInt,IntKind.wrap_i64];omega
theorem QE(n:Nat)(h:n<18446744073709551616):bits .and .u64 (n:Int) 1=((n%2:Nat):Int):=by
 have h1:(BitVec.ofInt 64 (n:Int)).toNat=n:=by
  rw[BitVec.ofInt_natCast,BitVec.toNat_ofNat];exact Nat.mod_eq_of_lt (by omega)
 show IntKind.u64.wrap ((BitVec.ofInt 64 (n:Int)&&&BitVec.ofInt 64 1).toNat:Int)=_;rw[BitVec.toNat_and,h1,show(BitVec.ofInt 64 1).toNat=1 from rfl,Nat.and_one_is_mod,IntKind.wrap_u64];omega
def bZ(l:List Nat):Int×List Nat×Int:=if (number l).2.2=0 then (OH (number l).1,(number l).2.1,0) else (0,[],(number l).2.2)
def kR(l:List Nat)(most:Int):List Nat×List Nat×Int:=
 if (number l).2.2≠0 then ([],[],(number l).2.2) else if most<0∨most<(number l).1 then ([],[],4) else if (number l).2.1.length<(number l).1 then ([],[],5)
 else ((number l).2.1.take (number l).1,(number l).2.1.drop (number l).1,0)
def strOf(l:List Nat):ByteArray:=⟨(l.map UInt8.ofNat).toArray⟩
theorem zY{w:World}{a:Option Addr}{c n:Nat}{l:List Nat}(h:aj w (.slice a l.length c) l)(hn:n≤l.length):aj w (.slice a n c) (l.take n):=by
 cases a with
 | none=>
  rcases h.1.2.2.2 with⟨h1,h2⟩|⟨a',c',h1,_⟩
  ·simp only[Value.slice.injEq,true_and] at h1;obtain⟨h1,rfl⟩:=h1;obtain rfl:l=[]:=List.eq_nil_of_length_eq_zero h1;obtain rfl:n=0:=by simpa using hn
   exact aj.nil w
  ·cases h1
 | some a=>
  have h1:=h.part (i:=0) (j:=n) (c':=c) (Nat.zero_le _) hn (by
   rcases h.1.2.2.2 with⟨h1,_⟩|⟨a',c',h1,h2,_⟩
   ·cases h1
   ·simp only[Value.slice.injEq] at h1;omega)
  have e:a.add 0=a:=by simp[Addr.add]
  rw[e] at h1;simpa using h1
def bH:Nat→List Nat→List Nat×List Nat×Int
 | 0,l=>([],l,0)
 | k+1,l=>if (number l).2.2≠0 then ([],[],(number l).2.2) else ((number l).1::(bH k (number l).2.1).1,(bH k (number l).2.1).2.1,(bH k (number l).2.1).2.2)
def mI(l:List Nat):List Nat×List Nat×Int:=
 if (number l).2.2≠0 then ([0,0,0,0],[],(number l).2.2) else if 4<(number l).1 then ([0,0,0,0],[],6)
 else if (bH (number l).1 (number l).2.1).2.2≠0 then ([0,0,0,0],[],(bH (number l).1 (number l).2.1).2.2)
 else if 0<(number l).1∧(bH (number l).1 (number l).2.1).1[(number l).1-1]?=some 0 then ([0,0,0,0],[],6)
 else ((bH (number l).1 (number l).2.1).1++List.replicate (4-(number l).1) 0,(bH (number l).1 (number l).2.1).2.1,0)
theorem C8:∀ (l:List Nat) (i n v:Nat) (r:List Nat),Bytes l→iR i n l=(v,r,0)→∃ m,v=n+m*128^i∧aL m++r=l∧(0<i→0<m)
 | [],i,n,v,r,_,h=>by
  simp only[iR,Prod.mk.injEq] at h;have h3:=h.2.2;split at h3<;>simp at h3
 | c::t,i,n,v,r,hb,h=>by
  have hc:=hb c (by simp);have ht:Bytes t:=fun x hx=>hb x (by simp[hx])
  unfold iR at h;split at h
  ·simp at h
  ·split at h
   ·simp at h
   ·rename_i h1 h2;split at h
    ·rename_i h3;simp only[Prod.mk.injEq,and_true] at h;obtain⟨rfl,rfl⟩:=h;refine⟨c,by rw[Nat.mod_eq_of_lt h3],by rw[aL,if_pos h3];rfl,fun hi=>?_⟩;omega
    ·rename_i h3;obtain⟨m,hv,hp,hm⟩:=C8 t (i+1) _ v r ht h;have hm0:=hm (by omega);refine⟨c%128+128*m,?_,?_,fun _=>by omega⟩
     ·rw[hv,Nat.pow_succ,Nat.add_mul,Nat.add_assoc];congr 2;rw[Nat.mul_comm 128 m,Nat.mul_assoc,Nat.mul_comm 128]
     ·rw[aL,if_neg (by omega),show(c%128+128*m)%128+128=c by omega,show(c%128+128*m)/128=m by omega];simp[hp]
theorem lH{l:List Nat}{n:Nat}{r:List Nat}(hb:Bytes l)(h:number l=(n,r,0)):aL n++r=l:=by
 obtain⟨m,hv,hp,_⟩:=C8 l 0 0 n r hb h;simp at hv;rw[hv];exact hp
theorem OE{n:Nat}(h:n<18446744073709551616):Ch (OH n)=n∧eF (OH n):=by
 unfold Ch OH eF;by_cases hp:n%2=0
 ·rw[if_pos hp];exact⟨by rw[if_pos (by omega)];omega,by omega,by omega⟩
 ·rw[if_neg hp];exact⟨by rw[if_neg (by omega)];omega,by omega,by omega⟩
theorem zR{l:List Nat}{m:Int}{r:List Nat}(hb:Bytes l)(h:bZ l=(m,r,0)):aL (Ch m)++r=l∧eF m:=by
 have hn:=j8 l;unfold bZ at h;split at h
 ·rename_i he;simp only[Prod.mk.injEq,and_true] at h;obtain⟨rfl,rfl⟩:=h;have:=OE hn;rw[this.1];exact⟨lH hb (by rw[← he]),this.2⟩
 ·rename_i he;simp only[Prod.mk.injEq] at h;exact absurd h.2.2 he
theorem pS{l:List Nat}(h:Bytes l):bX (strOf l)=l:=by
 unfold bX strOf;rw[List.map_map]
 have:∀ x∈l,(UInt8.toNat∘UInt8.ofNat) x=x:=fun x hx=>by
  have:=h x hx;simp;omega
 rw[List.map_congr_left this];simp
theorem w_(l:List Nat):(strOf l).size=l.length:=by
 show(l.map UInt8.ofNat).toArray.size=l.length;simp
theorem OV{l s r:List Nat}{most:Int}(hb:Bytes l)(h:kR l most=(s,r,0)):aL s.length++s++r=l∧(s.length:Int)≤most∧Bytes s:=by
 unfold kR at h;have hbr:Bytes (number l).2.1:=(jw l 0 0 hb).1;split at h
 ·rename_i he;simp only[Prod.mk.injEq] at h;exact absurd h.2.2 he
 ·rename_i he;split at h
  ·simp at h
  ·rename_i h1;split at h
   ·simp at h
   ·rename_i h2;simp only[Prod.mk.injEq,and_true] at h;obtain⟨rfl,rfl⟩:=h;have he':(number l).2.2=0:=by simpa using he
    have hl:((number l).2.1.take (number l).1).length=(number l).1:=by rw[ahZ];omega
    rw[hl,List.append_assoc,List.take_append_drop];exact⟨lH hb (by rw[← he']),by omega,hbr.take _⟩
theorem yx:∀ (k:Nat) (l xs r:List Nat),Bytes l→bH k l=(xs,r,0)→xs.length=k∧(∀ x∈xs,cW x)∧xs.flatMap aL++r=l∧Bytes r
 | 0,l,xs,r,hb,h=>by
  simp only[bH,Prod.mk.injEq,and_true] at h;obtain⟨rfl,rfl⟩:=h;exact⟨rfl,by simp,rfl,hb⟩
 | k+1,l,xs,r,hb,h=>by
  unfold bH at h;split at h
  ·rename_i he;simp only[Prod.mk.injEq] at h;exact absurd h.2.2 he
  ·rename_i he;simp only[Prod.mk.injEq] at h;obtain⟨rfl,rfl,h3⟩:=h;have he':(number l).2.2=0:=by simpa using he
   have hbr:Bytes (number l).2.1:=(jw l 0 0 hb).1;obtain⟨h4,h5,h6,h7⟩:=yx k (number l).2.1 _ _ hbr (by rw[← h3]);refine⟨by simp[h4],?_,?_,h7⟩
   ·intro x hx;rcases ah1.1 hx with rfl|hx
    ·exact j8 l
    ·exact h5 x hx
   ·rw[List.flatMap_cons,List.append_assoc,h6];exact lH hb (by rw[← he'])
theorem RX{l ss r:List Nat}(hb:Bytes l)(h:mI l=(ss,r,0)):∃ a b c d,ss=[a,b,c,d]∧cW a∧cW b∧cW c∧cW d∧iK a b c d++r=l:=by
 unfold mI at h;have hbr:Bytes (number l).2.1:=(jw l 0 0 hb).1;split at h
 ·rename_i he;simp only[Prod.mk.injEq] at h;exact absurd h.2.2 he
 ·rename_i he;split at h
  ·simp at h
  ·rename_i h1;split at h
   ·rename_i h2;simp only[Prod.mk.injEq] at h;exact absurd h.2.2 h2
   ·rename_i h2;split at h
    ·simp at h
    ·rename_i h3;simp only[Prod.mk.injEq,and_true] at h;obtain⟨rfl,rfl⟩:=h;have he':(number l).2.2=0:=by simpa using he
     have h2':(bH (number l).1 (number l).2.1).2.2=0:=by simpa using h2
     obtain⟨h4,h5,h6,_⟩:=yx _ _ _ _ hbr (show bH (number l).1 (number l).2.1=(_,_,0) by rw[← h2']);have hnl:=lH (n:=(number l).1) (r:=(number l).2.1) hb (by rw[← he']);generalize (bH (number l).1 (number l).2.1).2.1=rr at *;generalize (bH (number l).1 (number l).2.1).1=xs at *;generalize (number l).1=k at *;have z:cW 0:=by unfold cW;omega
     subst h4;rw[← hnl,← h6]
     match xs,h1,h3,h5 with
     | [],_,_,_=>exact⟨0,0,0,0,rfl,z,z,z,z,by simp[iK,bM]⟩
     | [a],_,h3,h5=>
      have ha:a≠0:=by simpa using h3
      exact⟨a,0,0,0,rfl,h5 a (by simp),z,z,z,by simp[iK,bM,ha]⟩
     | [a,b],_,h3,h5=>
      have ha:b≠0:=by simpa using h3
      exact⟨a,b,0,0,rfl,h5 a (by simp),h5 b (by simp),z,z,by simp[iK,bM,ha]⟩
     | [a,b,c],_,h3,h5=>
      have ha:c≠0:=by simpa using h3
      exact⟨a,b,c,0,rfl,h5 a (by simp),h5 b (by simp),h5 c (by simp),z,by simp[iK,bM,ha]⟩
     | [a,b,c,d],_,h3,h5=>
      have ha:d≠0:=by simpa using h3
      exact⟨a,b,c,d,rfl,h5 a (by simp),h5 b (by simp),h5 c (by simp),h5 d (by simp),by simp[iK,bM,ha]⟩
     | _::_::_::_::_::_,h1,_,_=>simp at h1
theorem Jq:∀ (m i n:Nat) (r:List Nat),m*128^i<18446744073709551616→(0<i→0<m)→iR i n (aL m++r)=(n+m*128^i,r,0):=by
 intro m
 induction m using Nat.strongRecOn with
 | ind m ih=>
  intro i n r hm h0
  have hi:i≤9:=by
   refine Classical.byContradiction fun hi=>?_
   have h1:(128:Nat)^10≤128^i:=Nat.pow_le_pow_right (by omega) (by omega);have h2:1*128^i≤m*128^i:=ah4 _ (h0 (by omega));have h3:(128:Nat)^10=1180591620717411303424:=by decide
   omega
  have h9:i=9→m≤1:=fun e=>by
   subst e;have h3:(128:Nat)^9=9223372036854775808:=by decide
   rw[h3] at hm;omega
  rw[aL];by_cases hlt:m<128
  ·rw[if_pos hlt];show iR i n (m::r)=_;unfold iR;rw[if_neg (by omega),if_neg (by omega),if_pos hlt,Nat.mod_eq_of_lt hlt]
  ·rw[if_neg hlt];show iR i n ((m%128+128)::(aL (m/128)++r))=_;unfold iR;rw[if_neg (by omega),if_neg (by omega),if_neg (by omega)]
   have hd:m/128*128^(i+1)+m%128*128^i=m*128^i:=by
    rw[Nat.pow_succ,Nat.mul_comm (128^i) 128,← Nat.mul_assoc,← Nat.add_mul];congr 1;omega
   rw[ih (m/128) (by omega) (i+1) _ r (by omega) (fun _=>by omega),show(m%128+128)%128=m%128 by omega];congr 1;omega
theorem lX(n:Nat)(r:List Nat)(h:n<18446744073709551616):number (aL n++r)=(n,r,0):=by
 have:=Jq n 0 0 r (by simpa using h) (by omega);simpa[number] using this
theorem OG{m:Int}(h:eF m):OH (Ch m)=m:=by
 unfold OH Ch eF at *;split<;>split<;>omega
theorem Et(m:Int)(r:List Nat)(h:eF m):bZ (aL (Ch m)++r)=(m,r,0):=by
 unfold bZ;rw[lX _ r (wI h)];simp[OG h]
theorem wZ(s:ByteArray):strOf (bX s)=s:=by
 unfold strOf bX;rw[List.map_map];have:∀ x∈s.data.toList,(UInt8.ofNat∘UInt8.toNat) x=x:=fun x _=>by simp
 rw[List.map_congr_left this];simp
theorem vk:∀ (xs r:List Nat),(∀ x∈xs,cW x)→bH xs.length (xs.flatMap aL++r)=(xs,r,0)
 | [],r,_=>rfl
 | x::xs,r,h=>by
  have ih:=vk xs r fun y hy=>h y (by simp[hy])
  rw[List.length_cons,bH,List.flatMap_cons,List.append_assoc,lX _ _ (h x (by simp))];simp[ih]
theorem O2(a b c d:Nat)(r:List Nat)(ha:cW a)(hb:cW b)(hc:cW c)(hd:cW d):mI (iK a b c d++r)=([a,b,c,d],r,0):=by
 have hle:=ny a b c d;have hn:cW (bM a b c d):=by unfold cW;omega
 have hmem:∀ x∈([a,b,c,d]:List Nat).take (bM a b c d),cW x:=fun x hx=>by
  have:=List.mem_of_mem_take hx;simp at this;rcases this with rfl|rfl|rfl|rfl<;>assumption
 have hlen:(([a,b,c,d]:List Nat).take (bM a b c d)).length=bM a b c d:=by rw[ahZ];simp;omega
 have hg:=vk (([a,b,c,d]:List Nat).take (bM a b c d)) r hmem;rw[hlen] at hg;unfold mI iK;rw[List.append_assoc,lX _ _ hn];simp only[ne_eq,not_true_eq_false,if_false];rw[if_neg (by omega),hg];simp only[not_true_eq_false,if_false]
 have key:¬ (0<bM a b c d∧(([a,b,c,d]:List Nat).take (bM a b c d))[bM a b c d-1]?=some 0)∧([a,b,c,d]:List Nat).take (bM a b c d)++List.replicate (4-bM a b c d) 0=[a,b,c,d]:=by
  unfold bM;by_cases h4:d=0
  ·by_cases h3:c=0
   ·by_cases h2:b=0
    ·by_cases h1:a=0
     ·simp[h1,h2,h3,h4]
     ·simp[h1,h2,h3,h4]
    ·simp[h2,h3,h4]
   ·simp[h3,h4]
  ·simp[h4]
 rw[if_neg key.1,key.2]
def ah(f:Nat→Int):Nat→Nat→Int
 | 0,_=>0
 | k+1,i=>if f i=0 then ah f k (i+1) else f i
theorem aT(f:Nat→Int)(n:Nat):ah f (n-n) n=0:=by rw[Nat.sub_self];rfl
theorem aV{f:Nat→Int}{n i:Nat}(h:i<n)(hf:f i≠0):ah f (n-i) i=f i:=by
 obtain⟨k,hk⟩:∃ k,n-i=k+1:=⟨n-i-1,by omega⟩;rw[hk];exact if_neg hf
theorem aM{f:Nat→Int}{n i:Nat}(h:i<n)(hf:f i=0):ah f (n-i) i=ah f (n-(i+1)) (i+1):=by
 obtain⟨k,hk⟩:∃ k,n-i=k+1:=⟨n-i-1,by omega⟩;rw[hk,show n-(i+1)=k by omega];exact if_pos hf
theorem jx{f:Nat→Int}:∀ (k i:Nat),ah f k i=0↔∀ j,i≤j→j<i+k→f j=0
 | 0,i=>⟨fun _ j h1 h2=>by omega,fun _=>rfl⟩
 | k+1,i=>by
  unfold ah;by_cases h:f i=0
  ·rw[if_pos h,jx k (i+1)];constructor
   ·intro g j h1 h2;by_cases e:j=i
    ·subst e;exact h
    ·exact g j (by omega) (by omega)
   ·intro g j h1 h2;exact g j (by omega) (by omega)
  ·rw[if_neg h];exact⟨fun e=>absurd e h,fun g=>absurd (g i (by omega) (by omega)) h⟩
def jh(f:Nat→Int):Nat→Int
 | 0=>0
 | i+1=>max (jh f i) (f i)
theorem nH{f:Nat→Int}{b:Int}(hb:0≤b):∀ n,(∀ i,i<n→f i≤b)→jh f n≤b
 | 0,_=>hb
 | n+1,h=>Int.max_le.2 ⟨nH hb n fun i hi=>h i (by omega),h n (by omega)⟩
theorem fW(f:Nat→Int):∀ n,0≤jh f n
 | 0=>Int.le_refl 0
 | n+1=>Int.le_trans (fW f n) (Int.le_max_left _ _)
def eH(f:Nat→Bool):Nat→Nat→Bool
 | 0,_=>false
 | k+1,i=>f i||eH f k (i+1)
theorem jv(f:Nat→Bool)(n:Nat):eH f (n-n) n=false:=by rw[Nat.sub_self];rfl
theorem eG{f:Nat→Bool}{n i:Nat}(h:i<n)(hf:f i=true):eH f (n-i) i=true:=by
 obtain⟨k,hk⟩:∃ k,n-i=k+1:=⟨n-i-1,by omega⟩;rw[hk];show(f i||_)=true;rw[hf];rfl
theorem kE{f:Nat→Bool}{n i:Nat}(h:i<n)(hf:f i=false):eH f (n-i) i=eH f (n-(i+1)) (i+1):=by
 obtain⟨k,hk⟩:∃ k,n-i=k+1:=⟨n-i-1,by omega⟩;rw[hk,show n-(i+1)=k by omega];show(f i||_)=_;rw[hf];rfl
theorem j3{f:Nat→Bool}:∀ (k i:Nat),eH f k i=true↔∃ j,i≤j∧j<i+k∧f j=true
 | 0,i=>⟨fun h=>(by cases h),fun⟨j,h1,h2,_⟩=>by omega⟩
 | k+1,i=>by
  show(f i||eH f k (i+1))=true↔_;rw[Bool.or_eq_true,j3 k (i+1)];constructor
  ·rintro(h|⟨j,h1,h2,h3⟩)
   ·exact⟨i,by omega,by omega,h⟩
   ·exact⟨j,by omega,by omega,h3⟩
  ·rintro⟨j,h1,h2,h3⟩;by_cases e:j=i
   ·subst e;exact .inl h3
   ·exact .inr ⟨j,by omega,by omega,h3⟩
section
variable {P:Program}
theorem vA(w:World)(g o:Nat)(ty:TypeId)(cs:List Value)(d:TypeDesc)(hc:∀ j u,cs[j]?=some u→w.cell? ⟨g,o+j,none⟩=some u)
 (hu:P.underlying ty=some d) (hd:(match d with|.struct _|.array _ _=>true|_=>false)=true) (hi:(P.info? ty).map (·.size)=some cs.length) :
 (loadVar ty ⟨g,o,none⟩).run P w=.ok (.agg cs.toArray) w:=by
 have hl:(loadCells ⟨g,o,none⟩ cs.length).run P w=.ok cs.toArray w:=
  run_loadCells_list (P:=P) w ⟨g,o,none⟩ cs (fun j v hv=>by
   have hadd:(⟨g,o,none⟩:Addr).add j=⟨g,o+j,none⟩:=by unfold Addr.add;split<;>simp_all
   rw[hadd];exact hc j v hv)
 cases hq:P.info? ty with
 | none=>simp[hq] at hi
 | some i=>
  have hs:i.size=cs.length:=by simpa[hq] using hi
  have hagg:(isAgg ty).run P w=.ok true w:=by
   unfold isAgg;rw[ah5,run_underlying hu w];cases d<;>simp_all
  simp[loadVar,ah5,hagg,sizeOf,typeInfo,hq,hs,hl]
end
theorem Ca.laid{slots:List Nat}{bB:List (Value→World→Prop)}{inv:World→Prop}{t:Array Value}{d:List Deferred}{L:Nat→Bool}{a:Act}{w:World}
 (h:Ca slots bB inv t d L a w) (hlen:slots.length=bB.length) (hall:∀ i,i<slots.length→L i=true):Laid d w a (slots.map some) bB t:=by
 refine wm h.defers _ _ _ (by simpa using hlen) (fun i g hg=>?_) (fun j hj=>h.rest j ?_) h.size
 ·have hi:i<slots.length:=by rw[hlen];exact(ah3.1 hg).1
  obtain⟨v,h1,h2⟩:=h.done i (hall i hi) _ g (ahY hi) hg;refine⟨v,fun s hs=>?_,h2⟩;simp only[ah0,ahY hi,Option.map_some,Option.some.injEq] at hs;rw[← hs];exact h1
 ·rw[Bool.eq_false_iff] at hj ⊢;intro e;apply hj;rw[List.contains_iff_mem] at e ⊢;exact List.mem_map_of_mem e
def Eu:Array Value→List Nat→List Value→Array Value
 | t,s::ss,v::vs=>Eu (t.setIfInBounds s v) ss vs
 | t,_,_=>t
theorem Ab{d:List Deferred}{w:World}{a:Act}:∀ (slots:List Nat) (vals:List Value) (t:Array Value),slots.length=vals.length→Laid d w a (slots.map some) (vals.map PU) t→a=⟨Eu t slots vals,d⟩
 | [],[],_,_,h=>h
 | s::ss,v::vs,t,hl,h=>by
  obtain⟨u,hu,h⟩:=h;cases hu;exact Ab ss vs _ (by simpa using hl) h
theorem Ca.frame{slots:List Nat}{bB:List (Value→World→Prop)}{inv:World→Prop}{t:Array Value}{d:List Deferred}{L:Nat→Bool}{a:Act}{w:World}
 (h:Ca slots bB inv t d L a w) (hall:∀ i,i<slots.length→L i=true) (vals:List Value) (hg:bB=vals.map PU) (hlen:slots.length=vals.length) {t':Array Value} (he:Eu t slots vals=t'):a=⟨t',d⟩:=by
 subst hg he;exact Ab slots vals t hlen (h.laid (by simpa using hlen) hall)
class DS where ds:List Deferred
instance (priority:=low) DS.none:DS:=⟨[]⟩
variable [DS]
def At(a:Act)(s:Nat)(v:Value):Prop:=a.tmps[s]?=some v
theorem At.ev{a:Act}{s:Nat}{v:Value}(h:At a s v):a.eval (.tmp s)=v:=by
 unfold At at h;show a.tmps.getD s undef=v;rw[ah6,h];rfl
theorem At.eq{a:Act}{s:Nat}{v u:Value}(h:At a s v)(e:v=u):At a s u:=e▸h
structure Fr (a:Act) (N:Nat):Prop where
 defers:a.defers=DS.ds
 size:a.tmps.size=N
structure Put (a:Act) (s:Nat) (v:Value) (a':Act):Prop where
 now:At a' s v
 old:∀ {j:Nat} {u:Value},(j == s)=false→At a j u→At a' j u
 fr:∀ {N:Nat},Fr a N→Fr a' N
theorem Put.eq{a a':Act}{s:Nat}{v u:Value}(h:Put a s v a')(e:v=u):Put a s u a':=e▸h
theorem lT{a:Act}{N d:Nat}{v:Value}(hf:Fr a N)(hd:d<N):Put a d v (a.put (some d) v):=by
 refine⟨?_,fun {j u} hj h=>?_,fun {N} h=>⟨h.defers,?_⟩⟩
 ·show(a.tmps.setIfInBounds d v)[d]?=some v;rw[Array.getElem?_setIfInBounds_self_of_lt (by rw[hf.size];exact hd)]
 ·show(a.tmps.setIfInBounds d v)[j]?=some u;have hne:d≠j:=fun e=>by subst e;simp at hj
  rw[Array.getElem?_setIfInBounds_ne hne];exact h
 ·show(a.tmps.setIfInBounds d v).size=N;rw[Array.size_setIfInBounds];exact h.size
section
variable {P:Program} {ops:Array Oper} {Q:Exit→Act→World→Prop} {a:Act} {w w':World} {rest:List Oper} {o:Oper} {v:Value} {d N:Nat}
theorem dN(hg:o.guard=none):Region.wanted o (yielded ops a.tmps)=true:=by simp[Region.wanted,hg]
theorem L3{j s:Nat}{b:Bool}(hg:o.guard=some (j,b))(hj:(ops[j]?).bind (·.dst)=some s)(h:At a s (.bool b)):Region.wanted o (yielded ops a.tmps)=true:=by
 unfold At at h;simp[Region.wanted,hg,yielded,hj,h]
theorem Jl{j s:Nat}{b c:Bool}(hg:o.guard=some (j,b))(hj:(ops[j]?).bind (·.dst)=some s)(h:At a s (.bool c))(hne:(c == b)=false):Region.wanted o (yielded ops a.tmps)=false:=by
 unfold At at h;simp only[Region.wanted,hg,yielded,hj,Option.bind_some,h];simpa using hne
theorem Jk{j s:Nat}{b:Bool}(hg:o.guard=some (j,b))(hj:(ops[j]?).bind (·.dst)=some s)(h:At a s undef):Region.wanted o (yielded ops a.tmps)=false:=by
 unfold At at h;simp only[Region.wanted,hg,yielded,hj,Option.bind_some,h];simp[undef]
theorem kM(hw:Region.wanted o (yielded ops a.tmps)=true)(hr:(execOp a.eval o).run P w=.ok (.value v) w')(hd:o.dst=some d)(hf:Fr a N)(hN:d<N)
 (next:∀ a',Put a d v a'→wpList P ops Q rest a' w'):wpList P ops Q (o::rest) a w:=
 wpList_step fun K hK=>by
  rw[if_pos hw];unfold Oper.wp;rw[hr,Oper.upon_value,hd];exact hK _ _ (next _ (lT hf hN))
theorem AF(hw:Region.wanted o (yielded ops a.tmps)=false)(hd:o.dst=some d)(hf:Fr a N)(hN:d<N)
 (next:∀ a',Put a d undef a'→wpList P ops Q rest a' w):wpList P ops Q (o::rest) a w:=
 wpList_skip hw (by rw[hd];exact next _ (lT hf hN))
theorem OI(hw:Region.wanted o (yielded ops a.tmps)=true)(hr:(execOp a.eval o).run P w=.ok .skip w')(hd:o.dst=none)(next:wpList P ops Q rest a w'):wpList P ops Q (o::rest) a w:=
 wpList_step fun K hK=>by
  rw[if_pos hw];unfold Oper.wp;rw[hr,Oper.upon_skip,hd];exact hK _ _ next
theorem ow(hw:Region.wanted o (yielded ops a.tmps)=true){f:FuncId}{args:Array Value}(hr:(execOp a.eval o).run P w=.ok (.enter f args) w){R:Value→World→Prop}
 (hc:Calls P f args w fun e w'=>∃ v,e=.returned v∧R v w') (hd:o.dst=some d) (hf:Fr a N) (hN:d<N)
 (next:∀ v a' w',R v w'→Put a d v a'→wpList P ops Q rest a' w'):wpList P ops Q (o::rest) a w:=
 wpList_step fun K hK=>by
  rw[if_pos hw];unfold Oper.wp;rw[hr,Oper.upon_enter];refine hc.mono ?_;rintro e w' ⟨v,rfl,h⟩;show K _ _;rw[hd];exact hK _ _ (next v _ w' h (lT hf hN))
theorem uF{f:FuncId}{args:Array Value}{v:Value}{R:World→Prop}(h:Calls P f args w fun e w'=>e=.returned v∧R w'):Calls P f args w fun e w'=>∃ u,e=.returned u∧(u=v∧R w'):=
 h.mono fun _ _ ⟨h1,h2⟩=>⟨v,h1,rfl,h2⟩
theorem Np{x:Operand}(ho:o.op=.move x)(hx:a.eval x=v):(execOp a.eval o).run P w=.ok (.value v) w:=by
 unfold execOp;simp only[ho,hx];rfl
theorem yH{x:Operand}(ho:o.op=.assign x)(hx:a.eval x=v):(execOp a.eval o).run P w=.ok (.value v) w:=by
 unfold execOp;simp only[ho,hx];rfl
theorem TW{c x y:Operand}{t:Bool}{u:Value}(ho:o.op=.pick c x y)(hc:a.eval c=.bool t)(hx:a.eval x=v)(hy:a.eval y=u):(execOp a.eval o).run P w=.ok (.value (if t then v else u)) w:=by
 unfold execOp;simp only[ho,hc,hx,hy];cases t<;>rfl
theorem Nu{x:Operand}{ty:TypeId}(ho:o.op=.box ty x)(hx:a.eval x=v):(execOp a.eval o).run P w=.ok (.value (.pointer (some ⟨w.heap.size,0,none⟩))) (w.alloc (.cells v.cells ty)):=by
 unfold execOp;simp only[ho,hx,ah5,Instr.box,newVar,newRow,run_newObj_alloc,Sem.run_pure,Result.andThen_ok]
theorem LD{ty:TypeId}{z:Value}(hz:(P.info? ty).bind (·.zero)=some z)(w:World):(zeroValue ty).run P w=.ok z w:=by
 unfold zeroValue typeInfo
 cases hi:P.info? ty with
 | none=>rw[hi] at hz;cases hz
 | some i=>
  rw[hi] at hz;have hz':i.zero=some z:=hz;simp[ah5,hi,hz']
theorem tH{ty:TypeId}{z:Value}(ho:o.op=.alloc ty)(hz:(P.info? ty).bind (·.zero)=some z):(execOp a.eval o).run P w=.ok (.value (.pointer (some ⟨w.heap.size,0,none⟩))) (w.alloc (.cells z.cells ty)):=by
 unfold execOp;simp only[ho,Instr.alloc,ah5,LD hz,Result.andThen_ok,newVar,newRow,run_newObj_alloc,Sem.run_pure]
theorem wD{ty:TypeId}{x:Operand}{p:Addr}{dd:TypeDesc}(ho:o.op=.load ty x)(hx:a.eval x=.pointer (some p))(hu:P.underlying ty=some dd)
 (hd:(match dd with|.struct _|.array _ _=>false|_=>true)=true) (hc:w.cell? p=some v):(execOp a.eval o).run P w=.ok (.value v) w:=by
 have hagg:(isAgg ty).run P w=.ok false w:=by
  unfold isAgg;rw[ah5,run_underlying hu w];cases dd<;>simp_all
 unfold execOp;simp only[ho,hx,Instr.loadAt,Instr.sureAddr,ah5,Sem.run_pure,Result.andThen_ok,loadVar,hagg];simp[run_load,hc]
theorem tF{ty:TypeId}{x:Operand}{g f:Nat}(cs:List Value){dd:TypeDesc}(ho:o.op=.load ty x)(hx:a.eval x=.pointer (some ⟨g,f,none⟩))(hu:P.underlying ty=some dd)
 (hd:(match dd with|.struct _|.array _ _=>true|_=>false)=true) (hi:(P.info? ty).map (·.size)=some cs.length) (hc:∀ j u,cs[j]?=some u→w.cell? ⟨g,f+j,none⟩=some u):(execOp a.eval o).run P w=.ok (.value (.agg cs.toArray)) w:=by
 unfold execOp;simp only[ho,hx,Instr.loadAt,Instr.sureAddr,ah5,Sem.run_pure,Result.andThen_ok,vA w g f ty cs dd hc hu hd hi]
theorem FY{x:Operand}{p:Addr}(ho:o.op=.nilCheck x)(hx:a.eval x=.pointer (some p)):(execOp a.eval o).run P w=.ok (.value (.pointer (some p))) w:=by
 unfold execOp;simp only[ho,hx];rfl
theorem Qq{ty:TypeId}{x:Operand}{f g off:Nat}{fs:Array Field}{fd:Field}{k:Nat}(ho:o.op=.fieldAddr ty x f)(hx:a.eval x=.pointer (some ⟨g,off,none⟩))(hu:P.underlying ty=some (.struct fs))(hf:fs[f]?=some fd)
 (hs:(P.info? fd.type).map (·.size)=some (k+1)):(execOp a.eval o).run P w=.ok (.value (.pointer (some ⟨g,off+fd.offset,none⟩))) w:=by
 have hadd:(⟨g,off,none⟩:Addr).add fd.offset=⟨g,off+fd.offset,none⟩:=by unfold Addr.add;split<;>simp_all
 have hsz:(sizeOf fd.type).run P w=.ok (k+1) w:=by
  cases hq:P.info? fd.type with
  | none=>simp[hq] at hs
  | some i=>
   have hs':i.size=k+1:=by simpa[hq] using hs
   simp[sizeOf,typeInfo,hq,hs',ah5]
 unfold execOp;simp only[ho,hx,Instr.fieldAt,ah5,run_underlying hu w,Result.andThen_ok,hf,Instr.sureAddr,Sem.run_pure,fieldPlace,hsz];simp[hadd]
theorem run_sizeOf{ty:TypeId}{k:Nat}(hs:(P.info? ty).map (·.size)=some k)(w:World):(sizeOf ty).run P w=.ok k w:=by
 cases hq:P.info? ty with
 | none=>simp[hq] at hs
 | some i=>
  have hs':i.size=k:=by simpa[hq] using hs
  simp[sizeOf,typeInfo,hq,hs',ah5]
theorem DH{ty e:TypeId}{x y:Operand}{g off n c i k:Nat}{ik:IntKind}(ho:o.op=.indexAddr ty x y)(hx:a.eval x=.slice (some ⟨g,off,none⟩) n c)(hy:a.eval y=.int ik (i:Int))(hi:i<n)(hu:P.underlying ty=some (.slice e))
 (hs:(P.info? e).map (·.size)=some k):(execOp a.eval o).run P w=.ok (.value (.pointer (some ⟨g,off+i*k,none⟩))) w:=by
 have hadd:(⟨g,off,none⟩:Addr).add (i*k)=⟨g,off+i*k,none⟩:=by unfold Addr.add;split<;>simp_all
 unfold execOp;simp only[ho,hx,hy,Instr.indexAt,asIntOf,ah5,run_underlying hu w,Result.andThen_ok,Sem.run_pure];have h1:(0:Int)≤(i:Int)∧(i:Int)<(n:Int):=by omega
 simp[h1,run_sizeOf hs,hadd]
theorem F3{ty e:TypeId}{x y:Operand}{g off n i k:Nat}{ik:IntKind}(ho:o.op=.indexAddr ty x y)(hx:a.eval x=.pointer (some ⟨g,off,none⟩))(hy:a.eval y=.int ik (i:Int))(hi:i<n)(hu:P.underlying ty=some (.array n e))
 (hs:(P.info? e).map (·.size)=some k):(execOp a.eval o).run P w=.ok (.value (.pointer (some ⟨g,off+i*k,none⟩))) w:=by
 have hadd:(⟨g,off,none⟩:Addr).add (i*k)=⟨g,off+i*k,none⟩:=by unfold Addr.add;split<;>simp_all
 unfold execOp;simp only[ho,hx,hy,Instr.indexAt,asIntOf,ah5,run_underlying hu w,Result.andThen_ok,Sem.run_pure,Instr.sureAddr];have h1:(0:Int)≤(i:Int)∧(i:Int)<(n:Int):=by omega
 simp[h1,run_sizeOf hs,hadd]
theorem FZ{ty:TypeId}{x y:Operand}{s:ByteArray}{i:Nat}{ik:IntKind}(ho:o.op=.index ty x y)(hx:a.eval x=.string s)(hy:a.eval y=.int ik (i:Int))(hi:i<s.size)(hu:P.underlying ty=some .string):
 (execOp a.eval o).run P w=.ok (.value (.int .u8 ((s[i]'hi).toNat:Int))) w:=by
 unfold execOp;simp only[ho,hx,hy,Instr.index,asIntOf,ah5,run_underlying hu w,Result.andThen_ok,Sem.run_pure];simp[hi]
section
variable {ty yt:TypeId} {x y:Operand} {k:IntKind} {m n:Int}
theorem Xc(ho:o.op=.binOp .lss ty x y yt)(hx:a.eval x=.int k m)(hy:a.eval y=.int k n):(execOp a.eval o).run P w=.ok (.value (.bool (decide (m<n)))) w:=by
 unfold execOp;simp[ho,hx,hy,eqGuard,binOp,Op.intCmp]
theorem Xd(ho:o.op=.binOp .leq ty x y yt)(hx:a.eval x=.int k m)(hy:a.eval y=.int k n):(execOp a.eval o).run P w=.ok (.value (.bool (decide (m≤n)))) w:=by
 unfold execOp;simp[ho,hx,hy,eqGuard,binOp,Op.intCmp]
theorem Ns(ho:o.op=.binOp .gtr ty x y yt)(hx:a.eval x=.int k m)(hy:a.eval y=.int k n):(execOp a.eval o).run P w=.ok (.value (.bool (decide (n<m)))) w:=by
 unfold execOp;simp[ho,hx,hy,eqGuard,binOp,Op.intCmp]
theorem Xf(ho:o.op=.binOp .geq ty x y yt)(hx:a.eval x=.int k m)(hy:a.eval y=.int k n):(execOp a.eval o).run P w=.ok (.value (.bool (decide (n≤m)))) w:=by
 unfold execOp;simp[ho,hx,hy,eqGuard,binOp,Op.intCmp]
theorem Xg(ho:o.op=.binOp .eql ty x y yt)(hx:a.eval x=.int k m)(hy:a.eval y=.int k n):(execOp a.eval o).run P w=.ok (.value (.bool (decide (m=n)))) w:=by
 unfold execOp;simp[ho,hx,hy,eqGuard,binOp,Op.intCmp];rfl
theorem Xa(ho:o.op=.binOp .neq ty x y yt)(hx:a.eval x=.int k m)(hy:a.eval y=.int k n):(execOp a.eval o).run P w=.ok (.value (.bool (!decide (m=n)))) w:=by
 unfold execOp;simp[ho,hx,hy,eqGuard,binOp,Op.intCmp];rfl
theorem Xi(ho:o.op=.binOp .add ty x y yt)(hx:a.eval x=.int k m)(hy:a.eval y=.int k n):(execOp a.eval o).run P w=.ok (.value (.int k (k.wrap (m+n)))) w:=by
 unfold execOp;simp[ho,hx,hy,eqGuard,binOp,Op.intArith]
theorem W7(ho:o.op=.binOp .sub ty x y yt)(hx:a.eval x=.int k m)(hy:a.eval y=.int k n):(execOp a.eval o).run P w=.ok (.value (.int k (k.wrap (m-n)))) w:=by
 unfold execOp;simp[ho,hx,hy,eqGuard,binOp,Op.intArith]
theorem Ri(ho:o.op=.binOp .mul ty x y yt)(hx:a.eval x=.int k m)(hy:a.eval y=.int k n):(execOp a.eval o).run P w=.ok (.value (.int k (k.wrap (m*n)))) w:=by
 unfold execOp;simp[ho,hx,hy,eqGuard,binOp,Op.intArith]
theorem Xh(ho:o.op=.binOp .and ty x y yt)(hx:a.eval x=.int k m)(hy:a.eval y=.int k n):(execOp a.eval o).run P w=.ok (.value (.int k (k.wrap (BitVec.ofInt k.bits m&&&BitVec.ofInt k.bits n).toNat))) w:=by
 unfold execOp;simp[ho,hx,hy,eqGuard,binOp,Op.intBits]
theorem aa2(ho:o.op=.binOp .or ty x y yt)(hx:a.eval x=.int k m)(hy:a.eval y=.int k n):(execOp a.eval o).run P w=.ok (.value (.int k (k.wrap (BitVec.ofInt k.bits m|||BitVec.ofInt k.bits n).toNat))) w:=by
 unfold execOp;simp[ho,hx,hy,eqGuard,binOp,Op.intBits]
theorem W6(ho:o.op=.binOp .xor ty x y yt)(hx:a.eval x=.int k m)(hy:a.eval y=.int k n):(execOp a.eval o).run P w=.ok (.value (.int k (k.wrap (BitVec.ofInt k.bits m ^^^ BitVec.ofInt k.bits n).toNat))) w:=by
 unfold execOp;simp[ho,hx,hy,eqGuard,binOp,Op.intBits]
theorem Nv(ho:o.op=.binOp .andNot ty x y yt)(hx:a.eval x=.int k m)(hy:a.eval y=.int k n):(execOp a.eval o).run P w=.ok (.value (.int k (k.wrap (BitVec.ofInt k.bits m&&&~~~ BitVec.ofInt k.bits n).toNat))) w:=by
 unfold execOp;simp[ho,hx,hy,eqGuard,binOp,Op.intBits]
theorem W9{b:Bool}(ho:o.op=.unOp .not ty x)(hx:a.eval x=.bool b):(execOp a.eval o).run P w=.ok (.value (.bool (!b))) w:=by
 unfold execOp;simp[ho,hx,Op.unary]
theorem W_(ho:o.op=.unOp .neg ty x)(hx:a.eval x=.int k m):(execOp a.eval o).run P w=.ok (.value (.int k (k.wrap (0-m)))) w:=by
 unfold execOp;simp[ho,hx,Op.unary,Op.intArith]
theorem Nt{s t:ByteArray}(ho:o.op=.binOp .eql ty x y yt)(hx:a.eval x=.string s)(hy:a.eval y=.string t):(execOp a.eval o).run P w=.ok (.value (.bool (s.toList == t.toList))) w:=by
 unfold execOp;simp[ho,hx,hy,eqGuard,binOp,Op.stringOp]
theorem Rh{s t:ByteArray}(ho:o.op=.binOp .neq ty x y yt)(hx:a.eval x=.string s)(hy:a.eval y=.string t):(execOp a.eval o).run P w=.ok (.value (.bool (!(s.toList == t.toList)))) w:=by
 unfold execOp;simp[ho,hx,hy,eqGuard,binOp,Op.stringOp]
def ck(s:ByteArray):Bool:=s.toList == (⟨#[]⟩:ByteArray).toList
end
theorem Qp{t e:TypeId}{x:Operand}{g:Option Addr}{n c:Nat}(ho:o.op=.call { callee:=.builtin .len,args:=#[x],argTypes:=#[t] })(hx:a.eval x=.slice g n c)(hu:P.underlying t=some (.slice e)):
 (execOp a.eval o).run P w=.ok (.value (.int .i64 (n:Int))) w:=by
 unfold execOp;simp[ho,hx,resolve,invoke,builtin,Builtin.len_,run_underlying hu,ah5,goInt]
theorem Nr{t:TypeId}{x:Operand}{s:ByteArray}(ho:o.op=.call { callee:=.builtin .len,args:=#[x],argTypes:=#[t] })(hx:a.eval x=.string s)(hu:P.underlying t=some .string):
 (execOp a.eval o).run P w=.ok (.value (.int .i64 (s.size:Int))) w:=by
 unfold execOp;simp[ho,hx,resolve,invoke,builtin,Builtin.len_,run_underlying hu,ah5,goInt]
theorem J4{x:Operand}{i:Nat}{vs:Array Value}(ho:o.op=.extract x i)(hx:a.eval x=.tuple vs)(hi:vs[i]?=some v):(execOp a.eval o).run P w=.ok (.value v) w:=by
 unfold execOp;simp[ho,hx,Instr.extract,hi]
theorem Ue{f:FuncId}{xs:Array Operand}{ts:Array TypeId}{fn:Func}{c:Code}{args:Array Value}(ho:o.op=.call { callee:=.value (.func f),args:=xs,argTypes:=ts })(hf:P.funcs[f]?=some fn) (hn:(fn.name == "runtime.NumGoroutine")=false) (hb:fn.body=some c)
 (ha:xs.map a.eval=args):(execOp a.eval o).run P w=.ok (.enter f args) w:=by
 have h0:fn.body.isNone=false:=by rw[hb];rfl
 unfold execOp;simp only[ho,resolve,ha,Act.eval,Deferred.ofValue,invoke,callFunc,ah5,Sem.run_pure,Result.andThen_ok,run_program,hf,hn,h0];simp
theorem tG{t e:TypeId}{len k:Nat}{parts:Array (Nat×Operand)}{cells:Array Value}{z:Value}(ho:o.op=.buildSlice t len parts)(hu:P.underlying t=some (.slice e))(hs:(P.info? e).map (·.size)=some k)(hz:(P.info? e).bind (·.zero)=some z)
 (hsmall:len*k≤2^24) (hpos:0<len*k) {pv:Array (Nat×Value)} (hp:(parts.map fun(i,x)=>(i,a.eval x))=pv) (h:Instr.fill (fun i=>some (i*k,k)) ((Array.range (len*k)).map (z.cells[·%z.cells.size]!)) pv.toList=some cells) :
 (execOp a.eval o).run P w=.ok (.value (.slice (some ⟨w.heap.size,0,none⟩) len len)) (w.alloc (.cells cells e)):=by
 subst hp
 cases hi:P.info? e with
 | none=>rw[hi] at hz;cases hz
 | some i=>
  rw[hi] at hz hs;have hz':i.zero=some z:=hz;have hs':i.size=k:=by simpa using hs
  subst hs';have:=run_buildSlice (P:=P) w t e len (parts.map fun(i,x)=>(i,a.eval x)) cells i z hu hi hz' (by omega) (by omega) h;unfold execOp;simp only[ho,ah5,this,Result.andThen_ok,Sem.run_pure]
structure New (w w':World) (g:Nat) (ty:TypeId) (cs:Array Value):Prop where
 at_:w.heap.size=g
 eq:w'=w.alloc (.cells cs ty)
theorem New.whole{g:Nat}{ty:TypeId}{cs:Array Value}(h:New w w' g ty cs):Whole w' g ty cs:=by
 rw[h.eq,← h.at_];exact Whole.new w ty cs
theorem New.below{g:Nat}{ty:TypeId}{cs:Array Value}(h:New w w' g ty cs):ah7 w.heap.size w w':=by
 rw[h.eq];exact(Below.refl _ w).alloc (Nat.le_refl _) _
theorem wN(hw:Region.wanted o (yielded ops a.tmps)=true){ty:TypeId}{cs:Array Value}{f:Nat→Value}(hr:(execOp a.eval o).run P w=.ok (.value (f w.heap.size)) (w.alloc (.cells cs ty)))(hd:o.dst=some d)(hf:Fr a N)(hN:d<N)
 (next:∀ g a' w',New w w' g ty cs→Put a d (f g) a'→wpList P ops Q rest a' w'):wpList P ops Q (o::rest) a w:=
 kM hw hr hd hf hN fun a' p=>next w.heap.size a' _ ⟨rfl,rfl⟩ p
theorem pP(hw:Region.wanted o (yielded ops a.tmps)=true){ty:TypeId}{x y:Operand}(ho:o.op=.store ty x y){g f:Nat}(hx:a.eval x=.pointer (some ⟨g,f,none⟩))(hy:a.eval y=v){t:TypeId}{cs cs':Array Value}(H:Whole w g t cs)
 {l:List Value} (hl:v.cells.toList=l) (hfit:f+l.length≤cs.size) (hi:(P.info? ty).map (·.size)=some l.length) (h1:l.all (·.oneCell')=true) (hsp:splice cs f l=cs') (hd:o.dst=none)
 (next:∀ w',uL w w' g→Whole w' g t cs'→wpList P ops Q rest a w'):wpList P ops Q (o::rest) a w:=by
 subst hl hsp;have hsz:v.cells.size=v.cells.toList.length:=by simp
 refine wpList_step fun K hK=>?_
 rw[if_pos hw];refine AA ty x y ho g f v hx hy t cs H (by rw[hsz];exact hfit) (by rw[hsz];exact hi) h1 fun w' h2 h3=>?_
 rw[hd];exact hK _ _ (next w' h2 h3)
theorem Ud{ty yt:TypeId}{x y:Operand}{xs ys:Array Value}{b:Bool}(ho:o.op=.binOp .eql ty x y yt)(hx:a.eval x=.agg xs)(hy:a.eval y=.agg ys)(hm:P.eqGuardType P.depth ty=false)
 (hq:(Op.equalIn 10000 ty (.agg xs) (.agg ys)).run P w=.ok b w):(execOp a.eval o).run P w=.ok (.value (.bool b)) w:=by
 unfold execOp;simp[ho,hx,hy,run_eqGuard_agg (hm:=hm),run_eql_struct,hq]
theorem TY{ty yt:TypeId}{x y:Operand}{xs ys:Array Value}{b:Bool}(ho:o.op=.binOp .neq ty x y yt)(hx:a.eval x=.agg xs)(hy:a.eval y=.agg ys)(hm:P.eqGuardType P.depth ty=false)
 (hq:(Op.equalIn 10000 ty (.agg xs) (.agg ys)).run P w=.ok b w):(execOp a.eval o).run P w=.ok (.value (.bool (!b))) w:=by
 unfold execOp;simp[ho,hx,hy,run_eqGuard_agg (hm:=hm),run_neq_struct,hq]
theorem BK{t:TypeId}{parts:Array (Nat×Operand)}{cells:Array Value}(ho:o.op=.build t parts){pv:Array (Nat×Value)}(hp:(parts.map fun(i,x)=>(i,a.eval x))=pv)(h:P.built t pv.toList=some cells):
 (execOp a.eval o).run P w=.ok (.value (.agg cells)) w:=by
 subst hp;unfold execOp;simp only[ho,ah5,run_build w t _ cells h,Result.andThen_ok,Sem.run_pure]
theorem _root_.Go.RowKit.Below.step{w0 w1 w2:World}{B:Nat}(h:ah7 B w0 w1)(k:ah7 w1.heap.size w1 w2)(hB:B≤w1.heap.size):ah7 B w0 w2:=h.trans (k.mono hB)
end
theorem ru{b:Bool}(h:b=true):¬ b=false:=by rw[h];decide
theorem rm{b:Bool}(h:b=false):¬ b=true:=by rw[h];decide
theorem qD(cs:Array Value)(l:List Value)(h:cs.size=l.length):splice cs 0 l=l.toArray:=by
 apply Array.toList_inj.1;rw[kB _ _ _ (by omega)];simp[List.drop_of_length_le (show cs.toList.length≤l.length by simp[h])]
section
variable {w:World} {a:Act} {g f:Nat} {t:TypeId} {cs:Array Value}
theorem wP{l:List Value}(h:Whole w g t cs)(hl:l=(cs.toList.drop f).take l.length):∀ j u,l[j]?=some u→w.cell? ⟨g,f+j,none⟩=some u:=fun j u hu=>by
 rw[h.cell];have hj:j<l.length:=(ah3.1 hu).1;rw[hl,List.getElem?_take,if_pos hj,List.getElem?_drop] at hu;simpa using hu
theorem fR{b o:Nat}{k l:List Value}(h:∀ j u,k[j]?=some u→w.cell? ⟨b,o+j,none⟩=some u)(hl:l=(k.drop f).take l.length):∀ j u,l[j]?=some u→w.cell? ⟨b,o+f+j,none⟩=some u:=fun j u hu=>by
 have hj:j<l.length:=(ah3.1 hu).1;rw[hl,List.getElem?_take,if_pos hj,List.getElem?_drop] at hu;rw[Nat.add_assoc];exact h _ u hu
variable {x1 x2 x3 x4 x5 x6:Operand} {v1 v2 v3 v4 v5 v6:Value}
theorem args1(h1:a.eval x1=v1):#[x1].map a.eval=#[v1]:=by simp[h1]
theorem args2(h1:a.eval x1=v1)(h2:a.eval x2=v2):#[x1,x2].map a.eval=#[v1,v2]:=by simp[h1,h2]
theorem Ry(h1:a.eval x1=v1)(h2:a.eval x2=v2)(h3:a.eval x3=v3):#[x1,x2,x3].map a.eval=#[v1,v2,v3]:=by simp[h1,h2,h3]
end
theorem wrap_i64{n:Int}(h:-9223372036854775808≤n∧n≤9223372036854775807):IntKind.i64.wrap n=n:=IntWalk.i64_in n h
section
variable {P:Program} {Q:Exit→Act→World→Prop} {a:Act} {w:World}
theorem KV{f:FuncId}{fn:Func}{c:Code}{args:Array Value}{R:Ending→World→Prop}{N:Nat}(hf:P.funcs[f]?=some fn)(hb:fn.body=some c)(hn:fn.ntmps=N)(hN:args.size≤N)
 (h:∀ a,Fr a N→(∀ i v,args[i]?=some v→At a i v)→c.wp P (bodyPost P fn R) a w) (hD:DS.ds=[]:=by rfl):Calls P f args w R:=by
 refine calls_of_wp hf hb (h _ ⟨hD.symm,?_⟩ ?_)
 ·simp;omega
 ·intro i v hv;have hi:i<args.size:=(Array.getElem?_eq_some_iff.1 hv).1;show(args++Array.replicate (fn.ntmps-args.size) undef)[i]?=some v;rw[Array.getElem?_append_left hi];exact hv
theorem bS{id:Nat}{l:List Oper}(h:wpList P l.toArray Q l a w):(Code.region id l.toArray false).wp P Q a w:=wp_region_lit h
theorem KT{fn:Func}{R:Ending→World→Prop}{N s:Nat}{v:Value}(hr:fn.results=#[.tmp s])(hf:Fr a N)(h:At a s v)(hR:R (.returned v) w)(hD:DS.ds=[]:=by rfl):bodyPost P fn R .ret a w:=by
 refine⟨hf.defers.trans hD,v,?_,hR⟩;have he:a.tmps.getD s undef=v:=h.ev;rw[ah6] at he;simp[results,hr,he]
theorem GV{fn:Func}{R:Ending→World→Prop}{N s t:Nat}{v u:Value}(hr:fn.results=#[.tmp s,.tmp t])(hf:Fr a N)(h:At a s v)(k:At a t u)(hR:R (.returned (.tuple #[v,u])) w)(hD:DS.ds=[]:=by rfl):bodyPost P fn R .ret a w:=by
 refine⟨hf.defers.trans hD,_,?_,hR⟩;have he:a.tmps.getD s undef=v:=h.ev;have ke:a.tmps.getD t undef=u:=k.ev;rw[ah6] at he ke;simp[results,hr,he,ke]
theorem GU{fn:Func}{R:Ending→World→Prop}{N s t r:Nat}{v u x:Value}(hr:fn.results=#[.tmp s,.tmp t,.tmp r])(hf:Fr a N)(h:At a s v)(k:At a t u)(l:At a r x)(hR:R (.returned (.tuple #[v,u,x])) w)(hD:DS.ds=[]:=by rfl):bodyPost P fn R .ret a w:=by
 refine⟨hf.defers.trans hD,_,?_,hR⟩;have he:a.tmps.getD s undef=v:=h.ev;have ke:a.tmps.getD t undef=u:=k.ev;have le:a.tmps.getD r undef=x:=l.ev;rw[ah6] at he ke le;simp[results,hr,he,ke,le]
theorem GW{fn:Func}{R:Ending→World→Prop}{N:Nat}(hr:fn.results=#[])(hf:Fr a N)(hR:R (.returned (.tuple #[])) w)(hD:DS.ds=[]:=by rfl):bodyPost P fn R .ret a w:=by
 refine⟨hf.defers.trans hD,_,?_,hR⟩;simp[results,hr]
theorem pQ{fn:Func}{R:Ending→World→Prop}(h:bodyPost P fn R .ret a w):bodyPost P fn R .normal a w:=h
theorem least{p:Nat→Prop}:∀ n,p n→∃ n,p n∧∀ m,p m→n≤m:=by
 intro n
 induction n using Nat.strongRecOn with
 | _ n ih=>
  intro hn;by_cases h:∃ m,m<n∧p m
  ·obtain⟨m,hm,hp⟩:=h;exact ih m hm hp
  ·exact⟨n,hn,fun m hm=>Nat.le_of_not_lt fun hlt=>h ⟨m,hlt,hm⟩⟩
theorem OJ{ι:Type}{c:Code}(I:ι→Act→World→Prop)(μ:ι→Nat)(x:ι)(h0:I x a w)
 (round:∀ x a w,I x a w→c.wp P (Exit.then (fun a' w'=>∃ x',I x' a' w'∧μ x'<μ x) Q) a w):(Code.loop c).wp P Q a w:=by
 classical
 have hex:∀ a w,(∃ x,I x a w)→∃ n,(∃ x,I x a w∧μ x=n)∧∀ m,(∃ x,I x a w∧μ x=m)→n≤m:=fun a w ⟨x,hx⟩=>least (μ x) ⟨x,hx,rfl⟩
 refine wp_loop (fun a w=>∃ x,I x a w) (fun a w=>if h:∃ x,I x a w then Classical.choose (hex a w h) else 0) ⟨x,h0⟩ ?_;intro a w h;obtain⟨⟨x,hx,hm⟩,-⟩:=Classical.choose_spec (hex a w h);refine Code.wp_mono ?_ (round x a w hx);intro e a' w' hq
 cases e with
 | normal=>
  obtain⟨x',hx',hlt⟩:=hq;refine⟨⟨x',hx'⟩,?_⟩;rw[dif_pos ⟨x',hx'⟩,dif_pos h];exact Nat.lt_of_le_of_lt ((Classical.choose_spec (hex a' w' ⟨x',hx'⟩)).2 _ ⟨x',hx',rfl⟩) (by rw[← hm];exact hlt)
 | _=>exact hq
end
abbrev Good:=Value→World→Prop
def jA(P:Program)(ops:Array Oper)(K:Act→World→Prop):List Oper→Act→World→Prop
 | [],a,w=>K a w
 | o::r,a,w=>∀ Q':Exit→Act→World→Prop,(∀ a w,jA P ops K r a w→Q' .normal a w)→wpList P ops Q' [o] a w
structure Ea (slots:List Nat) (bB:List Good) (inv:World→Prop) (a0:Act) (N:Nat) (L:Nat→Bool) (a:Act) (w:World):Prop where
 fr:Fr a N
 inv:inv w
 done:∀ i,L i=true→∀ s g,slots[i]?=some s→bB[i]?=some g→∃ v,At a s v∧g v w
 rest:∀ j u,slots.contains j=false→At a0 j u→At a j u
def oo(P:Program)(ops:Array Oper)(slots:List Nat)(bB:List Good)(inv:World→Prop)(a0:Act)(N:Nat):List Oper→List Good→Prop
 | [],_=>True
 | _::_,[]=>False
 | o::r,g::gs=>(∀ (a:Act) (w:World) (Q':Exit→Act→World→Prop),Fr a N→inv w →
  (∀ k,(∃ gr,(⟨k,gr⟩:Edge)∈o.after.toList∧Region.binds .any ⟨k,gr⟩=true)→∀ s g,slots[k]?=some s→bB[k]?=some g→∃ v,At a s v∧g v w) →
  (∀ j u,slots.contains j=false→At a0 j u→At a j u) →
  (∀ v a' w',ah7 w.heap.size w w'→g v w'→Put a (o.dst.getD 0) v a'→Q' .normal a' w')→wpList P ops Q' [o] a w)∧oo P ops slots bB inv a0 N r gs
theorem BQ{P:Program}{ops:Array Oper}{slots:List Nat}{bB:List Good}{inv:World→Prop}{a0:Act}{N:Nat}:∀ (l:List Oper) (gs:List Good),oo P ops slots bB inv a0 N l gs→∀ (i:Nat) (o:Oper),l[i]?=some o →
 (∀ (a:Act) (w:World) (Q':Exit→Act→World→Prop),Fr a N→inv w →
  (∀ k,(∃ gr,(⟨k,gr⟩:Edge)∈o.after.toList∧Region.binds .any ⟨k,gr⟩=true)→∀ s g,slots[k]?=some s→bB[k]?=some g→∃ v,At a s v∧g v w) →
  (∀ j u,slots.contains j=false→At a0 j u→At a j u) →
  (∀ v a' w',ah7 w.heap.size w w'→(∀ g:Good,gs[i]?=some g→g v w')→Put a (o.dst.getD 0) v a'→Q' .normal a' w')→wpList P ops Q' [o] a w)
 | [],_,_,i,o,h=>by simp at h
 | _::_,[],h,_,_,_=>h.elim
 | x::r,g::gs,h,0,o,ho=>by
  simp at ho;subst ho;exact fun a w Q' h1 h2 h3 h4 h5=>h.1 a w Q' h1 h2 h3 h4 fun v a' w' hb hg hp=>h5 v a' w' hb (fun g' e=>by simp at e;rw[← e];exact hg) hp
 | x::r,g::gs,h,i+1,o,ho=>by
  have:=BQ r gs h.2 i o (by simpa using ho);simpa using this
def En(k:Nat)(l:List Oper):Bool:=(List.range l.length).all fun j=>decide (j<k)||consumed (l.take (j+1))
theorem sS:∀ (k m:Nat) (l:List Oper),ordered k l=true→ordered k (l.take m)=true
 | _,0,_,_=>by simp[ordered]
 | _,_+1,[],_=>by simp[ordered]
 | k,m+1,o::r,h=>by
  simp only[ordered,ah8] at h;simp only[List.take_succ_cons,ordered,ah8];exact⟨h.1,sS (k+1) m r h.2⟩
theorem vn{l:List Oper}(fT:ordered 0 l=true){k:Nat}(ht:En k l=true)(L:Nat→Bool)(hcl:∀ j o,l[j]?=some o→L j=true→∀ e∈o.after.toList,Region.binds .any e=true→L e.on=true)
 {j:Nat} {o:Oper} (hj:l[j]?=some o) (hk:k≤j) (jj:∀ e∈o.after.toList,Region.binds .any e=true→L e.on=true):∀ i,i<j→L i=true:=by
 have hlt:=(ah3.1 hj).1
 have hc:consumed (l.take (j+1))=true:=by
  have:=List.all_eq_true.1 ht j (by simpa using hlt);simp only[Bool.or_eq_true,decide_eq_true_eq] at this;exact this.resolve_left (by omega)
 refine Gl (l:=l.take (j+1)) (sS 0 _ l fT) hc L (n:=j) (by rw[ahZ];omega) ?_ ?_
 ·intro i o' hi hij hL;rw[List.getElem?_take,if_pos (by omega)] at hi;exact hcl i o' hi hL
 ·intro o' ho';rw[List.getElem?_take,if_pos (by omega)] at ho';obtain rfl:o=o':=ah9 (hj.symm.trans ho');exact jj
section
variable {P:Program} {Q:Exit→Act→World→Prop}
theorem wL{id:Nat}{l:List Oper}{a:Act}{w:World}{N:Nat}(k:Nat)(slots:List Nat)(bB:List Good)(inv:World→Prop)
 (hm:P.follows .mixedOrders=true) (fT:ordered 0 l=true) (htail:En k l=true) (ur:(l.take k).map (·.dst)=slots.map some) (hnd:slots.Nodup) (_:slots.all (fun s=>decide (s<N))=true) (_:bB.length=slots.length)
 (hf:Fr a N) (h0:inv w.drew) (hinv:∀ w w',inv w→ah7 w.heap.size w w'→inv w') (hst:oh bB)
 (hstep:oo P l.toArray slots bB inv a N (l.take k) bB)
 (hend:∀ a' w',Ea slots bB inv a N (fun _=>true) a' w'→jA P l.toArray (Q .normal) (l.drop k) a' w'):(Code.region id l.toArray true).wp P Q a w:=by
 have ZM:=Aa hst
 have hk:slots.length=(l.take k).length:=by
  have:=congrArg List.length ur;simpa using this.symm
 have hsl:∀ (i:Nat) (o:Oper),i<k→l[i]?=some o→∃ s,slots[i]?=some s∧o.dst=some s:=fun i o hi ho=>by
  have h:=congrArg (fun x:List (Option Tmp)=>x[i]?) ur;simp only[ah0,List.getElem?_take,if_pos hi,ho,Option.map_some] at h
  cases hs:slots[i]? with
  | none=>rw[hs] at h;cases h
  | some s=>rw[hs] at h;exact⟨s,rfl,ah9 h⟩
 refine mY hm fT (fun L b u=>(∀ j o,l[j]?=some o→L j=true→∀ e∈o.after.toList,Region.binds .any e=true→L e.on=true) ∧
  ((∀ j,k≤j→j<l.length→L j=false)→Ea slots bB inv a N L b u) ∧
  (∀ j,k≤j→j<l.length→L j=true→(∀ j',j<j'→j'<l.length→L j'=false)→jA P l.toArray (Q .normal) (l.drop (j+1)) b u)) ?_ ?_ ?_
 ·exact⟨fun _ _ _ h=>(by cases h),fun _=>⟨hf,h0,(fun i h=>(by cases h)),fun _ _ _ h=>h⟩,fun _ _ _ h=>(by cases h)⟩
 ·have key:∀ (i:Nat) (o:Oper),l[i]?=some o→∀ (L:Nat→Bool) (b:Act) (u:World) (Q':Exit→Act→World→Prop),
   ((∀ j o,l[j]?=some o→L j=true→∀ e∈o.after.toList,Region.binds .any e=true→L e.on=true)∧((∀ j,k≤j→j<l.length→L j=false)→Ea slots bB inv a N L b u) ∧
     (∀ j,k≤j→j<l.length→L j=true→(∀ j',j<j'→j'<l.length→L j'=false)→jA P l.toArray (Q .normal) (l.drop (j+1)) b u))→L i=false →
   (∀ e∈o.after.toList,Region.binds .any e=true→L e.on=true) →
   (∀ b u,((∀ j o,l[j]?=some o→upd L i j=true→∀ e∈o.after.toList,Region.binds .any e=true→upd L i e.on=true)∧((∀ j,k≤j→j<l.length→upd L i j=false)→Ea slots bB inv a N (upd L i) b u) ∧
    (∀ j,k≤j→j<l.length→upd L i j=true→(∀ j',j<j'→j'<l.length→upd L i j'=false)→jA P l.toArray (Q .normal) (l.drop (j+1)) b u))→Q' .normal b u) →
   wpList P l.toArray Q' [o] b u:=by
   intro i o ho L b u Q' ⟨hcl,hpl,htl⟩ hL hA hK;have JX:=(ah3.1 ho).1;have up:∀ j,L j=true→upd L i j=true:=fun j hj=>by simp[upd,hj]
   have hcl':∀ j o,l[j]?=some o→upd L i j=true→∀ e∈o.after.toList,Region.binds .any e=true→upd L i e.on=true:=by
    intro j o' hj DA e he hb;by_cases hji:j=i
    ·subst hji;obtain rfl:o=o':=ah9 (ho.symm.trans hj);exact up _ (hA e he hb)
    ·have hne:(j == i)=false:=by simpa using hji
     exact up _ (hcl j o' hj (by simpa[upd,hne] using DA) e he hb)
   have hno:∀ j,k≤j→j<l.length→i<j→L j=false:=fun j hkj hj hij=>by
    cases hx:L j with
    | false=>rfl
    | true=>
     obtain⟨oj,hoj⟩:∃ oj,l[j]?=some oj:=⟨_,ahY hj⟩;have:=vn fT htail L hcl hoj hkj (hcl j oj hoj hx) i hij;rw[hL] at this;cases this
   by_cases hik:i<k
   ·have hD:=hpl fun j hkj hj=>hno j hkj hj (by omega)
    obtain⟨s,hs,hd⟩:=hsl i o hik ho;refine BQ (l.take k) bB hstep i o (by rw[List.getElem?_take,if_pos hik];exact ho) b u Q' hD.fr hD.inv (fun j ⟨gr,hj,hb⟩ s g hs hg=>hD.done j (hA _ hj hb) s g hs hg) hD.rest ?_;intro v b' u' hb hg hp;rw[hd] at hp;refine hK b' u' ⟨hcl',fun _=>⟨hp.fr hD.fr,hinv _ _ hD.inv hb,?_,?_⟩,?_⟩
    ·intro j hj s' g' hs' hg';by_cases hji:j=i
     ·subst hji;obtain rfl:s=s':=ah9 (hs.symm.trans hs');exact⟨v,hp.now,hg g' hg'⟩
     ·have hne:s'≠s:=fun e=>hji (qc hnd (e▸hs') hs)
      have DA:L j=true:=by
       have:(j == i)=false:=by simpa using hji
       simpa[upd,this] using hj
      obtain⟨x,hx,hgx⟩:=hD.done j DA s' g' hs' hg';exact⟨x,hp.old (by simpa using hne) hx,ZM g' (ah_ hg') x u u' hgx hb⟩
    ·intro j x hj hx
     have hne:j≠s:=fun e=>by
      have hm:j∈slots:=e▸ah_ hs;have:slots.contains j=true:=by simpa using hm
      rw[this] at hj;cases hj
     exact hp.old (by simpa using hne) (hD.rest j x hj hx)
    ·intro j hkj hj DA;have hne:(j == i)=false:=by simp;omega
     have:=hno j hkj hj (by omega);simp[upd,hne,this] at DA
   ·have hall:=vn fT htail L hcl ho (by omega) hA
    have hT:jA P l.toArray (Q .normal) (l.drop i) b u:=by
     by_cases hik':i=k
     ·subst hik'
      have hD:=hpl fun j hkj hj=>by
       by_cases hji:j=i
       ·rw[hji];exact hL
       ·exact hno j hkj hj (by omega)
      refine hend b u ⟨hD.fr,hD.inv,fun j _ s g hs hg=>hD.done j (hall j ?_) s g hs hg,hD.rest⟩;have:=(ah3.1 hs).1;rw[hk,ahZ] at this;omega
     ·have:=htl (i-1) (by omega) (by omega) (hall (i-1) (by omega)) fun j' h1 h2=>by
       by_cases hji:j'=i
       ·rw[hji];exact hL
       ·exact hno j' (by omega) h2 (by omega)
      rwa [show i-1+1=i by omega] at this
    rw[List.drop_eq_getElem_cons JX] at hT
    have ho':l[i]=o:=by
     have:=ahY JX;rw[ho] at this;exact(ah9 this).symm
    rw[ho'] at hT;refine hT Q' fun b' u' hT'=>hK b' u' ⟨hcl',fun h=>?_,fun j hkj hj DA hlast=>?_⟩
    ·have:=h i (by omega) JX;simp[upd] at this
    ·by_cases hji:j=i
     ·subst hji;exact hT'
     ·have hne:(j == i)=false:=by simpa using hji
      by_cases hlt:j<i
      ·have:=hlast i hlt JX;simp[upd] at this
      ·have:=hno j hkj hj (by omega);simp[upd,hne,this] at DA
  have all:∀ (r:List Oper) (m:Nat),(∀ i o,r[i]?=some o→l[m+i]?=some o)→om P l.toArray (fun L b u=>(∀ j o,l[j]?=some o→L j=true→∀ e∈o.after.toList,Region.binds .any e=true→L e.on=true) ∧
   ((∀ j,k≤j→j<l.length→L j=false)→Ea slots bB inv a N L b u) ∧
   (∀ j,k≤j→j<l.length→L j=true→(∀ j',j<j'→j'<l.length→L j'=false)→jA P l.toArray (Q .normal) (l.drop (j+1)) b u)) m r:=by
   intro r
   induction r with
   | nil=>intro m _;trivial
   | cons o r ih=>
    intro m h;refine⟨fun L b u Q' hI hL hA hK=>key m o (h 0 o rfl) L b u Q' hI hL hA hK,ih (m+1) fun i o' ho'=>?_⟩;have:=h (i+1) o' (by simpa using ho')
    rwa [show m+1+i=m+(i+1) by omega]
  exact all l 0 fun i o ho=>by simpa using ho
 ·intro L b u ⟨hcl,hpl,htl⟩ hall;by_cases hkl:k<l.length
  ·have:=htl (l.length-1) (by omega) (by omega) (hall _ (by omega)) fun j' h1 h2=>by omega
   rw[show l.length-1+1=l.length by omega,List.drop_length] at this;exact this
  ·have hD:=hpl fun j h1 h2=>by omega
   have:=hend b u ⟨hD.fr,hD.inv,fun j _ s g hs hg=>hD.done j (hall j ?_) s g hs hg,hD.rest⟩
   ·rw[List.drop_of_length_le (by omega)] at this;exact this
   ·have:=(ah3.1 hs).1;rw[hk,ahZ] at this;omega
end
end Go.Proofs.YtkkmjdceiocnbaaGreatDoor
namespace Go.Proofs.YtkkmjdceiocnbaaGreatDoor
open Go Go.ChangeMaps Go.MapKept
open Go.Maps (Keyed)
def dU(w:World)(P:Program)(k:TypeId)(b:Nat)(D:List (Value×Value)):Prop:=
 ∃ es clock,w.heap[b]?=some (.map es clock)∧Stamped es clock∧(es.toList.map fun e=>(e.key,e.val)).Perm D∧∀ p∈D,∃ l,keyOf P k p.1=some l
variable {P:Program} {k:TypeId} {w:World} {b:Nat} {D:List (Value×Value)}
theorem dU.lt(h:dU w P k b D):b<w.heap.size:=by
 obtain⟨es,clock,hb,_⟩:=h;exact(Array.getElem?_eq_some_iff.1 hb).1
theorem dU.kept{w':World}(h:dU w P k b D)(hb:w'.heap[b]?=w.heap[b]?):dU w' P k b D:=by
 obtain⟨es,clock,h1,h2⟩:=h;exact⟨es,clock,hb.trans h1,h2⟩
theorem dU.perm{D':List (Value×Value)}(h:dU w P k b D)(hp:D.Perm D'):dU w P k b D':=by
 obtain⟨es,clock,h1,h2,h3,h4⟩:=h;exact⟨es,clock,h1,h2,h3.trans hp,fun p hq=>h4 p (hp.mem_iff.2 hq)⟩
theorem dU.keys(h:dU w P k b D):(D.map Prod.fst).Nodup:=by
 obtain⟨es,clock,_,h2,h3,_⟩:=h;have hn:es.toList.Pairwise (fun x y=>x.key≠y.key):=((stamped_iff es clock).1 h2).2.2
 have:((es.toList.map fun e=>(e.key,e.val)).map Prod.fst).Nodup:=by
  rw[List.map_map,List.Nodup,List.pairwise_map];exact hn
 exact(h3.map Prod.fst).nodup_iff.1 this
theorem dU.size(h:dU w P k b D):∃ es clock,w.heap[b]?=some (.map es clock)∧es.size=D.length:=by
 obtain⟨es,clock,h1,_,h3,_⟩:=h;exact⟨es,clock,h1,by simpa using h3.length_eq⟩
theorem dU.find{es:Array MapEntry}(K:Keyed P k)(hp:(es.toList.map fun e=>(e.key,e.val)).Perm D)(hk:∀ p∈D,∃ l,keyOf P k p.1=some l)(w:World){key:Value}{l:Lit}(hkey:keyOf P k key=some l):
 ((Instr.findKey k key es.toList).run P w=.ok none w∧(∀ e∈es.toList,e.key≠key)∧∀ p∈D,p.1≠key) ∨
 ∃ j e,(Instr.findKey k key es.toList).run P w=.ok (some (j,e.val)) w∧es.toList[j]?=some e∧e.key=key∧(key,e.val)∈D:=by
 have hks:∀ e∈es.toList,∃ l,keyOf P k e.key=some l:=fun e he=>hk (e.key,e.val) (hp.mem_iff.1 (ahX.2 ⟨e,he,rfl⟩))
 rcases K.find w hkey es.toList hks with⟨h1,h2⟩|⟨j,e,h1,h2,h3⟩
 ·refine Or.inl ⟨h1,h2,fun p hq he=>?_⟩;obtain⟨e,he',rfl⟩:=ahX.1 (hp.mem_iff.2 hq);exact h2 e he' he
 ·exact Or.inr ⟨j,e,h1,h2,h3,hp.mem_iff.1 (ahX.2 ⟨e,ah_ h2,by rw[h3]⟩)⟩
variable {t e:TypeId}
theorem dU.nJ(c:Bool)(h:dU w P k b D)(K:Keyed P k)(ht:P.underlying t=some (.map k e)){z:Value}(hz:(zeroValue e).run P w=.ok z w){key:Value}{l:Lit}(hkey:keyOf P k key=some l)(hno:∀ p∈D,p.1≠key):
 (Instr.lookup t (.map (some b)) key c).run P w=.ok (if c then .tuple #[z,.bool false] else z) w:=by
 obtain⟨es,clock,hb,hs,hp,hk⟩:=h;rcases dU.find K hp hk w hkey with⟨h1,h2,_⟩|⟨j,e0,h1,h2,h3,h4⟩
 ·simp[Instr.lookup,run_underlying ht,MapKept.run_getObj_map hb,K.check w _ hkey,h1,hz,Result.andThen]
 ·exact absurd rfl (hno _ h4)
theorem dU.Jt(c:Bool)(h:dU w P k b D)(K:Keyed P k)(ht:P.underlying t=some (.map k e)){key val:Value}{l:Lit}(hkey:keyOf P k key=some l)(hin:(key,val)∈D):
 (Instr.lookup t (.map (some b)) key c).run P w=.ok (if c then .tuple #[val,.bool true] else val) w:=by
 have hnd:=h.keys;obtain⟨es,clock,hb,hs,hp,hk⟩:=h;rcases dU.find K hp hk w hkey with⟨h1,h2,h5⟩|⟨j,e0,h1,h2,h3,h4⟩
 ·exact absurd rfl (h5 _ hin)
 ·have:e0.val=val:=by
   have:=uY hnd h4 hin;exact this
  simp[Instr.lookup,run_underlying ht,MapKept.run_getObj_map hb,K.check w _ hkey,h1,this,Result.andThen]
where
 uY:∀ {D:List (Value×Value)},(D.map Prod.fst).Nodup→∀ {x a b:Value},(x,a)∈D→(x,b)∈D→a=b
 | [],_,_,_,_,h,_=>by cases h
 | p::D,hn,x,a,b,ha,hb=>by
  simp only[List.map_cons,List.nodup_cons] at hn;rcases ah1.1 ha with rfl|ha'
  ·rcases ah1.1 hb with hb'|hb'
   ·exact(congrArg Prod.snd hb').symm
   ·exact absurd (ahX.2 ⟨_,hb',rfl⟩) hn.1
  ·rcases ah1.1 hb with rfl|hb'
   ·exact absurd (ahX.2 ⟨_,ha',rfl⟩) hn.1
   ·exact uY hn.2 ha' hb'
end Go.Proofs.YtkkmjdceiocnbaaGreatDoor
namespace Go.Proofs.YtkkmjdceiocnbaaGreatDoor
open Go Go.RowKit
variable [DS]
abbrev Slots:=List (Nat×Value)
def look(q:Nat):Slots→Option Value
 | []=>none
 | (s,v)::r=>bif Nat.beq q s then some v else look q r
theorem bT(q s:Nat)(v:Value)(l:Slots):look q ((s,v)::l)=bif (q == s) then some v else look q l:=by
 show(bif Nat.beq q s then some v else look q l)=_
 cases h:q == s with
 | true=>rw[show q=s by simpa using h,Nat.beq_refl]
 | false=>
  have hne:q≠s:=by simpa using h
  rw[show Nat.beq q s=false from by cases hb:Nat.beq q s with|false=>rfl|true=>exact absurd (aia hb) hne]
structure Fs (a:Act) (N:Nat) (l:Slots):Prop where
 fr:Fr a N
 at_:∀ q v,look q l=some v→At a q v
section
variable {a:Act} {N:Nat} {l:Slots}
theorem Fs.g(h:Fs a N l)(q:Nat){v:Value}(hv:look q l=some v):At a q v:=h.at_ q v hv
theorem Fs.e(h:Fs a N l)(q:Nat){v:Value}(hv:look q l=some v):a.eval (.tmp q)=v:=(h.at_ q v hv).ev
theorem Fs.put{a':Act}{d:Nat}{v:Value}(h:Fs a N l)(p:Put a d v a'):Fs a' N ((d,v)::l):=by
 refine⟨p.fr h.fr,fun q u hq=>?_⟩;rw[bT] at hq
 cases e:q == d with
 | true=>
  rw[e] at hq;have hq':v=u:=ah9 hq;have e':q=d:=by simpa using e
  subst hq' e';exact p.now
 | false=>
  rw[e] at hq;exact p.old e (h.at_ q u hq)
theorem Fs.eq(h:Fs a N l)(q:Nat){v u:Value}(hv:look q l=some v)(e:v=u):Fs a N ((q,u)::l):=by
 refine⟨h.fr,fun s x hs=>?_⟩;rw[bT] at hs
 cases he:s == q with
 | true=>
  rw[he] at hs;have hs':u=x:=ah9 hs;have e':s=q:=by simpa using he
  subst hs' e' e;exact h.at_ _ _ hv
 | false=>
  rw[he] at hs;exact h.at_ s x hs
def Sub(l:Slots):Slots→Prop
 | []=>True
 | p::r=>look p.1 l=some p.2∧Sub l r
theorem Fs.sub{l':Slots}(h:Fs a N l)(hs:Sub l l'):Fs a N l':=by
 refine⟨h.fr,?_⟩
 induction l' with
 | nil=>intro q v hq;cases hq
 | cons p r ih=>
  intro q v hq;obtain⟨q0,v0⟩:=p;rw[bT] at hq
  cases e:q == q0 with
  | true=>
   rw[e] at hq;have hq':v0=v:=ah9 hq;have e':q=q0:=by simpa using e
   subst hq' e';exact h.at_ _ _ hs.1
  | false=>
   rw[e] at hq;exact ih hs.2 q v hq
def FW(k:Nat):List Value→Slots
 | []=>[]
 | v::r=>(k,v)::FW (k+1) r
theorem Fs.args{args:Array Value}(hf:Fr a N)(h:∀ i v,args[i]?=some v→At a i v){vs:List Value}(e:args=vs.toArray):Fs a N (FW 0 vs):=by
 refine⟨hf,fun q v hq=>h q v ?_⟩;subst e
 have key:∀ (vs:List Value) (k q:Nat) (v:Value),look q (FW k vs)=some v→k≤q∧vs[q-k]?=some v:=by
  intro vs
  induction vs with
  | nil=>
   intro k q v h;exact absurd h (by simp[look,FW])
  | cons x r ih=>
   intro k q v h;rw[FW,bT] at h
   cases e:q == k with
   | true=>
    rw[e] at h;have e':q=k:=by simpa using e
    subst e';simpa using h
   | false=>
    rw[e] at h;have hne:q≠k:=by simpa using e
    obtain⟨h1,h2⟩:=ih (k+1) q v h;refine⟨by omega,?_⟩;rw[show q-k=(q-(k+1))+1 by omega];simpa using h2
 have:=key vs 0 q v hq;simpa using this.2
end
abbrev Bx:=Nat×TypeId×Array Value
structure Rw where
 v:Value
 e:TypeId
 k:Nat
 n:Nat
 xs:List Value
def kH(D:List (Value×Value)):Array Value:=(D.flatMap fun p=>[p.1,p.2]).toArray
def UD(w:World)(b:Bx):Prop:=Nat.blt b.2.1 9000=false∧∃ D,b.2.2=kH D∧dU w Tryz.prog (b.2.1-9000) b.1 D
def q7(w:World)(b:Bx):Prop:=(Nat.blt b.2.1 9000=true∧Whole w b.1 b.2.1 b.2.2)∨UD w b
theorem q7.lt{w:World}{b:Bx}(h:q7 w b):b.1<w.heap.size:=by
 rcases h with⟨_,h⟩|⟨_,D,_,h⟩
 ·exact h.lt
 ·exact h.lt
theorem q7.kept{w w':World}{b:Bx}(h:q7 w b)(hb:w'.heap[b.1]?=w.heap[b.1]?):q7 w' b:=by
 rcases h with⟨h0,h⟩|⟨h0,D,h1,h⟩
 ·exact .inl ⟨h0,hb.trans h⟩
 ·exact .inr ⟨h0,D,h1,h.kept hb⟩
theorem q7.whole{w:World}{g:Nat}{t:TypeId}{cs:Array Value}(h:q7 w (g,t,cs))(ht:Nat.blt t 9000=true):Whole w g t cs:=by
 rcases h with⟨_,h⟩|⟨h0,_⟩
 ·exact h
 ·have h0:Nat.blt t 9000=false:=h0;rw[ht] at h0;cases h0
structure aC (B:Nat) (w0 w:World) (bs:List Bx) (rs:List Rw):Prop where
 below:ah7 B w0 w
 le:B≤w0.heap.size
 old:∀ g cs,Whole w0 g 59 cs→Whole w g 59 cs
 box:∀ b∈bs,q7 w b
 lo:∀ b∈bs,B≤b.1
 nd:(bs.map (·.1)).Nodup
 row:∀ r∈rs,w.ownsRow B r.e r.k r.v r.n r.xs
 far:∀ r∈rs,∀ b∈bs,r.v.ownBlock≠some b.1
 tZ:rs.Pairwise fun r s=>r.v.ownBlock=none∨r.v.ownBlock≠s.v.ownBlock
abbrev Mm (w0 w:World) (bs:List Bx) (rs:List Rw):Prop:=aC w0.heap.size w0 w bs rs
section
variable {B:Nat} {w0 w w':World} {bs:List Bx} {rs:List Rw}
theorem Mm.start(w:World):Mm w w [] []:=⟨Below.refl _ w,Nat.le_refl _,fun _ _ h=>h,by simp,by simp,by simp,by simp,by simp,.nil⟩
theorem aC.big(M:aC B w0 w bs rs):B≤w.heap.size:=Nat.le_trans M.le M.below.size
theorem aC.b(M:aC B w0 w bs rs)(i:Nat){g:Nat}{t:TypeId}{cs:Array Value}(h:bs[i]?=some (g,t,cs))(ht:Nat.blt t 9000=true:=by rfl):Whole w g t cs:=(M.box _ (ah_ h)).whole ht
theorem aC.r(M:aC B w0 w bs rs)(i:Nat){r:Rw}(h:rs[i]?=some r):w.ownsRow B r.e r.k r.v r.n r.xs:=M.row _ (ah_ h)
theorem aC.keep(M:aC B w0 w bs rs)(hb:ah7 w.heap.size w w'):aC B w0 w' bs rs:=
 ⟨M.below.step hb M.big,M.le,fun g cs h=>Whole.under hb (M.old g cs h) (M.old g cs h).lt,fun b h=>(M.box b h).kept (hb.block _ (M.box b h).lt),M.lo,M.nd,fun r h=>CY hb (M.row r h) (Nat.le_refl _),M.far,M.tZ⟩
theorem aC.new(M:aC B w0 w bs rs){g:Nat}{t:TypeId}{cs:Array Value}(n:New w w' g t cs)(ht:Nat.blt t 9000=true:=by rfl):aC B w0 w' ((g,t,cs)::bs) rs:=by
 have M':=M.keep n.below;have hlt:∀ b∈bs,b.1<g:=fun b h=>n.at_▸(M.box b h).lt
 refine⟨M'.below,M'.le,M'.old,?_,?_,?_,M'.row,?_,M.tZ⟩
 ·intro b hb;rcases ah1.1 hb with rfl|hb
  ·exact .inl ⟨ht,n.whole⟩
  ·exact M'.box b hb
 ·intro b hb;rcases ah1.1 hb with rfl|hb
  ·exact n.at_▸M.big
  ·exact M.lo b hb
 ·rw[List.map_cons,List.nodup_cons];refine⟨fun h=>?_,M.nd⟩;obtain⟨b,hb,e⟩:=ahX.1 h;have:=hlt b hb;simp only at e;omega
 ·intro r hr b hb;rcases ah1.1 hb with rfl|hb
  ·intro e;have:=((M.row r hr).lt g e).2;rw[← n.at_] at this;omega
  ·exact M.far r hr b hb
theorem aC.VJ(M:aC B w0 w bs rs)(i:Nat){g:Nat}{t:TypeId}{cs cs':Array Value}(h:bs[i]?=some (g,t,cs))(s:uL w w' g)(h':Whole w' g t cs')(ht:Nat.blt t 9000=true:=by rfl)(hw:Nat.beq t 59=false∨w0.heap.size≤B:=by first|exact .inl rfl|exact .inr (Nat.le_refl _)):aC B w0 w' (bs.set i (g,t,cs')) rs:=by
 have hi:=(ah3.1 h).1;have hm:=ah_ h
 have hmap:(bs.set i (g,t,cs')).map (·.1)=bs.map (·.1):=by
  refine List.ext_getElem? fun j=>?_
  rw[ah0,ah0,List.getElem?_set];by_cases e:i=j
  ·subst e;simp[hi,(ah3.1 h).2]
  ·simp[e]
 have WA:∀ b∈bs.set i (g,t,cs'),∃ b'∈bs,b'.1=b.1:=fun b hb=>by
  rcases List.mem_or_eq_of_mem_set hb with hb|rfl
  ·exact⟨b,hb,rfl⟩
  ·exact⟨_,hm,rfl⟩
 refine⟨M.below.trans (s.below (M.lo _ hm)),M.le,fun g' cs'' h2=>s.whole (M.old g' cs'' h2) ?_,?_,?_,by rw[hmap];exact M.nd,?_,?_,M.tZ⟩
 ·intro e;rcases hw with hw|hw
  ·subst e;have h3:w.heap[g']?=some (.cells cs'' 59 (0,0)):=M.old g' cs'' h2;have h4:w.heap[g']?=some (.cells cs t (0,0)):=(M.box _ hm).whole ht;rw[h3] at h4;have h5:(59:Nat)=t:=by injection h4 with h4;injection h4
   rw[← h5] at hw;cases hw
  ·have h3:=h2.lt;have h4:=M.lo _ hm;simp only at h4;omega
 ·intro b hb;obtain⟨j,hj⟩:=List.getElem?_of_mem hb;rw[List.getElem?_set] at hj;by_cases e:i=j
  ·subst e;rw[if_pos rfl,if_pos hi] at hj;obtain rfl:=ah9 hj;exact .inl ⟨ht,h'⟩
  ·rw[if_neg e] at hj;refine(M.box b (ah_ hj)).kept (s.block _ fun e'=>e ?_);have h1:(bs.map (·.1))[i]?=some g:=by rw[ah0,h];rfl
   have h2:(bs.map (·.1))[j]?=some g:=by rw[ah0,hj];simp[e']
   exact qc M.nd h1 h2
 ·intro b hb;obtain⟨b',hb',e⟩:=WA b hb;rw[← e];exact M.lo b' hb'
 ·intro r hr;exact s.own (M.row r hr) (M.far r hr _ hm)
 ·intro r hr b hb;obtain⟨b',hb',e⟩:=WA b hb;rw[← e];exact M.far r hr b' hb'
theorem aC.grow(M:aC B w0 w bs rs)(i:Nat){r:Rw}(h:rs[i]?=some r){v':Value}{n':Nat}{xs':List Value}(ho:w'.ownsRow B r.e r.k v' n' xs')(hg:w.grownBy w' r.v.ownBlock)
 (hv:v'.ownBlock=r.v.ownBlock∨v'.ownBlock=none∨∃ g,v'.ownBlock=some g∧w.heap.size≤g) (hw:Nat.beq r.e 59=false∨w0.heap.size≤B:=by first|exact .inl rfl|exact .inr (Nat.le_refl _)):aC B w0 w' bs (rs.set i { r with v:=v',n:=n',xs:=xs' }):=by
 have hi:=(ah3.1 h).1;have hm:=ah_ h;refine⟨M.below.grown hg M.big (fun q hq=>((M.row r hm).lt q hq).1),M.le,fun g cs h2=>(M.old g cs h2).grown hg ?_,?_,M.lo,M.nd,?_,?_,?_⟩
 ·rcases hw with hw|hw
  ·exact fun e=>CZ (M.row r hm) (M.old g cs h2) (fun e2=>by rw[e2] at hw;cases hw) e.symm
  ·intro e;have h3:=h2.lt;have h4:=((M.row r hm).lt g e.symm).1;omega
 ·intro b hb;exact(M.box b hb).kept (hg.block _ (M.box b hb).lt fun e=>M.far r hm b hb e.symm)
 ·intro s hs;obtain⟨j,hj⟩:=List.getElem?_of_mem hs;rw[List.getElem?_set] at hj;by_cases e:i=j
  ·subst e;rw[if_pos rfl,if_pos hi] at hj;obtain rfl:=ah9 hj;exact ho
  ·rw[if_neg e] at hj;have za:=ah_ hj;refine(M.row s za).kept hg ?_;have hp:=List.pairwise_iff_getElem.1 M.tZ;have hjl:=(ah3.1 hj).1;have e1:rs[i]=r:=(ah3.1 h).2;have e2:rs[j]=s:=(ah3.1 hj).2;rcases Nat.lt_or_gt_of_ne e with hlt|hgt
   ·rcases hp i j hi hjl hlt with h0|h0
    ·rw[e1] at h0;rw[h0]
     cases QZ:s.v.ownBlock with
     | none=>exact .inl rfl
     | some q=>exact .inr (by simp)
    ·rw[e1,e2] at h0;exact .inr fun e3=>h0 e3.symm
   ·rcases hp j i hjl hi hgt with h0|h0
    ·rw[e2] at h0;exact .inl h0
    ·rw[e1,e2] at h0;exact .inr h0
 ·intro s hs b hb;rcases List.mem_or_eq_of_mem_set hs with hs|rfl
  ·exact M.far s hs b hb
  ·rcases hv with e|e|⟨g,e,hge⟩
   ·show v'.ownBlock≠_;rw[e];exact M.far r hm b hb
   ·show v'.ownBlock≠_;rw[e];simp
   ·show v'.ownBlock≠_;rw[e];intro e';have:=(M.box b hb).lt;have e2:g=b.1:=ah9 e';omega
 ·rw[List.pairwise_iff_getElem];intro j k hj hk hjk;rw[List.length_set] at hj hk;have hp:=List.pairwise_iff_getElem.1 M.tZ j k hj hk hjk;have e1:rs[i]=r:=(ah3.1 h).2;simp only[List.getElem_set];by_cases ej:i=j
  ·subst ej;have ek:¬ i=k:=by omega
   simp only[if_true,if_neg ek];rcases hv with e|e|⟨g,e,hge⟩
   ·rw[e];rw[e1] at hp;exact hp
   ·exact .inl e
   ·refine .inr ?_;rw[e];intro e';have:=((M.row _ (List.getElem_mem hk)).lt g e'.symm).2;omega
  ·by_cases ek:i=k
   ·subst ek;simp only[if_neg ej,if_true];rcases hv with e|e|⟨g,e,hge⟩
    ·rw[e];rw[e1] at hp;exact hp
    ·rw[e]
     cases QZ:rs[j].v.ownBlock with
     | none=>exact .inl rfl
     | some q=>exact .inr (by simp)
    ·rw[e];refine .inr fun e'=>?_
     have:=((M.row _ (List.getElem_mem hj)).lt g e').2;omega
   ·simp only[if_neg ej,if_neg ek];exact hp
theorem aC.Gm(M:aC B w0 w bs rs){r:Rw}(ho:w.ownsRow B r.e r.k r.v r.n r.xs)(hf:∀ b∈bs,r.v.ownBlock≠some b.1)(hr:∀ s∈rs,r.v.ownBlock=none∨r.v.ownBlock≠s.v.ownBlock):aC B w0 w bs (r::rs):=by
 refine⟨M.below,M.le,M.old,M.box,M.lo,M.nd,?_,?_,List.pairwise_cons.2 ⟨hr,M.tZ⟩⟩
 ·intro s hs;rcases ah1.1 hs with rfl|hs
  ·exact ho
  ·exact M.row s hs
 ·intro s hs b hb;rcases ah1.1 hs with rfl|hs
  ·exact hf b hb
  ·exact M.far s hs b hb
theorem aC.bE(M:aC B w0 w bs rs)(e:TypeId)(k:Nat):aC B w0 w bs (⟨.slice none 0 0,e,k,0,[]⟩::rs):=
 M.Gm (World.ownsRow_nil _ _ _ _) (fun _ _=>by simp[Value.ownBlock]) (fun _ _=>.inl rfl)
theorem aC.qo(M:aC B w0 w bs rs)(hb:ah7 w.heap.size w w'){r:Rw}(ho:w'.ownsRow w.heap.size r.e r.k r.v r.n r.xs):aC B w0 w' bs (r::rs):=by
 refine(M.keep hb).Gm (vZ ho M.big) ?_ ?_
 ·intro b hb' e;have:=(ho.lt _ e).1;have:=(M.box b hb').lt;omega
 ·intro s hs
  cases QZ:r.v.ownBlock with
  | none=>exact .inl rfl
  | some q=>
   refine .inr fun e=>?_
   have h1:=(ho.lt q QZ).1;have h2:=((M.row s hs).lt q (by rw[← e])).2;omega
theorem aC.uH{g:Nat}{t:TypeId}{cs:Array Value}(M:aC B w0 w ((g,t,cs)::bs) rs)(k n:Nat)(hn:n≤maxLen)(hs:cs.size=n*k)(ht:Nat.blt t 9000=true:=by rfl):aC B w0 w bs (⟨.slice (some ⟨g,0,none⟩) n n,t,k,n,cs.toList⟩::rs):=by
 have hw:=(M.box _ (aib ..)).whole ht;have hnd:=List.nodup_cons.1 (show(g::bs.map (·.1)).Nodup from M.nd);have M1:aC B w0 w bs rs:=⟨M.below,M.le,M.old,fun b hb=>M.box b (aic _ hb),fun b hb=>M.lo b (aic _ hb),hnd.2,M.row,fun r hr b hb=>M.far r hr b (aic _ hb),M.tZ⟩;refine M1.Gm ⟨by simp[hs],.inr ⟨g,n,cs,rfl,M.lo _ (aib ..),hw,Nat.le_refl _,hn,hs,by rw[List.take_of_length_le (by simp[hs])]⟩⟩ ?_ ?_
 ·intro b hb e;refine hnd.1 (ahX.2 ⟨b,hb,?_⟩);have e2:g=b.1:=by simpa[Value.ownBlock] using e
  exact e2.symm
 ·intro s hs';refine .inr fun e=>M.far s hs' _ (aib ..) ?_
  show s.v.ownBlock=some g;rw[← e];rfl
theorem aC.cast(M:aC B w0 w bs rs){bs':List Bx}{rs':List Rw}(hb:bs=bs')(hr:rs=rs'):aC B w0 w bs' rs':=hb▸hr▸M
theorem aC.only(M:aC B w0 w bs rs){bs':List Bx}{rs':List Rw}(hb:bs'.Sublist bs)(hr:rs'.Sublist rs):aC B w0 w bs' rs':=
 ⟨M.below,M.le,M.old,fun b h=>M.box b (hb.subset h),fun b h=>M.lo b (hb.subset h),(hb.map _).nodup M.nd,fun r h=>M.row r (hr.subset h),fun r h b h'=>M.far r (hr.subset h) b (hb.subset h'),M.tZ.sublist hr⟩
end
theorem B6{P:Program}(w:World)(base:Nat)(t ty e:TypeId)(i:TypeInfo)(z:Value)(ht:P.underlying t=some (.slice e))(hi:P.info? e=some i)(hz:i.zero=some z)
 (hzs:z.cells.size=i.size) (hsz:0<i.size) (v:Value) (n:Nat) (xs:List Value) (hown:w.ownsRow base e i.size v n xs)
 (a:Addr) (m c:Nat) (news:List Value) (hl:news.length=m*i.size) (hnews:∀ j u,news[j]?=some u→w.cell? (a.add j)=some u) (h1:∀ u∈news,u.oneCell'=true)
 (h63:n+m≤maxLen) (hbytes:(n+m)*i.bytes≤140737488355328) {v':Value} {w':World} (hr:(Builtin.append_ #[t,t] ty #[v,.slice (some a) m c]).run P w=.ok v' w') :
 v'.ownBlock=v.ownBlock∨v'.ownBlock=none∨∃ g,v'.ownBlock=some g∧w.heap.size≤g:=by
 have hsmall:n+m≤9223372036854775807:=by simp only[maxLen] at h63;omega
 rcases hown.2 with⟨rfl,rfl⟩|⟨g,cap,cur,rfl,hbg,hg,hnc,hcm,hcs,htake⟩
 ·have hx:xs=[]:=List.eq_nil_of_length_eq_zero (by simpa using hown.1);subst hx;obtain⟨v2,w2,bJ,h2,-,-⟩:=run_append_own (P:=P) w w.heap.size t ty e i z i.size i.bytes ht hi hz rfl rfl hzs hsz _ 0 [] (World.ownsRow_nil _ _ _ _) a m c news hl hnews h1 h63 hbytes (Nat.le_refl _);rw[hr] at bJ;injection bJ with e1 e2;subst e1 e2
  cases hb:v'.ownBlock with
  | none=>exact .inr (.inl rfl)
  | some g=>exact .inr (.inr ⟨g,rfl,(h2.lt g hb).1⟩)
 ·by_cases hroom:n+m≤cap
  ·have hfit:n*i.size+news.length≤cur.size:=by rw[hl,hcs,← Nat.add_mul];exact ah4 _ hroom
   have bJ:=run_append_room (P:=P) w t ty e i ht hi g n cap cur hg a m c news hl hnews h1 hroom hfit;rw[hr] at bJ;injection bJ with e1 e2;subst e1;exact .inl rfl
  ·have holds:∀ j u,xs[j]?=some u→w.cell? ((⟨g,0,none⟩:Addr).add j)=some u:=hown.cells (g:=g) rfl;have bJ:=run_append_grow (P:=P) w t ty e i z ht hi hz ⟨g,0,none⟩ n cap xs hown.1 holds a m c news hl hnews (by omega) (by omega) (growslice_fits (by omega) hbytes);rw[hr] at bJ;injection bJ with e1 e2;subst e1;exact .inr (.inr ⟨w.heap.size,rfl,Nat.le_refl _⟩)
section
variable {P:Program} {ops:Array Oper} {Q:Exit→Act→World→Prop} {a:Act} {B:Nat} {w0 w w':World} {rest:List Oper} {o:Oper} {v:Value} {d N:Nat} {l:Slots} {bs:List Bx} {rs:List Rw}
theorem on(hg:o.guard=none):Region.wanted o (yielded ops a.tmps)=true:=dN hg
theorem kv(hw:Region.wanted o (yielded ops a.tmps)=true)(hr:(execOp a.eval o).run P w=.ok (.value v) w)(hd:o.dst=some d)(F:Fs a N l)(hN:Nat.blt d N=true)
 (next:∀ a',Fs a' N ((d,v)::l)→wpList P ops Q rest a' w):wpList P ops Q (o::rest) a w:=
 kM hw hr hd F.fr (by simpa using hN) fun a' p=>next a' (F.put p)
theorem ke(hw:Region.wanted o (yielded ops a.tmps)=true)(hr:(execOp a.eval o).run P w=.ok (.value v) w)(hd:o.dst=some d)(F:Fs a N l)(hN:Nat.blt d N=true){u:Value}(e:v=u)
 (next:∀ a',Fs a' N ((d,u)::l)→wpList P ops Q rest a' w):wpList P ops Q (o::rest) a w:=
 kv hw hr hd F hN fun a' F'=>next a' (e▸F')
theorem kn(hw:Region.wanted o (yielded ops a.tmps)=true){ty:TypeId}{cs:Array Value}{f:Nat→Value}(hr:(execOp a.eval o).run P w=.ok (.value (f w.heap.size)) (w.alloc (.cells cs ty)))(hd:o.dst=some d)(F:Fs a N l)(hN:Nat.blt d N=true)(M:aC B w0 w bs rs)
 (next:∀ g a' w',Fs a' N ((d,f g)::l)→aC B w0 w' ((g,ty,cs)::bs) rs→wpList P ops Q rest a' w') (ht:Nat.blt ty 9000=true:=by rfl):wpList P ops Q (o::rest) a w:=
 wN hw hr hd F.fr (by simpa using hN) fun g a' w' n p=>next g a' w' (F.put p) (M.new n ht)
theorem kb(hw:Region.wanted o (yielded ops a.tmps)=true){ty:TypeId}{x:Operand}(ho:o.op=.box ty x)(hx:a.eval x=v){cs:Array Value}(hc:v.cells=cs)(hd:o.dst=some d)(F:Fs a N l)(hN:Nat.blt d N=true)(M:aC B w0 w bs rs)
 (next:∀ g a' w',Fs a' N ((d,.pointer (some ⟨g,0,none⟩))::l)→aC B w0 w' ((g,ty,cs)::bs) rs→wpList P ops Q rest a' w') (ht:Nat.blt ty 9000=true:=by rfl):wpList P ops Q (o::rest) a w:=
 kn (f:=fun n=>.pointer (some ⟨n,0,none⟩)) hw (hc▸Nu ho hx) hd F hN M next ht
theorem ka(hw:Region.wanted o (yielded ops a.tmps)=true){ty:TypeId}{z:Value}(ho:o.op=.alloc ty)(hz:(P.info? ty).bind (·.zero)=some z){cs:Array Value}(hc:z.cells=cs)(hd:o.dst=some d)(F:Fs a N l)(hN:Nat.blt d N=true)(M:aC B w0 w bs rs)
 (next:∀ g a' w',Fs a' N ((d,.pointer (some ⟨g,0,none⟩))::l)→aC B w0 w' ((g,ty,cs)::bs) rs→wpList P ops Q rest a' w') (ht:Nat.blt ty 9000=true:=by rfl):wpList P ops Q (o::rest) a w:=
 kn (f:=fun n=>.pointer (some ⟨n,0,none⟩)) hw (hc▸tH ho hz) hd F hN M next ht
theorem kl(hw:Region.wanted o (yielded ops a.tmps)=true){t e:TypeId}{len k:Nat}{parts:Array (Nat×Operand)}{cells:Array Value}{z:Value}(ho:o.op=.buildSlice t len parts)(hu:P.underlying t=some (.slice e))(hs:(P.info? e).map (·.size)=some k)(hz:(P.info? e).bind (·.zero)=some z)
 (za:(decide (len*k≤2^24)&&decide (0<len*k))=true) {pv:Array (Nat×Value)} (hp:(parts.map fun(i,x)=>(i,a.eval x))=pv) (h:Instr.fill (fun i=>some (i*k,k)) ((Array.range (len*k)).map (z.cells[·%z.cells.size]!)) pv.toList=some cells)
 (hd:o.dst=some d) (F:Fs a N l) (hN:Nat.blt d N=true) (M:aC B w0 w bs rs)
 (next:∀ g a' w',Fs a' N ((d,.slice (some ⟨g,0,none⟩) len len)::l)→aC B w0 w' ((g,e,cells)::bs) rs→wpList P ops Q rest a' w') (ht:Nat.blt e 9000=true:=by rfl):wpList P ops Q (o::rest) a w:=by
 simp only[ah8,decide_eq_true_eq] at za;exact kn (f:=fun n=>.slice (some ⟨n,0,none⟩) len len) hw (tG ho hu hs hz za.1 za.2 hp h) hd F hN M next ht
theorem ks(hw:Region.wanted o (yielded ops a.tmps)=true){ty:TypeId}{x y:Operand}(ho:o.op=.store ty x y){g f:Nat}(hx:a.eval x=.pointer (some ⟨g,f,none⟩))(hy:a.eval y=v)(F:Fs a N l)(M:aC B w0 w bs rs)(i:Nat){t:TypeId}{cs cs':Array Value}(hi:bs[i]?=some (g,t,cs))
 {u:List Value} (hl:v.cells.toList=u) (hfit:Nat.ble (f+u.length) cs.size=true) (hz:(P.info? ty).map (·.size)=some u.length) (h1:u.all (·.oneCell')=true) (hsp:splice cs f u=cs') (hd:o.dst=none) {bs':List Bx} (hb:bs.set i (g,t,cs')=bs')
 (next:∀ w',aC B w0 w' bs' rs→wpList P ops Q rest a w') (ht:Nat.blt t 9000=true:=by rfl) (hW:Nat.beq t 59=false∨w0.heap.size≤B:=by first|exact .inl rfl|exact .inr (Nat.le_refl _)):wpList P ops Q (o::rest) a w:=
 pP hw ho hx hy (M.b i hi ht) hl (Nat.le_of_ble_eq_true hfit) hz h1 hsp hd fun w' s h'=>next w' (hb▸M.VJ i hi s h' ht hW)
theorem X_(hw:Region.wanted o (yielded ops a.tmps)=true){ty:TypeId}{x:Operand}(ho:o.op=.box ty x){cs:Array Value}(hx:a.eval x=.agg cs)(hd:o.dst=some d)(F:Fs a N l)(hN:Nat.blt d N=true)(M:aC B w0 w bs rs)
 (next:∀ g a' w',Fs a' N ((d,.pointer (some ⟨g,0,none⟩))::l)→aC B w0 w' ((g,ty,cs)::bs) rs→wpList P ops Q rest a' w') (ht:Nat.blt ty 9000=true:=by rfl):wpList P ops Q (o::rest) a w:=
 kb hw ho hx rfl hd F hN M next ht
theorem kb1(hw:Region.wanted o (yielded ops a.tmps)=true){ty:TypeId}{x:Operand}(ho:o.op=.box ty x)(hx:a.eval x=v)(hc:v.cells=#[v])(hd:o.dst=some d)(F:Fs a N l)(hN:Nat.blt d N=true)(M:aC B w0 w bs rs)
 (next:∀ g a' w',Fs a' N ((d,.pointer (some ⟨g,0,none⟩))::l)→aC B w0 w' ((g,ty,#[v])::bs) rs→wpList P ops Q rest a' w') (ht:Nat.blt ty 9000=true:=by rfl):wpList P ops Q (o::rest) a w:=
 kb hw ho hx hc hd F hN M next ht
theorem kaA(hw:Region.wanted o (yielded ops a.tmps)=true){ty:TypeId}{cs:Array Value}(ho:o.op=.alloc ty)(hz:(P.info? ty).bind (·.zero)=some (.agg cs))(hd:o.dst=some d)(F:Fs a N l)(hN:Nat.blt d N=true)(M:aC B w0 w bs rs)
 (next:∀ g a' w',Fs a' N ((d,.pointer (some ⟨g,0,none⟩))::l)→aC B w0 w' ((g,ty,cs)::bs) rs→wpList P ops Q rest a' w') (ht:Nat.blt ty 9000=true:=by rfl):wpList P ops Q (o::rest) a w:=
 ka hw ho hz rfl hd F hN M next ht
theorem ka1(hw:Region.wanted o (yielded ops a.tmps)=true){ty:TypeId}(ho:o.op=.alloc ty)(hz:(P.info? ty).bind (·.zero)=some v)(hc:v.cells=#[v])(hd:o.dst=some d)(F:Fs a N l)(hN:Nat.blt d N=true)(M:aC B w0 w bs rs)
 (next:∀ g a' w',Fs a' N ((d,.pointer (some ⟨g,0,none⟩))::l)→aC B w0 w' ((g,ty,#[v])::bs) rs→wpList P ops Q rest a' w') (ht:Nat.blt ty 9000=true:=by rfl):wpList P ops Q (o::rest) a w:=
 ka hw ho hz hc hd F hN M next ht
theorem ksA(hw:Region.wanted o (yielded ops a.tmps)=true){ty:TypeId}{x y:Operand}(ho:o.op=.store ty x y){g:Nat}{cs':Array Value}(hx:a.eval x=.pointer (some ⟨g,0,none⟩))(hy:a.eval y=.agg cs')(F:Fs a N l)(M:aC B w0 w bs rs)(i:Nat){t:TypeId}{cs:Array Value}(hi:bs[i]?=some (g,t,cs))
 {n:Nat} (hz:(P.info? ty).map (·.size)=some n) (hs:(Nat.beq cs.size n&&Nat.beq cs'.size n)=true) (h1:cs'.toList.all (·.oneCell')=true) (hd:o.dst=none)
 (next:∀ w',aC B w0 w' (bs.set i (g,t,cs')) rs→wpList P ops Q rest a w') (ht:Nat.blt t 9000=true:=by rfl) (hW:Nat.beq t 59=false∨w0.heap.size≤B:=by first|exact .inl rfl|exact .inr (Nat.le_refl _)):wpList P ops Q (o::rest) a w:=by
 obtain⟨e1,e2⟩:=Bool.and_eq_true_iff.1 hs;have e1:=aia e1;have e2:=aia e2;refine ks hw ho hx hy F M i hi rfl ?_ (hz.trans ?_) h1 (qD _ _ ?_) hd rfl next ht hW
 ·show Nat.ble (0+cs'.toList.length) cs.size=true;exact Nat.ble_eq_true_of_le (by rw[Array.length_toList];omega)
 ·show some n=some cs'.toList.length;rw[Array.length_toList,e2]
 ·show cs.size=cs'.toList.length;rw[Array.length_toList];omega
theorem kc(hw:Region.wanted o (yielded ops a.tmps)=true){f:FuncId}{args:Array Value}(hr:(execOp a.eval o).run P w=.ok (.enter f args) w)
 (hc:Calls P f args w fun e w'=>e=.returned v∧ah7 w.heap.size w w') (hd:o.dst=some d) (F:Fs a N l) (hN:Nat.blt d N=true) (M:aC B w0 w bs rs)
 (next:∀ a' w',Fs a' N ((d,v)::l)→aC B w0 w' bs rs→wpList P ops Q rest a' w'):wpList P ops Q (o::rest) a w:=
 ow hw hr (uF hc) hd F.fr (by simpa using hN) fun u a' w' h p=>by
  obtain⟨rfl,hb⟩:=h;exact next a' w' (F.put p) (M.keep hb)
theorem kx(hw:Region.wanted o (yielded ops a.tmps)=true){f:FuncId}{args:Array Value}(hr:(execOp a.eval o).run P w=.ok (.enter f args) w){R:Value→World→Prop}
 (hc:Calls P f args w fun e w'=>∃ v,e=.returned v∧(R v w'∧ah7 w.heap.size w w')) (hd:o.dst=some d) (F:Fs a N l) (hN:Nat.blt d N=true) (M:aC B w0 w bs rs)
 (next:∀ v a' w',R v w'→ah7 w.heap.size w w'→Fs a' N ((d,v)::l)→aC B w0 w' bs rs→wpList P ops Q rest a' w'):wpList P ops Q (o::rest) a w:=
 ow hw hr hc hd F.fr (by simpa using hN) fun u a' w' h p=>next u a' w' h.1 h.2 (F.put p) (M.keep h.2)
theorem kpP(hw:Region.wanted o (yielded ops a.tmps)=true){s x:Operand}{t:TypeId}(ho:o.op=.call { callee:=.builtin .append,args:=#[s,x],argTypes:=#[t,t] })
 {e:TypeId} {size bytes:Nat} (ht:P.underlying t=some (.slice e)) (hi:vg (P.info? e) size bytes=true) (hsz:Nat.blt 0 size=true) (M:aC B w0 w bs rs) (i:Nat) {n:Nat} {xs:List Value} (Wq:rs[i]?=some ⟨v,e,size,n,xs⟩)
 (hs:a.eval s=v) {m:Nat} {news:List Value} {u:Value} (hx:a.eval x=u) (hsl:SliceAt w u size m news) (h63:n+m≤maxLen∧(n+m)*bytes≤140737488355328) (hd:o.dst=some d) (hf:Fr a N) (hN:Nat.blt d N=true)
 (next:∀ v' a' w',Put a d v' a'→aC B w0 w' bs (rs.set i ⟨v',e,size,n+m,xs++news⟩)→wpList P ops Q rest a' w') (hW:Nat.beq e 59=false∨w0.heap.size≤B:=by first|exact .inl rfl|exact .inr (Nat.le_refl _)):wpList P ops Q (o::rest) a w:=by
 have hown:=M.r i Wq;have hsz':0<size:=by simpa using hsz
 rcases hsl.2.2.2 with⟨rfl,rfl⟩|⟨ad,c,rfl,hnc,hcell⟩
 ·obtain⟨ti,z,h2,h3,h4,h5,h6⟩:=rT hi;have hnil:news=[]:=List.eq_nil_of_length_eq_zero (by rw[hsl.1];simp);subst hnil;have hrun:=run_append_owned_none (P:=P) (w:=w) B t o.type e ti size ht h2 v n xs hown;refine kM hw (v:=v) (w':=w) ?_ hd hf (by simpa using hN) fun a' p=>next v a' w p ?_
  ·unfold execOp;simp only[ho,resolve,invoke,builtin,ah5,Sem.run_pure,Result.andThen_ok,List.map_toArray,List.map_cons,List.map_nil,hs,hx,hrun]
  ·exact M.grow i Wq (by simpa using hown) ⟨rfl,rfl,rfl,Nat.le_refl _,fun _ _ _=>rfl⟩ (.inl rfl) hW
 ·obtain⟨ti,z,h2,h3,h4,h5,h6⟩:=rT hi;subst h4 h5;obtain⟨v',w',hr,g1,g2,-⟩:=run_append_own (P:=P) w B t o.type e ti z ti.size ti.bytes ht h2 h3 rfl rfl h6 hsz' v n xs hown ad m c news hsl.1 hcell hsl.2.2.1 h63.1 h63.2 M.big;have hblk:=B6 (P:=P) w B t o.type e ti z ht h2 h3 h6 hsz' v n xs hown ad m c news hsl.1 hcell hsl.2.2.1 h63.1 h63.2 hr;refine kM hw (v:=v') (w':=w') ?_ hd hf (by simpa using hN) fun a' p=>next v' a' w' p (M.grow i Wq g1 g2 hblk hW)
  unfold execOp;simp only[ho,resolve,invoke,builtin,ah5,Sem.run_pure,Result.andThen_ok,List.map_toArray,List.map_cons,List.map_nil,hs,hx,hr]
theorem aC.slice(M:aC B w0 w bs rs)(i:Nat){g:Nat}{t:TypeId}{cs:Array Value}(h:bs[i]?=some (g,t,cs)){k n:Nat}(hl:cs.toList.length=n*k)(h1:cs.toList.all (·.oneCell')=true)(hn:n≤maxLen)(ht:Nat.blt t 9000=true:=by rfl):SliceAt w (.slice (some ⟨g,0,none⟩) n n) k n cs.toList:=
 ⟨hl,hn,fun u hu=>List.all_eq_true.1 h1 u hu,.inr ⟨_,n,rfl,Nat.le_refl _,fun j u hu=>by rw[Addr.add_lit,Nat.zero_add,(M.b i h ht).cell];simpa using hu⟩⟩
end
section
variable {P:Program} {Q:Exit→Act→World→Prop} {a:Act} {w:World} {N:Nat} {l:Slots}
theorem Ix{g:Nat}{t:TypeId}{cs:Array Value}(h:Whole w g t cs):∀ j u,cs.toList[j]?=some u→w.cell? ⟨g,0+j,none⟩=some u:=fun j u hu=>by
 rw[Nat.zero_add,h.cell];simpa using hu
theorem Qo{P:Program}{o:Oper}{ty:TypeId}{x:Operand}{g:Nat}{t:TypeId}{cs:Array Value}{dd:TypeDesc}(ho:o.op=.load ty x)(hx:a.eval x=.pointer (some ⟨g,0,none⟩))(hu:P.underlying ty=some dd)
 (hd:(match dd with|.struct _|.array _ _=>true|_=>false)=true) (h:Whole w g t cs) {n:Nat} (hi:(P.info? ty).map (·.size)=some n) (hn:Nat.beq n cs.size=true):(execOp a.eval o).run P w=.ok (.value (.agg cs)) w:=
 tF cs.toList ho hx hu hd (hi.trans (by rw[Array.length_toList,aia hn])) (Ix h)
def nth:List Value→Nat→Option Value
 | [],_=>none
 | x::_,0=>some x
 | _::r,i+1=>nth r i
theorem SD(l:List Value)(i:Nat):nth l i=l[i]?:=by
 induction l generalizing i with
 | nil=>simp[nth]
 | cons x r ih=>cases i with
  | zero=>rfl
  | succ i=>rw[nth,ih];simp
theorem Whole.c1{g:Nat}{t:TypeId}{cs:Array Value}(h:Whole w g t cs)(i:Nat):w.cell? ⟨g,i,none⟩=nth cs.toList i:=by
 rw[h.cell,SD];simp
theorem cL{w0:World}(hb:ah7 w0.heap.size w0 w){g f:Nat}{cs:List Value}(h:∀ j u,cs[j]?=some u→w0.cell? ⟨g,f+j,none⟩=some u):∀ j u,cs[j]?=some u→w.cell? ⟨g,f+j,none⟩=some u:=fun j u hu=>cell_later hb (h j u hu)
theorem en{f:FuncId}{fn:Func}{c:Code}{args:Array Value}{R:Ending→World→Prop}(hf:P.funcs[f]?=some fn)(hb:fn.body=some c)(hn:fn.ntmps=N)(hN:Nat.ble args.size N=true){vs:List Value}(ha:args=vs.toArray)
 (h:∀ a,Fs a N (FW 0 vs)→c.wp P (bodyPost P fn R) a w) (hD:DS.ds=[]:=by rfl):Calls P f args w R:=
 KV (hD:=hD) hf hb hn (Nat.le_of_ble_eq_true hN) fun a h1 h2=>h a (Fs.args h1 h2 ha)
theorem rt0{fn:Func}{R:Ending→World→Prop}(hr:fn.results=#[])(F:Fs a N l)(hR:R (.returned (.tuple #[])) w)(hD:DS.ds=[]:=by rfl):bodyPost P fn R .ret a w:=GW (hD:=hD) hr F.fr hR
theorem rt1{fn:Func}{R:Ending→World→Prop}{s:Nat}{v:Value}(hr:fn.results=#[.tmp s])(F:Fs a N l)(hv:look s l=some v)(hR:R (.returned v) w)(hD:DS.ds=[]:=by rfl):bodyPost P fn R .ret a w:=KT (hD:=hD) hr F.fr (F.g s hv) hR
theorem rt2{fn:Func}{R:Ending→World→Prop}{s t:Nat}{v u:Value}(hr:fn.results=#[.tmp s,.tmp t])(F:Fs a N l)(hv:look s l=some v)(hu:look t l=some u)(hR:R (.returned (.tuple #[v,u])) w)(hD:DS.ds=[]:=by rfl):bodyPost P fn R .ret a w:=GV (hD:=hD) hr F.fr (F.g s hv) (F.g t hu) hR
theorem rt3{fn:Func}{R:Ending→World→Prop}{s t r:Nat}{v u x:Value}(hr:fn.results=#[.tmp s,.tmp t,.tmp r])(F:Fs a N l)(hv:look s l=some v)(hu:look t l=some u)(hx:look r l=some x)(hR:R (.returned (.tuple #[v,u,x])) w)(hD:DS.ds=[]:=by rfl):bodyPost P fn R .ret a w:=GU (hD:=hD) hr F.fr (F.g s hv) (F.g t hu) (F.g r hx) hR
theorem hr0(P:Program)(fn:Func)(R:Ending→World→Prop)(N:Nat)(hr:fn.results=#[])(a:Act)(w:World)(l:Slots)(F:Fs a N l)(hR:R (.returned (.tuple #[])) w)(hD:DS.ds=[]:=by rfl):bodyPost P fn R .ret a w:=rt0 (hD:=hD) hr F hR
theorem hr1(P:Program)(fn:Func)(R:Ending→World→Prop)(N s:Nat)(hr:fn.results=#[.tmp s])(a:Act)(w:World)(l:Slots)(v:Value)(F:Fs a N l)(hv:look s l=some v)(hR:R (.returned v) w)(hD:DS.ds=[]:=by rfl):bodyPost P fn R .ret a w:=rt1 (hD:=hD) hr F hv hR
theorem bJ(P:Program)(fn:Func)(R:Ending→World→Prop)(N s t:Nat)(hr:fn.results=#[.tmp s,.tmp t])(a:Act)(w:World)(l:Slots)(v u:Value)(F:Fs a N l)(hv:look s l=some v)(hu:look t l=some u)(hR:R (.returned (.tuple #[v,u])) w)(hD:DS.ds=[]:=by rfl):bodyPost P fn R .ret a w:=rt2 (hD:=hD) hr F hv hu hR
theorem iN(P:Program)(fn:Func)(R:Ending→World→Prop)(N s t r:Nat)(hr:fn.results=#[.tmp s,.tmp t,.tmp r])(a:Act)(w:World)(l:Slots)(v u x:Value)(F:Fs a N l)(hv:look s l=some v)(hu:look t l=some u)(hx:look r l=some x)(hR:R (.returned (.tuple #[v,u,x])) w)(hD:DS.ds=[]:=by rfl):bodyPost P fn R .ret a w:=rt3 (hD:=hD) hr F hv hu hx hR
def RI(w0:World)(x:Int):Ending→World→Prop:=fun e w'=>e=.returned (.int .i64 x)∧ah7 w0.heap.size w0 w'
theorem Fs.add(F:Fs a N l){q:Nat}{v:Value}(h:At a q v):Fs a N ((q,v)::l):=by
 refine⟨F.fr,fun s x hs=>?_⟩;rw[bT] at hs
 cases he:s == q with
 | true=>
  rw[he] at hs;have hs':v=x:=ah9 hs;have e':s=q:=by simpa using he
  subst hs' e';exact h
 | false=>
  rw[he] at hs;exact F.at_ s x hs
end
section
variable {P:Program} {ops:Array Oper} {Q:Exit→Act→World→Prop} {a:Act} {B:Nat} {w0 w:World} {rest:List Oper} {o:Oper} {v:Value} {d N:Nat} {l:Slots} {bs:List Bx} {rs:List Rw}
theorem rf{α:Sort _}{x:α}:x=x:=rfl
def vl(l:Slots):Operand→Option Value
 | .tmp q=>look q l
 | .const v=>some v
 | _=>none
theorem Fs.u(F:Fs a N l){x:Operand}(h:vl l x=some v):a.eval x=v:=by
 cases x with
 | tmp q=>exact F.e q h
 | const u=>exact ah9 h
 | _=>cases h
def pl(N:Nat)(o:Oper):Option Nat:=match o.guard,o.dst with
 | none,some d=>bif Nat.blt d N then some d else none
 | _,_=>none
theorem QS(h:pl N o=some d):o.guard=none∧o.dst=some d∧Nat.blt d N=true:=by
 unfold pl at h;split at h
 ·rename_i d' hg hd
  cases hb:Nat.blt d' N with
  | false=>rw[hb] at h;cases h
  | true=>
   rw[hb] at h;have e:d'=d:=ah9 h;subst e;exact⟨hg,hd,hb⟩
 ·cases h
theorem kz(F:Fs a N l)(h:pl N o=some d)(hr:(execOp a.eval o).run P w=.ok (.value v) w)(next:∀ a',Fs a' N ((d,v)::l)→wpList P ops Q rest a' w):wpList P ops Q (o::rest) a w:=
 have⟨h1,h2,h3⟩:=QS h
 kv (on h1) hr h2 F h3 next
theorem xM(F:Fs a N l)(h:pl N o=some d){x:Operand}(ho:o.op=.move x)(hx:vl l x=some v)(next:∀ a',Fs a' N ((d,v)::l)→wpList P ops Q rest a' w):wpList P ops Q (o::rest) a w:=
 kz F h (Np ho (F.u hx)) next
theorem xA(F:Fs a N l)(h:pl N o=some d){x:Operand}(ho:o.op=.assign x)(hx:vl l x=some v)(next:∀ a',Fs a' N ((d,v)::l)→wpList P ops Q rest a' w):wpList P ops Q (o::rest) a w:=
 kz F h (yH ho (F.u hx)) next
theorem xW(F:Fs a N l){g:Nat}{t:TypeId}{cs:Array Value}(H:Whole w g t cs)(h:pl N o=some d){ty:TypeId}{x:Operand}{dd:TypeDesc}(ho:o.op=.load ty x)(hx:vl l x=some (.pointer (some ⟨g,0,none⟩)))(hu:P.underlying ty=some dd)
 (hd:(match dd with|.struct _|.array _ _=>true|_=>false)=true) {n:Nat} (hi:(P.info? ty).map (·.size)=some n) (hn:Nat.beq n cs.size=true) (next:∀ a',Fs a' N ((d,.agg cs)::l)→wpList P ops Q rest a' w):wpList P ops Q (o::rest) a w:=
 kz F h (Qo ho (F.u hx) hu hd H hi hn) next
def Jj(P:Program)(f:FuncId):Bool:=match P.funcs[f]? with
 | some fn=>!(fn.name == "runtime.NumGoroutine")&&fn.body.isSome
 | none=>false
theorem qK{f:FuncId}(hf:Jj P f=true){xs:Array Operand}{ts:Array TypeId}{args:Array Value}(ho:o.op=.call { callee:=.value (.func f),args:=xs,argTypes:=ts })(ha:xs.map a.eval=args):(execOp a.eval o).run P w=.ok (.enter f args) w:=by
 unfold Jj at hf;split at hf
 ·rename_i fn hfn;rw[ah8,Bool.not_eq_true'] at hf;obtain⟨c,hc⟩:=Option.isSome_iff_exists.1 hf.2;exact Ue ho hfn hf.1 hc ha
 ·cases hf
theorem xC(F:Fs a N l)(M:aC B w0 w bs rs)(h:pl N o=some d){f:FuncId}{xs:Array Operand}{ts:Array TypeId}{args:Array Value}(ho:o.op=.call { callee:=.value (.func f),args:=xs,argTypes:=ts })(hf:Jj P f=true)(ha:xs.map a.eval=args)
 (hc:Calls P f args w fun e w'=>e=.returned v∧ah7 w.heap.size w w') (next:∀ a' w',Fs a' N ((d,v)::l)→aC B w0 w' bs rs→wpList P ops Q rest a' w'):wpList P ops Q (o::rest) a w:=
 have⟨h1,h2,h3⟩:=QS h
 kc (on h1) (qK hf ho ha) hc h2 F h3 M next
end
section
variable {P:Program} {ops:Array Oper} {Q':Exit→Act→World→Prop} {a:Act} {w w':World} {o:Oper} {v:Value} {d N:Nat} {g:Good}
theorem dv(hw:Region.wanted o (yielded ops a.tmps)=true)(hr:(execOp a.eval o).run P w=.ok (.value v) w)(hd:o.dst=some d)(hf:Fr a N)(hN:Nat.blt d N=true)
 (hK:∀ v a' w',ah7 w.heap.size w w'→g v w'→Put a (o.dst.getD 0) v a'→Q' .normal a' w') (hg:g v w):wpList P ops Q' [o] a w:=
 kM hw hr hd hf (by simpa using hN) fun a' p=>wpList_nil (hK v a' w (Below.refl _ _) hg (by rw[hd];exact p))
theorem dc(hw:Region.wanted o (yielded ops a.tmps)=true){f:FuncId}{args:Array Value}(hr:(execOp a.eval o).run P w=.ok (.enter f args) w)
 (hc:Calls P f args w fun e w'=>e=.returned v∧ah7 w.heap.size w w') (hd:o.dst=some d) (hf:Fr a N) (hN:Nat.blt d N=true)
 (hK:∀ v a' w',ah7 w.heap.size w w'→g v w'→Put a (o.dst.getD 0) v a'→Q' .normal a' w') (hg:∀ w',g v w'):wpList P ops Q' [o] a w:=
 ow hw hr (uF hc) hd hf (by simpa using hN) fun u a' w' h p=>by
  obtain⟨rfl,hb⟩:=h;exact wpList_nil (hK u a' w' hb (hg w') (by rw[hd];exact p))
theorem dx(hw:Region.wanted o (yielded ops a.tmps)=true){f:FuncId}{args:Array Value}(hr:(execOp a.eval o).run P w=.ok (.enter f args) w)
 (hc:Calls P f args w fun e w'=>∃ v,e=.returned v∧(g v w'∧ah7 w.heap.size w w')) (hd:o.dst=some d) (hf:Fr a N) (hN:Nat.blt d N=true)
 (hK:∀ v a' w',ah7 w.heap.size w w'→g v w'→Put a (o.dst.getD 0) v a'→Q' .normal a' w'):wpList P ops Q' [o] a w:=
 ow hw hr hc hd hf (by simpa using hN) fun u a' w' h p=>wpList_nil (hK u a' w' h.2 h.1 (by rw[hd];exact p))
theorem dn(hw:Region.wanted o (yielded ops a.tmps)=true){ty:TypeId}{cs:Array Value}{f:Nat→Value}(hr:(execOp a.eval o).run P w=.ok (.value (f w.heap.size)) (w.alloc (.cells cs ty)))(hd:o.dst=some d)(hf:Fr a N)(hN:Nat.blt d N=true)
 (hK:∀ v a' w',ah7 w.heap.size w w'→g v w'→Put a (o.dst.getD 0) v a'→Q' .normal a' w') (hg:∀ b w',New w w' b ty cs→g (f b) w'):wpList P ops Q' [o] a w:=
 wN hw hr hd hf (by simpa using hN) fun b a' w' n p=>wpList_nil (hK _ a' w' n.below (hg b w' n) (by rw[hd];exact p))
def Made(w:World)(f:Nat→Value)(ty:TypeId)(cs:Array Value):Good:=fun v u=>∃ g,v=f g∧Whole u g ty cs∧w.heap.size≤g
theorem Fx(w:World)(f:Nat→Value)(ty:TypeId)(cs:Array Value):mX (Made w f ty cs):=fun _ _ _ ⟨g,e,h,k⟩ hb=>⟨g,e,Whole.under hb h h.lt,k⟩
theorem Ma{wb:World}{f:Nat→Value}{ty:TypeId}{cs:Array Value}(hb:ah7 wb.heap.size wb w)(b:Nat)(u:World)(n:New w u b ty cs):Made wb f ty cs (f b) u:=⟨b,rfl,n.whole,n.at_▸hb.size⟩
theorem aC.newAt{B:Nat}{w0:World}{bs:List Bx}{rs:List Rw}(M:aC B w0 w bs rs)(hb:ah7 w.heap.size w w'){g:Nat}{t:TypeId}{cs:Array Value}(h:Whole w' g t cs)(hg:w.heap.size≤g)(ht:Nat.blt t 9000=true:=by rfl):aC B w0 w' ((g,t,cs)::bs) rs:=by
 have M':=M.keep hb;refine⟨M'.below,M'.le,M'.old,?_,?_,?_,M'.row,?_,M.tZ⟩
 ·intro b hb;rcases ah1.1 hb with rfl|hb
  ·exact .inl ⟨ht,h⟩
  ·exact M'.box b hb
 ·intro b hb;rcases ah1.1 hb with rfl|hb
  ·exact Nat.le_trans M.big hg
  ·exact M.lo b hb
 ·rw[List.map_cons,List.nodup_cons];refine⟨fun h=>?_,M.nd⟩;obtain⟨b,hb,e⟩:=ahX.1 h;have:=(M.box b hb).lt;simp only at e;omega
 ·intro r hr b hb;rcases ah1.1 hb with rfl|hb
  ·intro e;have:=((M.row r hr).lt g e).2;omega
  ·exact M.far r hr b hb
end
def gd(t:Bool)(v:Value):Value:=bif t then v else undef
theorem At.on{a:Act}{s:Nat}{t:Bool}{v:Value}(h:At a s (gd t v))(ht:t=true):At a s v:=by subst ht;exact h
theorem a1{s t:Bool}(h:(s&&t)=true):s=true:=(Bool.and_eq_true_iff.1 h).1
theorem a2{s t:Bool}(h:(s&&t)=true):t=true:=(Bool.and_eq_true_iff.1 h).2
end Go.Proofs.YtkkmjdceiocnbaaGreatDoor

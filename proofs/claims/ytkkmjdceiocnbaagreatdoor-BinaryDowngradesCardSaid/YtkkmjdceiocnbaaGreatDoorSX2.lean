import Derived.DeepKeys4
import Derived.Laws.Entries
import Derived.Laws.MakeOwn
import Derived.Maps.RangeWalk
import Derived.Test.YtkkmjdceiocnbaaGreatDoorProg
import Derived.WideKeyMaps
import Derived.WideKeyPair
import Derived.Test.YtkkmjdceiocnbaaGreatDoorSX1
open Bool renaming and_eq_true→aik
open Go.RowKit renaming Below→aio
open Go.Sem renaming run_bind→air
open List renaming mem_cons_self→aif,mem_cons_of_mem→aii,all_eq_true→aij,mem_cons→ail,mem_map→aip,length_take→ais
open Nat renaming eq_of_beq_eq_true→aie,le_trans→aiq,mul_le_mul_right→ait
open Option.some renaming inj→ain
set_option maxRecDepth 100000
set_option maxHeartbeats 8000000
set_option linter.unusedSectionVars false
set_option linter.unusedSimpArgs false
set_option linter.unusedVariables false
namespace Go.Proofs.YtkkmjdceiocnbaaGreatDoor
open Go Go.RowKit
theorem u0:type_of% Tryz.underlying0:=Tryz.underlying0
theorem u1:type_of% Tryz.underlying1:=Tryz.underlying1
theorem u2:type_of% Tryz.underlying2:=Tryz.underlying2
theorem u3:type_of% Tryz.underlying3:=Tryz.underlying3
theorem u4:type_of% Tryz.underlying4:=Tryz.underlying4
theorem u5:type_of% Tryz.underlying5:=Tryz.underlying5
theorem u6:type_of% Tryz.underlying6:=Tryz.underlying6
theorem u7:type_of% Tryz.underlying7:=Tryz.underlying7
theorem u8:type_of% Tryz.underlying8:=Tryz.underlying8
theorem u9:type_of% Tryz.underlying9:=Tryz.underlying9
theorem u10:type_of% Tryz.underlying10:=Tryz.underlying10
theorem u11:type_of% Tryz.underlying11:=Tryz.underlying11
theorem u12:type_of% Tryz.underlying12:=Tryz.underlying12
theorem YT:type_of% Tryz.underlying13:=Tryz.underlying13
theorem u14:type_of% Tryz.underlying14:=Tryz.underlying14
theorem YS:type_of% Tryz.underlying15:=Tryz.underlying15
theorem u16:type_of% Tryz.underlying16:=Tryz.underlying16
theorem u17:type_of% Tryz.underlying17:=Tryz.underlying17
theorem u18:type_of% Tryz.underlying18:=Tryz.underlying18
theorem YR:type_of% Tryz.underlying20:=Tryz.underlying20
theorem YQ:type_of% Tryz.underlying21:=Tryz.underlying21
theorem u22:type_of% Tryz.underlying22:=Tryz.underlying22
theorem u24:type_of% Tryz.underlying24:=Tryz.underlying24
theorem u25:type_of% Tryz.underlying25:=Tryz.underlying25
theorem u26:type_of% Tryz.underlying26:=Tryz.underlying26
theorem u28:type_of% Tryz.underlying28:=Tryz.underlying28
theorem X2:type_of% Tryz.underlying31:=Tryz.underlying31
theorem u32:type_of% Tryz.underlying32:=Tryz.underlying32
theorem VD:type_of% Tryz.underlying39:=Tryz.underlying39
theorem IG:type_of% Tryz.underlying42:=Tryz.underlying42
theorem VB:type_of% Tryz.underlying43:=Tryz.underlying43
theorem uR:type_of% Tryz.underlying59:=Tryz.underlying59
theorem u64:type_of% Tryz.underlying64:=Tryz.underlying64
theorem u65:type_of% Tryz.underlying65:=Tryz.underlying65
theorem Oo:type_of% Tryz.underlying68:=Tryz.underlying68
theorem VA:type_of% Tryz.underlying84:=Tryz.underlying84
theorem VG:(Tryz.prog.info? 5).map (·.size)=some 1:=by kernel_rfl
theorem sz9:(Tryz.prog.info? 9).map (·.size)=some 1:=by kernel_rfl
theorem RR:(Tryz.prog.info? 39).map (·.size)=some 17:=by kernel_rfl
theorem YV:(Tryz.prog.info? 59).map (·.size)=some 1:=by kernel_rfl
theorem OW:(Tryz.prog.info? 65).map (·.size)=some 7:=by kernel_rfl
theorem VF:(Tryz.prog.info? 79).map (·.size)=some 13:=by kernel_rfl
theorem Lm:(Tryz.prog.info? 84).map (·.size)=some 10:=by kernel_rfl
theorem VH:(Tryz.prog.info? 136).map (·.size)=some 9:=by kernel_rfl
theorem rM:(Tryz.prog.info? 39).bind (·.zero)=some (.agg #[.slice none 0 0,.slice none 0 0,.slice none 0 0,.slice none 0 0,.slice none 0 0,.slice none 0 0,.slice none 0 0,.slice none 0 0,.slice none 0 0,.slice none 0 0,.slice none 0 0,.slice none 0 0,.slice none 0 0,.slice none 0 0,.slice none 0 0,.slice none 0 0,.slice none 0 0]):=by kernel_rfl
theorem Vh:(Tryz.prog.info? 43).bind (·.zero)=some (.int .i64 0):=by kernel_rfl
theorem Vg:(Tryz.prog.info? 61).bind (·.zero)=some (.agg #[.int .i64 0,.int .u64 0]):=by kernel_rfl
theorem Yq:(Tryz.prog.info? 63).bind (·.zero)=some (.agg #[.int .i64 0,.int .u64 0,.int .i64 0,.int .u64 0]):=by kernel_rfl
theorem RH:(Tryz.prog.info? 65).bind (·.zero)=some (.agg #[.int .i64 0,.int .i64 0,.int .i64 0,.int .i64 0,.int .u64 0,.int .i64 0,.int .u64 0]):=by kernel_rfl
theorem Vf:(Tryz.prog.info? 75).bind (·.zero)=some (.agg #[.int .i64 0,.int .i64 0,.int .i64 0,.int .i64 0]):=by kernel_rfl
theorem pG:(Tryz.prog.info? 77).bind (·.zero)=some (.agg #[.int .u64 0,.int .u64 0,.int .u64 0,.int .u64 0]):=by kernel_rfl
theorem Ef:(Tryz.prog.info? 79).bind (·.zero)=some (.agg #[.int .i64 0,.int .u64 0,.int .u64 0,.int .u64 0,.int .u64 0,.int .u64 0,.int .u64 0,.int .u64 0,.int .u64 0,.int .i64 0,.string ByteArray.empty,.int .i64 0,.int .i64 0]):=by kernel_rfl
theorem OD:(Tryz.prog.info? 81).bind (·.zero)=some (.agg #[.string ByteArray.empty,.slice none 0 0,.bool false]):=by kernel_rfl
theorem Aw:(Tryz.prog.info? 84).bind (·.zero)=some (.agg #[.int .i64 0,.int .i64 0,.int .i64 0,.int .i64 0,.slice none 0 0,.int .u64 0,.int .u64 0,.int .u64 0,.int .u64 0,.slice none 0 0]):=by kernel_rfl
theorem KM:(Tryz.prog.info? 86).bind (·.zero)=some (.agg #[.int .i64 0,.int .u32 0,.bool false,.int .i64 0,.int .i64 0,.int .i64 0,.int .i64 0,.slice none 0 0,.int .u64 0,.int .u64 0,.int .u64 0,.int .u64 0,.slice none 0 0]):=by kernel_rfl
theorem GP:(Tryz.prog.info? 131).bind (·.zero)=some (.agg #[.string ByteArray.empty,.slice none 0 0]):=by kernel_rfl
theorem KQ:(Tryz.prog.info? 134).bind (·.zero)=some (.agg #[.string ByteArray.empty,.int .u64 0,.int .u64 0,.int .u64 0,.int .u64 0]):=by kernel_rfl
theorem GN:(Tryz.prog.info? 136).bind (·.zero)=some (.agg #[.string ByteArray.empty,.int .u64 0,.int .u64 0,.int .u64 0,.int .u64 0,.int .u64 0,.int .u64 0,.int .u64 0,.int .u64 0]):=by kernel_rfl
theorem zF:(Tryz.prog.info? 138).bind (·.zero)=some (.agg #[.string ByteArray.empty,.int .u64 0,.int .u64 0,.int .u64 0,.int .u64 0,.int .i64 0,.int .u64 0,.int .i64 0,.int .u64 0,.int .i64 0,.int .u64 0]):=by kernel_rfl
theorem KO:(Tryz.prog.info? 140).bind (·.zero)=some (.agg #[.string ByteArray.empty,.bool false]):=by kernel_rfl
theorem Cl:(Tryz.prog.info? 142).bind (·.zero)=some (.agg #[.int .i64 0,.int .u64 0,.int .u64 0,.int .u64 0,.int .u64 0,.int .u64 0,.int .u64 0,.int .u64 0,.int .u64 0,.bool false,.int .i64 0,.int .u32 0,.int .i64 0]):=by kernel_rfl
theorem KN:(Tryz.prog.info? 145).bind (·.zero)=some (.agg #[.string ByteArray.empty,.int .i64 0,.int .i64 0,.int .i64 0,.int .i64 0,.int .u64 0,.int .i64 0,.int .u64 0]):=by kernel_rfl
theorem Vi:(Tryz.prog.info? 147).bind (·.zero)=some (.agg #[.slice none 0 0,.slice none 0 0,.slice none 0 0,.slice none 0 0,.slice none 0 0,.slice none 0 0,.slice none 0 0,.slice none 0 0,.slice none 0 0,.slice none 0 0,.slice none 0 0,.slice none 0 0,.slice none 0 0,.slice none 0 0,.slice none 0 0,.slice none 0 0,.slice none 0 0]):=by kernel_rfl
theorem Ck:(Tryz.prog.info? 186).bind (·.zero)=some (.agg #[.int .u64 0,.int .u64 0,.int .u64 0,.int .u64 0,.int .u64 0,.int .u64 0,.int .u64 0,.int .u64 0,.int .i64 0,.int .i64 0]):=by kernel_rfl
theorem Cj:(Tryz.prog.info? 190).bind (·.zero)=some (.agg #[.int .u64 0,.int .u64 0,.int .u64 0,.int .u64 0,.int .u64 0,.int .u64 0,.int .u64 0,.int .u64 0,.int .i64 0,.int .i64 0,.int .u64 0,.int .i64 0,.int .u64 0]):=by kernel_rfl
theorem GL:(Tryz.prog.info? 199).bind (·.zero)=some (.agg #[.string ByteArray.empty,.int .i64 0,.int .i64 0,.int .i64 0,.int .i64 0,.int .i64 0,.int .u64 0,.int .i64 0,.int .u64 0]):=by kernel_rfl
theorem Ci:(Tryz.prog.info? 203).bind (·.zero)=some (.agg #[.string ByteArray.empty,.int .i64 0,.int .u64 0,.int .u64 0,.int .u64 0,.int .u64 0,.int .u64 0,.int .u64 0,.int .u64 0,.int .u64 0]):=by kernel_rfl
theorem zx:Tryz.prog.eqGuardType Tryz.prog.depth 77=false:=by kernel_rfl
theorem Rf:Tryz.prog.eqGuardType Tryz.prog.depth 136=false:=by kernel_rfl
theorem q22:Jj Tryz.prog 22=true:=by kernel_rfl
theorem q27:Jj Tryz.prog 27=true:=by kernel_rfl
theorem Y0:Jj Tryz.prog 263=true:=by kernel_rfl
theorem VT:Jj Tryz.prog 264=true:=by kernel_rfl
inductive TD where
 | st (n:Nat) (Bj:List Nat)
 | sl (e k b:Nat)
 | arr (len e k:Nat)
 | str
 | one
def pV(P:Program)(t n:Nat):Bool:=match P.info? t with
 | some i=>Nat.beq i.size n
 | none=>false
def jZ(P:Program)(t:Nat):TD→Bool
 | .st n Bj=>(match P.underlying t with|some (.struct fs)=>(fs.toList.map (·.offset) == Bj)&&fs.toList.all (fun f=>match P.info? f.type with|some i=>Nat.blt 0 i.size|none=>false)|_=>false)&&pV P t n
 | .sl e k b=>((match P.underlying t with|some (.slice e')=>Nat.beq e e'|_=>false)&&vg (P.info? e) k b)&&pV P t 1
 | .arr len e k=>((match P.underlying t with|some (.array n e')=>Nat.beq len n&&Nat.beq e e'|_=>false)&&pV P e k)&&pV P t (len*k)
 | .str=>match P.underlying t with|some .string=>pV P t 1|_=>false
 | .one=>(match P.underlying t with|some (.struct _)=>false|some (.array _ _)=>false|some _=>true|none=>false)&&pV P t 1
def TT:List (Nat×TD):=[
 (39,.st 17 [0,1,2,3,4,5,6,7,8,9,10,11,12,13,14,15,16]),
 (3,.one),
 (77,.arr 4 59 1),
 (84,.st 10 [0,1,2,3,4,5,9]),
 (42,.sl 5 1 1),
 (28,.sl 9 1 16),
 (9,.str),
 (117,.one),
 (92,.one),
 (147,.st 17 [0]),
 (65,.st 7 [0,1,2,3]),
 (23,.sl 81 3 48),
 (29,.sl 84 10 112),
 (61,.st 2 [0,1]),
 (107,.one),
 (79,.st 13 [0,1,5,9,10,11,12]),
 (209,.one),
 (142,.st 13 [0,1,5,9,10,11,12]),
 (88,.sl 3 1 8),
 (25,.sl 136 9 80),
 (138,.st 11 [0,1,5,7]),
 (63,.st 4 [0,2]),
 (31,.sl 79 13 112),
 (22,.sl 131 2 40),
 (26,.sl 138 11 96),
 (86,.st 13 [0,1,2,3]),
 (81,.st 3 [0,1,2]),
 (203,.st 10 [0,1,2,6]),
 (110,.st 3 [0,1,2]),
 (186,.st 10 [0,4,8,9]),
 (136,.st 9 [0,1,5]),
 (190,.st 13 [0,4,8,9]),
 (131,.st 2 [0,1]),
 (43,.one),
 (36,.sl 199 9 80),
 (24,.sl 134 5 48),
 (59,.one),
 (199,.st 9 [0,1,2]),
 (4,.one),
 (34,.sl 86 13 128),
 (96,.st 3 [0,1,2]),
 (35,.sl 145 8 72),
 (37,.sl 203 10 88),
 (33,.sl 190 13 104),
 (30,.sl 142 13 104),
 (27,.sl 140 2 24),
 (134,.st 5 [0,1]),
 (32,.sl 186 10 80),
 (145,.st 8 [0,1]),
 (140,.st 2 [0,1]),
 (249,.st 21 [0,7,14]),
 (243,.st 4 [0,1,2]),
 (211,.st 2 [0,1]),
 (68,.one),
 (5,.one),
 (116,.st 2 [0,1]),
 (98,.st 4 [0,3]),
 (257,.sl 77 4 32),
 (75,.arr 4 3 1),
 (222,.sl 43 1 8),
 (322,.arr 2 61 2),
 (152,.one),
 (66,.arr 2 65 7),
 (21,.one),
 (58,.sl 4 1 1),
 (100,.one),
 (94,.one),
 (70,.st 5 [0,1,2,3,4]),
 (315,.sl 59 1 8),
 (114,.one),
 (348,.st 1 [0])]
theorem XA:TT.all (fun x=>jZ Tryz.prog x.1 x.2)=true:=by kernel_rfl
def NF:Nat:=369
def KL:List Nat:=[0,1,2,345,346,347,348,349,350,351,352,353,354,355,356,357,358,359,360,361,362,363,365,366,367]
def jC(x:Nat):List Nat→Bool
 | []=>false
 | y::r=>bif Nat.beq x y then true else jC x r
theorem XJ:(List.range NF).all (fun f=>Jj Tryz.prog f||jC f KL)=true:=by kernel_rfl
variable [DS]
section
variable {α:Type}
def p9:List α→Nat→(α→Prop)→Prop
 | [],_,_=>False
 | x::_,0,f=>f x
 | _::r,i+1,f=>p9 r i f
theorem fL{l:List α}{i:Nat}{f:α→Prop}(h:p9 l i f):∃ x,l[i]?=some x∧f x:=by
 induction l generalizing i with
 | nil=>exact h.elim
 | cons x r ih=>cases i with
  | zero=>exact⟨x,rfl,h⟩
  | succ i=>obtain⟨y,h1,h2⟩:=ih h;exact⟨y,by simpa using h1,h2⟩
def pW:List α→Nat→α→(List α→Prop)→Prop
 | [],_,_,_=>False
 | _::r,0,b,f=>f (b::r)
 | x::r,i+1,b,f=>pW r i b fun r'=>f (x::r')
theorem lg{l:List α}{i:Nat}{b:α}{f:List α→Prop}(h:pW l i b f):f (l.set i b):=by
 induction l generalizing i f with
 | nil=>exact h.elim
 | cons x r ih=>cases i with
  | zero=>exact h
  | succ i=>exact ih (f:=fun r'=>f (x::r')) h
def qg:List α→Nat→Prop→Prop
 | [],0,p=>p
 | _::r,n+1,p=>qg r n p
 | _,_,_=>False
theorem jc{l:List α}{n:Nat}{p:Prop}(h:qg l n p):l.length=n∧p:=by
 induction l generalizing n with
 | nil=>cases n with
  | zero=>exact⟨rfl,h⟩
  | succ n=>exact h.elim
 | cons x r ih=>cases n with
  | zero=>exact h.elim
  | succ n=>obtain⟨h1,h2⟩:=ih h;exact⟨by simp[h1],h2⟩
def DJ:Nat→List α→(List α→Prop)→Prop
 | 0,l,f=>f l
 | n+1,_::r,f=>DJ n r f
 | _+1,[],_=>False
def Cy:Nat→List α→(List α→Prop)→Prop
 | 0,_,f=>f []
 | n+1,x::r,f=>Cy n r fun l=>f (x::l)
 | _+1,[],_=>False
theorem Cx{n:Nat}{l:List α}{f:List α→Prop}(h:Cy n l f):n≤l.length∧f (l.take n):=by
 induction n generalizing l f with
 | zero=>exact⟨Nat.zero_le _,by simpa[Cy] using h⟩
 | succ n ih=>cases l with
  | nil=>exact h.elim
  | cons x r=>obtain⟨h1,h2⟩:=ih (f:=fun l=>f (x::l)) h;exact⟨by simpa using h1,by simpa using h2⟩
theorem DI{n:Nat}{l:List α}{f:List α→Prop}(h:DJ n l f):n≤l.length∧f (l.drop n):=by
 induction n generalizing l with
 | zero=>exact⟨Nat.zero_le _,by simpa[DJ] using h⟩
 | succ n ih=>cases l with
  | nil=>exact h.elim
  | cons x r=>obtain⟨h1,h2⟩:=ih h;exact⟨by simpa using h1,by simpa using h2⟩
def kJ:List α→List α→(List α→Prop)→Prop
 | [],r,f=>f r
 | x::l,r,f=>kJ l r fun s=>f (x::s)
theorem cG{l r:List α}{f:List α→Prop}(h:kJ l r f):f (l++r):=by
 induction l generalizing f with
 | nil=>exact h
 | cons x l ih=>exact ih (f:=fun s=>f (x::s)) h
end
def CD:List Value→Nat→List Value→(List Value→Prop)→Prop
 | cs,0,[],f=>f cs
 | _::cs,0,v::vs,f=>CD cs 0 vs fun r=>f (v::r)
 | [],0,_::_,_=>False
 | c::cs,o+1,vs,f=>CD cs o vs fun r=>f (c::r)
 | [],_+1,_,_=>False
theorem OZ{cs:List Value}{o:Nat}{vs:List Value}{f:List Value→Prop}(h:CD cs o vs f):o+vs.length≤cs.length∧f (cs.take o++vs++cs.drop (o+vs.length)):=by
 induction cs generalizing o vs f with
 | nil=>cases o with
  | zero=>cases vs with
   | nil=>exact⟨by simp,by simpa[CD] using h⟩
   | cons v vs=>exact h.elim
  | succ o=>exact h.elim
 | cons c cs ih=>cases o with
  | zero=>cases vs with
   | nil=>exact⟨by simp,by simpa[CD] using h⟩
   | cons v vs=>
    obtain⟨h1,h2⟩:=ih (f:=fun r=>f (v::r)) h;exact⟨by simp at h1 ⊢;omega,by simpa using h2⟩
  | succ o=>
   obtain⟨h1,h2⟩:=ih (f:=fun r=>f (c::r)) h;exact⟨by simp at h1 ⊢;omega,by simpa[show o+1+vs.length=o+vs.length+1 by omega] using h2⟩
def zk(t:Nat)(f:TD→Prop):List (Nat×TD)→Prop
 | []=>False
 | (s,d)::r=>bif Nat.beq t s then f d else zk t f r
theorem RP{t:Nat}{f:TD→Prop}{T:List (Nat×TD)}(h:zk t f T):∃ d,(t,d)∈T∧f d:=by
 induction T with
 | nil=>exact h.elim
 | cons x r ih=>
  obtain⟨s,d⟩:=x;unfold zk at h
  cases e:Nat.beq t s with
  | true=>
   rw[e] at h;have e':=aie e;subst e';exact⟨d,aif ..,h⟩
  | false=>
   rw[e] at h;obtain⟨d',h1,h2⟩:=ih h;exact⟨d',aii _ h1,h2⟩
theorem kD{t:Nat}{f:TD→Prop}(h:zk t f TT):∃ d,jZ Tryz.prog t d=true∧f d:=by
 obtain⟨d,h1,h2⟩:=RP h;exact⟨d,aij.1 XA _ h1,h2⟩
def jI:TD→Nat
 | .st n _=>n
 | .arr len _ k=>len*k
 | _=>1
theorem lG{P:Program}{t n:Nat}(h:pV P t n=true):(P.info? t).map (·.size)=some n:=by
 unfold pV at h
 cases hi:P.info? t with
 | none=>rw[hi] at h;cases h
 | some i=>rw[hi] at h;simp[aie h]
theorem Lj{P:Program}{t n:Nat}{Bj:List Nat}(h:jZ P t (.st n Bj)=true):∃ fs:Array Field,P.underlying t=some (.struct fs)∧(P.info? t).map (·.size)=some n ∧
 ∀ (i off:Nat),Bj[i]?=some off→∃ fd k,fs[i]?=some fd∧fd.offset=off∧(P.info? fd.type).map (·.size)=some (k+1):=by
 simp only[jZ,aik] at h;obtain⟨h1,h2⟩:=h;split at h1
 ·rename_i fs hfs;refine⟨fs,hfs,lG h2,fun i off hi=>?_⟩;simp only[aik,beq_iff_eq,aij] at h1;obtain⟨h3,h4⟩:=h1;rw[← h3,List.getElem?_map] at hi
  cases hf:fs.toList[i]? with
  | none=>rw[hf] at hi;cases hi
  | some fd=>
   rw[hf] at hi;have h5:=h4 fd (List.mem_of_getElem? hf)
   cases hq:P.info? fd.type with
   | none=>rw[hq] at h5;cases h5
   | some ti=>
    rw[hq] at h5;have h6:0<ti.size:=by simpa using h5
    refine⟨fd,ti.size-1,by simpa using hf,by simpa using hi,?_⟩;rw[hq,Option.map_some,Nat.sub_add_cancel h6]
 ·cases h1
theorem zN{P:Program}{t e k b:Nat}(h:jZ P t (.sl e k b)=true):P.underlying t=some (.slice e)∧vg (P.info? e) k b=true:=by
 simp only[jZ,aik] at h;obtain⟨⟨h1,h2⟩,-⟩:=h;split at h1
 ·rename_i e' he;rw[aie h1];exact⟨he,(aie h1)▸h2⟩
 ·cases h1
theorem Em{P:Program}{t n e k:Nat}(h:jZ P t (.arr n e k)=true):P.underlying t=some (.array n e)∧(P.info? e).map (·.size)=some k∧(P.info? t).map (·.size)=some (n*k):=by
 simp only[jZ,aik] at h;obtain⟨⟨h1,h2⟩,h3⟩:=h;split at h1
 ·rename_i n' e' he;simp only[aik] at h1;rw[aie h1.1,aie h1.2];exact⟨he,(aie h1.2)▸lG h2,(aie h1.1)▸lG h3⟩
 ·cases h1
theorem El{P:Program}{t:Nat}(h:jZ P t .str=true):P.underlying t=some .string:=by
 simp only[jZ] at h;split at h
 ·assumption
 ·cases h
theorem yg{o:Option TypeInfo}{k b:Nat}(h:vg o k b=true):o.map (·.size)=some k:=by
 obtain⟨i,z,h1,-,h2,-⟩:=rT h;rw[h1];simp[h2]
def TD.one':TD→Bool
 | .st _ _|.arr _ _ _=>false
 | _=>true
theorem Ll{P:Program}{t:Nat}{d:TD}(h:jZ P t d=true)(h1:d.one'=true):∃ dd,P.underlying t=some dd∧(match dd with|.struct _|.array _ _=>false|_=>true)=true:=by
 cases d with
 | st=>cases h1
 | arr=>cases h1
 | sl e k b=>exact⟨_,(zN h).1,rfl⟩
 | str=>exact⟨_,El h,rfl⟩
 | one=>
  simp only[jZ,aik] at h;obtain⟨h1,-⟩:=h
  cases hu:P.underlying t with
  | none=>rw[hu] at h1;cases h1
  | some dd=>
   rw[hu] at h1;refine⟨dd,rfl,?_⟩;cases dd<;>first|rfl|cases h1
theorem vS{P:Program}{t:Nat}{d:TD}(h:jZ P t d=true)(h1:d.one'=false):∃ dd,P.underlying t=some dd∧(match dd with|.struct _|.array _ _=>true|_=>false)=true∧(P.info? t).map (·.size)=some (jI d):=by
 cases d with
 | st n Bj=>
  obtain⟨fs,h2,h3,-⟩:=Lj h;exact⟨_,h2,rfl,h3⟩
 | arr n e k=>
  obtain⟨h2,-,h3⟩:=Em h;exact⟨_,h2,rfl,h3⟩
 | sl=>cases h1
 | str=>cases h1
 | one=>cases h1
theorem vR{P:Program}{t:Nat}{d:TD}(h:jZ P t d=true):(P.info? t).map (·.size)=some (jI d):=by
 cases d with
 | st n Bj=>exact(vS h rfl).choose_spec.2.2
 | arr n e k=>exact(vS h rfl).choose_spec.2.2
 | sl e k b=>
  simp only[jZ,aik] at h;exact lG h.2
 | str=>
  simp only[jZ] at h;split at h
  ·exact lG h
  ·cases h
 | one=>
  simp only[jZ,aik] at h;exact lG h.2
abbrev Pa:=List (Nat×Bool)
structure eV where
 s:Nat
 j:Nat
 p:Pa
 t:Bool
 v:Value
def Xt:Bool→Bool→Bool
 | true,b=>b
 | false,true=>false
 | false,false=>true
theorem Oc{a b:Bool}(h:Xt a b=true):a=b:=by cases a<;>cases b<;>simp_all [Xt]
def Wl(x:Nat×Bool):Pa→Bool
 | []=>false
 | y::r=>bif (bif Nat.beq x.1 y.1 then Xt x.2 y.2 else false) then true else Wl x r
theorem S5{x:Nat×Bool}{p:Pa}(h:Wl x p=true):x∈p:=by
 induction p with
 | nil=>cases h
 | cons y r ih=>
  unfold Wl at h
  cases e:Nat.beq x.1 y.1 with
  | false=>rw[e] at h;exact aii _ (ih h)
  | true=>
   rw[e] at h
   cases e2:Xt x.2 y.2 with
   | false=>rw[e2] at h;exact aii _ (ih h)
   | true=>
    obtain⟨a,b⟩:=x;obtain⟨c,d⟩:=y;have h1:=aie e;have h2:=Oc e2;simp only at h1 h2;rw[h1,h2];exact aif ..
def AY:Pa→Pa→Bool
 | [],_=>true
 | x::r,π=>bif Wl x π then AY r π else false
theorem vT{p π:Pa}(h:AY p π=true):∀ x∈p,x∈π:=by
 induction p with
 | nil=>intro x hx;cases hx
 | cons y r ih=>
  unfold AY at h
  cases e:Wl y π with
  | false=>rw[e] at h;cases h
  | true=>
   rw[e] at h;intro x hx;rcases ail.1 hx with rfl|hx
   ·exact S5 e
   ·exact ih h x hx
def Yj(c:Bool):Bool→Bool
 | true=>c
 | false=>!c
theorem H9{c b:Bool}:Yj c b=true↔c=b:=by cases c<;>cases b<;>simp[Yj]
def tJ(p:Pa)(t c b:Bool):Bool:=match p with
 | []=>Yj c b
 | _::_=>t&&Yj c b
def V8(q:Nat)(f:Nat→Pa→Value→Prop)(n:Prop):List eV→Prop
 | []=>n
 | ⟨s,j,p,_,v⟩::r=>bif Nat.beq q s then f j p v else V8 q f n r
def X7(q:Nat)(f:Pa→Bool→Value→Prop):List eV→Prop
 | []=>False
 | ⟨_,j,p,t,v⟩::r=>bif Nat.beq q j then f p t v else X7 q f r
theorem Mc{q:Nat}{f:Nat→Pa→Value→Prop}{n:Prop}{m:List eV}(h:V8 q f n m):(∃ e∈m,e.s=q∧f e.j e.p e.v)∨((∀ e∈m,e.s≠q)∧n):=by
 induction m with
 | nil=>exact .inr ⟨by simp,h⟩
 | cons e r ih=>
  obtain⟨s,j,p,t,v⟩:=e;unfold V8 at h
  cases hb:Nat.beq q s with
  | true=>
   rw[hb] at h;exact .inl ⟨_,aif ..,(aie hb).symm,h⟩
  | false=>
   rw[hb] at h;rcases ih h with⟨e,h1,h2⟩|⟨h1,h2⟩
   ·exact .inl ⟨e,aii _ h1,h2⟩
   ·refine .inr ⟨fun e he=>?_,h2⟩;rcases ail.1 he with rfl|he
    ·intro e2;have e3:s=q:=e2;subst e3;rw[Nat.beq_refl] at hb;cases hb
    ·exact h1 e he
theorem SK{q:Nat}{f:Pa→Bool→Value→Prop}{m:List eV}(h:X7 q f m):∃ e∈m,e.j=q∧f e.p e.t e.v:=by
 induction m with
 | nil=>exact h.elim
 | cons e r ih=>
  obtain⟨s,j,p,t,v⟩:=e;unfold X7 at h
  cases hb:Nat.beq q j with
  | true=>
   rw[hb] at h;exact⟨_,aif ..,(aie hb).symm,h⟩
  | false=>
   rw[hb] at h;obtain⟨e,h1,h2⟩:=ih h;exact⟨e,aii _ h1,h2⟩
def kg(d:Nat):List eV→Bool
 | []=>true
 | e::r=>bif Nat.beq d e.s then false else kg d r
theorem JZ{d:Nat}{m:List eV}(h:kg d m=true):∀ e∈m,e.s≠d:=by
 induction m with
 | nil=>intro e he;cases he
 | cons e r ih=>
  unfold kg at h
  cases hb:Nat.beq d e.s with
  | true=>rw[hb] at h;cases h
  | false=>
   rw[hb] at h;intro e' he;rcases ail.1 he with rfl|he
   ·intro e2;rw[e2,Nat.beq_refl] at hb;cases hb
   ·exact ih h e' he
def Cond(m:List eV)(x:Nat×Bool):Prop:=∃ e∈m,e.j=x.1∧e.t=true∧e.v=.bool x.2
structure jS (m:List eV) (n:Nat):Prop where
 lt:∀ e∈m,e.j<n
 uniq:∀ e∈m,∀ e'∈m,e.j=e'.j→e=e'
 pm:∀ e∈m,∀ x∈e.p,∃ e'∈m,e'.j=x.1
 tv:∀ e∈m,e.t=true↔∀ x∈e.p,Cond m x
theorem jS.nil(n:Nat):jS [] n:=⟨by simp,by simp,by simp,by simp⟩
theorem jS.mono{m:List eV}{n n':Nat}(h:jS m n)(hn:n≤n'):jS m n':=⟨fun e he=>Nat.lt_of_lt_of_le (h.lt e he) hn,h.uniq,h.pm,h.tv⟩
theorem Aj{m:List eV}{e:eV}{x:Nat×Bool}(hx:e.j≠x.1):Cond (e::m) x↔Cond m x:=by
 constructor
 ·rintro⟨e',he,h1,h2⟩;rcases ail.1 he with rfl|he
  ·exact absurd h1 hx
  ·exact⟨e',he,h1,h2⟩
 ·rintro⟨e',he,h⟩;exact⟨e',aii _ he,h⟩
theorem jS.put{m:List eV}{n:Nat}(h:jS m n){s:Nat}{p:Pa}{t:Bool}{v:Value}(hp:∀ x∈p,∃ e∈m,e.j=x.1)(ht:t=true↔∀ x∈p,Cond m x):jS (⟨s,n,p,t,v⟩::m) (n+1):=by
 refine⟨?_,?_,?_,?_⟩
 ·intro e he;rcases ail.1 he with rfl|he
  ·exact Nat.lt_succ_self n
  ·exact Nat.lt_succ_of_lt (h.lt e he)
 ·intro e he e' he' hj;rcases ail.1 he with rfl|he<;>rcases ail.1 he' with rfl|he'
  ·rfl
  ·have:=h.lt e' he';simp only at hj;omega
  ·have:=h.lt e he;simp only at hj;omega
  ·exact h.uniq e he e' he' hj
 ·intro e he x hx;rcases ail.1 he with rfl|he
  ·obtain⟨e',h1,h2⟩:=hp x hx;exact⟨e',aii _ h1,h2⟩
  ·obtain⟨e',h1,h2⟩:=h.pm e he x hx;exact⟨e',aii _ h1,h2⟩
 ·intro e he;have key:∀ p':Pa,(∀ x∈p',∃ e∈m,e.j=x.1)→((∀ x∈p',Cond (⟨s,n,p,t,v⟩::m) x)↔∀ x∈p',Cond m x):=fun p' hp'=>⟨fun h' x hx=>(Aj (by obtain⟨e',h1,h2⟩:=hp' x hx;have:=h.lt e' h1;simp only;omega)).1 (h' x hx),fun h' x hx=>(Aj (by obtain⟨e',h1,h2⟩:=hp' x hx;have:=h.lt e' h1;simp only;omega)).2 (h' x hx)⟩
  rcases ail.1 he with rfl|he
  ·rw[key p hp];exact ht
  ·rw[key e.p (h.pm e he)];exact h.tv e he
theorem jS.guard{m:List eV}{n:Nat}(h:jS m n){e:eV}(he:e∈m){c b:Bool}(hv:e.v=.bool c):(∀ x∈(e.j,b)::e.p,∃ e'∈m,e'.j=x.1)∧(tJ e.p e.t c b=true↔∀ x∈(e.j,b)::e.p,Cond m x)∧(tJ e.p e.t c b=true↔e.t=true∧c=b):=by
 have h1:tJ e.p e.t c b=true↔e.t=true∧c=b:=by
  unfold tJ
  cases hp:e.p with
  | nil=>
   have:e.t=true:=(h.tv e he).2 (by rw[hp];simp);simp[H9,this]
  | cons x r=>simp[H9]
 refine⟨?_,?_,h1⟩
 ·intro x hx;rcases ail.1 hx with rfl|hx
  ·exact⟨e,he,rfl⟩
  ·exact h.pm e he x hx
 ·rw[h1];constructor
  ·rintro⟨ht,rfl⟩ x hx;rcases ail.1 hx with rfl|hx
   ·exact⟨e,he,rfl,ht,hv⟩
   ·exact(h.tv e he).1 ht x hx
  ·intro hc;refine⟨(h.tv e he).2 fun x hx=>hc x (aii _ hx),?_⟩;obtain⟨e',he',h2,h3,h4⟩:=hc _ (aif ..);have:=h.uniq e' he' e he h2;subst this;rw[hv] at h4;injection h4
theorem jS.sub{m:List eV}{n:Nat}(h:jS m n){e:eV}(he:e∈m){π:Pa}{t:Bool}(ht:t=true↔∀ x∈π,Cond m x)(hs:AY e.p π=true)(bt:t=true):e.t=true:=
 (h.tv e he).2 fun x hx=>ht.1 bt x (vT hs x hx)
def Ar(l:Slots)(m:List eV)(π:Pa):Operand→Value→Prop
 | .tmp q,v=>(∃ e∈m,e.s=q∧e.v=v∧AY e.p π=true)∨((∀ e∈m,e.s≠q)∧look q l=some v)
 | .const u,v=>u=v
 | .func f,v=>Value.func (.func f) #[] #[]=v
 | _,_=>False
def oG(l:Slots)(m:List eV)(π:Pa)(x:Operand)(k:Value→Prop):Prop:=match x with
 | .tmp q=>V8 q (fun _ p v=>bif AY p π then k v else False) (match look q l with|some v=>k v|none=>False) m
 | .const v=>k v
 | .func f=>k (.func (.func f) #[] #[])
 | _=>False
theorem bR{l:Slots}{m:List eV}{π:Pa}{x:Operand}{k:Value→Prop}(h:oG l m π x k):∃ v,Ar l m π x v∧k v:=by
 unfold oG at h;split at h
 ·rename_i q;rcases Mc h with⟨e,h1,h2,h3⟩|⟨h1,h2⟩
  ·cases hs:AY e.p π with
   | false=>rw[hs] at h3;exact h3.elim
   | true=>rw[hs] at h3;exact⟨e.v,.inl ⟨e,h1,h2,rfl,hs⟩,h3⟩
  ·cases hl:look q l with
   | none=>rw[hl] at h2;exact h2.elim
   | some v=>rw[hl] at h2;exact⟨v,.inr ⟨h1,hl⟩,h2⟩
 ·exact⟨_,rfl,h⟩
 ·exact⟨_,rfl,h⟩
 ·exact h.elim
inductive y9 {α β:Type} (R:α→β→Prop):List α→List β→Prop where
 | nil:y9 R [] []
 | cons {x:α} {y:β} {xs:List α} {ys:List β}:R x y→y9 R xs ys→y9 R (x::xs) (y::ys)
def EH(l:Slots)(m:List eV)(π:Pa):List Operand→(List Value→Prop)→Prop
 | [],k=>k []
 | x::r,k=>oG l m π x fun v=>EH l m π r fun vs=>k (v::vs)
theorem j5{l:Slots}{m:List eV}{π:Pa}{xs:List Operand}{k:List Value→Prop}(h:EH l m π xs k):∃ vs,y9 (Ar l m π) xs vs∧k vs:=by
 induction xs generalizing k with
 | nil=>exact⟨[],.nil,h⟩
 | cons x r ih=>
  obtain⟨v,h1,h2⟩:=bR h;obtain⟨vs,h3,h4⟩:=ih h2;exact⟨v::vs,.cons h1 h3,h4⟩
def UY:IntKind→Nat
 | .i8=>0|.i16=>1|.i32=>2|.i64=>3|.u8=>4|.u16=>5|.u32=>6|.u64=>7
theorem S6{a b:IntKind}(h:Nat.beq (UY a) (UY b)=true):a=b:=by
 have h:=aie h;cases a<;>cases b<;>first|rfl|exact absurd h (by decide)
def rS(x y:Value)(e:Prop)(f:IntKind→Int→Int→Prop):Prop:=match x,y with
 | .int κ m,.int κ' n=>bif Nat.beq (UY κ) (UY κ') then f κ m n else False
 | _,_=>e
theorem iA{x y:Value}{e:Prop}{f:IntKind→Int→Int→Prop}(h:rS x y e f):(∃ κ m n,x=.int κ m∧y=.int κ n∧f κ m n)∨e:=by
 unfold rS at h;split at h
 ·rename_i κ m κ' n
  cases e:Nat.beq (UY κ) (UY κ') with
  | true=>rw[e] at h;rw[S6 e] at h ⊢;exact .inl ⟨_,_,_,rfl,rfl,h⟩
  | false=>rw[e] at h;exact h.elim
 ·exact .inr h
def ob(π:Pa)(t:Bool)(p q:Prop):Prop:=match π with
 | []=>p∧q
 | _::_=>(t=true→p)∧q
theorem gJ{π:Pa}{t:Bool}{p q:Prop}(h:ob π t p q):(t=true→p)∧q:=by
 unfold ob at h;split at h
 ·exact⟨fun _=>h.1,h.2⟩
 ·exact h
def JJ(κ:IntKind)(z:Int)(f:Prop→Prop):Prop:=match κ with
 | .i64=>f (-9223372036854775808≤z∧z≤9223372036854775807)
 | .u8=>f (0≤z∧z≤255)
 | .u32=>f (0≤z∧z≤4294967295)
 | .u64=>f (0≤z∧z≤18446744073709551615)
 | _=>False
theorem wA{κ:IntKind}{z:Int}{f:Prop→Prop}(h:JJ κ z f):∃ p,f p∧(p→κ.wrap z=z):=by
 unfold JJ at h;split at h
 ·exact⟨_,h,fun h=>wrap_i64 h⟩
 ·exact⟨_,h,fun h=>by simp only[IntKind.wrap,IntKind.bits,IntKind.signed];simp;omega⟩
 ·exact⟨_,h,fun h=>by simp only[IntKind.wrap,IntKind.bits,IntKind.signed];simp;omega⟩
 ·exact⟨_,h,fun h=>by simp only[IntKind.wrap,IntKind.bits,IntKind.signed];simp;omega⟩
 ·exact h.elim
def Bh(u:Value)(e:Prop)(f:Nat→Nat→Prop):Prop:=match u with
 | .pointer (some ⟨g,off,none⟩)=>f g off
 | _=>e
theorem oH{u:Value}{e:Prop}{f:Nat→Nat→Prop}(h:Bh u e f):(∃ g off,u=.pointer (some ⟨g,off,none⟩)∧f g off)∨e:=by
 unfold Bh at h;split at h
 ·exact .inl ⟨_,_,rfl,h⟩
 ·exact .inr h
def wC(π:Pa)(t:Bool)(k:Value→Prop):Prop:=match π with
 | []=>False
 | _::_=>(t=true→False)∧k undef
theorem Nf{π:Pa}{t:Bool}{k:Value→Prop}(h:wC π t k):(t=true→False)∧k undef:=by
 unfold wC at h;split at h
 ·exact h.elim
 ·exact h
theorem Uc{P:Program}{a:Act}{w:World}{o:Oper}{ty yt:TypeId}{x y:Operand}{s t:Bool}(ho:o.op=.binOp .eql ty x y yt)(hx:a.eval x=.bool s)(hy:a.eval y=.bool t)(hu:P.underlying ty=some .bool):(execOp a.eval o).run P w=.ok (.value (.bool (s == t))) w:=by
 unfold execOp;simp[ho,hx,hy,eqGuard,binOp,run_equal_bool w ty s t hu]
theorem TX{P:Program}{a:Act}{w:World}{o:Oper}{ty yt:TypeId}{x y:Operand}{s t:Bool}(ho:o.op=.binOp .neq ty x y yt)(hx:a.eval x=.bool s)(hy:a.eval y=.bool t)(hu:P.underlying ty=some .bool):(execOp a.eval o).run P w=.ok (.value (.bool (!(s == t)))) w:=by
 unfold execOp;simp[ho,hx,hy,eqGuard,binOp,run_equal_bool w ty s t hu]
def gb:Op→List Operand
 | .move x|.assign x|.nilCheck x|.load _ x|.box _ x|.unOp _ _ x|.fieldAddr _ x _|.extract x _|.convert _ _ x|.makeInterface _ x|.range _ x|.next x _|.entry x|.typeAssert x _ _ _|.panic x=>[x]
 | .pick c x y=>[c,x,y]
 | .binOp _ _ x y _|.indexAddr _ x y|.index _ x y|.store _ x y|.lookup _ x y _|.makeSlice _ x y=>[x,y]
 | .build _ ps|.buildSlice _ _ ps=>ps.toList.map (·.2)
 | .call c=>(match c.callee with|.value (.func _)=>[]|.value f=>[f]|.invoke r _=>[r]|.builtin _=>[])++c.args.toList
 | .makeFunc _ xs ys=>xs.toList++ys.toList
 | .slice _ x l h m=>x::(l.toList++h.toList++m.toList)
 | .mapUpdate _ a b c=>[a,b,c]
 | _=>[]
theorem Xb{P:Program}{a:Act}{w:World}{o:Oper}{ty yt:TypeId}{x y:Operand}{s t:ByteArray}(ho:o.op=.binOp .lss ty x y yt)(hx:a.eval x=.string s)(hy:a.eval y=.string t):(execOp a.eval o).run P w=.ok (.value (.bool (Op.bytesLess s.toList t.toList))) w:=by
 unfold execOp;simp[ho,hx,hy,eqGuard,binOp,Op.stringOp]
theorem Xe{P:Program}{a:Act}{w:World}{o:Oper}{ty yt:TypeId}{x y:Operand}{s t:ByteArray}(ho:o.op=.binOp .leq ty x y yt)(hx:a.eval x=.string s)(hy:a.eval y=.string t):(execOp a.eval o).run P w=.ok (.value (.bool (Op.bytesLess s.toList t.toList||s.toList == t.toList))) w:=by
 unfold execOp;simp[ho,hx,hy,eqGuard,binOp,Op.stringOp]
abbrev q6 (a:Act) (xs:List Operand) (vs:List Value):Prop:=y9 (fun x u=>a.eval x=u) xs vs
section
variable (l:Slots) (m:List eV) (π:Pa) (t:Bool) (k:Value→Prop)
def UJ(op:Op):Prop:=EH l m π (gb op) fun vs=>∃ v,ob π t (∀ (a:Act) (w:World) (o:Oper),o.op=op→q6 a (gb op) vs→(execOp a.eval o).run Tryz.prog w=.ok (.value v) w) (k v)
def Un(op:BinOp)(ty:TypeId)(x y:Value)(fb:Prop):Prop:=match op with
 | .lss=>match x with
  | .string s=>(match y with|.string u=>k (.bool (Op.bytesLess s.toList u.toList))|_=>False)
  | _=>rS x y (wC π t k) fun _ m n=>k (.bool (decide (m<n)))
 | .leq=>match x with
  | .string s=>(match y with|.string u=>k (.bool (Op.bytesLess s.toList u.toList||s.toList == u.toList))|_=>False)
  | _=>rS x y (wC π t k) fun _ m n=>k (.bool (decide (m≤n)))
 | .gtr=>rS x y (wC π t k) fun _ m n=>k (.bool (decide (n<m)))
 | .geq=>rS x y (wC π t k) fun _ m n=>k (.bool (decide (n≤m)))
 | .add=>rS x y (wC π t k) fun κ m n=>JJ κ (m+n) fun p=>ob π t p (k (.int κ (m+n)))
 | .sub=>rS x y (wC π t k) fun κ m n=>JJ κ (m-n) fun p=>ob π t p (k (.int κ (m-n)))
 | .mul=>rS x y (wC π t k) fun κ m n=>match κ with
  | .u32=>∃ z,ob π t (IntKind.u32.wrap (m*n)=z) (k (.int .u32 z))
  | κ=>JJ κ (m*n) fun p=>ob π t p (k (.int κ (m*n)))
 | .and=>rS x y (wC π t k) fun κ m n=>∃ z,ob π t (κ.wrap (BitVec.ofInt κ.bits m&&&BitVec.ofInt κ.bits n).toNat=z) (k (.int κ z))
 | .or=>rS x y (wC π t k) fun κ m n=>∃ z,ob π t (κ.wrap (BitVec.ofInt κ.bits m|||BitVec.ofInt κ.bits n).toNat=z) (k (.int κ z))
 | .xor=>rS x y (wC π t k) fun κ m n=>∃ z,ob π t (κ.wrap (BitVec.ofInt κ.bits m ^^^ BitVec.ofInt κ.bits n).toNat=z) (k (.int κ z))
 | .andNot=>rS x y (wC π t k) fun κ m n=>∃ z,ob π t (κ.wrap (BitVec.ofInt κ.bits m&&&~~~ BitVec.ofInt κ.bits n).toNat=z) (k (.int κ z))
 | .eql=>match x with
  | .int _ _=>rS x y (wC π t k) fun _ m n=>k (.bool (decide (m=n)))
  | .string s=>(match y with|.string u=>k (.bool (s.toList == u.toList))|_=>False)
  | .agg xs=>(match y with|.agg ys=>∃ b,ob π t (Tryz.prog.eqGuardType Tryz.prog.depth ty=false∧∀ w,(Op.equalIn 10000 ty (.agg xs) (.agg ys)).run Tryz.prog w=.ok b w) (k (.bool b))|_=>False)
  | .bool s=>(match y with|.bool u=>bif Nat.beq ty 4 then k (.bool (s == u)) else False|_=>False)
  | _=>fb
 | .neq=>match x with
  | .int _ _=>rS x y (wC π t k) fun _ m n=>k (.bool (!decide (m=n)))
  | .string s=>(match y with|.string u=>k (.bool (!(s.toList == u.toList)))|_=>False)
  | .agg xs=>(match y with|.agg ys=>∃ b,ob π t (Tryz.prog.eqGuardType Tryz.prog.depth ty=false∧∀ w,(Op.equalIn 10000 ty (.agg xs) (.agg ys)).run Tryz.prog w=.ok b w) (k (.bool (!b)))|_=>False)
  | .bool s=>(match y with|.bool u=>bif Nat.beq ty 4 then k (.bool (!(s == u))) else False|_=>False)
  | _=>fb
 | _=>fb
def QX(c:Bool)(x:Operand):Bool:=match x with
 | .const (.bool b)=>Xt b c
 | _=>false
def pkV(x y:Operand)(b:Bool)(u v:Value):Prop:=
 match u with
 | .bool ub=>(match v with
  | .bool vb=>bif QX false y then k (.bool (b&&ub)) else bif QX true x then k (.bool (b||vb)) else k (.bool (bif b then ub else vb))
  | _=>False)
 | _=>∃ z,ob π t ((b=true→u=z)∧(b=false→v=z)) (k z)
def X5(c x y:Operand)(πt πf:Pa)(b:Bool):Prop:=oG l m πt x fun u=>oG l m πf y fun v=>pkV π t k x y b u v
def QT(c x y:Operand):Prop:=match c with
 | .tmp q=>V8 q (fun j p v=>bif AY p π then (match v with|.bool b=>X5 l m π t k c x y ((j,true)::π) ((j,false)::π) b|_=>False) else False)
  (match look q l with|some (.bool b)=>X5 l m π t k c x y π π b|_=>False) m
 | _=>False
def VI(op:BinOp)(y:Operand):Bool:=match op with
 | .eql|.neq=>(match y with
  | .const (.string s)=>(match s.data.toList with|[]=>false|_::_=>true)
  | _=>false)
 | _=>false
def pop(op:Op):Prop:=match op with
 | .move x=>oG l m π x k
 | .assign x=>oG l m π x k
 | .nilCheck x=>oG l m π x fun v=>match v with|.pointer (some p)=>k (.pointer (some p))|_=>False
 | .fieldAddr ty x f=>oG l m π x fun u=>Bh u (wC π t k) fun g off=>zk ty (fun D=>match D with|.st _ Bj=>p9 Bj f fun n=>k (.pointer (some ⟨g,off+n,none⟩))|_=>False) TT
 | .indexAddr ty x y=>oG l m π x fun u=>oG l m π y fun v=>match v with
  | .int _ z=>(match u with
   | .slice la n _=>zk ty (fun D=>match D with|.sl _ kk _=>∃ b off i:Nat,ob π t (la=some ⟨b,off,none⟩∧z=(i:Int)∧i<n) (k (.pointer (some ⟨b,off+i*kk,none⟩)))|_=>False) TT
   | .pointer (some ⟨g,off,none⟩)=>zk ty (fun D=>match D with|.arr n _ kk=>∃ i:Nat,ob π t (z=(i:Int)∧i<n) (k (.pointer (some ⟨g,off+i*kk,none⟩)))|_=>False) TT
   | _=>wC π t k)
  | _=>wC π t k
 | .index ty x y=>oG l m π x fun u=>oG l m π y fun v=>match v with
  | .int _ z=>(match u with
   | .string s=>zk ty (fun D=>match D with|.str=>∃ i u:Nat,ob π t (z=(i:Int)∧∃ h:i<s.size,(s[i]'h).toNat=u) (k (.int .u8 (u:Int)))|_=>False) TT
   | _=>wC π t k)
  | _=>wC π t k
 | .binOp op ty x y yt=>bif VI op y then UJ l m π t k (.binOp op ty x y yt) else oG l m π x fun u=>oG l m π y fun v=>Un π t k op ty u v (UJ l m π t k (.binOp op ty x y yt))
 | .unOp u ty x=>(match u with
  | .not=>oG l m π x fun v=>match v with|.bool b=>k (.bool (!b))|_=>wC π t k
  | .neg=>oG l m π x fun v=>match v with|.int κ n=>JJ κ (0-n) fun p=>ob π t p (k (.int κ (0-n)))|_=>False
  | _=>UJ l m π t k (.unOp u ty x))
 | .extract x i=>oG l m π x fun v=>match v with|.tuple vs=>p9 vs.toList i k|_=>False
 | .pick c x y=>QT l m π t k c x y
 | .call c=>(match c.callee with
  | .builtin .len=>(match c.args.toList with
   | [x]=>(match c.argTypes.toList with
    | [ty]=>oG l m π x fun v=>match v with
     | .slice _ n _=>zk ty (fun D=>match D with|.sl _ _ _=>k (.int .i64 (n:Int))|_=>False) TT
     | .string s=>zk ty (fun D=>match D with|.str=>k (.int .i64 (s.size:Int))|_=>False) TT
     | _=>False
    | _=>False)
   | _=>False)
  | _=>UJ l m π t k (.call c))
 | op=>UJ l m π t k op
end
def Gives(l:Slots)(m:List eV)(t:Bool)(op:Op)(v:Value):Prop:=
 ∀ (a:Act) (w:World) (o:Oper),o.op=op→(∀ x∈gb op,∀ π' v,Ar l m π' x v→(∀ y∈π',Cond m y)→a.eval x=v)→t=true→(execOp a.eval o).run Tryz.prog w=.ok (.value v) w
section
variable {l:Slots} {m:List eV} {n:Nat} {π:Pa} {t:Bool} {k:Value→Prop}
theorem uz{a:Act}{xs:List Operand}{vs:List Value}(h:y9 (Ar l m π) xs vs)(hc:∀ y∈π,Cond m y)(E:∀ x∈xs,∀ π' v,Ar l m π' x v→(∀ y∈π',Cond m y)→a.eval x=v):q6 a xs vs:=by
 induction h with
 | nil=>exact .nil
 | cons h1 _ ih=>exact .cons (E _ (aif ..) _ _ h1 hc) (ih fun x hx=>E x (aii _ hx))
theorem rY(ht:t=true↔∀ x∈π,Cond m x){op:Op}(h:UJ l m π t k op):∃ v,k v∧Gives l m t op v:=by
 obtain⟨vs,h1,v,h2⟩:=j5 h;obtain⟨h3,h4⟩:=gJ h2;exact⟨v,h4,fun a w o ho E bt=>h3 bt a w o ho (uz h1 (ht.1 bt) E)⟩
theorem ct{op:Op}(h:wC π t k):∃ v,k v∧Gives l m t op v:=by
 obtain⟨h1,h2⟩:=Nf h;exact⟨_,h2,fun a w o ho E bt=>(h1 bt).elim⟩
theorem MD{c:Bool}{x:Operand}(h:QX c x=true):x=.const (.bool c):=by
 unfold QX at h;split at h
 ·rw[Oc h]
 ·cases h
theorem LG{a:Act}{w:World}{o:Oper}{c x y:Operand}{b:Bool}{z:Value}(ho:o.op=.pick c x y)(hc:a.eval c=.bool b)(h1:b=true→a.eval x=z)(h2:b=false→a.eval y=z):(execOp a.eval o).run Tryz.prog w=.ok (.value z) w:=by
 have:=TW (P:=Tryz.prog) (w:=w) ho hc rfl rfl
 cases b with
 | true=>rw[← h1 rfl];exact this
 | false=>rw[← h2 rfl];exact this
theorem LY(ht:t=true↔∀ x∈π,Cond m x){c x y:Operand}{b:Bool}{πc πt πf:Pa}(hc:Ar l m πc c (.bool b))(hcc:t=true→∀ z∈πc,Cond m z)(hxt:t=true→b=true→∀ z∈πt,Cond m z)(hyf:t=true→b=false→∀ z∈πf,Cond m z)
 (h:X5 l m π t k c x y πt πf b):∃ v,k v∧Gives l m t (.pick c x y) v:=by
 obtain⟨u,h1,h⟩:=bR h;obtain⟨v,h2,h⟩:=bR h;have key:∀ {z:Value},k z→(t=true→(b=true→u=z)∧(b=false→v=z))→∃ v,k v∧Gives l m t (.pick c x y) v:=fun {z} hk hz=>⟨z,hk,fun a w o ho E bt=>LG ho (E c (by simp[gb]) _ _ hc (hcc bt)) (fun hb=>(hz bt).1 hb▸E x (by simp[gb]) _ _ h1 (hxt bt hb)) (fun hb=>(hz bt).2 hb▸E y (by simp[gb]) _ _ h2 (hyf bt hb))⟩
 cases u with
 | bool ub=>
  cases v with
  | bool vb=>
   have hk:bif QX false y then k (.bool (b&&ub)) else bif QX true x then k (.bool (b||vb)) else k (.bool (bif b then ub else vb)):=h
   cases e1:QX false y with
   | true=>
    rw[e1] at hk;have e2:=MD e1;subst e2;have hv:Value.bool false=.bool vb:=h2;exact key hk fun _=>⟨fun hb=>by rw[hb];rfl,fun hb=>by rw[hb,← hv];rfl⟩
   | false=>
    rw[e1] at hk
    cases e2:QX true x with
    | true=>
     rw[e2] at hk;have e3:=MD e2;subst e3;have hv:Value.bool true=.bool ub:=h1;exact key hk fun _=>⟨fun hb=>by rw[hb,← hv];rfl,fun hb=>by rw[hb];rfl⟩
    | false=>
     rw[e2] at hk;exact key hk fun _=>⟨fun hb=>by rw[hb];rfl,fun hb=>by rw[hb];rfl⟩
  | _=>exact h.elim
 | _=>
  obtain⟨z,h⟩:=h;obtain⟨h3,h4⟩:=gJ h;exact key h4 h3
theorem ES(hL:jS m n)(ht:t=true↔∀ x∈π,Cond m x){op:Op}(h:pop l m π t k op):∃ v,k v∧Gives l m t op v:=by
 unfold pop at h;split at h
 ·rename_i x;obtain⟨v,h1,h2⟩:=bR h;exact⟨v,h2,fun a w o ho E bt=>Np ho (E x (by simp[gb]) _ _ h1 (ht.1 bt))⟩
 ·rename_i x;obtain⟨v,h1,h2⟩:=bR h;exact⟨v,h2,fun a w o ho E bt=>yH ho (E x (by simp[gb]) _ _ h1 (ht.1 bt))⟩
 ·rename_i x;obtain⟨v,h1,h2⟩:=bR h;split at h2
  ·exact⟨_,h2,fun a w o ho E bt=>FY ho (E x (by simp[gb]) _ _ h1 (ht.1 bt))⟩
  ·exact h2.elim
 ·rename_i ty x f;obtain⟨v,h1,h2⟩:=bR h;rcases oH h2 with⟨g,off,rfl,h3⟩|h3
  case inr=>exact ct h3
  obtain⟨D,hD,h4⟩:=kD h3;split at h4
  ·obtain⟨off',h5,h6⟩:=fL h4;obtain⟨fs,hu,-,hf⟩:=Lj hD;obtain⟨fd,kk,hf1,rfl,hf2⟩:=hf _ _ h5;exact⟨_,h6,fun a w o ho E bt=>Qq ho (E x (by simp[gb]) _ _ h1 (ht.1 bt)) hu hf1 hf2⟩
  ·exact h4.elim
 ·rename_i ty x y;obtain⟨u,h1,h2⟩:=bR h;obtain⟨v,h3,h4⟩:=bR h2;split at h4
  ·split at h4
   ·obtain⟨D,hD,h5⟩:=kD h4;split at h5
    ·obtain⟨b,off,i,h5⟩:=h5;obtain⟨h6,h7⟩:=gJ h5;obtain⟨hu,hi⟩:=zN hD;refine⟨_,h7,fun a w o ho E bt=>?_⟩;obtain⟨rfl,rfl,h8⟩:=h6 bt;exact DH ho (E x (by simp[gb]) _ _ h1 (ht.1 bt)) (E y (by simp[gb]) _ _ h3 (ht.1 bt)) h8 hu (yg hi)
    ·exact h5.elim
   ·obtain⟨D,hD,h5⟩:=kD h4;split at h5
    ·obtain⟨i,h5⟩:=h5;obtain⟨h6,h7⟩:=gJ h5;obtain⟨hu,hi,-⟩:=Em hD;refine⟨_,h7,fun a w o ho E bt=>?_⟩;obtain⟨rfl,h8⟩:=h6 bt;exact F3 ho (E x (by simp[gb]) _ _ h1 (ht.1 bt)) (E y (by simp[gb]) _ _ h3 (ht.1 bt)) h8 hu hi
    ·exact h5.elim
   ·exact ct h4
  ·exact ct h4
 ·rename_i ty x y;obtain⟨u,h1,h2⟩:=bR h;obtain⟨v,h3,h4⟩:=bR h2;split at h4
  ·split at h4
   ·obtain⟨D,hD,h5⟩:=kD h4;split at h5
    ·obtain⟨i,u,h5⟩:=h5;obtain⟨h6,h7⟩:=gJ h5;refine⟨_,h7,fun a w o ho E bt=>?_⟩;obtain⟨rfl,hlt,rfl⟩:=h6 bt;exact FZ ho (E x (by simp[gb]) _ _ h1 (ht.1 bt)) (E y (by simp[gb]) _ _ h3 (ht.1 bt)) hlt (El hD)
    ·exact h5.elim
   ·exact ct h4
  ·exact ct h4
 ·rename_i op ty x y yt
  cases hsc:VI op y with
  | true=>rw[hsc] at h;exact rY ht h
  | false=>
  rw[hsc] at h;replace h:oG l m π x fun u=>oG l m π y fun v=>Un π t k op ty u v (UJ l m π t k (.binOp op ty x y yt)):=h
  obtain⟨u,h1,h2⟩:=bR h;obtain⟨v,h3,h4⟩:=bR h2;have hx:∀ {a:Act},(∀ x'∈gb (.binOp op ty x y yt),∀ π' v,Ar l m π' x' v→(∀ y∈π',Cond m y)→a.eval x'=v)→t=true→a.eval x=u∧a.eval y=v:=fun E bt=>⟨E x (by simp[gb]) _ _ h1 (ht.1 bt),E y (by simp[gb]) _ _ h3 (ht.1 bt)⟩
  clear h h2;unfold Un at h4;split at h4
  ·split at h4
   ·split at h4
    ·exact⟨_,h4,fun a w o ho E bt=>Xb ho (hx E bt).1 (hx E bt).2⟩
    ·exact h4.elim
   rcases iA h4 with⟨κ,i,j,e1,rfl,h5⟩|h5
   case inr=>exact ct h5
   exact⟨_,h5,fun a w o ho E bt=>Xc ho ((hx E bt).1.trans e1) (hx E bt).2⟩
  ·split at h4
   ·split at h4
    ·exact⟨_,h4,fun a w o ho E bt=>Xe ho (hx E bt).1 (hx E bt).2⟩
    ·exact h4.elim
   rcases iA h4 with⟨κ,i,j,e1,rfl,h5⟩|h5
   case inr=>exact ct h5
   exact⟨_,h5,fun a w o ho E bt=>Xd ho ((hx E bt).1.trans e1) (hx E bt).2⟩
  ·rcases iA h4 with⟨κ,i,j,rfl,rfl,h5⟩|h5
   case inr=>exact ct h5
   exact⟨_,h5,fun a w o ho E bt=>Ns ho (hx E bt).1 (hx E bt).2⟩
  ·rcases iA h4 with⟨κ,i,j,rfl,rfl,h5⟩|h5
   case inr=>exact ct h5
   exact⟨_,h5,fun a w o ho E bt=>Xf ho (hx E bt).1 (hx E bt).2⟩
  ·rcases iA h4 with⟨κ,i,j,rfl,rfl,h5⟩|h5
   case inr=>exact ct h5
   obtain⟨p,h6,h7⟩:=wA h5;obtain⟨h8,h9⟩:=gJ h6;exact⟨_,h9,fun a w o ho E bt=>h7 (h8 bt)▸Xi ho (hx E bt).1 (hx E bt).2⟩
  ·rcases iA h4 with⟨κ,i,j,rfl,rfl,h5⟩|h5
   case inr=>exact ct h5
   obtain⟨p,h6,h7⟩:=wA h5;obtain⟨h8,h9⟩:=gJ h6;exact⟨_,h9,fun a w o ho E bt=>h7 (h8 bt)▸W7 ho (hx E bt).1 (hx E bt).2⟩
  ·rcases iA h4 with⟨κ,i,j,rfl,rfl,h5⟩|h5
   case inr=>exact ct h5
   split at h5
   ·obtain⟨z,h5⟩:=h5;obtain⟨h8,h9⟩:=gJ h5;exact⟨_,h9,fun a w o ho E bt=>h8 bt▸Ri ho (hx E bt).1 (hx E bt).2⟩
   ·obtain⟨p,h6,h7⟩:=wA h5;obtain⟨h8,h9⟩:=gJ h6;exact⟨_,h9,fun a w o ho E bt=>h7 (h8 bt)▸Ri ho (hx E bt).1 (hx E bt).2⟩
  ·rcases iA h4 with⟨κ,i,j,rfl,rfl,z,h5⟩|h5
   case inr=>exact ct h5
   obtain⟨h8,h9⟩:=gJ h5;exact⟨_,h9,fun a w o ho E bt=>h8 bt▸Xh ho (hx E bt).1 (hx E bt).2⟩
  ·rcases iA h4 with⟨κ,i,j,rfl,rfl,z,h5⟩|h5
   case inr=>exact ct h5
   obtain⟨h8,h9⟩:=gJ h5;exact⟨_,h9,fun a w o ho E bt=>h8 bt▸aa2 ho (hx E bt).1 (hx E bt).2⟩
  ·rcases iA h4 with⟨κ,i,j,rfl,rfl,z,h5⟩|h5
   case inr=>exact ct h5
   obtain⟨h8,h9⟩:=gJ h5;exact⟨_,h9,fun a w o ho E bt=>h8 bt▸W6 ho (hx E bt).1 (hx E bt).2⟩
  ·rcases iA h4 with⟨κ,i,j,rfl,rfl,z,h5⟩|h5
   case inr=>exact ct h5
   obtain⟨h8,h9⟩:=gJ h5;exact⟨_,h9,fun a w o ho E bt=>h8 bt▸Nv ho (hx E bt).1 (hx E bt).2⟩
  ·split at h4
   ·rcases iA h4 with⟨κ,i,j,h5,rfl,h6⟩|h5
    case inr=>exact ct h5
    exact⟨_,h6,fun a w o ho E bt=>Xg ho ((hx E bt).1.trans h5) (hx E bt).2⟩
   ·split at h4
    ·exact⟨_,h4,fun a w o ho E bt=>Nt ho (hx E bt).1 (hx E bt).2⟩
    ·exact h4.elim
   ·split at h4
    ·obtain⟨b,h5⟩:=h4;obtain⟨h6,h7⟩:=gJ h5;exact⟨_,h7,fun a w o ho E bt=>Ud ho (hx E bt).1 (hx E bt).2 (h6 bt).1 ((h6 bt).2 w)⟩
    ·exact h4.elim
   ·split at h4
    ·cases hb:Nat.beq ty 4 with
     | false=>rw[hb] at h4;exact h4.elim
     | true=>
      rw[hb] at h4;exact⟨_,h4,fun a w o ho E bt=>Uc ho (hx E bt).1 (hx E bt).2 (aie hb▸u4)⟩
    ·exact h4.elim
   ·exact rY ht h4
  ·split at h4
   ·rcases iA h4 with⟨κ,i,j,h5,rfl,h6⟩|h5
    case inr=>exact ct h5
    exact⟨_,h6,fun a w o ho E bt=>Xa ho ((hx E bt).1.trans h5) (hx E bt).2⟩
   ·split at h4
    ·exact⟨_,h4,fun a w o ho E bt=>Rh ho (hx E bt).1 (hx E bt).2⟩
    ·exact h4.elim
   ·split at h4
    ·obtain⟨b,h5⟩:=h4;obtain⟨h6,h7⟩:=gJ h5;exact⟨_,h7,fun a w o ho E bt=>TY ho (hx E bt).1 (hx E bt).2 (h6 bt).1 ((h6 bt).2 w)⟩
    ·exact h4.elim
   ·split at h4
    ·cases hb:Nat.beq ty 4 with
     | false=>rw[hb] at h4;exact h4.elim
     | true=>
      rw[hb] at h4;exact⟨_,h4,fun a w o ho E bt=>TX ho (hx E bt).1 (hx E bt).2 (aie hb▸u4)⟩
    ·exact h4.elim
   ·exact rY ht h4
  ·exact rY ht h4
 ·rename_i u ty x;split at h
  ·obtain⟨v,h1,h2⟩:=bR h;split at h2
   ·exact⟨_,h2,fun a w o ho E bt=>W9 ho (E x (by simp[gb]) _ _ h1 (ht.1 bt))⟩
   ·exact ct h2
  ·obtain⟨v,h1,h2⟩:=bR h;split at h2
   ·obtain⟨p,h6,h7⟩:=wA h2;obtain⟨h8,h9⟩:=gJ h6;exact⟨_,h9,fun a w o ho E bt=>h7 (h8 bt)▸W_ ho (E x (by simp[gb]) _ _ h1 (ht.1 bt))⟩
   ·exact h2.elim
  ·exact rY ht h
 ·rename_i x i;obtain⟨v,h1,h2⟩:=bR h;split at h2
  ·rename_i vs;obtain⟨z,h3,h4⟩:=fL h2;exact⟨_,h4,fun a w o ho E bt=>J4 ho (E x (by simp[gb]) _ _ h1 (ht.1 bt)) (by simpa using h3)⟩
  ·exact h2.elim
 ·rename_i c x y;unfold QT at h;split at h
  ·rename_i q;rcases Mc h with⟨e,h1,h2,h3⟩|⟨h1,h2⟩
   ·cases hs:AY e.p π with
    | false=>rw[hs] at h3;exact h3.elim
    | true=>
     rw[hs] at h3;have h3:(match e.v with|.bool b=>X5 l m π t k (.tmp q) x y ((e.j,true)::π) ((e.j,false)::π) b|_=>False):=h3;split at h3
     ·rename_i b hv
      have Q8:t=true→∀ b',b=b'→∀ z∈(e.j,b')::π,Cond m z:=fun bt b' hb z hz=>by
       rcases ail.1 hz with rfl|hz
       ·exact⟨e,h1,rfl,hL.sub h1 ht hs bt,by rw[hv,hb]⟩
       ·exact ht.1 bt z hz
      exact LY ht (πc:=π) (.inl ⟨e,h1,h2,hv,hs⟩) (fun bt=>ht.1 bt) (fun bt hb=>Q8 bt _ hb) (fun bt hb=>Q8 bt _ hb) h3
     ·exact h3.elim
   ·split at h2
    ·rename_i b hl;exact LY ht (πc:=π) (.inr ⟨h1,hl⟩) (fun bt=>ht.1 bt) (fun bt _=>ht.1 bt) (fun bt _=>ht.1 bt) h2
    ·exact h2.elim
  ·exact h.elim
 ·rename_i c;split at h
  ·rename_i hc;split at h
   ·rename_i x hx;split at h
    ·rename_i ty hty;obtain⟨v,h1,h2⟩:=bR h;have e1:c.args=#[x]:=Array.toList_inj.1 hx;have e2:c.argTypes=#[ty]:=Array.toList_inj.1 hty;have e3:c={ callee:=.builtin .len,args:=#[x],argTypes:=#[ty] }:=by cases c;simp only at hc e1 e2;rw[hc,e1,e2]
     split at h2
     ·obtain⟨D,hD,h5⟩:=kD h2;split at h5
      ·exact⟨_,h5,fun a w o ho E bt=>Qp (ho.trans (by rw[e3])) (E x (by simp[gb,hx,hc]) _ _ h1 (ht.1 bt)) (zN hD).1⟩
      ·exact h5.elim
     ·obtain⟨D,hD,h5⟩:=kD h2;split at h5
      ·exact⟨_,h5,fun a w o ho E bt=>Nr (ho.trans (by rw[e3])) (E x (by simp[gb,hx,hc]) _ _ h1 (ht.1 bt)) (El hD)⟩
      ·exact h5.elim
     ·exact h2.elim
    ·exact h.elim
   ·exact h.elim
  ·exact rY ht h
 ·exact rY ht h
end
end Go.Proofs.YtkkmjdceiocnbaaGreatDoor
namespace Go.Proofs.YtkkmjdceiocnbaaGreatDoor
open Go Go.RowKit
variable [DS]
structure St (X:List Nat) (w w':World):Prop where
 os:w'.os=w.os
 tape:w'.tape=w.tape
 output:w'.output=w.output
 size:w.heap.size≤w'.heap.size
 block:∀ k,k<w.heap.size→k∉X→w'.heap[k]?=w.heap[k]?
theorem St.grown{X:List Nat}{w w':World}{k:Nat}(h:w.grownBy w' (some k))(hk:k∈X):St X w w':=
 ⟨h.os,h.tape,h.output,h.size,fun i hi hx=>h.block i hi fun e=>hx (by rw[ain e];exact hk)⟩
theorem St.below{X:List Nat}{w w':World}(h:St X w w'){B:Nat}(hB:B≤w.heap.size)(hx:∀ k∈X,B≤k):aio B w w':=
 ⟨h.os,h.tape,h.output,h.size,fun k hk=>h.block k (Nat.lt_of_lt_of_le hk hB) fun hm=>by have:=hx k hm;omega⟩
theorem St.whole{X:List Nat}{w w':World}(h:St X w w'){g:Nat}{t:TypeId}{cs:Array Value}(hw:Whole w g t cs)(hg:g∉X):Whole w' g t cs:=
 (h.block g hw.lt hg).trans hw
theorem St.own{X:List Nat}{w w':World}(h:St X w w'){base:Nat}{e:TypeId}{k n:Nat}{v:Value}{xs:List Value}(ho:w.ownsRow base e k v n xs)(hv:∀ q∈X,v.ownBlock≠some q):w'.ownsRow base e k v n xs:=by
 refine⟨ho.1,?_⟩;rcases ho.2 with h0|⟨g,cap,cur,rfl,hb,hg,h1,h2,h3,h4⟩
 ·exact .inl h0
 ·refine .inr ⟨g,cap,cur,rfl,hb,?_,h1,h2,h3,h4⟩;rw[h.block g (Array.getElem?_eq_some_iff.1 hg).1 fun hm=>hv g hm rfl];exact hg
end Go.Proofs.YtkkmjdceiocnbaaGreatDoor
namespace Go.Proofs.YtkkmjdceiocnbaaGreatDoor
open Go Go.ChangeMaps Go.MapKept
open Go.Maps (Keyed)
def iC(w:World)(P:Program)(k:TypeId)(b r:Nat)(D left:List (Value×Value)):Prop:=
 ∃ es clock since seen c0,w.heap[b]?=some (.map es clock)∧Stamped es clock∧(es.toList.map fun e=>(e.key,e.val)).Perm D∧(∀ p∈D,∃ l,keyOf P k p.1=some l) ∧
  w.heap[r]?=some (.mapIter (some b) since seen c0)∧(∀ x∈es.toList,x.born<since)∧since≤c0∧since≤clock∧((leftOf es seen).toList.map fun e=>(e.key,e.val)).Perm left
variable {P:Program} {k:TypeId} {w:World} {b r:Nat} {D left:List (Value×Value)}
theorem iC.map(h:iC w P k b r D left):dU w P k b D:=by
 obtain⟨es,clock,_,_,_,h1,h2,h3,h4,_⟩:=h;exact⟨es,clock,h1,h2,h3,h4⟩
theorem iC.ne(h:iC w P k b r D left):r≠b:=by
 obtain⟨es,clock,since,seen,c0,hb,_,_,_,hr,_⟩:=h;intro e;rw[e,hb] at hr;cases hr
theorem iC.lt(h:iC w P k b r D left):r<w.heap.size:=by
 obtain⟨es,clock,since,seen,c0,_,_,_,_,hr,_⟩:=h;exact(Array.getElem?_eq_some_iff.1 hr).1
theorem iC.kept{w':World}(h:iC w P k b r D left)(hb:w'.heap[b]?=w.heap[b]?)(hr:w'.heap[r]?=w.heap[r]?):iC w' P k b r D left:=by
 obtain⟨es,clock,since,seen,c0,h1,h2,h3,h4,h5,h6⟩:=h;exact⟨es,clock,since,seen,c0,hb.trans h1,h2,h3,h4,hr.trans h5,h6⟩
variable {t e:TypeId}
theorem dU.range(h:dU w P k b D)(ht:P.underlying t=some (.map k e)):
 ∃ w',(Instr.range t (.map (some b))).run P w=.ok (.pointer (some ⟨w.heap.size,0,none⟩)) w'∧iC w' P k b w.heap.size D D∧w.grownBy w' none∧w'.heap.size=w.heap.size+1:=by
 have hlt:=h.lt;obtain⟨es,clock,hb,hs,hp,hk⟩:=h;refine⟨_,run_range_map w t k e b es clock ht hb,⟨es,clock,clock,#[],clock,((MapKept.heap_alloc w _).2 b hlt).trans hb,hs,hp,hk,(MapKept.heap_alloc w _).1,hs.1,Nat.le_refl _,Nat.le_refl _,?_⟩,World.grownBy_alloc w _ none,by simp⟩;have:leftOf es #[]=es:=by simp[leftOf]
 rw[this];exact hp
theorem uU:∀ (l:List MapEntry) (p:MapEntry→Bool) (e:MapEntry),(l.map (·.born)).Nodup→e∈l→p e=true→(l.filter p).Perm (e::l.filter fun x=>p x&&!(x.born == e.born))
 | [],_,_,_,h,_=>by cases h
 | x::l,p,e,hn,he,hp=>by
  simp only[List.map_cons,List.nodup_cons] at hn;rcases ail.1 he with rfl|he'
  ·have h2:l.filter p=l.filter fun x=>p x&&!(x.born == e.born):=by
    refine List.filter_congr (fun y hy=>?_)
    have:(y.born == e.born)=false:=by
     simp only[beq_eq_false_iff_ne];intro hh;exact hn.1 (aip.2 ⟨y,hy,hh⟩)
    simp[this]
   simp[hp,← h2]
  ·have hx:(x.born == e.born)=false:=by
    simp only[beq_eq_false_iff_ne];intro hh;exact hn.1 (aip.2 ⟨e,he',hh.symm⟩)
   have ih:=uU l p e hn.2 he' hp;simp only[List.filter_cons,hx,Bool.not_false,Bool.and_true];split
   ·exact(ih.cons x).trans (List.Perm.swap _ _ _)
   ·exact ih
theorem iC.next(h:iC w P k b r D left)(ty:TypeId):
 (left=[]∧(Instr.next (.pointer (some ⟨r,0,none⟩)) false ty).run P w=.ok (.tuple #[.bool false]) w) ∨
 ∃ key val left' w',left.Perm ((key,val)::left')∧(Instr.next (.pointer (some ⟨r,0,none⟩)) false ty).run P w=.ok (.tuple #[.bool true,key,val]) w' ∧
  iC w' P k b r D left'∧w.grownBy w' (some r)∧w'.heap.size=w.heap.size∧(Instr.entry (.pointer (some ⟨r,0,none⟩))).run P w'=.ok (.tuple #[key,val]) w':=by
 have hne:=h.ne;obtain⟨es,clock,since,seen,c0,hb,hs,hp,hk,hr,hold,hsc,hsk,hl⟩:=h;have hst:=(stamped_iff es clock).1 hs;rcases run_next_at (P:=P) w ty r b since c0 seen es clock hr hb hold hsc with⟨h0,hrun⟩|⟨e,he,w1,hal,hrun⟩
 ·refine Or.inl ⟨?_,hrun⟩;have:left.length=0:=by rw[← hl.length_eq];simpa using h0
  exact List.eq_nil_of_length_eq_zero this
 ·obtain⟨hem,hes⟩:=mem_left he;have hr1:w1.heap[r]?=some (.mapIter (some b) since seen c0):=by rcases hal with rfl|rfl<;>exact hr
  have hb1:w1.heap[b]?=some (.map es clock):=by rcases hal with rfl|rfl<;>exact hb
  have hset:=heap_set (o':=.mapIter (some b) since (seen.push e.born) clock) hr1;have hb':(setBlock w1 r (.mapIter (some b) since (seen.push e.born) clock)).heap[b]?=some (.map es clock):=(hset.2 b (fun e1=>hne e1.symm)).trans hb1
  refine Or.inr ⟨e.key,e.val,(leftOf es (seen.push e.born)).toList.map fun e=>(e.key,e.val),_,?_,hrun,⟨es,clock,since,seen.push e.born,clock,hb',hs,hp,hk,hset.1,hold,hsk,hsk,List.Perm.refl _⟩,?_,?_,
   run_entry_at _ r b since seen es clock e hset.1 hb' hem hst.2.1⟩
  ·refine hl.symm.trans ?_;have h1:=uU es.toList (fun e=>!seen.contains e.born) e hst.2.1 hem (by simp only[hes];rfl)
   have h2:(leftOf es (seen.push e.born)).toList=es.toList.filter fun x=>!seen.contains x.born&&!(x.born == e.born):=by
    simp only[leftOf,Array.toList_filter];refine List.filter_congr (fun x _=>?_);rw[contains_push];cases seen.contains x.born<;>cases(x.born == e.born)<;>rfl
   rw[h2];have h3:(leftOf es seen).toList=es.toList.filter fun e=>!seen.contains e.born:=by simp only[leftOf,Array.toList_filter]
   rw[h3];exact h1.map (fun e=>(e.key,e.val))
  ·rcases hal with rfl|rfl<;>exact⟨rfl,rfl,rfl,by simp[setBlock],fun i _ hi=>hset.2 i (fun e1=>hi (by rw[e1]))⟩
  ·rcases hal with rfl|rfl<;>simp[setBlock]
end Go.Proofs.YtkkmjdceiocnbaaGreatDoor
namespace Go.Proofs.YtkkmjdceiocnbaaGreatDoor
open Go Go.WideMaps
theorem dU.len{P:Program}{k:TypeId}{w:World}{b:Nat}{D:List (Value×Value)}{t e:TypeId}(h:dU w P k b D)(ht:P.underlying t=some (.map k e))(ty:TypeId):
 (Builtin.len_ #[t] ty #[.map (some b)]).run P w=.ok (.int .i64 D.length) w:=by
 obtain⟨es,clock,hb,hl⟩:=h.size;simp[Builtin.len_,run_underlying ht,MapKept.run_getObj_map hb,goInt,Result.andThen,hl]
end Go.Proofs.YtkkmjdceiocnbaaGreatDoor
namespace Go.Proofs.YtkkmjdceiocnbaaGreatDoor
open Go Go.RowKit Go.WideMaps
variable [DS]
def ival(p:Int×Value):Value×Value:=(.int .i64 p.1,p.2)
def V2(L:List (Int×Value)):Array Value:=kH (L.map ival)
def KG:List (Int×Value)→Int→Option Value
 | [],_=>none
 | p::r,k=>if p.1=k then some p.2 else KG r k
theorem Pu{L:List (Int×Value)}{k:Int}{v:Value}(h:KG L k=some v):(k,v)∈L:=by
 induction L with
 | nil=>cases h
 | cons p r ih=>
  rw[KG] at h;split at h
  ·rename_i e;obtain rfl:=ain h;subst e;exact aif ..
  ·exact aii _ (ih h)
theorem Me{L:List (Int×Value)}{k:Int}(h:KG L k=none):∀ p∈L,p.1≠k:=by
 induction L with
 | nil=>simp
 | cons p r ih=>
  rw[KG] at h;split at h
  ·cases h
  ·rename_i hne;intro q hq;rcases ail.1 hq with rfl|hq
   ·exact hne
   ·exact ih h q hq
theorem sZ:∀ {D E:List (Value×Value)},kH D=kH E→D=E
 | [],[],_=>rfl
 | [],_::_,h=>by simp[kH] at h
 | _::_,[],h=>by simp[kH] at h
 | (a,b)::D,(c,d)::E,h=>by
  have h':a=c∧b=d∧D.flatMap (fun p=>[p.1,p.2])=E.flatMap (fun p=>[p.1,p.2]):=by simpa[kH] using h
  obtain⟨rfl,rfl,h3⟩:=h';rw[sZ (D:=D) (E:=E) (by unfold kH;rw[h3])]
theorem MB:Maps.Keyed Tryz.prog 3:=Maps.int_keyed Tryz.underlying3
theorem PX{a:Int}(h:eF a):(Lit.int .i64 a).wf=true:=by
 have h1:(-9223372036854775808≤a∧a<9223372036854775808):=h;simp[Lit.wf,IntKind.min,IntKind.max,IntKind.signed,IntKind.bits];omega
theorem ZH{n:Int}(h:eF n):∃ l,keyOf Tryz.prog 3 (.int .i64 n)=some l:=by
 unfold keyOf;simp[Tryz.underlying3,mapKey,PX h]
section
variable {B:Nat} {w0 w w':World} {bs:List Bx} {rs:List Rw} {mb:Nat} {L:List (Int×Value)}
theorem aC.map(M:aC B w0 w bs rs)(i:Nat)(h:bs[i]?=some (mb,9003,V2 L)):dU w Tryz.prog 3 mb (L.map ival):=by
 rcases M.box _ (List.mem_of_getElem? h) with⟨h0,_⟩|⟨_,D,h1,h2⟩
 ·have h0:Nat.blt 9003 9000=true:=h0;exact absurd h0 (by decide)
 ·have h2:dU w Tryz.prog ((9003:Nat)-9000) mb D:=h2;rw[show(9003:Nat)-9000=3 by decide] at h2;rw[show L.map ival=D from sZ h1];exact h2
theorem aC.SH(M:aC B w0 w bs rs)(hb:aio w.heap.size w w'){b:Bx}(h:q7 w' b)(hg:w.heap.size≤b.1):aC B w0 w' (b::bs) rs:=by
 have M':=M.keep hb;refine⟨M'.below,M'.le,M'.old,?_,?_,?_,M'.row,?_,M.tZ⟩
 ·intro c hc;rcases ail.1 hc with rfl|hc
  ·exact h
  ·exact M'.box c hc
 ·intro c hc;rcases ail.1 hc with rfl|hc
  ·exact aiq M.big hg
  ·exact M.lo c hc
 ·rw[List.map_cons,List.nodup_cons];refine⟨fun h=>?_,M.nd⟩;obtain⟨c,hc,e⟩:=aip.1 h;have:=(M.box c hc).lt;omega
 ·intro r hr c hc;rcases ail.1 hc with rfl|hc
  ·intro e;have:=((M.row r hr).lt _ e).2;omega
  ·exact M.far r hr c hc
theorem aC.SG(M:aC B w0 w bs rs)(hb:aio w.heap.size w w'){b1 b2:Bx}(h1:q7 w' b1)(g1:w.heap.size≤b1.1)(h2:q7 w' b2)(g2:w.heap.size≤b2.1)(hne:b1.1≠b2.1):aC B w0 w' (b1::b2::bs) rs:=by
 have M':=M.SH hb h2 g2;refine⟨M'.below,M'.le,M'.old,?_,?_,?_,M'.row,?_,M.tZ⟩
 ·intro c hc;rcases ail.1 hc with rfl|hc
  ·exact h1
  ·exact M'.box c hc
 ·intro c hc;rcases ail.1 hc with rfl|hc
  ·exact aiq M.big g1
  ·exact M'.lo c hc
 ·rw[List.map_cons,List.nodup_cons];refine⟨fun h=>?_,M'.nd⟩;obtain⟨c,hc,e⟩:=aip.1 h;rcases ail.1 hc with rfl|hc
  ·exact hne e.symm
  ·have:=(M.box c hc).lt;omega
 ·intro r hr c hc;rcases ail.1 hc with rfl|hc
  ·intro e;have:=((M.row r hr).lt _ e).2;omega
  ·exact M'.far r hr c hc
section
variable {t e:TypeId} (ht:Tryz.prog.underlying t=some (.map 3 e))
include ht
theorem dU.V7{z:Value}(hz:(zeroValue e).run Tryz.prog w=.ok z w)(hM:dU w Tryz.prog 3 mb (L.map ival)){k:Int}(hk:eF k)(c:Bool):
 (Instr.lookup t (.map (some mb)) (.int .i64 k) c).run Tryz.prog w=.ok (if c then .tuple #[(KG L k).getD z,.bool (KG L k).isSome] else (KG L k).getD z) w:=by
 obtain⟨l,hl⟩:=ZH hk
 cases hf:KG L k with
 | some v=>exact hM.Jt c MB ht hl (aip.2 ⟨(k,v),Pu hf,rfl⟩)
 | none=>
  refine hM.nJ c MB ht hz hl fun p hp e=>?_
  obtain⟨q,hq,rfl⟩:=aip.1 hp;exact Me hf q hq (by simpa[ival] using e)
theorem aC.look{z:Value}(hz:(zeroValue e).run Tryz.prog w=.ok z w)(M:aC B w0 w bs rs)(i:Nat)(h:bs[i]?=some (mb,9003,V2 L)){k:Int}(hk:eF k)(c:Bool):
 (Instr.lookup t (.map (some mb)) (.int .i64 k) c).run Tryz.prog w=.ok (if c then .tuple #[(KG L k).getD z,.bool (KG L k).isSome] else (KG L k).getD z) w:=dU.V7 ht hz (M.map i h) hk c
end
end
end Go.Proofs.YtkkmjdceiocnbaaGreatDoor
namespace Go.Proofs.YtkkmjdceiocnbaaGreatDoor
open Go Go.RowKit
variable [DS]
section
variable {P:Program} {a:Act} {w:World} {o:Oper} {x y:Operand} {ty yt:TypeId} {k yk:IntKind} {m n:Int}
theorem Nn(ho:o.op=.binOp .shl ty x y yt)(hx:a.eval x=.int k m)(hy:a.eval y=.int yk n)(h0:0≤n)(h1:n≤k.bits):(execOp a.eval o).run P w=.ok (.value (.int k (k.wrap (m*2^n.toNat)))) w:=by
 unfold execOp;simp[ho,hx,hy,eqGuard,binOp,shift_shl k yk m n h0 h1]
theorem rG(ho:o.op=.binOp .shr ty x y yt)(hx:a.eval x=.int k m)(hy:a.eval y=.int yk n)(h0:0≤n)(h1:n≤k.bits):(execOp a.eval o).run P w=.ok (.value (.int k (m/2^n.toNat))) w:=by
 unfold execOp;simp[ho,hx,hy,eqGuard,binOp,shift_shr k yk m n h0 h1]
theorem Rg(ho:o.op=.binOp .quo ty x y yt)(hx:a.eval x=.int k m)(hy:a.eval y=.int k n)(h0:n≠0):(execOp a.eval o).run P w=.ok (.value (.int k (k.wrap (m.tdiv n)))) w:=by
 unfold execOp;simp[ho,hx,hy,eqGuard,binOp,Op.intDiv,h0]
theorem Nq{t u:TypeId}(ho:o.op=.call { callee:=.builtin .min,args:=#[x,y],argTypes:=#[t,u] })(hx:a.eval x=.int k m)(hy:a.eval y=.int yk n):(execOp a.eval o).run P w=.ok (.value (.int k (if n<m then n else m))) w:=by
 unfold execOp;simp[ho,hx,hy,resolve,invoke,builtin,Builtin.min_,Builtin.min2,air,List.foldlM]
theorem BI{t u:TypeId}(ho:o.op=.call { callee:=.builtin .max,args:=#[x,y],argTypes:=#[t,u] })(hx:a.eval x=.int k m)(hy:a.eval y=.int yk n):(execOp a.eval o).run P w=.ok (.value (.int k (if m<n then n else m))) w:=by
 unfold execOp;simp[ho,hx,hy,resolve,invoke,builtin,Builtin.max_,Builtin.max2,air,List.foldlM]
theorem Qr{f:FuncId}{x:Operand}{xs:Array Operand}{ts:Array TypeId}{fn:Func}{c:Code}{first cap args:Array Value}(ho:o.op=.call { callee:=.value x,args:=xs,argTypes:=ts })(hx:a.eval x=.func (.func f) first cap)(hf:P.funcs[f]?=some fn) (hn:(fn.name == "runtime.NumGoroutine")=false) (hb:fn.body=some c)
 (ha:first++xs.map a.eval++cap=args):(execOp a.eval o).run P w=.ok (.enter f args) w:=by
 have h0:fn.body.isNone=false:=by rw[hb];rfl
 unfold execOp;simp only[ho,resolve,hx,Deferred.ofValue,invoke,callFunc,air,Sem.run_pure,Result.andThen_ok,run_program,hf,hn,h0];rw[← ha];simp
end
end Go.Proofs.YtkkmjdceiocnbaaGreatDoor
namespace Go.Proofs.YtkkmjdceiocnbaaGreatDoor
open Go Go.RowKit
variable [DS]
def tJK(p:Pa)(t c b:Bool)(f:Bool→Prop):Prop:=match p with
 | []=>(match b with|true=>f c|false=>f (!c))
 | _::_=>(match b with|true=>f (t&&c)|false=>f (t&&!c))
theorem RQ{p:Pa}{t c b:Bool}{f:Bool→Prop}(h:tJK p t c b f):f (tJ p t c b):=by
 cases p<;>cases b<;>exact h
def gK(m:List eV)(g:Option (Nat×Bool))(f:Pa→Bool→Prop):Prop:=match g with
 | none=>f [] true
 | some (j,b)=>X7 j (fun p t v=>match v with|.bool c=>tJK p t c b (f ((j,b)::p))|_=>False) m
def dK(N:Nat)(m:List eV)(dst:Option Nat)(f:Nat→Prop):Prop:=match dst with
 | some d=>bif Nat.blt d N then bif kg d m then f d else False else False
 | none=>False
def Fo(π:Pa)(p:Prop):Prop:=match π with
 | []=>p
 | _::_=>False
def aU(v:Value):List Value:=match v with
 | .agg cs=>cs.toList
 | v=>[v]
theorem lI(v:Value):v.cells.toList=aU v:=by cases v<;>rfl
def Kc(v:Value)(f:Array Value→Prop):Prop:=match v with
 | .agg cs=>f cs
 | .bool b=>f #[.bool b]
 | .int k n=>f #[.int k n]
 | .string s=>f #[.string s]
 | .pointer a=>f #[.pointer a]
 | .slice a n c=>f #[.slice a n c]
 | .map r=>f #[.map r]
 | .func a b c=>f #[.func a b c]
 | .nilFunc=>f #[.nilFunc]
 | .iface t v=>f #[.iface t v]
 | .nilIface=>f #[.nilIface]
 | _=>False
theorem tP{v:Value}{f:Array Value→Prop}(h:Kc v f):f v.cells:=by
 cases v<;>first|exact h|exact h.elim
def X8(π:Pa)(t:Bool)(bs:List Bx)(w:World)(D:TD)(g off:Nat)(k:Value→Prop):Prop:=
 bif D.one' then
  (∃ i,p9 bs i fun b=>match b with|(b,T,cs)=>bif Nat.blt T 9000 then ob π t (b=g) (p9 cs.toList off k) else False)∨(∃ v,ob π t (w.cell? ⟨g,off,none⟩=some v) (k v))
 else
  (∃ i,p9 bs i fun b=>match b with|(b,T,cs)=>bif Nat.blt T 9000 then ob π t (b=g) (DJ off cs.toList fun r=>Cy (jI D) r fun l=>k (.agg l.toArray)) else False) ∨
   (∃ cs:List Value,ob π t (∀ j u,cs[j]?=some u→w.cell? ⟨g,off+j,none⟩=some u) (qg cs (jI D) (k (.agg cs.toArray))))
def stK(B:Nat)(w0:World)(bs:List Bx)(D:TD)(g off:Nat)(v:Value)(k:List Bx→Prop):Prop:=
 ∃ i,p9 bs i fun b=>match b with|(b,T,cs)=>bif Nat.blt T 9000 then bif Nat.beq T 59 then
  ((b=g∧(aU v).all (·.oneCell')=true)∧w0.heap.size≤B)∧qg (aU v) (jI D) (CD cs.toList off (aU v) fun cs'=>pW bs i (b,T,cs'.toArray) k)
  else (b=g∧(aU v).all (·.oneCell')=true)∧qg (aU v) (jI D) (CD cs.toList off (aU v) fun cs'=>pW bs i (b,T,cs'.toArray) k) else False
def YW(B:Nat)(w0:World)(rs:List Rw)(D:TD)(g off:Nat)(v:Value)(k:List Rw→Prop):Prop:=
 ∃ i j e n cap xs,(rs[i]?=some ⟨.slice (some ⟨g,0,none⟩) n cap,e,jI D,n,xs⟩∧off=j*jI D∧j<n)∧(aU v).all (·.oneCell')=true∧(Nat.beq e 59=false∨w0.heap.size≤B) ∧
  qg (aU v) (jI D) (pW rs i ⟨.slice (some ⟨g,0,none⟩) n cap,e,jI D,n,xs.take off++aU v++xs.drop (off+jI D)⟩ k)
def apO(B:Nat)(w0:World)(bs:List Bx)(rs:List Rw)(w:World)(u v:Value)(e kk Io:Nat)(k:Value→List Bx→List Rw→World→Prop):Prop:=
 ∃ zA zn i nn xs mm news,(aC B w0 w bs rs→aC B w0 w zA zn)∧zn[i]?=some ⟨v,e,kk,nn,xs⟩∧SliceAt w u kk mm news∧(nn+mm≤maxLen∧(nn+mm)*Io≤140737488355328)∧(Nat.beq e 59=false∨w0.heap.size≤B) ∧
  ∀ v' w',pW zn i ⟨v',e,kk,nn+mm,xs++news⟩ fun rs'=>aC B w0 w' zA rs'→k v' zA rs' w'
def rR:Nat→List (Nat×Operand)→Bool
 | _,[]=>true
 | i,(j,_)::r=>bif Nat.beq i j then rR (i+1) r else false
def QB(kk:Nat):List Value→(List Value→Prop)→Prop
 | [],f=>f []
 | v::r,f=>Kc v fun cs=>qg cs.toList kk (QB kk r fun l=>kJ cs.toList l f)
abbrev PK:=Option (List PanicEntry→World→Prop)
@[reducible] def pY(KP:PK)(R:Value→World→Prop):Ending→World→Prop:=match KP with
 | none=>fun e w'=>∃ v,e=.returned v∧R v w'
 | some Pn=>fun e w'=>(∃ v,e=.returned v∧R v w')∨∃ ch,e=.panicked ch∧Pn ch w'
section
variable (KP:PK) (B:Nat) (w0:World) (N:Nat) (l:Slots) (o:Oper) (n:Nat) (m:List eV) (bs:List Bx) (rs:List Rw) (w:World) (k:List eV→List Bx→List Rw→World→Prop)
def FB:Prop:=EH l m [] (gb o.op) fun vs=>match o.dst with
 | some d=>bif Nat.blt d N then bif kg d m then
  ∃ R:Value→World→Prop,(∀ (a:Act) (o':Oper),o'.op=o.op→o'.type=o.type→q6 a (gb o.op) vs→∃ v w',(execOp a.eval o').run Tryz.prog w=.ok (.value v) w'∧R v w') ∧
   ∀ v w',R v w'→∃ bs' rs',aC B w0 w' bs' rs'∧k (⟨d,n,[],true,v⟩::m) bs' rs' w'
  else False else False
 | none=>∃ R:World→Prop,(∀ (a:Act) (o':Oper),o'.op=o.op→o'.type=o.type→q6 a (gb o.op) vs→∃ w',(execOp a.eval o').run Tryz.prog w=.ok .skip w'∧R w') ∧
  ∀ w',R w'→∃ bs' rs',aC B w0 w' bs' rs'∧k m bs' rs' w'
def cK(π:Pa)(t:Bool)(f:FuncId)(vs:List Value):Prop:=bif jC f KL then False else bif Nat.blt f NF then dK N m o.dst fun d=>(∃ v,ob π t (Calls Tryz.prog f vs.toArray w fun e w'=>e=.returned v∧aio w.heap.size w w') (∀ w',aC B w0 w' bs rs→k (⟨d,n,π,t,v⟩::m) bs rs w')) ∨
 (match π with
 | []=>∃ R:Value→World→Prop,(Calls Tryz.prog f vs.toArray w (pY KP R))∧∀ v w',R v w'→∃ bs' rs',aC B w0 w' bs' rs'∧k (⟨d,n,[],true,v⟩::m) bs' rs' w'
 | π=>∃ R:Value→World→Prop,(t=true→Calls Tryz.prog f vs.toArray w (pY KP R))∧(t=false→∃ v,R v w)∧∀ v w',R v w'→∃ bs' rs',aC B w0 w' bs' rs'∧k (⟨d,n,π,t,v⟩::m) bs' rs' w')
 else False
def apK(π:Pa)(c:Call):Prop:=Fo π (match c.args.toList with
 | [s,x]=>(match c.argTypes.toList with
  | [ty,ty']=>bif Nat.beq ty ty' then dK N m o.dst fun d=>oG l m π s fun v=>oG l m π x fun u=>zk ty (fun D=>match D with
   | .sl e kk Io=>bif Nat.blt 0 kk then apO B w0 bs rs w u v e kk Io (fun v'=>k (⟨d,n,[],true,v'⟩::m)) else False
   | _=>False) TT else False
  | _=>False)
 | _=>False)
def sx:Prop:=gK m o.guard fun π t=>match o.op with
 | .load ty x=>dK N m o.dst fun d=>oG l m π x fun u=>Bh u (wC π t fun v=>k (⟨d,n,π,t,v⟩::m) bs rs w) fun g off=>zk ty (fun D=>X8 π t bs w D g off fun v=>k (⟨d,n,π,t,v⟩::m) bs rs w) TT
 | .store ty x y=>Fo π (match o.dst with
  | none=>(oG l m π x fun u=>oG l m π y fun v=>Bh u False fun g off=>zk ty (fun D=>stK B w0 bs D g off v fun bs'=>∀ w',aC B w0 w' bs' rs→k m bs' rs w') TT) ∨
   (oG l m π x fun u=>oG l m π y fun v=>Bh u False fun g off=>zk ty (fun D=>YW B w0 rs D g off v fun rs'=>∀ w',aC B w0 w' bs rs'→k m bs rs' w') TT)∨FB B w0 N l o n m w k
  | some _=>False)
 | .alloc ty=>Fo π (dK N m o.dst fun d=>∃ z,(Tryz.prog.info? ty).bind (·.zero)=some z∧bif Nat.blt ty 9000 then Kc z fun cs=>∀ g w',aC B w0 w' ((g,ty,cs)::bs) rs→k (⟨d,n,[],true,.pointer (some ⟨g,0,none⟩)⟩::m) ((g,ty,cs)::bs) rs w' else False)
 | .box ty x=>Fo π (dK N m o.dst fun d=>oG l m π x fun u=>bif Nat.blt ty 9000 then Kc u fun cs=>∀ g w',aC B w0 w' ((g,ty,cs)::bs) rs→k (⟨d,n,[],true,.pointer (some ⟨g,0,none⟩)⟩::m) ((g,ty,cs)::bs) rs w' else False)
 | .buildSlice ty len parts=>Fo π (dK N m o.dst fun d=>zk ty (fun D=>match D with
  | .sl e kk _=>bif rR 0 parts.toList then qg parts.toList len (bif Nat.blt 0 (len*kk) then bif Nat.ble (len*kk) 16777216 then bif Nat.blt e 9000 then EH l m π (parts.toList.map (·.2)) fun vs=>QB kk vs fun cs=>∀ g w',aC B w0 w' ((g,e,cs.toArray)::bs) rs→k (⟨d,n,[],true,.slice (some ⟨g,0,none⟩) len len⟩::m) ((g,e,cs.toArray)::bs) rs w'
   else False else False else bif Nat.beq len 0 then bif Nat.blt e 9000 then ∀ g w',aC B w0 w' ((g,e,#[])::bs) rs→k (⟨d,n,[],true,.slice (some ⟨g,0,none⟩) 0 0⟩::m) ((g,e,#[])::bs) rs w' else False else False) else False
  | _=>False) TT)
 | .call c=>(match c.callee with
  | .value (.func f)=>EH l m π c.args.toList fun vs=>cK KP B w0 N o n m bs rs w k π t f vs
  | .value y=>oG l m π y fun u=>(match u with
   | .func (.func f) first cap=>EH l m π c.args.toList fun vs=>kJ first.toList vs fun xs=>kJ xs cap.toList fun ys=>cK KP B w0 N o n m bs rs w k π t f ys
   | _=>False)
  | .builtin .append=>apK B w0 N l o n m bs rs w k π c
  | .builtin .len=>dK N m o.dst fun d=>pop l m π t (fun v=>k (⟨d,n,π,t,v⟩::m) bs rs w) (.call c)
  | _=>Fo π (FB B w0 N l o n m w k))
 | .insert _ _ _ _|.makeMap _ _|.makeChan _ _|.makeSlice _ _ _|.mapUpdate _ _ _ _|.mapEntry _ _ _|.entryStore _ _ _ _|.range _ _|.next _ _|.entry _|.typeAssert _ _ _ _|.lookup _ _ _ _|.slice _ _ _ _ _=>Fo π (FB B w0 N l o n m w k)
 | .panic x=>Fo π (oG l m π x fun v=>match v with
  | .iface ty u=>(match KP with|some Pn=>Pn [{ v:=.iface ty u,recovered:=false }] w|none=>False)
  | _=>False)
 | .convert ss tt x=>oG l m π x fun v=>match v with
  | .string _=>Fo π (FB B w0 N l o n m w k)
  | .slice _ _ _=>Fo π (FB B w0 N l o n m w k)
  | _=>dK N m o.dst fun d=>pop l m π t (fun v=>k (⟨d,n,π,t,v⟩::m) bs rs w) (.convert ss tt x)
 | op=>dK N m o.dst fun d=>pop l m π t (fun v=>k (⟨d,n,π,t,v⟩::m) bs rs w) op
end
def Wj(o:Option Value):Bool:=match o with
 | none=>true
 | some _=>false
def mh:List eV→Slots→(Slots→Prop)→Prop
 | [],l,f=>f l
 | ⟨s,_,p,t,v⟩::r,l,f=>match p with
  | []=>mh r l fun l'=>f ((s,v)::l')
  | _::_=>bif Wj (look s l) then mh r l f else mh r l fun l'=>f ((s,gd t v)::l')
theorem mS:∀ {m:List eV} {l:Slots} {f:Slots→Prop},mh m l f→∃ l',f l'∧∀ q v,look q l'=some v→(∃ e∈m,e.s=q∧((e.p=[]∧v=e.v)∨v=gd e.t e.v))∨(look q l=some v∧∀ e∈m,e.s≠q)
 | [],l,_,h=>⟨l,h,fun _ _ h=>.inr ⟨h,by simp⟩⟩
 | ⟨s,j,p,t,v⟩::r,l,f,h=>by
  have key:∀ (v':Value),((p=[]∧v'=v)∨v'=gd t v)→(∃ l',f ((s,v')::l')∧∀ q v,look q l'=some v→(∃ e∈r,e.s=q∧((e.p=[]∧v=e.v)∨v=gd e.t e.v))∨(look q l=some v∧∀ e∈r,e.s≠q)) →
   ∃ l',f l'∧∀ q u,look q l'=some u→(∃ e∈(⟨s,j,p,t,v⟩:eV)::r,e.s=q∧((e.p=[]∧u=e.v)∨u=gd e.t e.v))∨(look q l=some u∧∀ e∈(⟨s,j,p,t,v⟩:eV)::r,e.s≠q):=by
   rintro v' hv ⟨l',h1,h2⟩;refine⟨_,h1,fun q u hq=>?_⟩;rw[bT] at hq
   cases e:q == s with
   | true=>
    rw[e] at hq;have e1:v'=u:=ain hq;subst e1;exact .inl ⟨_,aif ..,(by simpa using e:q=s).symm,hv⟩
   | false=>
    rw[e] at hq;rcases h2 q u hq with⟨e',h3,h4⟩|⟨h3,h4⟩
    ·exact .inl ⟨e',aii _ h3,h4⟩
    ·refine .inr ⟨h3,fun e' he'=>?_⟩;rcases ail.1 he' with rfl|he'
     ·exact fun h=>(by simpa using e:q≠s) h.symm
     ·exact h4 e' he'
  cases p with
  | nil=>exact key v (.inl ⟨rfl,rfl⟩) (mS (f:=fun l'=>f ((s,v)::l')) h)
  | cons x p=>
   have h:bif Wj (look s l) then mh r l f else mh r l fun l'=>f ((s,gd t v)::l'):=h
   cases hn:Wj (look s l) with
   | false=>
    rw[hn] at h;exact key _ (.inr rfl) (mS (f:=fun l'=>f ((s,gd t v)::l')) h)
   | true=>
    rw[hn] at h
    have hnone:look s l=none:=by
     cases hl:look s l with
     | none=>rfl
     | some u=>rw[hl] at hn;cases hn
    obtain⟨l',h1,h2⟩:=mS h;refine⟨l',h1,fun q u hq=>?_⟩;rcases h2 q u hq with⟨e',h3,h4⟩|⟨h3,h4⟩
    ·exact .inl ⟨e',aii _ h3,h4⟩
    ·refine .inr ⟨h3,fun e' he'=>?_⟩;rcases ail.1 he' with rfl|he'
     ·intro hs;have hs:s=q:=hs;rw[← hs,hnone] at h3;cases h3
     ·exact h4 e' he'
def vc(KP:PK)(B:Nat)(w0:World)(N:Nat)(l:Slots):List Oper→Nat→List eV→List Bx→List Rw→World→(Slots→List Bx→List Rw→World→Prop)→Prop
 | [],_,m,bs,rs,w,K=>mh m l fun l'=>K l' bs rs w
 | o::r,n,m,bs,rs,w,K=>sx KP B w0 N l o n m bs rs w fun m' bs' rs' w'=>vc KP B w0 N l r (n+1) m' bs' rs' w' K
structure Inv (ops:Array Oper) (a:Act) (N:Nat) (l:Slots) (m:List eV) (n:Nat):Prop where
 fr:Fr a N
 L:jS m n
 dst:∀ e∈m,(ops[e.j]?).bind (·.dst)=some e.s
 at_:∀ e∈m,At a e.s (gd e.t e.v)
 base:∀ q v,(∀ e∈m,e.s≠q)→look q l=some v→At a q v
section
variable {ops:Array Oper} {a a':Act} {N:Nat} {l:Slots} {m:List eV} {n:Nat} {o:Oper}
theorem Inv.start(F:Fs a N l):Inv ops a N l [] 0:=⟨F.fr,.nil 0,by simp,by simp,fun q v _ h=>F.at_ q v h⟩
theorem Inv.E(I:Inv ops a N l m n){x:Operand}{π:Pa}{v:Value}(h:Ar l m π x v)(hc:∀ y∈π,Cond m y):a.eval x=v:=by
 cases x with
 | tmp q=>
  rcases h with⟨e,he,rfl,rfl,hs⟩|⟨h1,h2⟩
  ·have ht:e.t=true:=(I.L.tv e he).2 fun y hy=>hc y (vT hs y hy)
   exact((I.at_ e he).on ht).ev
  ·exact(I.base q v h1 h2).ev
 | const u=>exact h
 | global=>exact h.elim
 | func f=>exact h
theorem Inv.put(I:Inv ops a N l m n)(ho:ops[n]?=some o){d:Nat}(hd:o.dst=some d)(hfr:kg d m=true){π:Pa}(hp:∀ x∈π,∃ e∈m,e.j=x.1){t:Bool}(ht:t=true↔∀ x∈π,Cond m x){v:Value}(p:Put a d (gd t v) a'):Inv ops a' N l (⟨d,n,π,t,v⟩::m) (n+1):=by
 have hne:=JZ hfr;refine⟨p.fr I.fr,I.L.put hp ht,?_,?_,?_⟩
 ·intro e he;rcases ail.1 he with rfl|he
  ·simp[ho,hd]
  ·exact I.dst e he
 ·intro e he;rcases ail.1 he with rfl|he
  ·exact p.now
  ·exact p.old (by simpa using hne e he) (I.at_ e he)
 ·intro q u hq hl;exact p.old (by have:=hq _ (aif ..);simp only at this;simpa using fun e=>this e.symm) (I.base q u (fun e he=>hq e (aii _ he)) hl)
theorem Inv.next(I:Inv ops a N l m n):Inv ops a N l m (n+1):=⟨I.fr,I.L.mono (Nat.le_succ n),I.dst,I.at_,I.base⟩
theorem Inv.WY(I:Inv ops a N l m n){f:Slots→Prop}(h:mh m l f):∃ l',f l'∧Fs a N l':=by
 obtain⟨l',h1,h2⟩:=mS h;refine⟨l',h1,I.fr,fun q v hq=>?_⟩;rcases h2 q v hq with⟨e,he,rfl,h3⟩|⟨h3,h4⟩
 ·rcases h3 with⟨hp,rfl⟩|rfl
  ·exact(I.at_ e he).on ((I.L.tv e he).2 (by rw[hp];simp))
  ·exact I.at_ e he
 ·exact I.base q v h4 h3
theorem HY(hL:jS m n){g:Option (Nat×Bool)}{f:Pa→Bool→Prop}(h:gK m g f):∃ π t,f π t∧(∀ x∈π,∃ e∈m,e.j=x.1)∧(t=true↔∀ x∈π,Cond m x)∧(π=[]→t=true) ∧
 ((g=none∧t=true)∨∃ e∈m,∃ b c,g=some (e.j,b)∧e.v=.bool c∧(t=true↔e.t=true∧c=b)):=by
 unfold gK at h;split at h
 ·exact⟨_,_,h,by simp,by simp,fun _=>rfl,.inl ⟨rfl,rfl⟩⟩
 ·rename_i j b;obtain⟨e,he,rfl,h⟩:=SK h;split at h
  ·rename_i c hv;have h:=RQ h;obtain⟨h1,h2,h3⟩:=hL.guard he hv (b:=b);exact⟨_,_,h,h1,h2,fun h=>(by cases h),.inr ⟨e,he,b,c,rfl,hv,h3⟩⟩
  ·exact h.elim
theorem qE{t:Bool}(hg:(o.guard=none∧t=true)∨∃ e∈m,∃ b c,o.guard=some (e.j,b)∧e.v=.bool c∧(t=true↔e.t=true∧c=b))
 (hd:∀ e∈m,(∃ b,o.guard=some (e.j,b))→(ops[e.j]?).bind (·.dst)=some e.s∧At a e.s (gd e.t e.v)):Region.wanted o (yielded ops a.tmps)=t:=by
 rcases hg with⟨h1,rfl⟩|⟨e,he,b,c,hg,hv,h3⟩
 ·exact dN h1
 ·obtain⟨hds,hat⟩:=hd e he ⟨b,hg⟩;rw[hv] at hat
  cases t with
  | true=>
   obtain⟨h4,rfl⟩:=h3.1 rfl;exact L3 hg hds (hat.on h4)
  | false=>
   cases h4:e.t with
   | false=>
    rw[h4] at hat
    exact Jk hg hds hat
   | true=>
    have hne:¬ c=b:=fun e2=>by
     have:=h3.2 ⟨h4,e2⟩;cases this
    exact Jl hg hds (hat.on h4) (by cases c<;>cases b<;>simp_all)
theorem Ra(I:Inv ops a N l m n){f:Pa→Bool→Prop}(h:gK m o.guard f):∃ π t,f π t∧(∀ x∈π,∃ e∈m,e.j=x.1)∧(t=true↔∀ x∈π,Cond m x)∧Region.wanted o (yielded ops a.tmps)=t∧(π=[]→t=true):=by
 obtain⟨π,t,h1,h2,h3,h4,h5⟩:=HY I.L h;exact⟨π,t,h1,h2,h3,qE h5 fun e he _=>⟨I.dst e he,I.at_ e he⟩,h4⟩
theorem iF{dst:Option Nat}{f:Nat→Prop}(h:dK N m dst f):∃ d,dst=some d∧Nat.blt d N=true∧kg d m=true∧f d:=by
 unfold dK at h;split at h
 ·rename_i d
  cases h1:Nat.blt d N with
  | false=>rw[h1] at h;exact h.elim
  | true=>
   rw[h1] at h
   cases h2:kg d m with
   | false=>rw[h2] at h;exact h.elim
   | true=>rw[h2] at h;exact⟨d,rfl,h1,h2,h⟩
 ·exact h.elim
theorem j9{π:Pa}{p:Prop}(h:Fo π p):π=[]∧p:=by
 unfold Fo at h;split at h
 ·exact⟨rfl,h⟩
 ·exact h.elim
theorem bA{b:Bool}{p:Prop}(h:bif b then p else False):b=true∧p:=by
 cases b with
 | true=>exact⟨rfl,h⟩
 | false=>exact h.elim
end
section
variable {KP:PK} {ops:Array Oper} {a:Act} {N:Nat} {l:Slots} {m:List eV} {n:Nat} {o:Oper} {B:Nat} {w0 w:World} {bs:List Bx} {rs:List Rw} {k:List eV→List Bx→List Rw→World→Prop} {rest:List Oper} {Q:Exit→Act→World→Prop} {π:Pa} {t:Bool} {d:Nat} {v:Value}
theorem Yr(hw:Region.wanted o (yielded ops a.tmps)=t)(hr:t=true→(execOp a.eval o).run Tryz.prog w=.ok (.value v) w)(hd:o.dst=some d)(hf:Fr a N)(hN:Nat.blt d N=true)(next:∀ a',Put a d (gd t v) a'→wpList Tryz.prog ops Q rest a' w):wpList Tryz.prog ops Q (o::rest) a w:=by
 cases t with
 | true=>exact kM hw (hr rfl) hd hf (by simpa using hN) next
 | false=>exact AF hw hd hf (by simpa using hN) next
theorem tB{a:Act}:∀ {xs:List Operand} {vs:List Value},q6 a xs vs→xs.map a.eval=vs
 | _,_,.nil=>rfl
 | _,_,.cons h r=>by rw[List.map_cons,tB r];exact congrArg (·::_) h
theorem ko{a:Act}{xs:Array Operand}{vs:List Value}(h:q6 a xs.toList vs):xs.map a.eval=vs.toArray:=by
 apply Array.toList_inj.1;rw[Array.toList_map];exact tB h
theorem Inv.W2(I:Inv ops a N l m n){xs:List Operand}{vs:List Value}(h:y9 (Ar l m π) xs vs)(hc:∀ y∈π,Cond m y):q6 a xs vs:=uz h hc fun _ _ _ _ h hc=>I.E h hc
theorem xO{f:FuncId}(h1:Nat.blt f NF=true)(h2:jC f KL=false):Jj Tryz.prog f=true:=by
 have:=aij.1 XJ f (by simpa using h1);rw[h2,Bool.or_false] at this;exact this
theorem C2{f:FuncId}(hf:Jj Tryz.prog f=true){x:Operand}{xs:Array Operand}{ts:Array TypeId}{first cap args:Array Value}(ho:o.op=.call { callee:=.value x,args:=xs,argTypes:=ts })(hx:a.eval x=.func (.func f) first cap)(ha:first++xs.map a.eval++cap=args):(execOp a.eval o).run Tryz.prog w=.ok (.enter f args) w:=by
 unfold Jj at hf;split at hf
 ·rename_i fn hfn;rw[aik,Bool.not_eq_true'] at hf;obtain⟨c,hc⟩:=Option.isSome_iff_exists.1 hf.2;exact Qr ho hx hfn hf.1 hc ha
 ·cases hf
theorem Cp{Pn:List PanicEntry→World→Prop}(hw:Region.wanted o (yielded ops a.tmps)=true){f:FuncId}{args:Array Value}(hr:(execOp a.eval o).run Tryz.prog w=.ok (.enter f args) w){R:Value→World→Prop}{d:Nat}
 (hc:Calls Tryz.prog f args w fun e w'=>(∃ v,e=.returned v∧R v w')∨∃ ch,e=.panicked ch∧Pn ch w') (hd:o.dst=some d) (hf:Fr a N) (hN:d<N) (hP:∀ ch w',Pn ch w'→Q (.panic ch) a w')
 (next:∀ v a' w',R v w'→Put a d v a'→wpList Tryz.prog ops Q rest a' w'):wpList Tryz.prog ops Q (o::rest) a w:=
 wpList_step fun K hK=>by
  rw[if_pos hw];unfold Oper.wp;rw[hr,Oper.upon_enter];refine hc.mono ?_;rintro e w' (⟨v,rfl,h⟩|⟨ch,rfl,h⟩)
  ·show K _ _;rw[hd];exact hK _ _ (next v _ w' h (lT hf hN))
  ·exact hP ch w' h
theorem Ru(I:Inv ops a N l m n)(M:aC B w0 w bs rs)(ho:ops[n]?=some o)(hp:∀ x∈π,∃ e∈m,e.j=x.1)(ht:t=true↔∀ x∈π,Cond m x)(hw:Region.wanted o (yielded ops a.tmps)=t)(h0:π=[]→t=true){f:FuncId}{vs:List Value}
 (h:cK KP B w0 N o n m bs rs w k π t f vs) (Qf:∀ Pn,KP=some Pn→∀ a' ch w',(∃ m n,Inv ops a' N l m n)→Pn ch w'→Q (.panic ch) a' w') (hrun:t=true→Jj Tryz.prog f=true→(execOp a.eval o).run Tryz.prog w=.ok (.enter f vs.toArray) w)
 (next:∀ a' m' bs' rs' w',Inv ops a' N l m' (n+1)→aC B w0 w' bs' rs'→k m' bs' rs' w'→wpList Tryz.prog ops Q rest a' w'):wpList Tryz.prog ops Q (o::rest) a w:=by
 unfold cK at h
 cases hm:jC f KL with
 | true=>rw[hm] at h;exact h.elim
 | false=>
  rw[hm] at h;obtain⟨hb,h⟩:=bA h;obtain⟨d,hd,hN,hfr,h⟩:=iF h;have hok:=xO hb hm;rcases h with⟨v,h⟩|h
  ·obtain⟨h1,h2⟩:=gJ h
   cases t with
   | true=>
    refine ow hw (hrun rfl hok) (uF (h1 rfl)) hd I.fr (by simpa using hN) fun u a' w' h3 p=>?_
    obtain⟨rfl,h3⟩:=h3;exact next a' _ _ _ _ (I.put ho hd hfr hp ht p) (M.keep h3) (h2 w' (M.keep h3))
   | false=>exact AF hw hd I.fr (by simpa using hN) fun a' p=>next a' _ _ _ _ (I.put ho hd hfr hp ht p) M (h2 w M)
  ·split at h
   ·obtain⟨R,h1,h2⟩:=h;obtain rfl:=h0 rfl
    have fin:∀ u a' w',R u w'→Put a d u a'→wpList Tryz.prog ops Q rest a' w':=fun u a' w' h3 p=>by
     obtain⟨bs',rs',M',h4⟩:=h2 u w' h3;exact next a' _ _ _ _ (I.put (t:=true) (v:=u) ho hd hfr (by simp) (by simp) p) M' h4
    cases KP with
    | none=>exact ow hw (hrun rfl hok) h1 hd I.fr (by simpa using hN) fin
    | some Pn=>exact Cp hw (hrun rfl hok) h1 hd I.fr (by simpa using hN) (fun ch w' h=>Qf Pn rfl a ch w' ⟨_,_,I⟩ h) fin
   ·obtain⟨R,h1,h2,h5⟩:=h
    cases t with
    | true=>
     have fin:∀ u a' w',R u w'→Put a d u a'→wpList Tryz.prog ops Q rest a' w':=fun u a' w' h3 p=>by
      obtain⟨bs',rs',M',h4⟩:=h5 u w' h3;exact next a' _ _ _ _ (I.put (t:=true) (v:=u) ho hd hfr hp ht p) M' h4
     cases KP with
     | none=>exact ow hw (hrun rfl hok) (h1 rfl) hd I.fr (by simpa using hN) fin
     | some Pn=>exact Cp hw (hrun rfl hok) (h1 rfl) hd I.fr (by simpa using hN) (fun ch w' h=>Qf Pn rfl a ch w' ⟨_,_,I⟩ h) fin
    | false=>
     obtain⟨v,hv⟩:=h2 rfl;obtain⟨bs',rs',M',h4⟩:=h5 v w hv;exact AF hw hd I.fr (by simpa using hN) fun a' p=>next a' _ _ _ _ (I.put (t:=false) (v:=v) ho hd hfr hp ht p) M' h4
theorem D_(I:Inv ops a N l m n)(ho:ops[n]?=some o)(hw:Region.wanted o (yielded ops a.tmps)=true)(h:FB B w0 N l o n m w k)
 (next:∀ a' m' bs' rs' w',Inv ops a' N l m' (n+1)→aC B w0 w' bs' rs'→k m' bs' rs' w'→wpList Tryz.prog ops Q rest a' w'):wpList Tryz.prog ops Q (o::rest) a w:=by
 obtain⟨vs,h1,h⟩:=j5 h;have oO:=I.W2 h1 (by simp);split at h
 ·rename_i d hd;obtain⟨hN,h⟩:=bA h;obtain⟨hfr,R,h2,h3⟩:=bA h;obtain⟨v,w',h4,h5⟩:=h2 a o rfl rfl oO;obtain⟨bs',rs',M',h6⟩:=h3 v w' h5;exact kM hw h4 hd I.fr (by simpa using hN) fun a' p=>next a' _ _ _ _ (I.put (t:=true) (v:=v) ho hd hfr (by simp) (by simp) p) M' h6
 ·rename_i hd;obtain⟨R,h2,h3⟩:=h;obtain⟨w',h4,h5⟩:=h2 a o rfl rfl oO;obtain⟨bs',rs',M',h6⟩:=h3 w' h5;exact OI hw h4 hd (next a _ _ _ _ I.next M' h6)
theorem Mh{D:TD}{g off:Nat}{kk:Value→Prop}(M:aC B w0 w bs rs)(h:X8 π t bs w D g off kk){ty:TypeId}(hD:jZ Tryz.prog ty D=true):∃ v,kk v∧(t=true→∀ w',aio w.heap.size w w'→∀ (a:Act) (o:Oper) (x:Operand),o.op=.load ty x→a.eval x=.pointer (some ⟨g,off,none⟩)→(execOp a.eval o).run Tryz.prog w'=.ok (.value v) w'):=by
 unfold X8 at h
 cases h1:D.one' with
 | true=>
  rw[h1] at h;obtain⟨dd,hu,hd⟩:=Ll hD h1;rcases h with⟨i,h⟩|⟨v,h⟩
  ·obtain⟨⟨b,T,cs⟩,hb,h⟩:=fL h;obtain⟨hT,h⟩:=bA h;obtain⟨h2,h3⟩:=gJ h;obtain⟨v,h4,h5⟩:=fL h3;refine⟨v,h5,fun bt w' hb' a o x ho hx=>?_⟩;obtain rfl:=h2 bt;exact wD ho hx hu (by cases dd<;>first|rfl|cases hd) (((M.keep hb').b i hb hT).cell off▸by simpa using h4)
  ·obtain⟨h2,h3⟩:=gJ h;exact⟨v,h3,fun bt w' hb' a o x ho hx=>wD ho hx hu (by cases dd<;>first|rfl|cases hd) (cell_later hb' (h2 bt))⟩
 | false=>
  rw[h1] at h;obtain⟨dd,hu,hd,hs⟩:=vS hD h1;rcases h with⟨i,h⟩|⟨cs,h⟩
  ·obtain⟨⟨b,T,cs⟩,hb,h⟩:=fL h;obtain⟨hT,h⟩:=bA h;obtain⟨h2,h3⟩:=gJ h;obtain⟨h4,h5⟩:=DI h3;obtain⟨h6,h7⟩:=Cx h5;refine⟨_,h7,fun bt w' hb' a o x ho hx=>?_⟩;obtain rfl:=h2 bt;refine tF _ ho hx hu (by cases dd<;>first|rfl|cases hd) (hs.trans ?_) (wP ((M.keep hb').b i hb hT) ?_)
   ·rw[ais,Nat.min_eq_left h6]
   ·rw[ais,Nat.min_eq_left h6]
  ·obtain⟨h2,h3⟩:=gJ h;obtain⟨h4,h5⟩:=jc h3;exact⟨_,h5,fun bt w' hb' a o x ho hx=>tF cs ho hx hu (by cases dd<;>first|rfl|cases hd) (hs.trans (by rw[h4])) fun j u hu=>cell_later hb' (h2 bt j u hu)⟩
theorem Po{w':World}{B e n cap kk off j g:Nat}{xs l:List Value}{cur:Array Value}(hg:B≤g)(hnc:n≤cap)(hcm:cap≤maxLen)(hcs:cur.size=cap*kk)(ht:cur.toList.take (n*kk)=xs)(hoff:off=j*kk)(hj:j<n)(hl:l.length=kk)
 (h':Whole w' g e (splice cur off l)):w'.ownsRow B e kk (.slice (some ⟨g,0,none⟩) n cap) n (xs.take off++l++xs.drop (off+kk)):=by
 have h1:off+kk≤n*kk:=by rw[hoff,← Nat.succ_mul];exact ait _ hj
 have h2:n*kk≤cap*kk:=ait _ hnc;have hx:xs.length=n*kk:=by rw[← ht,ais,Array.length_toList,hcs];omega
 refine⟨by simp[hx,hl];omega,.inr ⟨g,cap,_,rfl,hg,h',hnc,hcm,by rw[uV,hcs],?_⟩⟩;rw[kB _ _ _ (by rw[hcs,hl];omega),hl,← ht];have hlen:(cur.toList.take off++l).length=off+kk:=by rw[List.length_append,ais,Array.length_toList,hl,hcs];omega
 rw[List.take_append,List.take_of_length_le (by rw[hlen];omega),hlen,List.take_take,Nat.min_eq_left (by omega),List.drop_take]
theorem RT{D:TD}{g off:Nat}{kk:List Rw→Prop}(M:aC B w0 w bs rs)(h:YW B w0 rs D g off v kk){ty:TypeId}(hD:jZ Tryz.prog ty D=true)(hw:Region.wanted o (yielded ops a.tmps)=true){x y:Operand}(ho:o.op=.store ty x y)(hx:a.eval x=.pointer (some ⟨g,off,none⟩))(hy:a.eval y=v)(hd:o.dst=none)
 (next:∀ rs' w',aC B w0 w' bs rs'→kk rs'→wpList Tryz.prog ops Q rest a w'):wpList Tryz.prog ops Q (o::rest) a w:=by
 obtain⟨i,j,e,n,cap,xs,⟨hi,hoff,hj⟩,h1,hW,h⟩:=h;obtain⟨h2,h3⟩:=jc h;have h4:=lg h3;obtain⟨g',cap',cur,hv,hg,hH,hn,hm,hs,ht⟩:=pZ (M.r i hi) (Nat.zero_lt_of_lt hj);injection hv with e1 e2 e3;injection e1 with e1;injection e1 with e1;subst e1 e3
 have hfit:off+(aU v).length≤cur.size:=by
  have h5:off+jI D≤n*jI D:=by rw[hoff,← Nat.succ_mul];exact ait _ hj
  rw[h2,hs];exact aiq h5 (ait _ hn)
 exact pP hw ho hx hy hH (lI v) hfit ((vR hD).trans (by rw[h2])) h1 rfl hd fun w' s h'=>next _ w' (M.grow i hi (Po hg hn hm hs ht hoff hj h2 h') s.grown (.inl rfl) hW) h4
theorem RU{D:TD}{g off:Nat}{kk:List Bx→Prop}(M:aC B w0 w bs rs)(h:stK B w0 bs D g off v kk){ty:TypeId}(hD:jZ Tryz.prog ty D=true)(hw:Region.wanted o (yielded ops a.tmps)=true){x y:Operand}(ho:o.op=.store ty x y)(hx:a.eval x=.pointer (some ⟨g,off,none⟩))(hy:a.eval y=v)(hd:o.dst=none)
 (next:∀ bs' w',aC B w0 w' bs' rs→kk bs'→wpList Tryz.prog ops Q rest a w'):wpList Tryz.prog ops Q (o::rest) a w:=by
 obtain⟨i,h⟩:=h;obtain⟨⟨b,T,cs⟩,hb,h⟩:=fL h;obtain⟨hT,h⟩:=bA h
 have key:(b=g∧(aU v).all (·.oneCell')=true)→(Nat.beq T 59=false∨w0.heap.size≤B)→qg (aU v) (jI D) (CD cs.toList off (aU v) fun cs'=>pW bs i (b,T,cs'.toArray) kk)→wpList Tryz.prog ops Q (o::rest) a w:=by
  rintro⟨rfl,h1⟩ hW h;obtain⟨h2,h3⟩:=jc h;obtain⟨h4,h5⟩:=OZ h3;have h6:=lg h5;rw[Array.length_toList] at h4
  have hsp:splice cs off (aU v)=(cs.toList.take off++aU v++cs.toList.drop (off+(aU v).length)).toArray:=by
   apply Array.toList_inj.1;rw[kB _ _ _ h4]
  refine pP hw ho hx hy (M.b i hb hT) (lI v) h4 ((vR hD).trans (by rw[h2])) h1 hsp hd fun w' s h'=>next _ w' (M.VJ i hb s h' hT hW) h6
 cases hq:Nat.beq T 59 with
 | true=>
  rw[hq] at h;obtain⟨⟨h1,h2⟩,h3⟩:=h;exact key h1 (.inr h2) h3
 | false=>
  rw[hq] at h;exact key h.1 (.inl hq) h.2
end
end Go.Proofs.YtkkmjdceiocnbaaGreatDoor
namespace Go.Proofs.YtkkmjdceiocnbaaGreatDoor
open Go Go.RowKit
variable [DS]
theorem wH(off:Nat):∀ (l:List Value) (j:Nat) (cs:Array Value),(l.zipIdx j).foldl (fun cs (c,j)=>cs.setIfInBounds (off+j) c) cs=splice cs (off+j) l
 | [],_,_=>rfl
 | v::r,j,cs=>by
  rw[List.zipIdx_cons,List.foldl_cons,wH off r (j+1)];rfl
def yE:Nat→List Value→List (Nat×Value)
 | _,[]=>[]
 | i,v::r=>(i,v)::yE (i+1) r
theorem xg(cs:Array Value):∀ (o:Nat) (l r:List Value),splice (splice cs o l) (o+l.length) r=splice cs o (l++r)
 | _,[],_=>rfl
 | o,v::l,r=>by
  show splice (splice (cs.setIfInBounds o v) (o+1) l) (o+(l.length+1)) r=splice (cs.setIfInBounds o v) (o+1) (l++r);rw[← xg _ (o+1) l r];congr 1;omega
theorem DG(k:Nat):∀ (vs:List Value) (i:Nat) (cells:Array Value),(∀ v∈vs,v.cells.size=k)→(i+vs.length)*k≤cells.size →
 Instr.fill (fun i=>some (i*k,k)) cells (yE i vs)=some (splice cells (i*k) (vs.flatMap fun v=>v.cells.toList))
 | [],_,_,_,_=>rfl
 | v::r,i,cells,h,hs=>by
  have hv:=h v (aif ..)
  have hk:i*k+k≤cells.size:=by
   refine aiq ?_ hs;rw[← Nat.succ_mul];exact ait _ (by simp)
  have hst:v.cells.zipIdx.foldl (fun cs (c,j)=>cs.setIfInBounds (i*k+j) c) cells=splice cells (i*k) v.cells.toList:=by
   rw[← Array.foldl_toList,Array.toList_zipIdx];exact wH (i*k) v.cells.toList 0 cells
  show(if v.cells.size≠k||i*k+v.cells.size>cells.size then none else Instr.fill (fun i=>some (i*k,k)) (v.cells.zipIdx.foldl (fun cs (c,j)=>cs.setIfInBounds (i*k+j) c) cells) (yE (i+1) r))=_
  rw[hst,if_neg (by rw[hv];simp;omega),DG k r (i+1) _ (fun u hu=>h u (aii _ hu)) (by
   rw[uV];refine aiq (Nat.le_of_eq ?_) hs;congr 1;simp only[List.length_cons];omega)]
  rw[List.flatMap_cons,← xg];have:(i+1)*k=i*k+v.cells.toList.length:=by rw[Nat.succ_mul,Array.length_toList,hv]
  rw[this]
theorem B0{kk:Nat}:∀ {vs:List Value} {f:List Value→Prop},QB kk vs f→f (vs.flatMap fun v=>v.cells.toList)∧∀ v∈vs,v.cells.size=kk
 | [],_,h=>⟨h,by simp⟩
 | v::r,f,h=>by
  have h1:=tP h;obtain⟨h2,h3⟩:=jc h1;obtain⟨h4,h5⟩:=B0 h3;refine⟨by rw[List.flatMap_cons];exact cG h4,fun u hu=>?_⟩;rcases ail.1 hu with rfl|hu
  ·simpa using h2
  ·exact h5 u hu
theorem zX{a:Act}:∀ {i:Nat} {ps:List (Nat×Operand)} {vs:List Value},rR i ps=true→q6 a (ps.map (·.2)) vs→ps.map (fun(i,x)=>(i,a.eval x))=yE i vs
 | _,[],_,_,h=>by cases h;rfl
 | i,(j,x)::r,vs,hp,h=>by
  cases h with
  | cons h1 h2=>
   unfold rR at hp
   cases hb:Nat.beq i j with
   | false=>rw[hb] at hp;cases hp
   | true=>
    rw[hb] at hp;rw[List.map_cons,zX hp h2,← aie hb];simp only[yE,h1]
theorem Qk{a:Act}{xs:List Operand}{vs:List Value}(h:q6 a xs vs):vs.length=xs.length:=by
 rw[← tB h,List.length_map]
section
variable {ops:Array Oper} {a:Act} {N:Nat} {l:Slots} {m:List eV} {n:Nat} {o:Oper} {B:Nat} {w0 w:World} {bs:List Bx} {rs:List Rw} {k:List eV→List Bx→List Rw→World→Prop} {rest:List Oper} {Q:Exit→Act→World→Prop}
theorem qH{ty len e kk Io:Nat}{parts:Array (Nat×Operand)}(ho:o.op=.buildSlice ty len parts)(hD:jZ Tryz.prog ty (.sl e kk Io)=true)(hp:rR 0 parts.toList=true)(hl:parts.toList.length=len)(h0:0<len*kk)(h1:len*kk≤2^24)
 {vs:List Value} (oO:q6 a (parts.toList.map (·.2)) vs) (hc:∀ v∈vs,v.cells.size=kk) :
 (execOp a.eval o).run Tryz.prog w=.ok (.value (.slice (some ⟨w.heap.size,0,none⟩) len len)) (w.alloc (.cells (vs.flatMap fun v=>v.cells.toList).toArray e)):=by
 obtain⟨hu,hi⟩:=zN hD;obtain⟨ti,z,i1,i2,i3,i4,i5⟩:=rT hi;have hvl:vs.length=len:=by rw[Qk oO,List.length_map,hl]
 have hcl:(vs.flatMap fun v=>v.cells.toList).length=len*kk:=by
  rw[← hvl];clear oO hvl
  induction vs with
  | nil=>simp
  | cons v r ih=>
   rw[List.flatMap_cons,List.length_append,ih (fun u hu=>hc u (aii _ hu)),Array.length_toList,hc v (aif ..),List.length_cons,Nat.succ_mul,Nat.add_comm]
 refine tG (z:=z) (pv:=(yE 0 vs).toArray) ho hu (yg hi) (by rw[i1];exact i2) h1 h0 ?_ ?_
 ·apply Array.toList_inj.1;rw[Array.toList_map];exact zX hp oO
 ·have hsz:((Array.range (len*kk)).map (z.cells[·%z.cells.size]!)).size=len*kk:=by simp
  show Instr.fill _ _ (yE 0 vs)=_;rw[DG kk vs 0 _ hc (by rw[hsz,Nat.zero_add,hvl];exact Nat.le_refl _),Nat.zero_mul,qD _ _ (by rw[hsz,hcl])]
theorem Ev{ty e kk Io:Nat}(ho:o.op=.buildSlice ty 0 #[])(hD:jZ Tryz.prog ty (.sl e kk Io)=true):
 (execOp a.eval o).run Tryz.prog w=.ok (.value (.slice (some ⟨w.heap.size,0,none⟩) 0 0)) (w.alloc (.cells #[] e)):=by
 obtain⟨hu,hi⟩:=zN hD;obtain⟨ti,z,i1,-⟩:=rT hi
 have h:(Instr.buildSlice ty 0 #[]).run Tryz.prog w=.ok (.slice (some ⟨w.heap.size,0,none⟩) 0 0) (w.alloc (.cells #[] e)):=by
  simp[Instr.buildSlice,run_underlying hu,sizeOf,typeInfo,i1,newRow,Instr.fill];exact congrArg (fun x=>w.alloc (Obj.cells x e)) (Array.eq_empty_of_size_eq_zero (by simp))
 unfold execOp;simp only[ho,air,Array.map_empty,h,Result.andThen_ok,Sem.run_pure]
theorem KU{x:Operand}{ty:TypeId}{u:Value}(hw:Region.wanted o (yielded ops a.tmps)=true)(hop:o.op=.panic x)(hx:a.eval x=.iface ty u)(hQ:Q (.panic [{ v:=.iface ty u,recovered:=false }]) a w):wpList Tryz.prog ops Q (o::rest) a w:=
 wpList_step fun K hK=>by
  rw[if_pos hw];unfold Oper.wp execOp;simp[hop,hx,Oper.upon,Result.andThen,run_panic_iface];exact hQ
theorem ld{KP:PK}(I:Inv ops a N l m n)(M:aC B w0 w bs rs)(ho:ops[n]?=some o)(h:sx KP B w0 N l o n m bs rs w k)(Qf:∀ Pn,KP=some Pn→∀ a' ch w',(∃ m n,Inv ops a' N l m n)→Pn ch w'→Q (.panic ch) a' w')
 (next:∀ a' m' bs' rs' w',Inv ops a' N l m' (n+1)→aC B w0 w' bs' rs'→k m' bs' rs' w'→wpList Tryz.prog ops Q rest a' w'):wpList Tryz.prog ops Q (o::rest) a w:=by
 obtain⟨π,t,h,hp,ht,hw,h0⟩:=Ra I h
 have hval:∀ {d:Nat} {v:Value},o.dst=some d→Nat.blt d N=true→kg d m=true→(t=true→(execOp a.eval o).run Tryz.prog w=.ok (.value v) w)→k (⟨d,n,π,t,v⟩::m) bs rs w→wpList Tryz.prog ops Q (o::rest) a w:=
  fun hd hN hfr hr hk=>Yr hw hr hd I.fr hN fun a' p=>next a' _ _ _ _ (I.put ho hd hfr hp ht p) M hk
 have JV:∀ {op:Op} {d:Nat},o.op=op→o.dst=some d→Nat.blt d N=true→kg d m=true→pop l m π t (fun v=>k (⟨d,n,π,t,v⟩::m) bs rs w) op→wpList Tryz.prog ops Q (o::rest) a w:=fun hop hd hN hfr h=>by
  obtain⟨v,h1,h2⟩:=ES I.L ht h;exact hval hd hN hfr (fun bt=>h2 a w o hop (fun x _ π' v h hc=>I.E h hc) bt) h1
 have hnew:∀ {d:Nat} {f:Nat→Value} {ty:TypeId} {cs:Array Value},π=[]→Nat.blt ty 9000=true→(execOp a.eval o).run Tryz.prog w=.ok (.value (f w.heap.size)) (w.alloc (.cells cs ty))→o.dst=some d→Nat.blt d N=true→kg d m=true →
  (∀ g w',aC B w0 w' ((g,ty,cs)::bs) rs→k (⟨d,n,[],true,f g⟩::m) ((g,ty,cs)::bs) rs w')→wpList Tryz.prog ops Q (o::rest) a w:=fun hπ hty hr hd hN hfr hk=>
  wN (hw.trans (h0 hπ)) hr hd I.fr (by simpa using hN) fun g a' w' nn p=>next a' _ _ _ _ (I.put (t:=true) ho hd hfr (by simp) (by simp) p) (M.new nn hty) (hk g w' (M.new nn hty))
 split at h
 ·rename_i ty x hop;obtain⟨d,hd,hN,hfr,h⟩:=iF h;obtain⟨u,h1,h⟩:=bR h;rcases oH h with⟨g,off,rfl,hq⟩|h
  case inr=>
   obtain⟨h2,h3⟩:=Nf h;exact hval hd hN hfr (fun bt=>(h2 bt).elim) h3
  obtain⟨D,hD,h⟩:=kD hq;obtain⟨v,h2,h3⟩:=Mh M h hD;exact hval hd hN hfr (fun bt=>h3 bt w (Below.refl _ _) a o x hop (I.E h1 (ht.1 bt))) h2
 ·rename_i ty x y hop;obtain⟨rfl,h⟩:=j9 h;obtain rfl:=h0 rfl;split at h
  ·rename_i hd;rcases h with h|h|h
   ·obtain⟨u,h1,h⟩:=bR h;obtain⟨v,h2,h⟩:=bR h;rcases oH h with⟨g,off,rfl,hq⟩|h
    case inr=>exact h.elim
    obtain⟨D,hD,h⟩:=kD hq;exact RU M h hD hw hop (I.E h1 (by simp)) (I.E h2 (by simp)) hd fun bs' w' M' h=>next a _ _ _ _ I.next M' (h w' M')
   ·obtain⟨u,h1,h⟩:=bR h;obtain⟨v,h2,h⟩:=bR h;rcases oH h with⟨g,off,rfl,hq⟩|h
    case inr=>exact h.elim
    obtain⟨D,hD,h⟩:=kD hq;exact RT M h hD hw hop (I.E h1 (by simp)) (I.E h2 (by simp)) hd fun rs' w' M' h=>next a _ _ _ _ I.next M' (h w' M')
   ·exact D_ I ho hw h next
  ·exact h.elim
 ·rename_i ty hop;obtain⟨hπ,h⟩:=j9 h;obtain⟨d,hd,hN,hfr,z,hz,h⟩:=iF h;obtain⟨hty,h⟩:=bA h;exact hnew (f:=fun n=>.pointer (some ⟨n,0,none⟩)) hπ hty (tH hop hz) hd hN hfr (tP h)
 ·rename_i ty x hop;obtain⟨hπ,h⟩:=j9 h;subst hπ;obtain⟨d,hd,hN,hfr,h⟩:=iF h;obtain⟨u,h1,h⟩:=bR h;obtain⟨hty,h⟩:=bA h;exact hnew (f:=fun n=>.pointer (some ⟨n,0,none⟩)) rfl hty (Nu hop (I.E h1 (by simp))) hd hN hfr (tP h)
 ·rename_i ty len parts hop;obtain⟨hπ,h⟩:=j9 h;subst hπ;obtain⟨d,hd,hN,hfr,h⟩:=iF h;obtain⟨D,hD,h⟩:=kD h;split at h
  ·obtain⟨hps,h⟩:=bA h;obtain⟨hl,hz⟩:=jc h
   cases b0:Nat.blt 0 (len*_) with
   | false=>
    rw[b0,cond_false] at hz;obtain⟨e0,hz⟩:=bA hz;obtain⟨b2,hy⟩:=bA hz;obtain rfl:len=0:=aie e0;obtain rfl:parts=#[]:=by apply Array.toList_inj.1;exact List.eq_nil_of_length_eq_zero hl
    exact hnew (f:=fun n=>.slice (some ⟨n,0,none⟩) 0 0) rfl b2 (Ev hop hD) hd hN hfr hy
   | true=>
    rw[b0] at hz;obtain⟨b1,hz⟩:=bA hz;obtain⟨b2,hz⟩:=bA hz;obtain⟨vs,h1,hz⟩:=j5 hz;obtain⟨h2,h3⟩:=B0 hz;exact hnew (f:=fun n=>.slice (some ⟨n,0,none⟩) len len) rfl b2 (qH hop hD hps hl (by simpa using b0) (by simpa using b1) (I.W2 h1 (by simp)) h3) hd hN hfr h2
  ·exact h.elim
 ·rename_i c hop;split at h
  ·rename_i f qm;obtain⟨vs,h1,h⟩:=j5 h;refine Ru I M ho hp ht hw h0 h Qf (fun bt hok=>?_) next
   have e3:c={ callee:=.value (.func f),args:=c.args,argTypes:=c.argTypes }:=by cases c;simp only at qm;rw[qm]
   exact qK hok (hop.trans (congrArg Op.call e3)) (ko (I.W2 h1 (ht.1 bt)))
  ·rename_i y hy qm;obtain⟨u,h1,h⟩:=bR h;split at h
   ·rename_i f first cap
    obtain⟨vs,h2,h⟩:=j5 h;have h:=cG (cG h);refine Ru I M ho hp ht hw h0 h Qf (fun bt hok=>?_) next
    have e3:c={ callee:=.value y,args:=c.args,argTypes:=c.argTypes }:=by cases c;simp only at qm;rw[qm]
    refine C2 hok (hop.trans (congrArg Op.call e3)) (I.E h1 (ht.1 bt)) ?_;rw[ko (I.W2 h2 (ht.1 bt))];apply Array.toList_inj.1;simp
   ·exact h.elim
  ·rename_i qm;obtain⟨rfl,h⟩:=j9 h;obtain rfl:=h0 rfl;split at h
   ·rename_i s x hargs;split at h
    ·rename_i ty ty' ZK;obtain⟨hty,hq⟩:=bA h;obtain rfl:=aie hty;obtain⟨d,hd,hN,hfr,h⟩:=iF hq;obtain⟨v,h1,h⟩:=bR h;obtain⟨u,h2,h⟩:=bR h;obtain⟨D,hD,h⟩:=kD h;split at h
     ·rename_i e kk Io;obtain⟨hkk,zA,zn,i,nn,xs,mm,news,hM,Wq,hsl,h63,hW,h⟩:=bA h;have e1:c.args=#[s,x]:=Array.toList_inj.1 hargs;have e2:c.argTypes=#[ty,ty]:=Array.toList_inj.1 ZK;have e3:c={ callee:=.builtin .append,args:=#[s,x],argTypes:=#[ty,ty] }:=by cases c;simp only at qm e1 e2;rw[qm,e1,e2]
      obtain⟨hu,hi⟩:=zN hD;exact kpP hw (hop.trans (congrArg Op.call e3)) hu hi hkk (hM M) i Wq (I.E h1 (by simp)) (I.E h2 (by simp)) hsl h63 hd I.fr hN (fun v' a' w' p M'=>next a' _ _ _ _ (I.put (t:=true) (v:=v') ho hd hfr (by simp) (by simp) p) M' (lg (h v' w') M')) hW
     ·exact h.elim
    ·exact h.elim
   ·exact h.elim
  ·obtain⟨d,hd,hN,hfr,h⟩:=iF h;exact JV hop hd hN hfr h
  ·obtain⟨rfl,h⟩:=j9 h;obtain rfl:=h0 rfl;exact D_ I ho hw h next
 all_goals first
  | (obtain⟨rfl,h⟩:=j9 h
     obtain rfl:=h0 rfl;exact D_ I ho hw h next)
  | (rename_i ss tt x hop
     obtain⟨v,h1,h⟩:=bR h;split at h
     ·obtain⟨rfl,h2⟩:=j9 h;obtain rfl:=h0 rfl;exact D_ I ho hw h2 next
     ·obtain⟨rfl,h2⟩:=j9 h;obtain rfl:=h0 rfl;exact D_ I ho hw h2 next
     ·obtain⟨d,hd,hN,hfr,h⟩:=iF h;exact JV hop hd hN hfr h)
  | (rename_i x hop
     obtain⟨rfl,h⟩:=j9 h;obtain rfl:=h0 rfl;obtain⟨v,h1,h⟩:=bR h;split at h
     ·split at h
      ·exact KU hw hop (I.E h1 (by simp)) (Qf _ rfl a _ w ⟨_,_,I⟩ h)
      ·exact h.elim
     ·exact h.elim)
  | (obtain⟨d,hd,hN,hfr,h⟩:=iF h
     exact JV rfl hd hN hfr h)
theorem GX{KP:PK}{K:Slots→List Bx→List Rw→World→Prop}:∀ {L:List Oper} {n:Nat} {a:Act} {m:List eV} {bs:List Bx} {rs:List Rw} {w:World},(∀ i o,L[i]?=some o→ops[n+i]?=some o)→Inv ops a N l m n→aC B w0 w bs rs→vc KP B w0 N l L n m bs rs w K→(∀ Pn,KP=some Pn→∀ a' ch w',(∃ m n,Inv ops a' N l m n)→Pn ch w'→Q (.panic ch) a' w') →
 (∀ a l' bs' rs' w',Fs a N l'→aC B w0 w' bs' rs'→K l' bs' rs' w'→Q .normal a w')→wpList Tryz.prog ops Q L a w
 | [],_,_,_,_,_,_,_,I,M,h,_,next=>by
  obtain⟨l',h1,F⟩:=I.WY h;exact wpList_nil (next _ _ _ _ _ F M h1)
 | o::r,n,_,_,_,_,_,lC,I,M,h,Qf,next=>by
  refine ld I M (by simpa using lC 0 o rfl) h Qf fun a' m' bs' rs' w' I' M' h'=>?_
  exact GX (fun i o hi=>by have:=lC (i+1) o (by simpa using hi);rwa [show n+1+i=n+(i+1) by omega]) I' M' h' Qf next
theorem AU{K:Slots→List Bx→List Rw→World→Prop}{C:Act→World→Prop}:∀ {L:List Oper} {n:Nat} {a:Act} {m:List eV} {bs:List Bx} {rs:List Rw} {w:World},(∀ i o,L[i]?=some o→ops[n+i]?=some o)→Inv ops a N l m n→aC B w0 w bs rs→vc none B w0 N l L n m bs rs w K →
 (∀ a l' bs' rs' w',Fs a N l'→aC B w0 w' bs' rs'→K l' bs' rs' w'→C a w')→jA Tryz.prog ops C L a w
 | [],_,_,_,_,_,_,_,I,M,h,next=>by
  obtain⟨l',h1,F⟩:=I.WY h;exact next _ _ _ _ _ F M h1
 | o::r,n,_,_,_,_,_,lC,I,M,h,next=>by
  intro Q' hQ;refine ld I M (by simpa using lC 0 o rfl) h (fun _ h=>by cases h) fun a' m' bs' rs' w' I' M' h'=>?_
  exact wpList_nil (hQ _ _ (AU (fun i o hi=>by have:=lC (i+1) o (by simpa using hi);rwa [show n+1+i=n+(i+1) by omega]) I' M' h' next))
end
end Go.Proofs.YtkkmjdceiocnbaaGreatDoor
namespace Go.Proofs.YtkkmjdceiocnbaaGreatDoor
open Go Go.RowKit
variable [DS]
def blk:Value→Option Nat
 | .pointer (some p)=>some p.block
 | .slice (some p) _ _=>some p.block
 | _=>none
def UC(w:World)(v:Value):Prop:=∀ b,blk v=some b→w.heap.size≤b
def Far(v u:Value):Prop:=∀ b,blk v=some b→blk u≠some b
theorem Far.symm{v u:Value}(h:Far v u):Far u v:=fun b hb hv=>h b hv hb
section
variable {Q':Exit→Act→World→Prop} {a:Act} {w:World} {g:Good} {s:Nat} {p:Prop}
theorem nk(hP:∀ v a' w',aio w.heap.size w w'→g v w'→(p→UC w v)→Put a s v a'→Q' .normal a' w')(hp:¬ p):∀ v a' w',aio w.heap.size w w'→g v w'→Put a s v a'→Q' .normal a' w':=fun v a' w' h1 h2 h3=>hP v a' w' h1 h2 (fun h=>absurd h hp) h3
theorem pa(hP:∀ v a' w',aio w.heap.size w w'→g v w'→(p→UC w v)→Put a s v a'→Q' .normal a' w'):∀ v a' w',aio w.heap.size w w'→(fun v u=>g v u∧UC w v:Good) v w'→Put a s v a'→Q' .normal a' w':=fun v a' w' h1 h2 h3=>hP v a' w' h1 h2.1 (fun _=>h2.2) h3
end
end Go.Proofs.YtkkmjdceiocnbaaGreatDoor

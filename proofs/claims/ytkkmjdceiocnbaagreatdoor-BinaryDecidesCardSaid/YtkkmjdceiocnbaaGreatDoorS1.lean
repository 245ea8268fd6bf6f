import Derived.Great.BuildSlice
import Derived.Laws.OwnMore
import Derived.Laws.StructEq
import Derived.Laws.Tables
import Derived.Maps.Own
import Derived.Maps.OwnSet
import Derived.Maps.Range
import Derived.Test.YtkkmjdceiocnbaaGreatDoorProg
import Derived.Test.YtkkmjdceiocnbaaGreatDoorS0
open Array renaming getD_eq_getD_getElem?→ajk
open Bool renaming and_eq_true→ajo
open Go.RowKit renaming Below→ajm
open Go.Sem renaming run_bind→ajl
open List renaming getElem?_eq_some_iff→ajn,length_take→ajp,getElem?_map→ajr,mem_of_getElem?→ajs,mem_map→ajt,mem_cons→aju,mem_cons_self→ajw,mem_cons_of_mem→ajx
open Nat renaming eq_of_beq_eq_true→ajv
open Option.some renaming inj→ajq
set_option maxRecDepth 100000
set_option maxHeartbeats 8000000
set_option linter.unusedSectionVars false
set_option linter.unusedSimpArgs false
set_option linter.unusedVariables false
namespace Go.Proofs.YtkkmjdceiocnbaaGreatDoor
open Go Go.RowKit
class DS where ds:List Deferred
instance (priority:=low) DS.none:DS:=⟨[]⟩
variable [DS]
def At(a:Act)(s:Nat)(v:Value):Prop:=a.tmps[s]?=some v
theorem At.ev{a:Act}{s:Nat}{v:Value}(h:At a s v):a.eval (.tmp s)=v:=by
 unfold At at h;show a.tmps.getD s undef=v;rw[ajk,h];rfl
theorem At.eq{a:Act}{s:Nat}{v u:Value}(h:At a s v)(e:v=u):At a s u:=e▸h
structure Fr (a:Act) (N:Nat):Prop where
 defers:a.defers=DS.ds
 size:a.tmps.size=N
structure Put (a:Act) (s:Nat) (v:Value) (a':Act):Prop where
 now:At a' s v
 old:∀ {j:Nat} {u:Value},(j == s)=false→At a j u→At a' j u
 fr:∀ {N:Nat},Fr a N→Fr a' N
theorem Put.eq{a a':Act}{s:Nat}{v u:Value}(h:Put a s v a')(e:v=u):Put a s u a':=e▸h
theorem qL{a:Act}{N d:Nat}{v:Value}(hf:Fr a N)(hd:d<N):Put a d v (a.put (some d) v):=by
 refine⟨?_,fun {j u} hj h=>?_,fun {N} h=>⟨h.defers,?_⟩⟩
 ·show(a.tmps.setIfInBounds d v)[d]?=some v;rw[Array.getElem?_setIfInBounds_self_of_lt (by rw[hf.size];exact hd)]
 ·show(a.tmps.setIfInBounds d v)[j]?=some u;have hne:d≠j:=fun e=>by subst e;simp at hj
  rw[Array.getElem?_setIfInBounds_ne hne];exact h
 ·show(a.tmps.setIfInBounds d v).size=N;rw[Array.size_setIfInBounds];exact h.size
section
variable {P:Program} {ops:Array Oper} {Q:Exit→Act→World→Prop} {a:Act} {w w':World} {rest:List Oper} {o:Oper} {v:Value} {d N:Nat}
theorem gB(hg:o.guard=none):Region.wanted o (yielded ops a.tmps)=true:=by simp[Region.wanted,hg]
theorem Pw{j s:Nat}{b:Bool}(hg:o.guard=some (j,b))(hj:(ops[j]?).bind (·.dst)=some s)(h:At a s (.bool b)):Region.wanted o (yielded ops a.tmps)=true:=by
 unfold At at h;simp[Region.wanted,hg,yielded,hj,h]
theorem ME{j s:Nat}{b c:Bool}(hg:o.guard=some (j,b))(hj:(ops[j]?).bind (·.dst)=some s)(h:At a s (.bool c))(hne:(c == b)=false):Region.wanted o (yielded ops a.tmps)=false:=by
 unfold At at h;simp only[Region.wanted,hg,yielded,hj,Option.bind_some,h];simpa using hne
theorem MD{j s:Nat}{b:Bool}(hg:o.guard=some (j,b))(hj:(ops[j]?).bind (·.dst)=some s)(h:At a s undef):Region.wanted o (yielded ops a.tmps)=false:=by
 unfold At at h;simp only[Region.wanted,hg,yielded,hj,Option.bind_some,h];simp[undef]
theorem pS(hw:Region.wanted o (yielded ops a.tmps)=true)(hr:(execOp a.eval o).run P w=.ok (.value v) w')(hd:o.dst=some d)(hf:Fr a N)(hN:d<N)
 (next:∀ a',Put a d v a'→wpList P ops Q rest a' w'):wpList P ops Q (o::rest) a w:=
 wpList_step fun K hK=>by
  rw[if_pos hw];unfold Oper.wp;rw[hr,Oper.upon_value,hd];exact hK _ _ (next _ (qL hf hN))
theorem D4(hw:Region.wanted o (yielded ops a.tmps)=false)(hd:o.dst=some d)(hf:Fr a N)(hN:d<N)
 (next:∀ a',Put a d undef a'→wpList P ops Q rest a' w):wpList P ops Q (o::rest) a w:=
 wpList_skip hw (by rw[hd];exact next _ (qL hf hN))
theorem RQ(hw:Region.wanted o (yielded ops a.tmps)=true)(hr:(execOp a.eval o).run P w=.ok .skip w')(hd:o.dst=none)(next:wpList P ops Q rest a w'):wpList P ops Q (o::rest) a w:=
 wpList_step fun K hK=>by
  rw[if_pos hw];unfold Oper.wp;rw[hr,Oper.upon_skip,hd];exact hK _ _ next
theorem oK(hw:Region.wanted o (yielded ops a.tmps)=true){f:FuncId}{args:Array Value}(hr:(execOp a.eval o).run P w=.ok (.enter f args) w){R:Value→World→Prop}
 (hc:Calls P f args w fun e w'=>∃ v,e=.returned v∧R v w') (hd:o.dst=some d) (hf:Fr a N) (hN:d<N)
 (next:∀ v a' w',R v w'→Put a d v a'→wpList P ops Q rest a' w'):wpList P ops Q (o::rest) a w:=
 wpList_step fun K hK=>by
  rw[if_pos hw];unfold Oper.wp;rw[hr,Oper.upon_enter];refine hc.mono ?_;rintro e w' ⟨v,rfl,h⟩;show K _ _;rw[hd];exact hK _ _ (next v _ w' h (qL hf hN))
theorem zF{f:FuncId}{args:Array Value}{v:Value}{R:World→Prop}(h:Calls P f args w fun e w'=>e=.returned v∧R w'):Calls P f args w fun e w'=>∃ u,e=.returned u∧(u=v∧R w'):=
 h.mono fun _ _ ⟨h1,h2⟩=>⟨v,h1,rfl,h2⟩
theorem Q0{x:Operand}(ho:o.op=.move x)(hx:a.eval x=v):(execOp a.eval o).run P w=.ok (.value v) w:=by
 unfold execOp;simp only[ho,hx];rfl
theorem Cv{x:Operand}(ho:o.op=.assign x)(hx:a.eval x=v):(execOp a.eval o).run P w=.ok (.value v) w:=by
 unfold execOp;simp only[ho,hx];rfl
theorem WG{c x y:Operand}{t:Bool}{u:Value}(ho:o.op=.pick c x y)(hc:a.eval c=.bool t)(hx:a.eval x=v)(hy:a.eval y=u):(execOp a.eval o).run P w=.ok (.value (if t then v else u)) w:=by
 unfold execOp;simp only[ho,hc,hx,hy];cases t<;>rfl
theorem Q8{x:Operand}{ty:TypeId}(ho:o.op=.box ty x)(hx:a.eval x=v):(execOp a.eval o).run P w=.ok (.value (.pointer (some ⟨w.heap.size,0,none⟩))) (w.alloc (.cells v.cells ty)):=by
 unfold execOp;simp only[ho,hx,ajl,Instr.box,newVar,newRow,run_newObj_alloc,Sem.run_pure,Result.andThen_ok]
theorem OY{ty:TypeId}{z:Value}(hz:(P.info? ty).bind (·.zero)=some z)(w:World):(zeroValue ty).run P w=.ok z w:=by
 unfold zeroValue typeInfo
 cases hi:P.info? ty with
 | none=>rw[hi] at hz;cases hz
 | some i=>
  rw[hi] at hz;have hz':i.zero=some z:=hz;simp[ajl,hi,hz']
theorem yL{ty:TypeId}{z:Value}(ho:o.op=.alloc ty)(hz:(P.info? ty).bind (·.zero)=some z):(execOp a.eval o).run P w=.ok (.value (.pointer (some ⟨w.heap.size,0,none⟩))) (w.alloc (.cells z.cells ty)):=by
 unfold execOp;simp only[ho,Instr.alloc,ajl,OY hz,Result.andThen_ok,newVar,newRow,run_newObj_alloc,Sem.run_pure]
theorem A0{ty:TypeId}{x:Operand}{p:Addr}{dd:TypeDesc}(ho:o.op=.load ty x)(hx:a.eval x=.pointer (some p))(hu:P.underlying ty=some dd)
 (hd:(match dd with|.struct _|.array _ _=>false|_=>true)=true) (hc:w.cell? p=some v):(execOp a.eval o).run P w=.ok (.value v) w:=by
 have hagg:(isAgg ty).run P w=.ok false w:=by
  unfold isAgg;rw[ajl,run_underlying hu w];cases dd<;>simp_all
 unfold execOp;simp only[ho,hx,Instr.loadAt,Instr.sureAddr,ajl,Sem.run_pure,Result.andThen_ok,loadVar,hagg];simp[run_load,hc]
theorem ux{ty:TypeId}{x:Operand}{g f:Nat}(cs:List Value){dd:TypeDesc}(ho:o.op=.load ty x)(hx:a.eval x=.pointer (some ⟨g,f,none⟩))(hu:P.underlying ty=some dd)
 (hd:(match dd with|.struct _|.array _ _=>true|_=>false)=true) (hi:(P.info? ty).map (·.size)=some cs.length) (hc:∀ j u,cs[j]?=some u→w.cell? ⟨g,f+j,none⟩=some u):(execOp a.eval o).run P w=.ok (.value (.agg cs.toArray)) w:=by
 unfold execOp;simp only[ho,hx,Instr.loadAt,Instr.sureAddr,ajl,Sem.run_pure,Result.andThen_ok,Ae w g f ty cs dd hc hu hd hi]
theorem JT{x:Operand}{p:Addr}(ho:o.op=.nilCheck x)(hx:a.eval x=.pointer (some p)):(execOp a.eval o).run P w=.ok (.value (.pointer (some p))) w:=by
 unfold execOp;simp only[ho,hx];rfl
theorem Tn{ty:TypeId}{x:Operand}{f g off:Nat}{fs:Array Field}{fd:Field}{k:Nat}(ho:o.op=.fieldAddr ty x f)(hx:a.eval x=.pointer (some ⟨g,off,none⟩))(hu:P.underlying ty=some (.struct fs))(hf:fs[f]?=some fd)
 (hs:(P.info? fd.type).map (·.size)=some (k+1)):(execOp a.eval o).run P w=.ok (.value (.pointer (some ⟨g,off+fd.offset,none⟩))) w:=by
 have hadd:(⟨g,off,none⟩:Addr).add fd.offset=⟨g,off+fd.offset,none⟩:=by unfold Addr.add;split<;>simp_all
 have hsz:(sizeOf fd.type).run P w=.ok (k+1) w:=by
  cases hq:P.info? fd.type with
  | none=>simp[hq] at hs
  | some i=>
   have hs':i.size=k+1:=by simpa[hq] using hs
   simp[sizeOf,typeInfo,hq,hs',ajl]
 unfold execOp;simp only[ho,hx,Instr.fieldAt,ajl,run_underlying hu w,Result.andThen_ok,hf,Instr.sureAddr,Sem.run_pure,fieldPlace,hsz];simp[hadd]
theorem run_sizeOf{ty:TypeId}{k:Nat}(hs:(P.info? ty).map (·.size)=some k)(w:World):(sizeOf ty).run P w=.ok k w:=by
 cases hq:P.info? ty with
 | none=>simp[hq] at hs
 | some i=>
  have hs':i.size=k:=by simpa[hq] using hs
  simp[sizeOf,typeInfo,hq,hs',ajl]
theorem G_{ty e:TypeId}{x y:Operand}{g off n c i k:Nat}{ik:IntKind}(ho:o.op=.indexAddr ty x y)(hx:a.eval x=.slice (some ⟨g,off,none⟩) n c)(hy:a.eval y=.int ik (i:Int))(hi:i<n)(hu:P.underlying ty=some (.slice e))
 (hs:(P.info? e).map (·.size)=some k):(execOp a.eval o).run P w=.ok (.value (.pointer (some ⟨g,off+i*k,none⟩))) w:=by
 have hadd:(⟨g,off,none⟩:Addr).add (i*k)=⟨g,off+i*k,none⟩:=by unfold Addr.add;split<;>simp_all
 unfold execOp;simp only[ho,hx,hy,Instr.indexAt,asIntOf,ajl,run_underlying hu w,Result.andThen_ok,Sem.run_pure];have h1:(0:Int)≤(i:Int)∧(i:Int)<(n:Int):=by omega
 simp[h1,run_sizeOf hs,hadd]
theorem JV{ty e:TypeId}{x y:Operand}{g off n i k:Nat}{ik:IntKind}(ho:o.op=.indexAddr ty x y)(hx:a.eval x=.pointer (some ⟨g,off,none⟩))(hy:a.eval y=.int ik (i:Int))(hi:i<n)(hu:P.underlying ty=some (.array n e))
 (hs:(P.info? e).map (·.size)=some k):(execOp a.eval o).run P w=.ok (.value (.pointer (some ⟨g,off+i*k,none⟩))) w:=by
 have hadd:(⟨g,off,none⟩:Addr).add (i*k)=⟨g,off+i*k,none⟩:=by unfold Addr.add;split<;>simp_all
 unfold execOp;simp only[ho,hx,hy,Instr.indexAt,asIntOf,ajl,run_underlying hu w,Result.andThen_ok,Sem.run_pure,Instr.sureAddr];have h1:(0:Int)≤(i:Int)∧(i:Int)<(n:Int):=by omega
 simp[h1,run_sizeOf hs,hadd]
theorem JU{ty:TypeId}{x y:Operand}{s:ByteArray}{i:Nat}{ik:IntKind}(ho:o.op=.index ty x y)(hx:a.eval x=.string s)(hy:a.eval y=.int ik (i:Int))(hi:i<s.size)(hu:P.underlying ty=some .string):
 (execOp a.eval o).run P w=.ok (.value (.int .u8 ((s[i]'hi).toNat:Int))) w:=by
 unfold execOp;simp only[ho,hx,hy,Instr.index,asIntOf,ajl,run_underlying hu w,Result.andThen_ok,Sem.run_pure];simp[hi]
section
variable {ty yt:TypeId} {x y:Operand} {k:IntKind} {m n:Int}
theorem Zw(ho:o.op=.binOp .lss ty x y yt)(hx:a.eval x=.int k m)(hy:a.eval y=.int k n):(execOp a.eval o).run P w=.ok (.value (.bool (decide (m<n)))) w:=by
 unfold execOp;simp[ho,hx,hy,eqGuard,binOp,Op.intCmp]
theorem Zx(ho:o.op=.binOp .leq ty x y yt)(hx:a.eval x=.int k m)(hy:a.eval y=.int k n):(execOp a.eval o).run P w=.ok (.value (.bool (decide (m≤n)))) w:=by
 unfold execOp;simp[ho,hx,hy,eqGuard,binOp,Op.intCmp]
theorem Cu(ho:o.op=.binOp .gtr ty x y yt)(hx:a.eval x=.int k m)(hy:a.eval y=.int k n):(execOp a.eval o).run P w=.ok (.value (.bool (decide (n<m)))) w:=by
 unfold execOp;simp[ho,hx,hy,eqGuard,binOp,Op.intCmp]
theorem Zz(ho:o.op=.binOp .geq ty x y yt)(hx:a.eval x=.int k m)(hy:a.eval y=.int k n):(execOp a.eval o).run P w=.ok (.value (.bool (decide (n≤m)))) w:=by
 unfold execOp;simp[ho,hx,hy,eqGuard,binOp,Op.intCmp]
theorem ZA(ho:o.op=.binOp .eql ty x y yt)(hx:a.eval x=.int k m)(hy:a.eval y=.int k n):(execOp a.eval o).run P w=.ok (.value (.bool (decide (m=n)))) w:=by
 unfold execOp;simp[ho,hx,hy,eqGuard,binOp,Op.intCmp];rfl
theorem Zu(ho:o.op=.binOp .neq ty x y yt)(hx:a.eval x=.int k m)(hy:a.eval y=.int k n):(execOp a.eval o).run P w=.ok (.value (.bool (!decide (m=n)))) w:=by
 unfold execOp;simp[ho,hx,hy,eqGuard,binOp,Op.intCmp];rfl
theorem ZC(ho:o.op=.binOp .add ty x y yt)(hx:a.eval x=.int k m)(hy:a.eval y=.int k n):(execOp a.eval o).run P w=.ok (.value (.int k (k.wrap (m+n)))) w:=by
 unfold execOp;simp[ho,hx,hy,eqGuard,binOp,Op.intArith]
theorem Zr(ho:o.op=.binOp .sub ty x y yt)(hx:a.eval x=.int k m)(hy:a.eval y=.int k n):(execOp a.eval o).run P w=.ok (.value (.int k (k.wrap (m-n)))) w:=by
 unfold execOp;simp[ho,hx,hy,eqGuard,binOp,Op.intArith]
theorem Us(ho:o.op=.binOp .mul ty x y yt)(hx:a.eval x=.int k m)(hy:a.eval y=.int k n):(execOp a.eval o).run P w=.ok (.value (.int k (k.wrap (m*n)))) w:=by
 unfold execOp;simp[ho,hx,hy,eqGuard,binOp,Op.intArith]
theorem ZB(ho:o.op=.binOp .and ty x y yt)(hx:a.eval x=.int k m)(hy:a.eval y=.int k n):(execOp a.eval o).run P w=.ok (.value (.int k (k.wrap (BitVec.ofInt k.bits m&&&BitVec.ofInt k.bits n).toNat))) w:=by
 unfold execOp;simp[ho,hx,hy,eqGuard,binOp,Op.intBits]
theorem adx(ho:o.op=.binOp .or ty x y yt)(hx:a.eval x=.int k m)(hy:a.eval y=.int k n):(execOp a.eval o).run P w=.ok (.value (.int k (k.wrap (BitVec.ofInt k.bits m|||BitVec.ofInt k.bits n).toNat))) w:=by
 unfold execOp;simp[ho,hx,hy,eqGuard,binOp,Op.intBits]
theorem Zq(ho:o.op=.binOp .xor ty x y yt)(hx:a.eval x=.int k m)(hy:a.eval y=.int k n):(execOp a.eval o).run P w=.ok (.value (.int k (k.wrap (BitVec.ofInt k.bits m ^^^ BitVec.ofInt k.bits n).toNat))) w:=by
 unfold execOp;simp[ho,hx,hy,eqGuard,binOp,Op.intBits]
theorem Q9(ho:o.op=.binOp .andNot ty x y yt)(hx:a.eval x=.int k m)(hy:a.eval y=.int k n):(execOp a.eval o).run P w=.ok (.value (.int k (k.wrap (BitVec.ofInt k.bits m&&&~~~ BitVec.ofInt k.bits n).toNat))) w:=by
 unfold execOp;simp[ho,hx,hy,eqGuard,binOp,Op.intBits]
theorem Zs{b:Bool}(ho:o.op=.unOp .not ty x)(hx:a.eval x=.bool b):(execOp a.eval o).run P w=.ok (.value (.bool (!b))) w:=by
 unfold execOp;simp[ho,hx,Op.unary]
theorem Zt(ho:o.op=.unOp .neg ty x)(hx:a.eval x=.int k m):(execOp a.eval o).run P w=.ok (.value (.int k (k.wrap (0-m)))) w:=by
 unfold execOp;simp[ho,hx,Op.unary,Op.intArith]
theorem Q7{s t:ByteArray}(ho:o.op=.binOp .eql ty x y yt)(hx:a.eval x=.string s)(hy:a.eval y=.string t):(execOp a.eval o).run P w=.ok (.value (.bool (s.toList == t.toList))) w:=by
 unfold execOp;simp[ho,hx,hy,eqGuard,binOp,Op.stringOp]
theorem QZ{s t:ByteArray}(ho:o.op=.binOp .neq ty x y yt)(hx:a.eval x=.string s)(hy:a.eval y=.string t):(execOp a.eval o).run P w=.ok (.value (.bool (!(s.toList == t.toList)))) w:=by
 unfold execOp;simp[ho,hx,hy,eqGuard,binOp,Op.stringOp]
def bT(s:ByteArray):Bool:=s.toList == (⟨#[]⟩:ByteArray).toList
end
theorem Tm{t e:TypeId}{x:Operand}{g:Option Addr}{n c:Nat}(ho:o.op=.call { callee:=.builtin .len,args:=#[x],argTypes:=#[t] })(hx:a.eval x=.slice g n c)(hu:P.underlying t=some (.slice e)):
 (execOp a.eval o).run P w=.ok (.value (.int .i64 (n:Int))) w:=by
 unfold execOp;simp[ho,hx,resolve,invoke,builtin,Builtin.len_,run_underlying hu,ajl,goInt]
theorem Q6{t:TypeId}{x:Operand}{s:ByteArray}(ho:o.op=.call { callee:=.builtin .len,args:=#[x],argTypes:=#[t] })(hx:a.eval x=.string s)(hu:P.underlying t=some .string):
 (execOp a.eval o).run P w=.ok (.value (.int .i64 (s.size:Int))) w:=by
 unfold execOp;simp[ho,hx,resolve,invoke,builtin,Builtin.len_,run_underlying hu,ajl,goInt]
theorem ND{x:Operand}{i:Nat}{vs:Array Value}(ho:o.op=.extract x i)(hx:a.eval x=.tuple vs)(hi:vs[i]?=some v):(execOp a.eval o).run P w=.ok (.value v) w:=by
 unfold execOp;simp[ho,hx,Instr.extract,hi]
theorem WO{f:FuncId}{xs:Array Operand}{ts:Array TypeId}{fn:Func}{c:Code}{args:Array Value}(ho:o.op=.call { callee:=.value (.func f),args:=xs,argTypes:=ts })(hf:P.funcs[f]?=some fn) (hn:(fn.name == "runtime.NumGoroutine")=false) (hb:fn.body=some c)
 (ha:xs.map a.eval=args):(execOp a.eval o).run P w=.ok (.enter f args) w:=by
 have h0:fn.body.isNone=false:=by rw[hb];rfl
 unfold execOp;simp only[ho,resolve,ha,Act.eval,Deferred.ofValue,invoke,callFunc,ajl,Sem.run_pure,Result.andThen_ok,run_program,hf,hn,h0];simp
theorem yK{t e:TypeId}{len k:Nat}{parts:Array (Nat×Operand)}{cells:Array Value}{z:Value}(ho:o.op=.buildSlice t len parts)(hu:P.underlying t=some (.slice e))(hs:(P.info? e).map (·.size)=some k)(hz:(P.info? e).bind (·.zero)=some z)
 (hsmall:len*k≤2^24) (hpos:0<len*k) {pv:Array (Nat×Value)} (hp:(parts.map fun(i,x)=>(i,a.eval x))=pv) (h:Instr.fill (fun i=>some (i*k,k)) ((Array.range (len*k)).map (z.cells[·%z.cells.size]!)) pv.toList=some cells) :
 (execOp a.eval o).run P w=.ok (.value (.slice (some ⟨w.heap.size,0,none⟩) len len)) (w.alloc (.cells cells e)):=by
 subst hp
 cases hi:P.info? e with
 | none=>rw[hi] at hz;cases hz
 | some i=>
  rw[hi] at hz hs;have hz':i.zero=some z:=hz;have hs':i.size=k:=by simpa using hs
  subst hs';have:=run_buildSlice (P:=P) w t e len (parts.map fun(i,x)=>(i,a.eval x)) cells i z hu hi hz' (by omega) (by omega) h;unfold execOp;simp only[ho,ajl,this,Result.andThen_ok,Sem.run_pure]
structure New (w w':World) (g:Nat) (ty:TypeId) (cs:Array Value):Prop where
 at_:w.heap.size=g
 eq:w'=w.alloc (.cells cs ty)
theorem New.whole{g:Nat}{ty:TypeId}{cs:Array Value}(h:New w w' g ty cs):Whole w' g ty cs:=by
 rw[h.eq,← h.at_];exact Whole.new w ty cs
theorem New.below{g:Nat}{ty:TypeId}{cs:Array Value}(h:New w w' g ty cs):ajm w.heap.size w w':=by
 rw[h.eq];exact(Below.refl _ w).alloc (Nat.le_refl _) _
theorem Bk(hw:Region.wanted o (yielded ops a.tmps)=true){ty:TypeId}{cs:Array Value}{f:Nat→Value}(hr:(execOp a.eval o).run P w=.ok (.value (f w.heap.size)) (w.alloc (.cells cs ty)))(hd:o.dst=some d)(hf:Fr a N)(hN:d<N)
 (next:∀ g a' w',New w w' g ty cs→Put a d (f g) a'→wpList P ops Q rest a' w'):wpList P ops Q (o::rest) a w:=
 pS hw hr hd hf hN fun a' p=>next w.heap.size a' _ ⟨rfl,rfl⟩ p
theorem uP(hw:Region.wanted o (yielded ops a.tmps)=true){ty:TypeId}{x y:Operand}(ho:o.op=.store ty x y){g f:Nat}(hx:a.eval x=.pointer (some ⟨g,f,none⟩))(hy:a.eval y=v){t:TypeId}{cs cs':Array Value}(H:Whole w g t cs)
 {l:List Value} (hl:v.cells.toList=l) (hfit:f+l.length≤cs.size) (hi:(P.info? ty).map (·.size)=some l.length) (h1:l.all (·.oneCell')=true) (hsp:splice cs f l=cs') (hd:o.dst=none)
 (next:∀ w',zG w w' g→Whole w' g t cs'→wpList P ops Q rest a w'):wpList P ops Q (o::rest) a w:=by
 subst hl hsp;have hsz:v.cells.size=v.cells.toList.length:=by simp
 refine wpList_step fun K hK=>?_
 rw[if_pos hw];refine DZ ty x y ho g f v hx hy t cs H (by rw[hsz];exact hfit) (by rw[hsz];exact hi) h1 fun w' h2 h3=>?_
 rw[hd];exact hK _ _ (next w' h2 h3)
theorem WM{ty yt:TypeId}{x y:Operand}{xs ys:Array Value}{b:Bool}(ho:o.op=.binOp .eql ty x y yt)(hx:a.eval x=.agg xs)(hy:a.eval y=.agg ys)(hm:P.eqGuardType P.depth ty=false)
 (hq:(Op.equalIn 10000 ty (.agg xs) (.agg ys)).run P w=.ok b w):(execOp a.eval o).run P w=.ok (.value (.bool b)) w:=by
 unfold execOp;simp[ho,hx,hy,run_eqGuard_agg (hm:=hm),run_eql_struct,hq]
theorem WI{ty yt:TypeId}{x y:Operand}{xs ys:Array Value}{b:Bool}(ho:o.op=.binOp .neq ty x y yt)(hx:a.eval x=.agg xs)(hy:a.eval y=.agg ys)(hm:P.eqGuardType P.depth ty=false)
 (hq:(Op.equalIn 10000 ty (.agg xs) (.agg ys)).run P w=.ok b w):(execOp a.eval o).run P w=.ok (.value (.bool (!b))) w:=by
 unfold execOp;simp[ho,hx,hy,run_eqGuard_agg (hm:=hm),run_neq_struct,hq]
theorem EZ{t:TypeId}{parts:Array (Nat×Operand)}{cells:Array Value}(ho:o.op=.build t parts){pv:Array (Nat×Value)}(hp:(parts.map fun(i,x)=>(i,a.eval x))=pv)(h:P.built t pv.toList=some cells):
 (execOp a.eval o).run P w=.ok (.value (.agg cells)) w:=by
 subst hp;unfold execOp;simp only[ho,ajl,run_build w t _ cells h,Result.andThen_ok,Sem.run_pure]
theorem _root_.Go.RowKit.Below.step{w0 w1 w2:World}{B:Nat}(h:ajm B w0 w1)(k:ajm w1.heap.size w1 w2)(hB:B≤w1.heap.size):ajm B w0 w2:=h.trans (k.mono hB)
end
theorem vL(cs:Array Value)(l:List Value)(h:cs.size=l.length):splice cs 0 l=l.toArray:=by
 apply Array.toList_inj.1;rw[rZ _ _ _ (by omega)];simp[List.drop_of_length_le (show cs.toList.length≤l.length by simp[h])]
section
variable {w:World} {a:Act} {g f:Nat} {t:TypeId} {cs:Array Value}
theorem Bl{l:List Value}(h:Whole w g t cs)(hl:l=(cs.toList.drop f).take l.length):∀ j u,l[j]?=some u→w.cell? ⟨g,f+j,none⟩=some u:=fun j u hu=>by
 rw[h.cell];have hj:j<l.length:=(ajn.1 hu).1;rw[hl,List.getElem?_take,if_pos hj,List.getElem?_drop] at hu;simpa using hu
theorem ef{b o:Nat}{k l:List Value}(h:∀ j u,k[j]?=some u→w.cell? ⟨b,o+j,none⟩=some u)(hl:l=(k.drop f).take l.length):∀ j u,l[j]?=some u→w.cell? ⟨b,o+f+j,none⟩=some u:=fun j u hu=>by
 have hj:j<l.length:=(ajn.1 hu).1;rw[hl,List.getElem?_take,if_pos hj,List.getElem?_drop] at hu;rw[Nat.add_assoc];exact h _ u hu
variable {x1 x2 x3 x4 x5 x6:Operand} {v1 v2 v3 v4 v5 v6:Value}
end
theorem wrap_i64{n:Int}(h:-9223372036854775808≤n∧n≤9223372036854775807):IntKind.i64.wrap n=n:=IntWalk.i64_in n h
section
variable {P:Program} {Q:Exit→Act→World→Prop} {a:Act} {w:World}
theorem Om{f:FuncId}{fn:Func}{c:Code}{args:Array Value}{R:Ending→World→Prop}{N:Nat}(hf:P.funcs[f]?=some fn)(hb:fn.body=some c)(hn:fn.ntmps=N)(hN:args.size≤N)
 (h:∀ a,Fr a N→(∀ i v,args[i]?=some v→At a i v)→c.wp P (bodyPost P fn R) a w) (hD:DS.ds=[]:=by rfl):Calls P f args w R:=by
 refine calls_of_wp hf hb (h _ ⟨hD.symm,?_⟩ ?_)
 ·simp;omega
 ·intro i v hv;have hi:i<args.size:=(Array.getElem?_eq_some_iff.1 hv).1;show(args++Array.replicate (fn.ntmps-args.size) undef)[i]?=some v;rw[Array.getElem?_append_left hi];exact hv
theorem bC{id:Nat}{l:List Oper}(h:wpList P l.toArray Q l a w):(Code.region id l.toArray false).wp P Q a w:=wp_region_lit h
theorem Oj{fn:Func}{R:Ending→World→Prop}{N s:Nat}{v:Value}(hr:fn.results=#[.tmp s])(hf:Fr a N)(h:At a s v)(hR:R (.returned v) w)(hD:DS.ds=[]:=by rfl):bodyPost P fn R .ret a w:=by
 refine⟨hf.defers.trans hD,v,?_,hR⟩;have he:a.tmps.getD s undef=v:=h.ev;rw[ajk] at he;simp[results,hr,he]
theorem KA{fn:Func}{R:Ending→World→Prop}{N s t:Nat}{v u:Value}(hr:fn.results=#[.tmp s,.tmp t])(hf:Fr a N)(h:At a s v)(k:At a t u)(hR:R (.returned (.tuple #[v,u])) w)(hD:DS.ds=[]:=by rfl):bodyPost P fn R .ret a w:=by
 refine⟨hf.defers.trans hD,_,?_,hR⟩;have he:a.tmps.getD s undef=v:=h.ev;have ke:a.tmps.getD t undef=u:=k.ev;rw[ajk] at he ke;simp[results,hr,he,ke]
theorem Kz{fn:Func}{R:Ending→World→Prop}{N s t r:Nat}{v u x:Value}(hr:fn.results=#[.tmp s,.tmp t,.tmp r])(hf:Fr a N)(h:At a s v)(k:At a t u)(l:At a r x)(hR:R (.returned (.tuple #[v,u,x])) w)(hD:DS.ds=[]:=by rfl):bodyPost P fn R .ret a w:=by
 refine⟨hf.defers.trans hD,_,?_,hR⟩;have he:a.tmps.getD s undef=v:=h.ev;have ke:a.tmps.getD t undef=u:=k.ev;have le:a.tmps.getD r undef=x:=l.ev;rw[ajk] at he ke le;simp[results,hr,he,ke,le]
theorem KC{fn:Func}{R:Ending→World→Prop}{N:Nat}(hr:fn.results=#[])(hf:Fr a N)(hR:R (.returned (.tuple #[])) w)(hD:DS.ds=[]:=by rfl):bodyPost P fn R .ret a w:=by
 refine⟨hf.defers.trans hD,_,?_,hR⟩;simp[results,hr]
theorem tK{fn:Func}{R:Ending→World→Prop}(h:bodyPost P fn R .ret a w):bodyPost P fn R .normal a w:=h
theorem least{p:Nat→Prop}:∀ n,p n→∃ n,p n∧∀ m,p m→n≤m:=by
 intro n
 induction n using Nat.strongRecOn with
 | _ n ih=>
  intro hn;by_cases h:∃ m,m<n∧p m
  ·obtain⟨m,hm,hp⟩:=h;exact ih m hm hp
  ·exact⟨n,hn,fun m hm=>Nat.le_of_not_lt fun hlt=>h ⟨m,hlt,hm⟩⟩
theorem RR{ι:Type}{c:Code}(I:ι→Act→World→Prop)(μ:ι→Nat)(x:ι)(h0:I x a w)
 (round:∀ x a w,I x a w→c.wp P (Exit.then (fun a' w'=>∃ x',I x' a' w'∧μ x'<μ x) Q) a w):(Code.loop c).wp P Q a w:=by
 classical
 have hex:∀ a w,(∃ x,I x a w)→∃ n,(∃ x,I x a w∧μ x=n)∧∀ m,(∃ x,I x a w∧μ x=m)→n≤m:=fun a w ⟨x,hx⟩=>least (μ x) ⟨x,hx,rfl⟩
 refine wp_loop (fun a w=>∃ x,I x a w) (fun a w=>if h:∃ x,I x a w then Classical.choose (hex a w h) else 0) ⟨x,h0⟩ ?_;intro a w h;obtain⟨⟨x,hx,hm⟩,-⟩:=Classical.choose_spec (hex a w h);refine Code.wp_mono ?_ (round x a w hx);intro e a' w' hq
 cases e with
 | normal=>
  obtain⟨x',hx',hlt⟩:=hq;refine⟨⟨x',hx'⟩,?_⟩;rw[dif_pos ⟨x',hx'⟩,dif_pos h];exact Nat.lt_of_le_of_lt ((Classical.choose_spec (hex a' w' ⟨x',hx'⟩)).2 _ ⟨x',hx',rfl⟩) (by rw[← hm];exact hlt)
 | _=>exact hq
end
abbrev Good:=Value→World→Prop
def mZ(P:Program)(ops:Array Oper)(K:Act→World→Prop):List Oper→Act→World→Prop
 | [],a,w=>K a w
 | o::r,a,w=>∀ Q':Exit→Act→World→Prop,(∀ a w,mZ P ops K r a w→Q' .normal a w)→wpList P ops Q' [o] a w
structure HU (slots:List Nat) (cF:List Good) (inv:World→Prop) (a0:Act) (N:Nat) (L:Nat→Bool) (a:Act) (w:World):Prop where
 fr:Fr a N
 inv:inv w
 done:∀ i,L i=true→∀ s g,slots[i]?=some s→cF[i]?=some g→∃ v,At a s v∧g v w
 rest:∀ j u,slots.contains j=false→At a0 j u→At a j u
def tG(P:Program)(ops:Array Oper)(slots:List Nat)(cF:List Good)(inv:World→Prop)(a0:Act)(N:Nat):List Oper→List Good→Prop
 | [],_=>True
 | _::_,[]=>False
 | o::r,g::gs=>(∀ (a:Act) (w:World) (Q':Exit→Act→World→Prop),Fr a N→inv w →
  (∀ k,(∃ gr,(⟨k,gr⟩:Edge)∈o.after.toList∧Region.binds .any ⟨k,gr⟩=true)→∀ s g,slots[k]?=some s→cF[k]?=some g→∃ v,At a s v∧g v w) →
  (∀ j u,slots.contains j=false→At a0 j u→At a j u) →
  (∀ v a' w',ajm w.heap.size w w'→g v w'→Put a (o.dst.getD 0) v a'→Q' .normal a' w')→wpList P ops Q' [o] a w)∧tG P ops slots cF inv a0 N r gs
theorem E5{P:Program}{ops:Array Oper}{slots:List Nat}{cF:List Good}{inv:World→Prop}{a0:Act}{N:Nat}:∀ (l:List Oper) (gs:List Good),tG P ops slots cF inv a0 N l gs→∀ (i:Nat) (o:Oper),l[i]?=some o →
 (∀ (a:Act) (w:World) (Q':Exit→Act→World→Prop),Fr a N→inv w →
  (∀ k,(∃ gr,(⟨k,gr⟩:Edge)∈o.after.toList∧Region.binds .any ⟨k,gr⟩=true)→∀ s g,slots[k]?=some s→cF[k]?=some g→∃ v,At a s v∧g v w) →
  (∀ j u,slots.contains j=false→At a0 j u→At a j u) →
  (∀ v a' w',ajm w.heap.size w w'→(∀ g:Good,gs[i]?=some g→g v w')→Put a (o.dst.getD 0) v a'→Q' .normal a' w')→wpList P ops Q' [o] a w)
 | [],_,_,i,o,h=>by simp at h
 | _::_,[],h,_,_,_=>h.elim
 | x::r,g::gs,h,0,o,ho=>by
  simp at ho;subst ho;exact fun a w Q' h1 h2 h3 h4 h5=>h.1 a w Q' h1 h2 h3 h4 fun v a' w' hb hg hp=>h5 v a' w' hb (fun g' e=>by simp at e;rw[← e];exact hg) hp
 | x::r,g::gs,h,i+1,o,ho=>by
  have:=E5 r gs h.2 i o (by simpa using ho);simpa using this
def Ig(k:Nat)(l:List Oper):Bool:=(List.range l.length).all fun j=>decide (j<k)||consumed (l.take (j+1))
theorem yh:∀ (k m:Nat) (l:List Oper),ordered k l=true→ordered k (l.take m)=true
 | _,0,_,_=>by simp[ordered]
 | _,_+1,[],_=>by simp[ordered]
 | k,m+1,o::r,h=>by
  simp only[ordered,ajo] at h;simp only[List.take_succ_cons,ordered,ajo];exact⟨h.1,yh (k+1) m r h.2⟩
theorem zZ{l:List Oper}(jQ:ordered 0 l=true){k:Nat}(ht:Ig k l=true)(L:Nat→Bool)(hcl:∀ j o,l[j]?=some o→L j=true→∀ e∈o.after.toList,Region.binds .any e=true→L e.on=true)
 {j:Nat} {o:Oper} (hj:l[j]?=some o) (hk:k≤j) (mN:∀ e∈o.after.toList,Region.binds .any e=true→L e.on=true):∀ i,i<j→L i=true:=by
 have hlt:=(ajn.1 hj).1
 have hc:consumed (l.take (j+1))=true:=by
  have:=List.all_eq_true.1 ht j (by simpa using hlt);simp only[Bool.or_eq_true,decide_eq_true_eq] at this;exact this.resolve_left (by omega)
 refine Ko (l:=l.take (j+1)) (yh 0 _ l jQ) hc L (n:=j) (by rw[ajp];omega) ?_ ?_
 ·intro i o' hi hij hL;rw[List.getElem?_take,if_pos (by omega)] at hi;exact hcl i o' hi hL
 ·intro o' ho';rw[List.getElem?_take,if_pos (by omega)] at ho';obtain rfl:o=o':=ajq (hj.symm.trans ho');exact mN
section
variable {P:Program} {Q:Exit→Act→World→Prop}
theorem Bh{id:Nat}{l:List Oper}{a:Act}{w:World}{N:Nat}(k:Nat)(slots:List Nat)(cF:List Good)(inv:World→Prop)
 (hm:P.follows .mixedOrders=true) (jQ:ordered 0 l=true) (htail:Ig k l=true) (zq:(l.take k).map (·.dst)=slots.map some) (hnd:slots.Nodup) (_:slots.all (fun s=>decide (s<N))=true) (_:cF.length=slots.length)
 (hf:Fr a N) (h0:inv w.drew) (hinv:∀ w w',inv w→ajm w.heap.size w w'→inv w') (hst:tD cF)
 (hstep:tG P l.toArray slots cF inv a N (l.take k) cF)
 (hend:∀ a' w',HU slots cF inv a N (fun _=>true) a' w'→mZ P l.toArray (Q .normal) (l.drop k) a' w'):(Code.region id l.toArray true).wp P Q a w:=by
 have acq:=DB hst
 have hk:slots.length=(l.take k).length:=by
  have:=congrArg List.length zq;simpa using this.symm
 have hsl:∀ (i:Nat) (o:Oper),i<k→l[i]?=some o→∃ s,slots[i]?=some s∧o.dst=some s:=fun i o hi ho=>by
  have h:=congrArg (fun x:List (Option Tmp)=>x[i]?) zq;simp only[ajr,List.getElem?_take,if_pos hi,ho,Option.map_some] at h
  cases hs:slots[i]? with
  | none=>rw[hs] at h;cases h
  | some s=>rw[hs] at h;exact⟨s,rfl,ajq h⟩
 refine rX hm jQ (fun L b u=>(∀ j o,l[j]?=some o→L j=true→∀ e∈o.after.toList,Region.binds .any e=true→L e.on=true) ∧
  ((∀ j,k≤j→j<l.length→L j=false)→HU slots cF inv a N L b u) ∧
  (∀ j,k≤j→j<l.length→L j=true→(∀ j',j<j'→j'<l.length→L j'=false)→mZ P l.toArray (Q .normal) (l.drop (j+1)) b u)) ?_ ?_ ?_
 ·exact⟨fun _ _ _ h=>(by cases h),fun _=>⟨hf,h0,(fun i h=>(by cases h)),fun _ _ _ h=>h⟩,fun _ _ _ h=>(by cases h)⟩
 ·have key:∀ (i:Nat) (o:Oper),l[i]?=some o→∀ (L:Nat→Bool) (b:Act) (u:World) (Q':Exit→Act→World→Prop),
   ((∀ j o,l[j]?=some o→L j=true→∀ e∈o.after.toList,Region.binds .any e=true→L e.on=true)∧((∀ j,k≤j→j<l.length→L j=false)→HU slots cF inv a N L b u) ∧
     (∀ j,k≤j→j<l.length→L j=true→(∀ j',j<j'→j'<l.length→L j'=false)→mZ P l.toArray (Q .normal) (l.drop (j+1)) b u))→L i=false →
   (∀ e∈o.after.toList,Region.binds .any e=true→L e.on=true) →
   (∀ b u,((∀ j o,l[j]?=some o→upd L i j=true→∀ e∈o.after.toList,Region.binds .any e=true→upd L i e.on=true)∧((∀ j,k≤j→j<l.length→upd L i j=false)→HU slots cF inv a N (upd L i) b u) ∧
    (∀ j,k≤j→j<l.length→upd L i j=true→(∀ j',j<j'→j'<l.length→upd L i j'=false)→mZ P l.toArray (Q .normal) (l.drop (j+1)) b u))→Q' .normal b u) →
   wpList P l.toArray Q' [o] b u:=by
   intro i o ho L b u Q' ⟨hcl,hpl,htl⟩ hL hA hK;have ET:=(ajn.1 ho).1;have up:∀ j,L j=true→upd L i j=true:=fun j hj=>by simp[upd,hj]
   have hcl':∀ j o,l[j]?=some o→upd L i j=true→∀ e∈o.after.toList,Region.binds .any e=true→upd L i e.on=true:=by
    intro j o' hj G2 e he hb;by_cases hji:j=i
    ·subst hji;obtain rfl:o=o':=ajq (ho.symm.trans hj);exact up _ (hA e he hb)
    ·have hne:(j == i)=false:=by simpa using hji
     exact up _ (hcl j o' hj (by simpa[upd,hne] using G2) e he hb)
   have hno:∀ j,k≤j→j<l.length→i<j→L j=false:=fun j hkj hj hij=>by
    cases hx:L j with
    | false=>rfl
    | true=>
     obtain⟨oj,hoj⟩:∃ oj,l[j]?=some oj:=⟨_,List.getElem?_eq_getElem hj⟩;have:=zZ jQ htail L hcl hoj hkj (hcl j oj hoj hx) i hij;rw[hL] at this;cases this
   by_cases hik:i<k
   ·have hD:=hpl fun j hkj hj=>hno j hkj hj (by omega)
    obtain⟨s,hs,hd⟩:=hsl i o hik ho;refine E5 (l.take k) cF hstep i o (by rw[List.getElem?_take,if_pos hik];exact ho) b u Q' hD.fr hD.inv (fun j ⟨gr,hj,hb⟩ s g hs hg=>hD.done j (hA _ hj hb) s g hs hg) hD.rest ?_;intro v b' u' hb hg hp;rw[hd] at hp;refine hK b' u' ⟨hcl',fun _=>⟨hp.fr hD.fr,hinv _ _ hD.inv hb,?_,?_⟩,?_⟩
    ·intro j hj s' g' hs' hg';by_cases hji:j=i
     ·subst hji;obtain rfl:s=s':=ajq (hs.symm.trans hs');exact⟨v,hp.now,hg g' hg'⟩
     ·have hne:s'≠s:=fun e=>hji (vh hnd (e▸hs') hs)
      have G2:L j=true:=by
       have:(j == i)=false:=by simpa using hji
       simpa[upd,this] using hj
      obtain⟨x,hx,hgx⟩:=hD.done j G2 s' g' hs' hg';exact⟨x,hp.old (by simpa using hne) hx,acq g' (ajs hg') x u u' hgx hb⟩
    ·intro j x hj hx
     have hne:j≠s:=fun e=>by
      have hm:j∈slots:=e▸ajs hs;have:slots.contains j=true:=by simpa using hm
      rw[this] at hj;cases hj
     exact hp.old (by simpa using hne) (hD.rest j x hj hx)
    ·intro j hkj hj G2;have hne:(j == i)=false:=by simp;omega
     have:=hno j hkj hj (by omega);simp[upd,hne,this] at G2
   ·have hall:=zZ jQ htail L hcl ho (by omega) hA
    have hT:mZ P l.toArray (Q .normal) (l.drop i) b u:=by
     by_cases hik':i=k
     ·subst hik'
      have hD:=hpl fun j hkj hj=>by
       by_cases hji:j=i
       ·rw[hji];exact hL
       ·exact hno j hkj hj (by omega)
      refine hend b u ⟨hD.fr,hD.inv,fun j _ s g hs hg=>hD.done j (hall j ?_) s g hs hg,hD.rest⟩;have:=(ajn.1 hs).1;rw[hk,ajp] at this;omega
     ·have:=htl (i-1) (by omega) (by omega) (hall (i-1) (by omega)) fun j' h1 h2=>by
       by_cases hji:j'=i
       ·rw[hji];exact hL
       ·exact hno j' (by omega) h2 (by omega)
      rwa [show i-1+1=i by omega] at this
    rw[List.drop_eq_getElem_cons ET] at hT
    have ho':l[i]=o:=by
     have:=List.getElem?_eq_getElem ET;rw[ho] at this;exact(ajq this).symm
    rw[ho'] at hT;refine hT Q' fun b' u' hT'=>hK b' u' ⟨hcl',fun h=>?_,fun j hkj hj G2 hlast=>?_⟩
    ·have:=h i (by omega) ET;simp[upd] at this
    ·by_cases hji:j=i
     ·subst hji;exact hT'
     ·have hne:(j == i)=false:=by simpa using hji
      by_cases hlt:j<i
      ·have:=hlast i hlt ET;simp[upd] at this
      ·have:=hno j hkj hj (by omega);simp[upd,hne,this] at G2
  have all:∀ (r:List Oper) (m:Nat),(∀ i o,r[i]?=some o→l[m+i]?=some o)→tE P l.toArray (fun L b u=>(∀ j o,l[j]?=some o→L j=true→∀ e∈o.after.toList,Region.binds .any e=true→L e.on=true) ∧
   ((∀ j,k≤j→j<l.length→L j=false)→HU slots cF inv a N L b u) ∧
   (∀ j,k≤j→j<l.length→L j=true→(∀ j',j<j'→j'<l.length→L j'=false)→mZ P l.toArray (Q .normal) (l.drop (j+1)) b u)) m r:=by
   intro r
   induction r with
   | nil=>intro m _;trivial
   | cons o r ih=>
    intro m h;refine⟨fun L b u Q' hI hL hA hK=>key m o (h 0 o rfl) L b u Q' hI hL hA hK,ih (m+1) fun i o' ho'=>?_⟩;have:=h (i+1) o' (by simpa using ho')
    rwa [show m+1+i=m+(i+1) by omega]
  exact all l 0 fun i o ho=>by simpa using ho
 ·intro L b u ⟨hcl,hpl,htl⟩ hall;by_cases hkl:k<l.length
  ·have:=htl (l.length-1) (by omega) (by omega) (hall _ (by omega)) fun j' h1 h2=>by omega
   rw[show l.length-1+1=l.length by omega,List.drop_length] at this;exact this
  ·have hD:=hpl fun j h1 h2=>by omega
   have:=hend b u ⟨hD.fr,hD.inv,fun j _ s g hs hg=>hD.done j (hall j ?_) s g hs hg,hD.rest⟩
   ·rw[List.drop_of_length_le (by omega)] at this;exact this
   ·have:=(ajn.1 hs).1;rw[hk,ajp] at this;omega
end
end Go.Proofs.YtkkmjdceiocnbaaGreatDoor
namespace Go.Proofs.YtkkmjdceiocnbaaGreatDoor
open Go Go.ChangeMaps Go.MapKept
open Go.Maps (Keyed)
def g_(w:World)(P:Program)(k:TypeId)(b:Nat)(D:List (Value×Value)):Prop:=
 ∃ es clock,w.heap[b]?=some (.map es clock)∧Stamped es clock∧(es.toList.map fun e=>(e.key,e.val)).Perm D∧∀ p∈D,∃ l,keyOf P k p.1=some l
variable {P:Program} {k:TypeId} {w:World} {b:Nat} {D:List (Value×Value)}
theorem g_.lt(h:g_ w P k b D):b<w.heap.size:=by
 obtain⟨es,clock,hb,_⟩:=h;exact(Array.getElem?_eq_some_iff.1 hb).1
theorem g_.kept{w':World}(h:g_ w P k b D)(hb:w'.heap[b]?=w.heap[b]?):g_ w' P k b D:=by
 obtain⟨es,clock,h1,h2⟩:=h;exact⟨es,clock,hb.trans h1,h2⟩
theorem g_.perm{D':List (Value×Value)}(h:g_ w P k b D)(hp:D.Perm D'):g_ w P k b D':=by
 obtain⟨es,clock,h1,h2,h3,h4⟩:=h;exact⟨es,clock,h1,h2,h3.trans hp,fun p hq=>h4 p (hp.mem_iff.2 hq)⟩
theorem g_.keys(h:g_ w P k b D):(D.map Prod.fst).Nodup:=by
 obtain⟨es,clock,_,h2,h3,_⟩:=h;have hn:es.toList.Pairwise (fun x y=>x.key≠y.key):=((stamped_iff es clock).1 h2).2.2
 have:((es.toList.map fun e=>(e.key,e.val)).map Prod.fst).Nodup:=by
  rw[List.map_map,List.Nodup,List.pairwise_map];exact hn
 exact(h3.map Prod.fst).nodup_iff.1 this
theorem g_.size(h:g_ w P k b D):∃ es clock,w.heap[b]?=some (.map es clock)∧es.size=D.length:=by
 obtain⟨es,clock,h1,_,h3,_⟩:=h;exact⟨es,clock,h1,by simpa using h3.length_eq⟩
theorem g_.find{es:Array MapEntry}(K:Keyed P k)(hp:(es.toList.map fun e=>(e.key,e.val)).Perm D)(hk:∀ p∈D,∃ l,keyOf P k p.1=some l)(w:World){key:Value}{l:Lit}(hkey:keyOf P k key=some l):
 ((Instr.findKey k key es.toList).run P w=.ok none w∧(∀ e∈es.toList,e.key≠key)∧∀ p∈D,p.1≠key) ∨
 ∃ j e,(Instr.findKey k key es.toList).run P w=.ok (some (j,e.val)) w∧es.toList[j]?=some e∧e.key=key∧(key,e.val)∈D:=by
 have hks:∀ e∈es.toList,∃ l,keyOf P k e.key=some l:=fun e he=>hk (e.key,e.val) (hp.mem_iff.1 (ajt.2 ⟨e,he,rfl⟩))
 rcases K.find w hkey es.toList hks with⟨h1,h2⟩|⟨j,e,h1,h2,h3⟩
 ·refine Or.inl ⟨h1,h2,fun p hq he=>?_⟩;obtain⟨e,he',rfl⟩:=ajt.1 (hp.mem_iff.2 hq);exact h2 e he' he
 ·exact Or.inr ⟨j,e,h1,h2,h3,hp.mem_iff.1 (ajt.2 ⟨e,ajs h2,by rw[h3]⟩)⟩
variable {t e:TypeId}
theorem g_.sQ(c:Bool)(h:g_ w P k b D)(K:Keyed P k)(ht:P.underlying t=some (.map k e)){z:Value}(hz:(zeroValue e).run P w=.ok z w){key:Value}{l:Lit}(hkey:keyOf P k key=some l)(hno:∀ p∈D,p.1≠key):
 (Instr.lookup t (.map (some b)) key c).run P w=.ok (if c then .tuple #[z,.bool false] else z) w:=by
 obtain⟨es,clock,hb,hs,hp,hk⟩:=h;rcases g_.find K hp hk w hkey with⟨h1,h2,_⟩|⟨j,e0,h1,h2,h3,h4⟩
 ·simp[Instr.lookup,run_underlying ht,MapKept.run_getObj_map hb,K.check w _ hkey,h1,hz,Result.andThen]
 ·exact absurd rfl (hno _ h4)
theorem g_.ML(c:Bool)(h:g_ w P k b D)(K:Keyed P k)(ht:P.underlying t=some (.map k e)){key val:Value}{l:Lit}(hkey:keyOf P k key=some l)(hin:(key,val)∈D):
 (Instr.lookup t (.map (some b)) key c).run P w=.ok (if c then .tuple #[val,.bool true] else val) w:=by
 have hnd:=h.keys;obtain⟨es,clock,hb,hs,hp,hk⟩:=h;rcases g_.find K hp hk w hkey with⟨h1,h2,h5⟩|⟨j,e0,h1,h2,h3,h4⟩
 ·exact absurd rfl (h5 _ hin)
 ·have:e0.val=val:=by
   have:=zT hnd h4 hin;exact this
  simp[Instr.lookup,run_underlying ht,MapKept.run_getObj_map hb,K.check w _ hkey,h1,this,Result.andThen]
where
 zT:∀ {D:List (Value×Value)},(D.map Prod.fst).Nodup→∀ {x a b:Value},(x,a)∈D→(x,b)∈D→a=b
 | [],_,_,_,_,h,_=>by cases h
 | p::D,hn,x,a,b,ha,hb=>by
  simp only[List.map_cons,List.nodup_cons] at hn;rcases aju.1 ha with rfl|ha'
  ·rcases aju.1 hb with hb'|hb'
   ·exact(congrArg Prod.snd hb').symm
   ·exact absurd (ajt.2 ⟨_,hb',rfl⟩) hn.1
  ·rcases aju.1 hb with rfl|hb'
   ·exact absurd (ajt.2 ⟨_,ha',rfl⟩) hn.1
   ·exact zT hn.2 ha' hb'
end Go.Proofs.YtkkmjdceiocnbaaGreatDoor
namespace Go.Proofs.YtkkmjdceiocnbaaGreatDoor
open Go Go.RowKit
variable [DS]
abbrev Slots:=List (Nat×Value)
def look(q:Nat):Slots→Option Value
 | []=>none
 | (s,v)::r=>bif Nat.beq q s then some v else look q r
theorem dQ(q s:Nat)(v:Value)(l:Slots):look q ((s,v)::l)=bif (q == s) then some v else look q l:=by
 show(bif Nat.beq q s then some v else look q l)=_
 cases h:q == s with
 | true=>rw[show q=s by simpa using h,Nat.beq_refl]
 | false=>
  have hne:q≠s:=by simpa using h
  rw[show Nat.beq q s=false from by cases hb:Nat.beq q s with|false=>rfl|true=>exact absurd (ajv hb) hne]
structure Fs (a:Act) (N:Nat) (l:Slots):Prop where
 fr:Fr a N
 at_:∀ q v,look q l=some v→At a q v
section
variable {a:Act} {N:Nat} {l:Slots}
theorem Fs.g(h:Fs a N l)(q:Nat){v:Value}(hv:look q l=some v):At a q v:=h.at_ q v hv
theorem Fs.e(h:Fs a N l)(q:Nat){v:Value}(hv:look q l=some v):a.eval (.tmp q)=v:=(h.at_ q v hv).ev
theorem Fs.put{a':Act}{d:Nat}{v:Value}(h:Fs a N l)(p:Put a d v a'):Fs a' N ((d,v)::l):=by
 refine⟨p.fr h.fr,fun q u hq=>?_⟩;rw[dQ] at hq
 cases e:q == d with
 | true=>
  rw[e] at hq;have hq':v=u:=ajq hq;have e':q=d:=by simpa using e
  subst hq' e';exact p.now
 | false=>
  rw[e] at hq;exact p.old e (h.at_ q u hq)
theorem Fs.eq(h:Fs a N l)(q:Nat){v u:Value}(hv:look q l=some v)(e:v=u):Fs a N ((q,u)::l):=by
 refine⟨h.fr,fun s x hs=>?_⟩;rw[dQ] at hs
 cases he:s == q with
 | true=>
  rw[he] at hs;have hs':u=x:=ajq hs;have e':s=q:=by simpa using he
  subst hs' e' e;exact h.at_ _ _ hv
 | false=>
  rw[he] at hs;exact h.at_ s x hs
def Sub(l:Slots):Slots→Prop
 | []=>True
 | p::r=>look p.1 l=some p.2∧Sub l r
theorem Fs.sub{l':Slots}(h:Fs a N l)(hs:Sub l l'):Fs a N l':=by
 refine⟨h.fr,?_⟩
 induction l' with
 | nil=>intro q v hq;cases hq
 | cons p r ih=>
  intro q v hq;obtain⟨q0,v0⟩:=p;rw[dQ] at hq
  cases e:q == q0 with
  | true=>
   rw[e] at hq;have hq':v0=v:=ajq hq;have e':q=q0:=by simpa using e
   subst hq' e';exact h.at_ _ _ hs.1
  | false=>
   rw[e] at hq;exact ih hs.2 q v hq
def HZ(k:Nat):List Value→Slots
 | []=>[]
 | v::r=>(k,v)::HZ (k+1) r
theorem Fs.args{args:Array Value}(hf:Fr a N)(h:∀ i v,args[i]?=some v→At a i v){vs:List Value}(e:args=vs.toArray):Fs a N (HZ 0 vs):=by
 refine⟨hf,fun q v hq=>h q v ?_⟩;subst e
 have key:∀ (vs:List Value) (k q:Nat) (v:Value),look q (HZ k vs)=some v→k≤q∧vs[q-k]?=some v:=by
  intro vs
  induction vs with
  | nil=>
   intro k q v h;exact absurd h (by simp[look,HZ])
  | cons x r ih=>
   intro k q v h;rw[HZ,dQ] at h
   cases e:q == k with
   | true=>
    rw[e] at h;have e':q=k:=by simpa using e
    subst e';simpa using h
   | false=>
    rw[e] at h;have hne:q≠k:=by simpa using e
    obtain⟨h1,h2⟩:=ih (k+1) q v h;refine⟨by omega,?_⟩;rw[show q-k=(q-(k+1))+1 by omega];simpa using h2
 have:=key vs 0 q v hq;simpa using this.2
end
abbrev Bx:=Nat×TypeId×Array Value
structure Rw where
 v:Value
 e:TypeId
 k:Nat
 n:Nat
 xs:List Value
def pz(D:List (Value×Value)):Array Value:=(D.flatMap fun p=>[p.1,p.2]).toArray
def Xb(w:World)(b:Bx):Prop:=Nat.blt b.2.1 9000=false∧∃ D,b.2.2=pz D∧g_ w Tryz.prog (b.2.1-9000) b.1 D
def wC(w:World)(b:Bx):Prop:=(Nat.blt b.2.1 9000=true∧Whole w b.1 b.2.1 b.2.2)∨Xb w b
theorem wC.lt{w:World}{b:Bx}(h:wC w b):b.1<w.heap.size:=by
 rcases h with⟨_,h⟩|⟨_,D,_,h⟩
 ·exact h.lt
 ·exact h.lt
theorem wC.kept{w w':World}{b:Bx}(h:wC w b)(hb:w'.heap[b.1]?=w.heap[b.1]?):wC w' b:=by
 rcases h with⟨h0,h⟩|⟨h0,D,h1,h⟩
 ·exact .inl ⟨h0,hb.trans h⟩
 ·exact .inr ⟨h0,D,h1,h.kept hb⟩
theorem wC.whole{w:World}{g:Nat}{t:TypeId}{cs:Array Value}(h:wC w (g,t,cs))(ht:Nat.blt t 9000=true):Whole w g t cs:=by
 rcases h with⟨_,h⟩|⟨h0,_⟩
 ·exact h
 ·have h0:Nat.blt t 9000=false:=h0;rw[ht] at h0;cases h0
structure aQ (B:Nat) (w0 w:World) (bs:List Bx) (rs:List Rw):Prop where
 below:ajm B w0 w
 le:B≤w0.heap.size
 old:∀ g cs,Whole w0 g 59 cs→Whole w g 59 cs
 box:∀ b∈bs,wC w b
 lo:∀ b∈bs,B≤b.1
 nd:(bs.map (·.1)).Nodup
 row:∀ r∈rs,w.ownsRow B r.e r.k r.v r.n r.xs
 far:∀ r∈rs,∀ b∈bs,r.v.ownBlock≠some b.1
 yZ:rs.Pairwise fun r s=>r.v.ownBlock=none∨r.v.ownBlock≠s.v.ownBlock
abbrev Mm (w0 w:World) (bs:List Bx) (rs:List Rw):Prop:=aQ w0.heap.size w0 w bs rs
section
variable {B:Nat} {w0 w w':World} {bs:List Bx} {rs:List Rw}
theorem Mm.start(w:World):Mm w w [] []:=⟨Below.refl _ w,Nat.le_refl _,fun _ _ h=>h,by simp,by simp,by simp,by simp,by simp,.nil⟩
theorem aQ.big(M:aQ B w0 w bs rs):B≤w.heap.size:=Nat.le_trans M.le M.below.size
theorem aQ.b(M:aQ B w0 w bs rs)(i:Nat){g:Nat}{t:TypeId}{cs:Array Value}(h:bs[i]?=some (g,t,cs))(ht:Nat.blt t 9000=true:=by rfl):Whole w g t cs:=(M.box _ (ajs h)).whole ht
theorem aQ.r(M:aQ B w0 w bs rs)(i:Nat){r:Rw}(h:rs[i]?=some r):w.ownsRow B r.e r.k r.v r.n r.xs:=M.row _ (ajs h)
theorem aQ.keep(M:aQ B w0 w bs rs)(hb:ajm w.heap.size w w'):aQ B w0 w' bs rs:=
 ⟨M.below.step hb M.big,M.le,fun g cs h=>Whole.under hb (M.old g cs h) (M.old g cs h).lt,fun b h=>(M.box b h).kept (hb.block _ (M.box b h).lt),M.lo,M.nd,fun r h=>Gl hb (M.row r h) (Nat.le_refl _),M.far,M.yZ⟩
theorem aQ.new(M:aQ B w0 w bs rs){g:Nat}{t:TypeId}{cs:Array Value}(n:New w w' g t cs)(ht:Nat.blt t 9000=true:=by rfl):aQ B w0 w' ((g,t,cs)::bs) rs:=by
 have M':=M.keep n.below;have hlt:∀ b∈bs,b.1<g:=fun b h=>n.at_▸(M.box b h).lt
 refine⟨M'.below,M'.le,M'.old,?_,?_,?_,M'.row,?_,M.yZ⟩
 ·intro b hb;rcases aju.1 hb with rfl|hb
  ·exact .inl ⟨ht,n.whole⟩
  ·exact M'.box b hb
 ·intro b hb;rcases aju.1 hb with rfl|hb
  ·exact n.at_▸M.big
  ·exact M.lo b hb
 ·rw[List.map_cons,List.nodup_cons];refine⟨fun h=>?_,M.nd⟩;obtain⟨b,hb,e⟩:=ajt.1 h;have:=hlt b hb;simp only at e;omega
 ·intro r hr b hb;rcases aju.1 hb with rfl|hb
  ·intro e;have:=((M.row r hr).lt g e).2;rw[← n.at_] at this;omega
  ·exact M.far r hr b hb
theorem aQ.X7(M:aQ B w0 w bs rs)(i:Nat){g:Nat}{t:TypeId}{cs cs':Array Value}(h:bs[i]?=some (g,t,cs))(s:zG w w' g)(h':Whole w' g t cs')(ht:Nat.blt t 9000=true:=by rfl)(hw:Nat.beq t 59=false∨w0.heap.size≤B:=by first|exact .inl rfl|exact .inr (Nat.le_refl _)):aQ B w0 w' (bs.set i (g,t,cs')) rs:=by
 have hi:=(ajn.1 h).1;have hm:=ajs h
 have hmap:(bs.set i (g,t,cs')).map (·.1)=bs.map (·.1):=by
  refine List.ext_getElem? fun j=>?_
  rw[ajr,ajr,List.getElem?_set];by_cases e:i=j
  ·subst e;simp[hi,(ajn.1 h).2]
  ·simp[e]
 have Y1:∀ b∈bs.set i (g,t,cs'),∃ b'∈bs,b'.1=b.1:=fun b hb=>by
  rcases List.mem_or_eq_of_mem_set hb with hb|rfl
  ·exact⟨b,hb,rfl⟩
  ·exact⟨_,hm,rfl⟩
 refine⟨M.below.trans (s.below (M.lo _ hm)),M.le,fun g' cs'' h2=>s.whole (M.old g' cs'' h2) ?_,?_,?_,by rw[hmap];exact M.nd,?_,?_,M.yZ⟩
 ·intro e;rcases hw with hw|hw
  ·subst e;have h3:w.heap[g']?=some (.cells cs'' 59 (0,0)):=M.old g' cs'' h2;have h4:w.heap[g']?=some (.cells cs t (0,0)):=(M.box _ hm).whole ht;rw[h3] at h4;have h5:(59:Nat)=t:=by injection h4 with h4;injection h4
   rw[← h5] at hw;cases hw
  ·have h3:=h2.lt;have h4:=M.lo _ hm;simp only at h4;omega
 ·intro b hb;obtain⟨j,hj⟩:=List.getElem?_of_mem hb;rw[List.getElem?_set] at hj;by_cases e:i=j
  ·subst e;rw[if_pos rfl,if_pos hi] at hj;obtain rfl:=ajq hj;exact .inl ⟨ht,h'⟩
  ·rw[if_neg e] at hj;refine(M.box b (ajs hj)).kept (s.block _ fun e'=>e ?_);have h1:(bs.map (·.1))[i]?=some g:=by rw[ajr,h];rfl
   have h2:(bs.map (·.1))[j]?=some g:=by rw[ajr,hj];simp[e']
   exact vh M.nd h1 h2
 ·intro b hb;obtain⟨b',hb',e⟩:=Y1 b hb;rw[← e];exact M.lo b' hb'
 ·intro r hr;exact s.own (M.row r hr) (M.far r hr _ hm)
 ·intro r hr b hb;obtain⟨b',hb',e⟩:=Y1 b hb;rw[← e];exact M.far r hr b' hb'
theorem aQ.grow(M:aQ B w0 w bs rs)(i:Nat){r:Rw}(h:rs[i]?=some r){v':Value}{n':Nat}{xs':List Value}(ho:w'.ownsRow B r.e r.k v' n' xs')(hg:w.grownBy w' r.v.ownBlock)
 (hv:v'.ownBlock=r.v.ownBlock∨v'.ownBlock=none∨∃ g,v'.ownBlock=some g∧w.heap.size≤g) (hw:Nat.beq r.e 59=false∨w0.heap.size≤B:=by first|exact .inl rfl|exact .inr (Nat.le_refl _)):aQ B w0 w' bs (rs.set i { r with v:=v',n:=n',xs:=xs' }):=by
 have hi:=(ajn.1 h).1;have hm:=ajs h;refine⟨M.below.grown hg M.big (fun q hq=>((M.row r hm).lt q hq).1),M.le,fun g cs h2=>(M.old g cs h2).grown hg ?_,?_,M.lo,M.nd,?_,?_,?_⟩
 ·rcases hw with hw|hw
  ·exact fun e=>Gm (M.row r hm) (M.old g cs h2) (fun e2=>by rw[e2] at hw;cases hw) e.symm
  ·intro e;have h3:=h2.lt;have h4:=((M.row r hm).lt g e.symm).1;omega
 ·intro b hb;exact(M.box b hb).kept (hg.block _ (M.box b hb).lt fun e=>M.far r hm b hb e.symm)
 ·intro s hs;obtain⟨j,hj⟩:=List.getElem?_of_mem hs;rw[List.getElem?_set] at hj;by_cases e:i=j
  ·subst e;rw[if_pos rfl,if_pos hi] at hj;obtain rfl:=ajq hj;exact ho
  ·rw[if_neg e] at hj;have pR:=ajs hj;refine(M.row s pR).kept hg ?_;have hp:=List.pairwise_iff_getElem.1 M.yZ;have hjl:=(ajn.1 hj).1;have e1:rs[i]=r:=(ajn.1 h).2;have e2:rs[j]=s:=(ajn.1 hj).2;rcases Nat.lt_or_gt_of_ne e with hlt|hgt
   ·rcases hp i j hi hjl hlt with h0|h0
    ·rw[e1] at h0;rw[h0]
     cases Uh:s.v.ownBlock with
     | none=>exact .inl rfl
     | some q=>exact .inr (by simp)
    ·rw[e1,e2] at h0;exact .inr fun e3=>h0 e3.symm
   ·rcases hp j i hjl hi hgt with h0|h0
    ·rw[e2] at h0;exact .inl h0
    ·rw[e1,e2] at h0;exact .inr h0
 ·intro s hs b hb;rcases List.mem_or_eq_of_mem_set hs with hs|rfl
  ·exact M.far s hs b hb
  ·rcases hv with e|e|⟨g,e,hge⟩
   ·show v'.ownBlock≠_;rw[e];exact M.far r hm b hb
   ·show v'.ownBlock≠_;rw[e];simp
   ·show v'.ownBlock≠_;rw[e];intro e';have:=(M.box b hb).lt;have e2:g=b.1:=ajq e';omega
 ·rw[List.pairwise_iff_getElem];intro j k hj hk hjk;rw[List.length_set] at hj hk;have hp:=List.pairwise_iff_getElem.1 M.yZ j k hj hk hjk;have e1:rs[i]=r:=(ajn.1 h).2;simp only[List.getElem_set];by_cases ej:i=j
  ·subst ej;have ek:¬ i=k:=by omega
   simp only[if_true,if_neg ek];rcases hv with e|e|⟨g,e,hge⟩
   ·rw[e];rw[e1] at hp;exact hp
   ·exact .inl e
   ·refine .inr ?_;rw[e];intro e';have:=((M.row _ (List.getElem_mem hk)).lt g e'.symm).2;omega
  ·by_cases ek:i=k
   ·subst ek;simp only[if_neg ej,if_true];rcases hv with e|e|⟨g,e,hge⟩
    ·rw[e];rw[e1] at hp;exact hp
    ·rw[e]
     cases Uh:rs[j].v.ownBlock with
     | none=>exact .inl rfl
     | some q=>exact .inr (by simp)
    ·rw[e];refine .inr fun e'=>?_
     have:=((M.row _ (List.getElem_mem hj)).lt g e').2;omega
   ·simp only[if_neg ej,if_neg ek];exact hp
theorem aQ.Kp(M:aQ B w0 w bs rs){r:Rw}(ho:w.ownsRow B r.e r.k r.v r.n r.xs)(hf:∀ b∈bs,r.v.ownBlock≠some b.1)(hr:∀ s∈rs,r.v.ownBlock=none∨r.v.ownBlock≠s.v.ownBlock):aQ B w0 w bs (r::rs):=by
 refine⟨M.below,M.le,M.old,M.box,M.lo,M.nd,?_,?_,List.pairwise_cons.2 ⟨hr,M.yZ⟩⟩
 ·intro s hs;rcases aju.1 hs with rfl|hs
  ·exact ho
  ·exact M.row s hs
 ·intro s hs b hb;rcases aju.1 hs with rfl|hs
  ·exact hf b hb
  ·exact M.far s hs b hb
theorem aQ.bS(M:aQ B w0 w bs rs)(e:TypeId)(k:Nat):aQ B w0 w bs (⟨.slice none 0 0,e,k,0,[]⟩::rs):=
 M.Kp (World.ownsRow_nil _ _ _ _) (fun _ _=>by simp[Value.ownBlock]) (fun _ _=>.inl rfl)
theorem aQ.sj(M:aQ B w0 w bs rs)(hb:ajm w.heap.size w w'){r:Rw}(ho:w'.ownsRow w.heap.size r.e r.k r.v r.n r.xs):aQ B w0 w' bs (r::rs):=by
 refine(M.keep hb).Kp (AF ho M.big) ?_ ?_
 ·intro b hb' e;have:=(ho.lt _ e).1;have:=(M.box b hb').lt;omega
 ·intro s hs
  cases Uh:r.v.ownBlock with
  | none=>exact .inl rfl
  | some q=>
   refine .inr fun e=>?_
   have h1:=(ho.lt q Uh).1;have h2:=((M.row s hs).lt q (by rw[← e])).2;omega
theorem aQ.su{g:Nat}{t:TypeId}{cs:Array Value}(M:aQ B w0 w ((g,t,cs)::bs) rs)(k n:Nat)(hn:n≤maxLen)(hs:cs.size=n*k)(ht:Nat.blt t 9000=true:=by rfl):aQ B w0 w bs (⟨.slice (some ⟨g,0,none⟩) n n,t,k,n,cs.toList⟩::rs):=by
 have hw:=(M.box _ (ajw ..)).whole ht;have hnd:=List.nodup_cons.1 (show(g::bs.map (·.1)).Nodup from M.nd);have M1:aQ B w0 w bs rs:=⟨M.below,M.le,M.old,fun b hb=>M.box b (ajx _ hb),fun b hb=>M.lo b (ajx _ hb),hnd.2,M.row,fun r hr b hb=>M.far r hr b (ajx _ hb),M.yZ⟩;refine M1.Kp ⟨by simp[hs],.inr ⟨g,n,cs,rfl,M.lo _ (ajw ..),hw,Nat.le_refl _,hn,hs,by rw[List.take_of_length_le (by simp[hs])]⟩⟩ ?_ ?_
 ·intro b hb e;refine hnd.1 (ajt.2 ⟨b,hb,?_⟩);have e2:g=b.1:=by simpa[Value.ownBlock] using e
  exact e2.symm
 ·intro s hs';refine .inr fun e=>M.far s hs' _ (ajw ..) ?_
  show s.v.ownBlock=some g;rw[← e];rfl
theorem aQ.cast(M:aQ B w0 w bs rs){bs':List Bx}{rs':List Rw}(hb:bs=bs')(hr:rs=rs'):aQ B w0 w bs' rs':=hb▸hr▸M
theorem aQ.only(M:aQ B w0 w bs rs){bs':List Bx}{rs':List Rw}(hb:bs'.Sublist bs)(hr:rs'.Sublist rs):aQ B w0 w bs' rs':=
 ⟨M.below,M.le,M.old,fun b h=>M.box b (hb.subset h),fun b h=>M.lo b (hb.subset h),(hb.map _).nodup M.nd,fun r h=>M.row r (hr.subset h),fun r h b h'=>M.far r (hr.subset h) b (hb.subset h'),M.yZ.sublist hr⟩
end
theorem Fm{P:Program}(w:World)(base:Nat)(t ty e:TypeId)(i:TypeInfo)(z:Value)(ht:P.underlying t=some (.slice e))(hi:P.info? e=some i)(hz:i.zero=some z)
 (hzs:z.cells.size=i.size) (hsz:0<i.size) (v:Value) (n:Nat) (xs:List Value) (hown:w.ownsRow base e i.size v n xs)
 (a:Addr) (m c:Nat) (news:List Value) (hl:news.length=m*i.size) (hnews:∀ j u,news[j]?=some u→w.cell? (a.add j)=some u) (h1:∀ u∈news,u.oneCell'=true)
 (h63:n+m≤maxLen) (hbytes:(n+m)*i.bytes≤140737488355328) {v':Value} {w':World} (hr:(Builtin.append_ #[t,t] ty #[v,.slice (some a) m c]).run P w=.ok v' w') :
 v'.ownBlock=v.ownBlock∨v'.ownBlock=none∨∃ g,v'.ownBlock=some g∧w.heap.size≤g:=by
 have hsmall:n+m≤9223372036854775807:=by simp only[maxLen] at h63;omega
 rcases hown.2 with⟨rfl,rfl⟩|⟨g,cap,cur,rfl,hbg,hg,hnc,hcm,hcs,htake⟩
 ·have hx:xs=[]:=List.eq_nil_of_length_eq_zero (by simpa using hown.1);subst hx;obtain⟨v2,w2,cZ,h2,-,-⟩:=run_append_own (P:=P) w w.heap.size t ty e i z i.size i.bytes ht hi hz rfl rfl hzs hsz _ 0 [] (World.ownsRow_nil _ _ _ _) a m c news hl hnews h1 h63 hbytes (Nat.le_refl _);rw[hr] at cZ;injection cZ with e1 e2;subst e1 e2
  cases hb:v'.ownBlock with
  | none=>exact .inr (.inl rfl)
  | some g=>exact .inr (.inr ⟨g,rfl,(h2.lt g hb).1⟩)
 ·by_cases hroom:n+m≤cap
  ·have hfit:n*i.size+news.length≤cur.size:=by rw[hl,hcs,← Nat.add_mul];exact Nat.mul_le_mul_right _ hroom
   have cZ:=run_append_room (P:=P) w t ty e i ht hi g n cap cur hg a m c news hl hnews h1 hroom hfit;rw[hr] at cZ;injection cZ with e1 e2;subst e1;exact .inl rfl
  ·have holds:∀ j u,xs[j]?=some u→w.cell? ((⟨g,0,none⟩:Addr).add j)=some u:=hown.cells (g:=g) rfl;have cZ:=run_append_grow (P:=P) w t ty e i z ht hi hz ⟨g,0,none⟩ n cap xs hown.1 holds a m c news hl hnews (by omega) (by omega) (growslice_fits (by omega) hbytes);rw[hr] at cZ;injection cZ with e1 e2;subst e1;exact .inr (.inr ⟨w.heap.size,rfl,Nat.le_refl _⟩)
section
variable {P:Program} {ops:Array Oper} {Q:Exit→Act→World→Prop} {a:Act} {B:Nat} {w0 w w':World} {rest:List Oper} {o:Oper} {v:Value} {d N:Nat} {l:Slots} {bs:List Bx} {rs:List Rw}
theorem on(hg:o.guard=none):Region.wanted o (yielded ops a.tmps)=true:=gB hg
theorem kv(hw:Region.wanted o (yielded ops a.tmps)=true)(hr:(execOp a.eval o).run P w=.ok (.value v) w)(hd:o.dst=some d)(F:Fs a N l)(hN:Nat.blt d N=true)
 (next:∀ a',Fs a' N ((d,v)::l)→wpList P ops Q rest a' w):wpList P ops Q (o::rest) a w:=
 pS hw hr hd F.fr (by simpa using hN) fun a' p=>next a' (F.put p)
theorem ke(hw:Region.wanted o (yielded ops a.tmps)=true)(hr:(execOp a.eval o).run P w=.ok (.value v) w)(hd:o.dst=some d)(F:Fs a N l)(hN:Nat.blt d N=true){u:Value}(e:v=u)
 (next:∀ a',Fs a' N ((d,u)::l)→wpList P ops Q rest a' w):wpList P ops Q (o::rest) a w:=
 kv hw hr hd F hN fun a' F'=>next a' (e▸F')
theorem kn(hw:Region.wanted o (yielded ops a.tmps)=true){ty:TypeId}{cs:Array Value}{f:Nat→Value}(hr:(execOp a.eval o).run P w=.ok (.value (f w.heap.size)) (w.alloc (.cells cs ty)))(hd:o.dst=some d)(F:Fs a N l)(hN:Nat.blt d N=true)(M:aQ B w0 w bs rs)
 (next:∀ g a' w',Fs a' N ((d,f g)::l)→aQ B w0 w' ((g,ty,cs)::bs) rs→wpList P ops Q rest a' w') (ht:Nat.blt ty 9000=true:=by rfl):wpList P ops Q (o::rest) a w:=
 Bk hw hr hd F.fr (by simpa using hN) fun g a' w' n p=>next g a' w' (F.put p) (M.new n ht)
theorem kb(hw:Region.wanted o (yielded ops a.tmps)=true){ty:TypeId}{x:Operand}(ho:o.op=.box ty x)(hx:a.eval x=v){cs:Array Value}(hc:v.cells=cs)(hd:o.dst=some d)(F:Fs a N l)(hN:Nat.blt d N=true)(M:aQ B w0 w bs rs)
 (next:∀ g a' w',Fs a' N ((d,.pointer (some ⟨g,0,none⟩))::l)→aQ B w0 w' ((g,ty,cs)::bs) rs→wpList P ops Q rest a' w') (ht:Nat.blt ty 9000=true:=by rfl):wpList P ops Q (o::rest) a w:=
 kn (f:=fun n=>.pointer (some ⟨n,0,none⟩)) hw (hc▸Q8 ho hx) hd F hN M next ht
theorem ka(hw:Region.wanted o (yielded ops a.tmps)=true){ty:TypeId}{z:Value}(ho:o.op=.alloc ty)(hz:(P.info? ty).bind (·.zero)=some z){cs:Array Value}(hc:z.cells=cs)(hd:o.dst=some d)(F:Fs a N l)(hN:Nat.blt d N=true)(M:aQ B w0 w bs rs)
 (next:∀ g a' w',Fs a' N ((d,.pointer (some ⟨g,0,none⟩))::l)→aQ B w0 w' ((g,ty,cs)::bs) rs→wpList P ops Q rest a' w') (ht:Nat.blt ty 9000=true:=by rfl):wpList P ops Q (o::rest) a w:=
 kn (f:=fun n=>.pointer (some ⟨n,0,none⟩)) hw (hc▸yL ho hz) hd F hN M next ht
theorem kl(hw:Region.wanted o (yielded ops a.tmps)=true){t e:TypeId}{len k:Nat}{parts:Array (Nat×Operand)}{cells:Array Value}{z:Value}(ho:o.op=.buildSlice t len parts)(hu:P.underlying t=some (.slice e))(hs:(P.info? e).map (·.size)=some k)(hz:(P.info? e).bind (·.zero)=some z)
 (pR:(decide (len*k≤2^24)&&decide (0<len*k))=true) {pv:Array (Nat×Value)} (hp:(parts.map fun(i,x)=>(i,a.eval x))=pv) (h:Instr.fill (fun i=>some (i*k,k)) ((Array.range (len*k)).map (z.cells[·%z.cells.size]!)) pv.toList=some cells)
 (hd:o.dst=some d) (F:Fs a N l) (hN:Nat.blt d N=true) (M:aQ B w0 w bs rs)
 (next:∀ g a' w',Fs a' N ((d,.slice (some ⟨g,0,none⟩) len len)::l)→aQ B w0 w' ((g,e,cells)::bs) rs→wpList P ops Q rest a' w') (ht:Nat.blt e 9000=true:=by rfl):wpList P ops Q (o::rest) a w:=by
 simp only[ajo,decide_eq_true_eq] at pR;exact kn (f:=fun n=>.slice (some ⟨n,0,none⟩) len len) hw (yK ho hu hs hz pR.1 pR.2 hp h) hd F hN M next ht
theorem ks(hw:Region.wanted o (yielded ops a.tmps)=true){ty:TypeId}{x y:Operand}(ho:o.op=.store ty x y){g f:Nat}(hx:a.eval x=.pointer (some ⟨g,f,none⟩))(hy:a.eval y=v)(F:Fs a N l)(M:aQ B w0 w bs rs)(i:Nat){t:TypeId}{cs cs':Array Value}(hi:bs[i]?=some (g,t,cs))
 {u:List Value} (hl:v.cells.toList=u) (hfit:Nat.ble (f+u.length) cs.size=true) (hz:(P.info? ty).map (·.size)=some u.length) (h1:u.all (·.oneCell')=true) (hsp:splice cs f u=cs') (hd:o.dst=none) {bs':List Bx} (hb:bs.set i (g,t,cs')=bs')
 (next:∀ w',aQ B w0 w' bs' rs→wpList P ops Q rest a w') (ht:Nat.blt t 9000=true:=by rfl) (hW:Nat.beq t 59=false∨w0.heap.size≤B:=by first|exact .inl rfl|exact .inr (Nat.le_refl _)):wpList P ops Q (o::rest) a w:=
 uP hw ho hx hy (M.b i hi ht) hl (Nat.le_of_ble_eq_true hfit) hz h1 hsp hd fun w' s h'=>next w' (hb▸M.X7 i hi s h' ht hW)
theorem kaA(hw:Region.wanted o (yielded ops a.tmps)=true){ty:TypeId}{cs:Array Value}(ho:o.op=.alloc ty)(hz:(P.info? ty).bind (·.zero)=some (.agg cs))(hd:o.dst=some d)(F:Fs a N l)(hN:Nat.blt d N=true)(M:aQ B w0 w bs rs)
 (next:∀ g a' w',Fs a' N ((d,.pointer (some ⟨g,0,none⟩))::l)→aQ B w0 w' ((g,ty,cs)::bs) rs→wpList P ops Q rest a' w') (ht:Nat.blt ty 9000=true:=by rfl):wpList P ops Q (o::rest) a w:=
 ka hw ho hz rfl hd F hN M next ht
theorem ksA(hw:Region.wanted o (yielded ops a.tmps)=true){ty:TypeId}{x y:Operand}(ho:o.op=.store ty x y){g:Nat}{cs':Array Value}(hx:a.eval x=.pointer (some ⟨g,0,none⟩))(hy:a.eval y=.agg cs')(F:Fs a N l)(M:aQ B w0 w bs rs)(i:Nat){t:TypeId}{cs:Array Value}(hi:bs[i]?=some (g,t,cs))
 {n:Nat} (hz:(P.info? ty).map (·.size)=some n) (hs:(Nat.beq cs.size n&&Nat.beq cs'.size n)=true) (h1:cs'.toList.all (·.oneCell')=true) (hd:o.dst=none)
 (next:∀ w',aQ B w0 w' (bs.set i (g,t,cs')) rs→wpList P ops Q rest a w') (ht:Nat.blt t 9000=true:=by rfl) (hW:Nat.beq t 59=false∨w0.heap.size≤B:=by first|exact .inl rfl|exact .inr (Nat.le_refl _)):wpList P ops Q (o::rest) a w:=by
 obtain⟨e1,e2⟩:=Bool.and_eq_true_iff.1 hs;have e1:=ajv e1;have e2:=ajv e2;refine ks hw ho hx hy F M i hi rfl ?_ (hz.trans ?_) h1 (vL _ _ ?_) hd rfl next ht hW
 ·show Nat.ble (0+cs'.toList.length) cs.size=true;exact Nat.ble_eq_true_of_le (by rw[Array.length_toList];omega)
 ·show some n=some cs'.toList.length;rw[Array.length_toList,e2]
 ·show cs.size=cs'.toList.length;rw[Array.length_toList];omega
theorem kc(hw:Region.wanted o (yielded ops a.tmps)=true){f:FuncId}{args:Array Value}(hr:(execOp a.eval o).run P w=.ok (.enter f args) w)
 (hc:Calls P f args w fun e w'=>e=.returned v∧ajm w.heap.size w w') (hd:o.dst=some d) (F:Fs a N l) (hN:Nat.blt d N=true) (M:aQ B w0 w bs rs)
 (next:∀ a' w',Fs a' N ((d,v)::l)→aQ B w0 w' bs rs→wpList P ops Q rest a' w'):wpList P ops Q (o::rest) a w:=
 oK hw hr (zF hc) hd F.fr (by simpa using hN) fun u a' w' h p=>by
  obtain⟨rfl,hb⟩:=h;exact next a' w' (F.put p) (M.keep hb)
theorem kpP(hw:Region.wanted o (yielded ops a.tmps)=true){s x:Operand}{t:TypeId}(ho:o.op=.call { callee:=.builtin .append,args:=#[s,x],argTypes:=#[t,t] })
 {e:TypeId} {size bytes:Nat} (ht:P.underlying t=some (.slice e)) (hi:B_ (P.info? e) size bytes=true) (hsz:Nat.blt 0 size=true) (M:aQ B w0 w bs rs) (i:Nat) {n:Nat} {xs:List Value} (YI:rs[i]?=some ⟨v,e,size,n,xs⟩)
 (hs:a.eval s=v) {m:Nat} {news:List Value} {u:Value} (hx:a.eval x=u) (hsl:SliceAt w u size m news) (h63:n+m≤maxLen∧(n+m)*bytes≤140737488355328) (hd:o.dst=some d) (hf:Fr a N) (hN:Nat.blt d N=true)
 (next:∀ v' a' w',Put a d v' a'→aQ B w0 w' bs (rs.set i ⟨v',e,size,n+m,xs++news⟩)→wpList P ops Q rest a' w') (hW:Nat.beq e 59=false∨w0.heap.size≤B:=by first|exact .inl rfl|exact .inr (Nat.le_refl _)):wpList P ops Q (o::rest) a w:=by
 have hown:=M.r i YI;have hsz':0<size:=by simpa using hsz
 rcases hsl.2.2.2 with⟨rfl,rfl⟩|⟨ad,c,rfl,hnc,hcell⟩
 ·obtain⟨ti,z,h2,h3,h4,h5,h6⟩:=zo hi;have hnil:news=[]:=List.eq_nil_of_length_eq_zero (by rw[hsl.1];simp);subst hnil;have hrun:=run_append_owned_none (P:=P) (w:=w) B t o.type e ti size ht h2 v n xs hown;refine pS hw (v:=v) (w':=w) ?_ hd hf (by simpa using hN) fun a' p=>next v a' w p ?_
  ·unfold execOp;simp only[ho,resolve,invoke,builtin,ajl,Sem.run_pure,Result.andThen_ok,List.map_toArray,List.map_cons,List.map_nil,hs,hx,hrun]
  ·exact M.grow i YI (by simpa using hown) ⟨rfl,rfl,rfl,Nat.le_refl _,fun _ _ _=>rfl⟩ (.inl rfl) hW
 ·obtain⟨ti,z,h2,h3,h4,h5,h6⟩:=zo hi;subst h4 h5;obtain⟨v',w',hr,g1,g2,-⟩:=run_append_own (P:=P) w B t o.type e ti z ti.size ti.bytes ht h2 h3 rfl rfl h6 hsz' v n xs hown ad m c news hsl.1 hcell hsl.2.2.1 h63.1 h63.2 M.big;have hblk:=Fm (P:=P) w B t o.type e ti z ht h2 h3 h6 hsz' v n xs hown ad m c news hsl.1 hcell hsl.2.2.1 h63.1 h63.2 hr;refine pS hw (v:=v') (w':=w') ?_ hd hf (by simpa using hN) fun a' p=>next v' a' w' p (M.grow i YI g1 g2 hblk hW)
  unfold execOp;simp only[ho,resolve,invoke,builtin,ajl,Sem.run_pure,Result.andThen_ok,List.map_toArray,List.map_cons,List.map_nil,hs,hx,hr]
theorem aQ.slice(M:aQ B w0 w bs rs)(i:Nat){g:Nat}{t:TypeId}{cs:Array Value}(h:bs[i]?=some (g,t,cs)){k n:Nat}(hl:cs.toList.length=n*k)(h1:cs.toList.all (·.oneCell')=true)(hn:n≤maxLen)(ht:Nat.blt t 9000=true:=by rfl):SliceAt w (.slice (some ⟨g,0,none⟩) n n) k n cs.toList:=
 ⟨hl,hn,fun u hu=>List.all_eq_true.1 h1 u hu,.inr ⟨_,n,rfl,Nat.le_refl _,fun j u hu=>by rw[Addr.add_lit,Nat.zero_add,(M.b i h ht).cell];simpa using hu⟩⟩
end
section
variable {P:Program} {Q:Exit→Act→World→Prop} {a:Act} {w:World} {N:Nat} {l:Slots}
def nth:List Value→Nat→Option Value
 | [],_=>none
 | x::_,0=>some x
 | _::r,i+1=>nth r i
theorem Vx(l:List Value)(i:Nat):nth l i=l[i]?:=by
 induction l generalizing i with
 | nil=>simp[nth]
 | cons x r ih=>cases i with
  | zero=>rfl
  | succ i=>rw[nth,ih];simp
theorem Whole.c1{g:Nat}{t:TypeId}{cs:Array Value}(h:Whole w g t cs)(i:Nat):w.cell? ⟨g,i,none⟩=nth cs.toList i:=by
 rw[h.cell,Vx];simp
theorem bZ{w0:World}(hb:ajm w0.heap.size w0 w){g f:Nat}{cs:List Value}(h:∀ j u,cs[j]?=some u→w0.cell? ⟨g,f+j,none⟩=some u):∀ j u,cs[j]?=some u→w.cell? ⟨g,f+j,none⟩=some u:=fun j u hu=>cell_later hb (h j u hu)
theorem en{f:FuncId}{fn:Func}{c:Code}{args:Array Value}{R:Ending→World→Prop}(hf:P.funcs[f]?=some fn)(hb:fn.body=some c)(hn:fn.ntmps=N)(hN:Nat.ble args.size N=true){vs:List Value}(ha:args=vs.toArray)
 (h:∀ a,Fs a N (HZ 0 vs)→c.wp P (bodyPost P fn R) a w) (hD:DS.ds=[]:=by rfl):Calls P f args w R:=
 Om (hD:=hD) hf hb hn (Nat.le_of_ble_eq_true hN) fun a h1 h2=>h a (Fs.args h1 h2 ha)
theorem rt0{fn:Func}{R:Ending→World→Prop}(hr:fn.results=#[])(F:Fs a N l)(hR:R (.returned (.tuple #[])) w)(hD:DS.ds=[]:=by rfl):bodyPost P fn R .ret a w:=KC (hD:=hD) hr F.fr hR
theorem rt1{fn:Func}{R:Ending→World→Prop}{s:Nat}{v:Value}(hr:fn.results=#[.tmp s])(F:Fs a N l)(hv:look s l=some v)(hR:R (.returned v) w)(hD:DS.ds=[]:=by rfl):bodyPost P fn R .ret a w:=Oj (hD:=hD) hr F.fr (F.g s hv) hR
theorem rt2{fn:Func}{R:Ending→World→Prop}{s t:Nat}{v u:Value}(hr:fn.results=#[.tmp s,.tmp t])(F:Fs a N l)(hv:look s l=some v)(hu:look t l=some u)(hR:R (.returned (.tuple #[v,u])) w)(hD:DS.ds=[]:=by rfl):bodyPost P fn R .ret a w:=KA (hD:=hD) hr F.fr (F.g s hv) (F.g t hu) hR
theorem rt3{fn:Func}{R:Ending→World→Prop}{s t r:Nat}{v u x:Value}(hr:fn.results=#[.tmp s,.tmp t,.tmp r])(F:Fs a N l)(hv:look s l=some v)(hu:look t l=some u)(hx:look r l=some x)(hR:R (.returned (.tuple #[v,u,x])) w)(hD:DS.ds=[]:=by rfl):bodyPost P fn R .ret a w:=Kz (hD:=hD) hr F.fr (F.g s hv) (F.g t hu) (F.g r hx) hR
theorem hr0(P:Program)(fn:Func)(R:Ending→World→Prop)(N:Nat)(hr:fn.results=#[])(a:Act)(w:World)(l:Slots)(F:Fs a N l)(hR:R (.returned (.tuple #[])) w)(hD:DS.ds=[]:=by rfl):bodyPost P fn R .ret a w:=rt0 (hD:=hD) hr F hR
theorem hr1(P:Program)(fn:Func)(R:Ending→World→Prop)(N s:Nat)(hr:fn.results=#[.tmp s])(a:Act)(w:World)(l:Slots)(v:Value)(F:Fs a N l)(hv:look s l=some v)(hR:R (.returned v) w)(hD:DS.ds=[]:=by rfl):bodyPost P fn R .ret a w:=rt1 (hD:=hD) hr F hv hR
theorem cZ(P:Program)(fn:Func)(R:Ending→World→Prop)(N s t:Nat)(hr:fn.results=#[.tmp s,.tmp t])(a:Act)(w:World)(l:Slots)(v u:Value)(F:Fs a N l)(hv:look s l=some v)(hu:look t l=some u)(hR:R (.returned (.tuple #[v,u])) w)(hD:DS.ds=[]:=by rfl):bodyPost P fn R .ret a w:=rt2 (hD:=hD) hr F hv hu hR
theorem mq(P:Program)(fn:Func)(R:Ending→World→Prop)(N s t r:Nat)(hr:fn.results=#[.tmp s,.tmp t,.tmp r])(a:Act)(w:World)(l:Slots)(v u x:Value)(F:Fs a N l)(hv:look s l=some v)(hu:look t l=some u)(hx:look r l=some x)(hR:R (.returned (.tuple #[v,u,x])) w)(hD:DS.ds=[]:=by rfl):bodyPost P fn R .ret a w:=rt3 (hD:=hD) hr F hv hu hx hR
def RI(w0:World)(x:Int):Ending→World→Prop:=fun e w'=>e=.returned (.int .i64 x)∧ajm w0.heap.size w0 w'
theorem Fs.add(F:Fs a N l){q:Nat}{v:Value}(h:At a q v):Fs a N ((q,v)::l):=by
 refine⟨F.fr,fun s x hs=>?_⟩;rw[dQ] at hs
 cases he:s == q with
 | true=>
  rw[he] at hs;have hs':v=x:=ajq hs;have e':s=q:=by simpa using he
  subst hs' e';exact h
 | false=>
  rw[he] at hs;exact F.at_ s x hs
end
section
variable {P:Program} {ops:Array Oper} {Q:Exit→Act→World→Prop} {a:Act} {B:Nat} {w0 w:World} {rest:List Oper} {o:Oper} {v:Value} {d N:Nat} {l:Slots} {bs:List Bx} {rs:List Rw}
theorem rf{α:Sort _}{x:α}:x=x:=rfl
def vl(l:Slots):Operand→Option Value
 | .tmp q=>look q l
 | .const v=>some v
 | _=>none
theorem Fs.u(F:Fs a N l){x:Operand}(h:vl l x=some v):a.eval x=v:=by
 cases x with
 | tmp q=>exact F.e q h
 | const u=>exact ajq h
 | _=>cases h
def pl(N:Nat)(o:Oper):Option Nat:=match o.guard,o.dst with
 | none,some d=>bif Nat.blt d N then some d else none
 | _,_=>none
theorem KZ(h:pl N o=some d):o.guard=none∧o.dst=some d∧Nat.blt d N=true:=by
 unfold pl at h;split at h
 ·rename_i d' hg hd
  cases hb:Nat.blt d' N with
  | false=>rw[hb] at h;cases h
  | true=>
   rw[hb] at h;have e:d'=d:=ajq h;subst e;exact⟨hg,hd,hb⟩
 ·cases h
theorem kz(F:Fs a N l)(h:pl N o=some d)(hr:(execOp a.eval o).run P w=.ok (.value v) w)(next:∀ a',Fs a' N ((d,v)::l)→wpList P ops Q rest a' w):wpList P ops Q (o::rest) a w:=
 have⟨h1,h2,h3⟩:=KZ h
 kv (on h1) hr h2 F h3 next
theorem xM(F:Fs a N l)(h:pl N o=some d){x:Operand}(ho:o.op=.move x)(hx:vl l x=some v)(next:∀ a',Fs a' N ((d,v)::l)→wpList P ops Q rest a' w):wpList P ops Q (o::rest) a w:=
 kz F h (Q0 ho (F.u hx)) next
theorem xA(F:Fs a N l)(h:pl N o=some d){x:Operand}(ho:o.op=.assign x)(hx:vl l x=some v)(next:∀ a',Fs a' N ((d,v)::l)→wpList P ops Q rest a' w):wpList P ops Q (o::rest) a w:=
 kz F h (Cv ho (F.u hx)) next
def Du(P:Program)(f:FuncId):Bool:=match P.funcs[f]? with
 | some fn=>!(fn.name == "runtime.NumGoroutine")&&fn.body.isSome
 | none=>false
theorem rM{f:FuncId}(hf:Du P f=true){xs:Array Operand}{ts:Array TypeId}{args:Array Value}(ho:o.op=.call { callee:=.value (.func f),args:=xs,argTypes:=ts })(ha:xs.map a.eval=args):(execOp a.eval o).run P w=.ok (.enter f args) w:=by
 unfold Du at hf;split at hf
 ·rename_i fn hfn;rw[ajo,Bool.not_eq_true'] at hf;obtain⟨c,hc⟩:=Option.isSome_iff_exists.1 hf.2;exact WO ho hfn hf.1 hc ha
 ·cases hf
end
section
variable {P:Program} {ops:Array Oper} {Q':Exit→Act→World→Prop} {a:Act} {w w':World} {o:Oper} {v:Value} {d N:Nat} {g:Good}
theorem dv(hw:Region.wanted o (yielded ops a.tmps)=true)(hr:(execOp a.eval o).run P w=.ok (.value v) w)(hd:o.dst=some d)(hf:Fr a N)(hN:Nat.blt d N=true)
 (hK:∀ v a' w',ajm w.heap.size w w'→g v w'→Put a (o.dst.getD 0) v a'→Q' .normal a' w') (hg:g v w):wpList P ops Q' [o] a w:=
 pS hw hr hd hf (by simpa using hN) fun a' p=>wpList_nil (hK v a' w (Below.refl _ _) hg (by rw[hd];exact p))
theorem dc(hw:Region.wanted o (yielded ops a.tmps)=true){f:FuncId}{args:Array Value}(hr:(execOp a.eval o).run P w=.ok (.enter f args) w)
 (hc:Calls P f args w fun e w'=>e=.returned v∧ajm w.heap.size w w') (hd:o.dst=some d) (hf:Fr a N) (hN:Nat.blt d N=true)
 (hK:∀ v a' w',ajm w.heap.size w w'→g v w'→Put a (o.dst.getD 0) v a'→Q' .normal a' w') (hg:∀ w',g v w'):wpList P ops Q' [o] a w:=
 oK hw hr (zF hc) hd hf (by simpa using hN) fun u a' w' h p=>by
  obtain⟨rfl,hb⟩:=h;exact wpList_nil (hK u a' w' hb (hg w') (by rw[hd];exact p))
theorem dx(hw:Region.wanted o (yielded ops a.tmps)=true){f:FuncId}{args:Array Value}(hr:(execOp a.eval o).run P w=.ok (.enter f args) w)
 (hc:Calls P f args w fun e w'=>∃ v,e=.returned v∧(g v w'∧ajm w.heap.size w w')) (hd:o.dst=some d) (hf:Fr a N) (hN:Nat.blt d N=true)
 (hK:∀ v a' w',ajm w.heap.size w w'→g v w'→Put a (o.dst.getD 0) v a'→Q' .normal a' w'):wpList P ops Q' [o] a w:=
 oK hw hr hc hd hf (by simpa using hN) fun u a' w' h p=>wpList_nil (hK u a' w' h.2 h.1 (by rw[hd];exact p))
theorem dn(hw:Region.wanted o (yielded ops a.tmps)=true){ty:TypeId}{cs:Array Value}{f:Nat→Value}(hr:(execOp a.eval o).run P w=.ok (.value (f w.heap.size)) (w.alloc (.cells cs ty)))(hd:o.dst=some d)(hf:Fr a N)(hN:Nat.blt d N=true)
 (hK:∀ v a' w',ajm w.heap.size w w'→g v w'→Put a (o.dst.getD 0) v a'→Q' .normal a' w') (hg:∀ b w',New w w' b ty cs→g (f b) w'):wpList P ops Q' [o] a w:=
 Bk hw hr hd hf (by simpa using hN) fun b a' w' n p=>wpList_nil (hK _ a' w' n.below (hg b w' n) (by rw[hd];exact p))
def Made(w:World)(f:Nat→Value)(ty:TypeId)(cs:Array Value):Good:=fun v u=>∃ g,v=f g∧Whole u g ty cs∧w.heap.size≤g
theorem Ju(w:World)(f:Nat→Value)(ty:TypeId)(cs:Array Value):qg (Made w f ty cs):=fun _ _ _ ⟨g,e,h,k⟩ hb=>⟨g,e,Whole.under hb h h.lt,k⟩
theorem PF{wb:World}{f:Nat→Value}{ty:TypeId}{cs:Array Value}(hb:ajm wb.heap.size wb w)(b:Nat)(u:World)(n:New w u b ty cs):Made wb f ty cs (f b) u:=⟨b,rfl,n.whole,n.at_▸hb.size⟩
theorem aQ.newAt{B:Nat}{w0:World}{bs:List Bx}{rs:List Rw}(M:aQ B w0 w bs rs)(hb:ajm w.heap.size w w'){g:Nat}{t:TypeId}{cs:Array Value}(h:Whole w' g t cs)(hg:w.heap.size≤g)(ht:Nat.blt t 9000=true:=by rfl):aQ B w0 w' ((g,t,cs)::bs) rs:=by
 have M':=M.keep hb;refine⟨M'.below,M'.le,M'.old,?_,?_,?_,M'.row,?_,M.yZ⟩
 ·intro b hb;rcases aju.1 hb with rfl|hb
  ·exact .inl ⟨ht,h⟩
  ·exact M'.box b hb
 ·intro b hb;rcases aju.1 hb with rfl|hb
  ·exact Nat.le_trans M.big hg
  ·exact M.lo b hb
 ·rw[List.map_cons,List.nodup_cons];refine⟨fun h=>?_,M.nd⟩;obtain⟨b,hb,e⟩:=ajt.1 h;have:=(M.box b hb).lt;simp only at e;omega
 ·intro r hr b hb;rcases aju.1 hb with rfl|hb
  ·intro e;have:=((M.row r hr).lt g e).2;omega
  ·exact M.far r hr b hb
end
def gd(t:Bool)(v:Value):Value:=bif t then v else undef
theorem At.on{a:Act}{s:Nat}{t:Bool}{v:Value}(h:At a s (gd t v))(ht:t=true):At a s v:=by subst ht;exact h
theorem a1{s t:Bool}(h:(s&&t)=true):s=true:=(Bool.and_eq_true_iff.1 h).1
theorem a2{s t:Bool}(h:(s&&t)=true):t=true:=(Bool.and_eq_true_iff.1 h).2
end Go.Proofs.YtkkmjdceiocnbaaGreatDoor
namespace Go.Proofs.YtkkmjdceiocnbaaGreatDoor
open Go Go.RowKit
theorem u0:type_of% Tryz.underlying0:=Tryz.underlying0
theorem u1:type_of% Tryz.underlying1:=Tryz.underlying1
theorem u2:type_of% Tryz.underlying2:=Tryz.underlying2
theorem u3:type_of% Tryz.underlying3:=Tryz.underlying3
theorem u4:type_of% Tryz.underlying4:=Tryz.underlying4
theorem u5:type_of% Tryz.underlying5:=Tryz.underlying5
theorem u6:type_of% Tryz.underlying6:=Tryz.underlying6
theorem u7:type_of% Tryz.underlying7:=Tryz.underlying7
theorem u8:type_of% Tryz.underlying8:=Tryz.underlying8
theorem u9:type_of% Tryz.underlying9:=Tryz.underlying9
theorem u10:type_of% Tryz.underlying10:=Tryz.underlying10
theorem u11:type_of% Tryz.underlying11:=Tryz.underlying11
theorem u12:type_of% Tryz.underlying12:=Tryz.underlying12
theorem u13:type_of% Tryz.underlying13:=Tryz.underlying13
theorem u14:type_of% Tryz.underlying14:=Tryz.underlying14
theorem u15:type_of% Tryz.underlying15:=Tryz.underlying15
theorem u16:type_of% Tryz.underlying16:=Tryz.underlying16
theorem u17:type_of% Tryz.underlying17:=Tryz.underlying17
theorem u18:type_of% Tryz.underlying18:=Tryz.underlying18
theorem u20:type_of% Tryz.underlying20:=Tryz.underlying20
theorem u21:type_of% Tryz.underlying21:=Tryz.underlying21
theorem u24:type_of% Tryz.underlying24:=Tryz.underlying24
theorem u25:type_of% Tryz.underlying25:=Tryz.underlying25
theorem u26:type_of% Tryz.underlying26:=Tryz.underlying26
theorem u28:type_of% Tryz.underlying28:=Tryz.underlying28
theorem u31:type_of% Tryz.underlying31:=Tryz.underlying31
theorem u32:type_of% Tryz.underlying32:=Tryz.underlying32
theorem OC:type_of% Tryz.underlying39:=Tryz.underlying39
theorem KG:type_of% Tryz.underlying42:=Tryz.underlying42
theorem X2:type_of% Tryz.underlying43:=Tryz.underlying43
theorem zL:type_of% Tryz.underlying59:=Tryz.underlying59
theorem u64:type_of% Tryz.underlying64:=Tryz.underlying64
theorem u65:type_of% Tryz.underlying65:=Tryz.underlying65
theorem Ib:type_of% Tryz.underlying68:=Tryz.underlying68
theorem X4:(Tryz.prog.info? 5).map (·.size)=some 1:=by kernel_rfl
theorem sz9:(Tryz.prog.info? 9).map (·.size)=some 1:=by kernel_rfl
theorem abv:(Tryz.prog.info? 59).map (·.size)=some 1:=by kernel_rfl
theorem R3:(Tryz.prog.info? 65).map (·.size)=some 7:=by kernel_rfl
theorem X5:(Tryz.prog.info? 136).map (·.size)=some 9:=by kernel_rfl
theorem Ac:(Tryz.prog.info? 39).bind (·.zero)=some (.agg #[.slice none 0 0,.slice none 0 0,.slice none 0 0,.slice none 0 0,.slice none 0 0,.slice none 0 0,.slice none 0 0,.slice none 0 0,.slice none 0 0,.slice none 0 0,.slice none 0 0,.slice none 0 0,.slice none 0 0,.slice none 0 0,.slice none 0 0,.slice none 0 0,.slice none 0 0]):=by kernel_rfl
theorem XK:(Tryz.prog.info? 43).bind (·.zero)=some (.int .i64 0):=by kernel_rfl
theorem XJ:(Tryz.prog.info? 61).bind (·.zero)=some (.agg #[.int .i64 0,.int .u64 0]):=by kernel_rfl
theorem aaW:(Tryz.prog.info? 63).bind (·.zero)=some (.agg #[.int .i64 0,.int .u64 0,.int .i64 0,.int .u64 0]):=by kernel_rfl
theorem wM:(Tryz.prog.info? 65).bind (·.zero)=some (.agg #[.int .i64 0,.int .i64 0,.int .i64 0,.int .i64 0,.int .u64 0,.int .i64 0,.int .u64 0]):=by kernel_rfl
theorem m_:(Tryz.prog.info? 77).bind (·.zero)=some (.agg #[.int .u64 0,.int .u64 0,.int .u64 0,.int .u64 0]):=by kernel_rfl
theorem FG:(Tryz.prog.info? 79).bind (·.zero)=some (.agg #[.int .i64 0,.int .u64 0,.int .u64 0,.int .u64 0,.int .u64 0,.int .u64 0,.int .u64 0,.int .u64 0,.int .u64 0,.int .i64 0,.string ByteArray.empty,.int .i64 0,.int .i64 0]):=by kernel_rfl
theorem RL:(Tryz.prog.info? 81).bind (·.zero)=some (.agg #[.string ByteArray.empty,.slice none 0 0,.bool false]):=by kernel_rfl
theorem DW:(Tryz.prog.info? 84).bind (·.zero)=some (.agg #[.int .i64 0,.int .i64 0,.int .i64 0,.int .i64 0,.slice none 0 0,.int .u64 0,.int .u64 0,.int .u64 0,.int .u64 0,.slice none 0 0]):=by kernel_rfl
theorem FE:(Tryz.prog.info? 86).bind (·.zero)=some (.agg #[.int .i64 0,.int .u32 0,.bool false,.int .i64 0,.int .i64 0,.int .i64 0,.int .i64 0,.slice none 0 0,.int .u64 0,.int .u64 0,.int .u64 0,.int .u64 0,.slice none 0 0]):=by kernel_rfl
theorem C_:(Tryz.prog.info? 131).bind (·.zero)=some (.agg #[.string ByteArray.empty,.slice none 0 0]):=by kernel_rfl
theorem Oe:(Tryz.prog.info? 134).bind (·.zero)=some (.agg #[.string ByteArray.empty,.int .u64 0,.int .u64 0,.int .u64 0,.int .u64 0]):=by kernel_rfl
theorem C9:(Tryz.prog.info? 136).bind (·.zero)=some (.agg #[.string ByteArray.empty,.int .u64 0,.int .u64 0,.int .u64 0,.int .u64 0,.int .u64 0,.int .u64 0,.int .u64 0,.int .u64 0]):=by kernel_rfl
theorem uN:(Tryz.prog.info? 138).bind (·.zero)=some (.agg #[.string ByteArray.empty,.int .u64 0,.int .u64 0,.int .u64 0,.int .u64 0,.int .i64 0,.int .u64 0,.int .i64 0,.int .u64 0,.int .i64 0,.int .u64 0]):=by kernel_rfl
theorem Od:(Tryz.prog.info? 140).bind (·.zero)=some (.agg #[.string ByteArray.empty,.bool false]):=by kernel_rfl
theorem zH:(Tryz.prog.info? 142).bind (·.zero)=some (.agg #[.int .i64 0,.int .u64 0,.int .u64 0,.int .u64 0,.int .u64 0,.int .u64 0,.int .u64 0,.int .u64 0,.int .u64 0,.bool false,.int .i64 0,.int .u32 0,.int .i64 0]):=by kernel_rfl
theorem Oc:(Tryz.prog.info? 145).bind (·.zero)=some (.agg #[.string ByteArray.empty,.int .i64 0,.int .i64 0,.int .i64 0,.int .i64 0,.int .u64 0,.int .i64 0,.int .u64 0]):=by kernel_rfl
theorem XM:(Tryz.prog.info? 147).bind (·.zero)=some (.agg #[.slice none 0 0,.slice none 0 0,.slice none 0 0,.slice none 0 0,.slice none 0 0,.slice none 0 0,.slice none 0 0,.slice none 0 0,.slice none 0 0,.slice none 0 0,.slice none 0 0,.slice none 0 0,.slice none 0 0,.slice none 0 0,.slice none 0 0,.slice none 0 0,.slice none 0 0]):=by kernel_rfl
theorem Bb:(Tryz.prog.info? 186).bind (·.zero)=some (.agg #[.int .u64 0,.int .u64 0,.int .u64 0,.int .u64 0,.int .u64 0,.int .u64 0,.int .u64 0,.int .u64 0,.int .i64 0,.int .i64 0]):=by kernel_rfl
theorem Ba:(Tryz.prog.info? 190).bind (·.zero)=some (.agg #[.int .u64 0,.int .u64 0,.int .u64 0,.int .u64 0,.int .u64 0,.int .u64 0,.int .u64 0,.int .u64 0,.int .i64 0,.int .i64 0,.int .u64 0,.int .i64 0,.int .u64 0]):=by kernel_rfl
theorem C8:(Tryz.prog.info? 199).bind (·.zero)=some (.agg #[.string ByteArray.empty,.int .i64 0,.int .i64 0,.int .i64 0,.int .i64 0,.int .i64 0,.int .u64 0,.int .i64 0,.int .u64 0]):=by kernel_rfl
theorem A_:(Tryz.prog.info? 203).bind (·.zero)=some (.agg #[.string ByteArray.empty,.int .i64 0,.int .u64 0,.int .u64 0,.int .u64 0,.int .u64 0,.int .u64 0,.int .u64 0,.int .u64 0,.int .u64 0]):=by kernel_rfl
theorem sW:Tryz.prog.eqGuardType Tryz.prog.depth 77=false:=by kernel_rfl
theorem LG:Tryz.prog.eqGuardType Tryz.prog.depth 136=false:=by kernel_rfl
inductive TD where
 | st (n:Nat) (Ez:List Nat)
 | sl (e k b:Nat)
 | arr (len e k:Nat)
 | str
 | one
def uX(P:Program)(t n:Nat):Bool:=match P.info? t with
 | some i=>Nat.beq i.size n
 | none=>false
def nE(P:Program)(t:Nat):TD→Bool
 | .st n Ez=>(match P.underlying t with|some (.struct fs)=>(fs.toList.map (·.offset) == Ez)&&fs.toList.all (fun f=>match P.info? f.type with|some i=>Nat.blt 0 i.size|none=>false)|_=>false)&&uX P t n
 | .sl e k b=>((match P.underlying t with|some (.slice e')=>Nat.beq e e'|_=>false)&&B_ (P.info? e) k b)&&uX P t 1
 | .arr len e k=>((match P.underlying t with|some (.array n e')=>Nat.beq len n&&Nat.beq e e'|_=>false)&&uX P e k)&&uX P t (len*k)
 | .str=>match P.underlying t with|some .string=>uX P t 1|_=>false
 | .one=>(match P.underlying t with|some (.struct _)=>false|some (.array _ _)=>false|some _=>true|none=>false)&&uX P t 1
def TT:List (Nat×TD):=[
 (39,.st 17 [0,1,2,3,4,5,6,7,8,9,10,11,12,13,14,15,16]),
 (3,.one),
 (77,.arr 4 59 1),
 (84,.st 10 [0,1,2,3,4,5,9]),
 (42,.sl 5 1 1),
 (28,.sl 9 1 16),
 (9,.str),
 (117,.one),
 (92,.one),
 (147,.st 17 [0]),
 (65,.st 7 [0,1,2,3]),
 (23,.sl 81 3 48),
 (29,.sl 84 10 112),
 (61,.st 2 [0,1]),
 (107,.one),
 (79,.st 13 [0,1,5,9,10,11,12]),
 (209,.one),
 (142,.st 13 [0,1,5,9,10,11,12]),
 (88,.sl 3 1 8),
 (25,.sl 136 9 80),
 (138,.st 11 [0,1,5,7]),
 (63,.st 4 [0,2]),
 (31,.sl 79 13 112),
 (22,.sl 131 2 40),
 (26,.sl 138 11 96),
 (86,.st 13 [0,1,2,3]),
 (81,.st 3 [0,1,2]),
 (203,.st 10 [0,1,2,6]),
 (110,.st 3 [0,1,2]),
 (186,.st 10 [0,4,8,9]),
 (136,.st 9 [0,1,5]),
 (190,.st 13 [0,4,8,9]),
 (131,.st 2 [0,1]),
 (43,.one),
 (36,.sl 199 9 80),
 (24,.sl 134 5 48),
 (59,.one),
 (199,.st 9 [0,1,2]),
 (4,.one),
 (34,.sl 86 13 128),
 (96,.st 3 [0,1,2]),
 (35,.sl 145 8 72),
 (37,.sl 203 10 88),
 (33,.sl 190 13 104),
 (30,.sl 142 13 104),
 (27,.sl 140 2 24),
 (134,.st 5 [0,1]),
 (32,.sl 186 10 80),
 (145,.st 8 [0,1]),
 (140,.st 2 [0,1]),
 (249,.st 21 [0,7,14]),
 (243,.st 4 [0,1,2]),
 (211,.st 2 [0,1]),
 (68,.one),
 (5,.one),
 (116,.st 2 [0,1]),
 (98,.st 4 [0,3]),
 (257,.sl 77 4 32),
 (75,.arr 4 3 1),
 (222,.sl 43 1 8),
 (322,.arr 2 61 2),
 (152,.one),
 (66,.arr 2 65 7),
 (21,.one),
 (58,.sl 4 1 1),
 (100,.one),
 (94,.one),
 (70,.st 5 [0,1,2,3,4]),
 (315,.sl 59 1 8),
 (114,.one),
 (348,.st 1 [0])]
theorem Z2:TT.all (fun x=>nE Tryz.prog x.1 x.2)=true:=by kernel_rfl
def NF:Nat:=369
def Oa:List Nat:=[0,1,2,345,346,347,348,349,350,351,352,353,354,355,356,357,358,359,360,361,362,363,365,366,367]
def nj(x:Nat):List Nat→Bool
 | []=>false
 | y::r=>bif Nat.beq x y then true else nj x r
theorem aad:(List.range NF).all (fun f=>Du Tryz.prog f||nj f Oa)=true:=by kernel_rfl
end Go.Proofs.YtkkmjdceiocnbaaGreatDoor

import Derived.ChangeKeysEq
import Derived.Ground.Names2Prog
import Derived.Laws.StructEq
import Derived.Shelf.Bytes.WriteAt
import Derived.Shelf.Bytes.WriteStringAt
import Derived.Test.YtkkmjdceiocnbaaGreatDoorSX4
open Bool renaming and_eq_true→ajc
open Go renaming wp_seq_k→aja,wpList_nil→ajb
open Go.Lib renaming hid→ai_
open Go.RowKit renaming Below→ai3
open Go.Sem renaming run_bind→aiW
open List renaming length_append→aiX,getElem?_eq_some_iff→aiY,flatMap_append→ai0,mem_cons→ai1,mem_cons_self→ai2,mem_cons_of_mem→ai4,getElem?_eq_getElem→ai6,length_take→ai7,take_length→ai8,mem_of_getElem?→ai9
open Nat renaming zero_le→aiZ
open Option.some renaming inj→ai5
set_option maxRecDepth 100000
set_option maxHeartbeats 8000000
set_option linter.unusedSectionVars false
set_option linter.unusedSimpArgs false
set_option linter.unusedVariables false
namespace Go.Proofs.YtkkmjdceiocnbaaGreatDoor
open Go Go.RowKit
theorem dw{P:Program}{a:Act}{w:World}{o:Oper}{ss tt:TypeId}{x:Operand}{k k':IntKind}{m:Int}(ho:o.op=.convert ss tt x)(hx:a.eval x=.int k m)(hs:P.underlying ss=some (.int k))(ht:P.underlying tt=some (.int k')):(execOp a.eval o).run P w=.ok (.value (.int k' (k'.wrap m))) w:=by
 unfold execOp;simp[ho,hx,convert,aiW,Sem.run_pure,oF hs,oF ht,Conv.intToInt]
abbrev aH (v:Value) (l:List Nat):Rw:=⟨v,5,1,l.length,byteCells l⟩
theorem Ob(v:Value)(a b:List Nat):(⟨v,5,1,a.length+b.length,byteCells a++byteCells b⟩:Rw)=aH v (a++b):=by
 rw[← byteCells_append,← aiX]
def Kk(B:Nat)(w0:World)(bs:List Bx)(rs:List Rw)(l:List Nat):Ending→World→Prop:=fun r w'=>∃ v',r=.returned v'∧aC B w0 w' bs (aH v' l::rs)
abbrev aF:Nat:=1099511627776
theorem cb{B:Nat}{w0 w:World}{bs:List Bx}{rs:List Rw}{l:List Nat}{X:Prop}{f:FuncId}{args:Array Value}{K:Value→List Bx→List Rw→World→Prop}(hc:Calls Tryz.prog f args w (Kk B w0 bs rs l))(h:∀ v w',aC B w0 w' bs (aH v l::rs)→K v bs (aH v l::rs) w'):
 X∨∃ R:Value→World→Prop,(Calls Tryz.prog f args w fun e w'=>∃ v,e=.returned v∧R v w')∧∀ v w',R v w'→∃ bs' rs',aC B w0 w' bs' rs'∧K v bs' rs' w':=
 .inr ⟨fun v w'=>aC B w0 w' bs (aH v l::rs),hc,fun v w' h'=>⟨_,_,h',h v w' h'⟩⟩
theorem oM{B:Nat}{w0 w:World}{bs:List Bx}{rs:List Rw}{v u:Value}{xs ys:List Nat}(M:aC B w0 w bs (aH v xs::rs))(hs:aj w u ys)(hb:xs.length+ys.length≤aF):
 Calls Tryz.prog 126 #[v,u] w (Kk B w0 bs rs (xs++ys)):=by
 refine bY M [] (fn:=Tryz.f126) Tryz.func126 rfl Tryz.ntmps126 rfl<|ap 0 id rfl hs.1 ⟨by unfold maxLen;unfold aF at hb;omega,by unfold aF at hb;omega⟩ fun v1 w1 M1=>fun M=>⟨v1,rfl,M.cast rfl (by rw[Ob])⟩
theorem GS(n:Nat):IntKind.u8.wrap (n:Int)=((n%256:Nat):Int):=by simp[IntKind.wrap,IntKind.bits,IntKind.signed]
theorem uG{B:Nat}{w0 w:World}{bs:List Bx}{rs:List Rw}{g:Nat}{l:List Nat}(M:aC B w0 w ((g,5,(byteCells l).toArray)::bs) rs)(hl:l.length≤100000)(hx:Bytes l):aj w (.slice (some ⟨g,0,none⟩) l.length l.length) l:=
 aj.new (M.b 0 rfl) (Below.refl _ _) hl hx
theorem fV{B:Nat}{w0 w:World}{bs:List Bx}{rs:List Rw}{v:Value}{xs:List Nat}{n:Nat}(M:aC B w0 w bs (aH v xs::rs))(hn:cW n)(hb:xs.length+10≤aF):
 Calls Tryz.prog 85 #[v,.int .u64 (n:Int)] w (Kk B w0 bs rs (xs++aL n)):=by
 have zw:=aZ hn;refine bY M [] (fn:=Tryz.f85) Tryz.func85 rfl Tryz.ntmps85 rfl<|lq (ι:=List Nat×Value×Nat) (fun x=>[(0,x.2.1),(1,.int .u64 (x.2.2:Int))]) (fun x=>aH x.2.1 x.1::rs) (fun x _=>x.1++aL x.2.2=xs++aL n∧cW x.2.2) (fun x=>x.2.2) (xs,v,n)<|an ⟨⟨rfl,rfl,trivial⟩,fun M=>⟨M,rfl,hn⟩⟩ ?_;rintro⟨ys,u,m⟩ w1 M1 ⟨hR,hm⟩;refine an (fun h=>?_) fun h=>?_
 ·have h:128≤m:=Int.ofNat_le.1 (of_decide_eq_true h);dsimp only at hR hm;have h0:m%256%128=m%128:=by omega
  have hlen:(ys++aL m).length≤xs.length+10:=by rw[hR];simp;omega
  rw[aL,if_neg (by omega)] at hlen;simp only[aiX,List.length_cons] at hlen;refine ei<|an (fun a w o ho hv=>dw ho (aQ hv) uR u5)<|ei (x:=((m%128+128:Nat):Int))<|an ?_ fun g w2 M2=>cb (oM M2 (uG (l:=[m%128+128]) M2 (by simp) (by simp[Bytes];omega)) (by simp only[List.length_singleton];omega)) fun v3 w3 M3=>?_
  ·rw[GS];have:=V0 (m%256) (by omega);rw[h0] at this;exact this
  refine ei (x:=.int .u64 ((m/128:Nat):Int))<|an (fun a w o ho hv=>(rG ho (aQ hv) (cO hv) (by omega) (by decide)).trans (by simp))<|bk (ys++[m%128+128],v3,m/128) ⟨rfl,rfl,trivial⟩ (fun M=>⟨M.only (.cons _ (.refl _)) (.refl _),?_,?_⟩) ?_
  ·rw[← hR,List.append_assoc]
   conv=>rhs;rw[aL,if_neg (by omega)]
   rfl
  ·unfold cW at *;dsimp only;omega
  ·dsimp only;omega
 ·have h:m<128:=Nat.lt_of_not_le fun h'=>of_decide_eq_false h (Int.ofNat_le.2 h')
  dsimp only at hR hm;have hlen:(ys++aL m).length≤xs.length+10:=by rw[hR];simp;omega
  rw[aL,if_pos (by omega)] at hlen hR;simp only[aiX,List.length_cons] at hlen;exact ei (x:=.int .u8 (m:Int))<|an (fun a w o ho hv=>(dw ho (aQ hv) uR u5).trans (by rw[GS,Nat.mod_eq_of_lt (show m<256 by omega)])) fun g w2 M2=>cb (oM M2 (uG (l:=[m]) M2 (by simp) (by simp[Bytes];omega)) (by simp only[List.length_singleton];omega)) fun v3 w3 M3=>fun M=>⟨v3,rfl,(M.only (.cons _ (.refl _)) (.refl _)).cast rfl (by rw[hR])⟩
theorem IW(w:World)(s:ByteArray)(hs:s.size≤aF):∃ v w',(convert 9 42 (.string s)).run Tryz.prog w=.ok v w'∧aj w' v (bX s)∧Below w.heap.size w w':=by
 refine⟨_,_,run_bytes_of_string w 9 42 5 s u9 IG u5,?_,(Below.refl _ w).drew.alloc (Nat.le_refl _) _⟩;refine⟨⟨by simp[byteCells],by rw[dF];unfold maxLen;unfold aF at hs;omega,iW _,.inr ⟨_,_,by rw[dF],?_,fun j u hu=>?_⟩⟩,pT s⟩
 ·rw[dF];exact grownCap_ge ..
 ·rw[Addr.add_lit,Nat.zero_add];have hg:(w.drew.alloc (.cells (bytesRow s (grownCap w s.size 0 5)) 5 ((bytesRow s (grownCap w s.size 0 5)).size,(bytesRow s (grownCap w s.size 0 5)).size+1))).heap[w.heap.size]?=some (.cells (bytesRow s (grownCap w s.size 0 5)) 5 ((bytesRow s (grownCap w s.size 0 5)).size,(bytesRow s (grownCap w s.size 0 5)).size+1)):=heap_alloc_new w.drew _;rw[cell_of_row _ _ j _ _ _ hg]
  have hj:j<s.size:=by
   have:=(aiY.1 hu).1;simpa[byteCells,bX] using this
  unfold bytesRow;rw[Array.getElem?_append_left (by simpa using hj)];simpa[byteCells,bX] using hu
theorem cvs{B:Nat}{w0 w:World}{bs:List Bx}{rs:List Rw}{ty:TypeId}{x:Operand}{s:ByteArray}{K:Value→List Bx→List Rw→World→Prop}(M:aC B w0 w bs rs)(hs:s.size≤aF)(h:∀ v w',aj w' v (bX s)→aC B w0 w' bs rs→K v bs rs w'):
 ∃ R:Value→World→Prop,(∀ (a:Act) (o':Oper),o'.op=.convert 9 42 x→o'.type=ty→q6 a (gb (.convert 9 42 x)) [.string s]→∃ v w',(execOp a.eval o').run Tryz.prog w=.ok (.value v) w'∧R v w')∧∀ v w',R v w'→∃ bs' rs',aC B w0 w' bs' rs'∧K v bs' rs' w':=by
 obtain⟨v,w',hr,hv,hb⟩:=IW w s hs;refine⟨fun u w2=>u=v∧w2=w',fun a o' hop _ oO=>⟨_,_,?_,rfl,rfl⟩,?_⟩
 ·unfold execOp;simp[hop,aQ oO,hr,aiW,Result.andThen]
 ·rintro v w2 ⟨rfl,rfl⟩;exact⟨_,_,M.keep hb,h _ _ hv (M.keep hb)⟩
theorem wK{n:Nat}(h:cW n):IntKind.u64.wrap (n:Int)=(n:Int):=by unfold cW at h;simp only[IntKind.wrap,IntKind.bits,IntKind.signed];simp;omega
theorem CT{B:Nat}{w0 w:World}{bs:List Bx}{rs:List Rw}{v:Value}{xs:List Nat}{s:ByteArray}(M:aC B w0 w bs (aH v xs::rs))(hb:xs.length+10+s.size≤aF):
 Calls Tryz.prog 197 #[v,.string s] w (Kk B w0 bs rs (xs++(aL s.size++bX s))):=by
 have hu:cW s.size:=by unfold cW;unfold aF at hb;omega
 have zw:=aZ hu;refine bY M [] (fn:=Tryz.f197) Tryz.func197 rfl Tryz.ntmps197 rfl<|ei (x:=.int .u64 (s.size:Int))<|an (fun a w o ho hv=>(dw ho (aQ hv) u3 uR).trans (by rw[wK hu]))<|cb (fV M hu (by omega)) fun v2 w2 M2=>cvs M2 (by omega) fun v3 w3 h3 M3=>cb (oM M3 h3 (by simp only[aiX,dF];omega)) fun v4 w4 M4=>fun M=>⟨v4,rfl,M.cast rfl (by rw[List.append_assoc])⟩
theorem zo{B:Nat}{w0 w:World}{bs:List Bx}{rs:List Rw}{v:Value}{xs:List Nat}{m:Int}(M:aC B w0 w bs (aH v xs::rs))(hm:eF m)(hb:xs.length+10≤aF):
 Calls Tryz.prog 199 #[v,.int .i64 m] w (Kk B w0 bs rs (xs++aL (Ch m))):=by
 refine bY M [] (fn:=Tryz.f199) Tryz.func199 rfl Tryz.ntmps199 rfl<|ei<|an (fun a w o ho hv=>dw ho (aQ hv) u2 uR)<|ei<|an (fun a w o ho hv=>Nn ho (aQ hv) (cO hv) (by omega) (by decide))<|ei<|an (fun a w o ho hv=>rG ho (aQ hv) (cO hv) (by omega) (by decide))<|ei<|an (fun a w o ho hv=>dw ho (aQ hv) u2 uR)<|ei (x:=(Ch m:Int))<|an ?_<|cb (fV M (wI hm) hb) fun v2 w2 M2=>fun M=>⟨v2,rfl,M⟩
 exact KR hm
theorem IZ(w:World)(g:Nat)(n:Nat)(hn:n≤4):(Instr.sliceAt 77 (.pointer (some ⟨g,0,none⟩)) none (some (.int .i64 (n:Int))) none).run Tryz.prog w=.ok (.slice (some ⟨g,0,none⟩) n 4) w:=by
 obtain rfl|rfl|rfl|rfl|rfl:n=0∨n=1∨n=2∨n=3∨n=4:=by omega
 all_goals kernel_rfl
theorem csl{B:Nat}{w0 w:World}{bs:List Bx}{rs:List Rw}{ty:TypeId}{x y:Operand}{g n:Nat}{K:Value→List Bx→List Rw→World→Prop}(M:aC B w0 w bs rs)(hn:n≤4)(h:K (.slice (some ⟨g,0,none⟩) n 4) bs rs w):
 ∃ R:Value→World→Prop,(∀ (a:Act) (o':Oper),o'.op=.slice 77 x none (some y) none→o'.type=ty→q6 a (gb (.slice 77 x none (some y) none)) [.pointer (some ⟨g,0,none⟩),.int .i64 (n:Int)]→∃ v w',(execOp a.eval o').run Tryz.prog w=.ok (.value v) w'∧R v w')∧∀ v w',R v w'→∃ bs' rs',aC B w0 w' bs' rs'∧K v bs' rs' w':=by
 refine⟨fun u w2=>u=.slice (some ⟨g,0,none⟩) n 4∧w2=w,fun a o' hop _ oO=>⟨_,_,?_,rfl,rfl⟩,?_⟩
 ·unfold execOp;simp[hop,aQ oO,cO oO,IZ w g n hn,aiW,Result.andThen]
 ·rintro v w2 ⟨rfl,rfl⟩;exact⟨_,_,M,h⟩
theorem EO{B:Nat}{w0 w:World}{bs:List Bx}{rs:List Rw}{v:Value}{xs:List Nat}{a b c d:Nat}(M:aC B w0 w bs (aH v xs::rs))(ha:cW a)(hb:cW b)(hc:cW c)(hd:cW d)(hl:xs.length+60≤aF):
 Calls Tryz.prog 198 #[v,.agg #[.int .u64 (a:Int),.int .u64 (b:Int),.int .u64 (c:Int),.int .u64 (d:Int)]] w (Kk B w0 bs rs (xs++iK a b c d)):=by
 refine bY M [] (fn:=Tryz.f198) Tryz.func198 rfl Tryz.ntmps198 rfl<|fun g1 w1 M1=>lr (ι:=Nat) (fun k=>[(5,.int .i64 (k:Int))]) (fun k _=>k≤4∧bM a b c d≤k) (fun k=>k) 4<|an ⟨⟨rfl,trivial⟩,fun M=>⟨M,Nat.le_refl _,ny a b c d⟩⟩ ?_
 intro k w2 M2 ⟨hk,hpre⟩
 obtain⟨y,hy,PY⟩:∃ y,cW y∧(0<k→([a,b,c,d]:List Nat)[k-1]?=some y):=by
  by_cases h0:0<k
  ·obtain⟨y,h1,h2⟩:=vX ha hb hc hd (j:=k-1) (by omega);exact⟨y,h2,fun _=>h1⟩
  ·exact⟨0,by unfold cW;omega,fun h=>absurd h h0⟩
 have hW:=M2.b 0 rfl;have hpos:decide (0<(k:Int))=true→0<k:=fun h=>Int.ofNat_lt.1 (of_decide_eq_true h)
 refine an (fun h=>by have:=hpos h;omega)<|ei (x:=k-1)<|an (fun h=>⟨by have:=hpos h;omega,by have:=hpos h;omega⟩)<|lc (x:=.int .u64 (y:Int))<|an (fun h=>?_)<|an (fun h=>?_) fun h=>?_
 ·rw[Nat.zero_add,Nat.mul_one,hW.cell];exact qI (PY (hpos h))
 ·have h1:0<k:=hpos (by simpa using(Bool.and_eq_true_iff.1 h).1);have h2:y=0:=Int.ofNat_inj.1 (of_decide_eq_true (Bool.and_eq_true_iff.1 h).2);subst h2;exact an (by omega)<|bk (k-1) ⟨congrArg (fun z=>some (Value.int .i64 z)) (show(k:Int)-1=((k-1:Nat):Int) by omega),trivial⟩ (fun M=>⟨M,by omega,zS (PY h1) (by omega)⟩) (show k-1<k by omega)
 ·have hk2:bM a b c d=k:=by
   refine Nat.le_antisymm hpre ?_;rcases Nat.eq_zero_or_pos k with h0|h0
   ·omega
   ·have:=zT (PY h0) (fun e=>by subst e;simp[h0] at h);omega
  clear h PY hpre hy;have Tp:cW k:=by unfold cW;omega
  have zw:=aZ Tp;refine ei (x:=.int .u64 (k:Int))<|an (fun a w o ho hv=>(dw ho (aQ hv) u3 uR).trans (by rw[wK Tp]))<|cb (fV M2 Tp (by omega)) fun v3 w3 M3=>csl M3 hk<|lq (ι:=Nat×Value) (fun z=>[(0,z.2),(26,.int .i64 (z.1:Int))]) (fun z=>aH z.2 (xs++aL k++(([a,b,c,d]:List Nat).take z.1).flatMap aL)::rs) (fun z _=>z.1≤k) (fun z=>k-z.1) (0,v3)<|an ⟨⟨rfl,rfl,trivial⟩,fun M=>⟨M.cast rfl (by simp),aiZ _⟩⟩ ?_
  rintro⟨j,u⟩ w4 M4 hj;have hj:j≤k:=hj;have hf:=yA (j:=j) (Nat.le_trans hj hk) ha hb hc hd;have hlen:(xs++aL k++(([a,b,c,d]:List Nat).take j).flatMap aL).length+10≤aF:=by simp only[aiX];omega
  have hfin:xs++aL k++(([a,b,c,d]:List Nat).take k).flatMap aL=xs++iK a b c d:=by rw[List.append_assoc];unfold iK;rw[hk2]
  refine an (fun h=>?_) fun h=>?_
  ·have hlt:j<k:=Int.ofNat_lt.1 (of_decide_eq_true h);obtain⟨y,h1,h2⟩:=vX ha hb hc hd (j:=j) (by omega);exact ia<|an ⟨rfl,rfl,hlt⟩<|lc (x:=.int .u64 (y:Int))<|an (by rw[(M4.b 0 rfl).cell];simpa using qI h1)<|cb (fV M4 h2 hlen) fun v5 w5 M5=>an (by omega)<|bk (j+1,v5) ⟨rfl,rfl,trivial⟩ (fun M=>⟨M.cast rfl (by rw[List.take_add_one,h1,ai0,List.append_assoc (xs++aL k)];simp),hlt⟩) (by dsimp only;omega)
  ·have hge:j=k:=Nat.le_antisymm hj (Nat.le_of_not_lt fun h'=>of_decide_eq_false h (Int.ofNat_lt.2 h'));subst hge;exact fun M=>⟨u,rfl,(M.only (.cons _ (.refl _)) (.refl _)).cast rfl (congrArg (fun l=>aH u l::rs) hfin)⟩
end Go.Proofs.YtkkmjdceiocnbaaGreatDoor
namespace Go.Proofs.YtkkmjdceiocnbaaGreatDoor
open Go Go.Proofs Go.Shelf
def Dd:Go.Shelf.Ren:=⟨fun|180=>84|251=>82|252=>83|181=>194|184=>195|290=>196|324=>292|n=>n,fun|130=>152|37=>42|3=>3|75=>100|0=>0|93=>96|91=>94|131=>153|4=>4|20=>20|5=>5|80=>217|9=>9|n=>n,fun|14=>0|n=>n⟩
theorem Pw:Go.Proofs.LaysM.n180 Tryz.prog Dd:={
 mixed:=by kernel_rfl
 f180:=Tryz.func84.trans (congrArg some (by kernel_rfl))
 f181:=Tryz.func194.trans (congrArg some (by kernel_rfl))
 f184:=Tryz.func195.trans (congrArg some (by kernel_rfl))
 f251:=Tryz.func82.trans (congrArg some (by kernel_rfl))
 f252:=Tryz.func83.trans (congrArg some (by kernel_rfl))
 f290:=Tryz.func196.trans (congrArg some (by kernel_rfl))
 f324:=Tryz.func292.trans (congrArg some (by kernel_rfl))
 t0:=Tryz.underlying0
 a0:=Tryz.isAgg0
 z0:=Tryz.sizeOf0
 v0:=Tryz.zeroValue0
 t3:=Tryz.underlying3
 a3:=Tryz.isAgg3
 z3:=Tryz.sizeOf3
 v3:=Tryz.zeroValue3
 t4:=Tryz.underlying4
 a4:=Tryz.isAgg4
 z4:=Tryz.sizeOf4
 v4:=Tryz.zeroValue4
 t20:=Tryz.underlying20
 a20:=Tryz.isAgg20
 z20:=Tryz.sizeOf20
 v20:=Tryz.zeroValue20
 t37:=Tryz.underlying42
 a37:=Tryz.isAgg42
 z37:=Tryz.sizeOf42
 v37:=Tryz.zeroValue42
 t75:=Tryz.underlying100
 a75:=Tryz.isAgg100
 z75:=Tryz.sizeOf100
 v75:=Tryz.zeroValue100
 t91:=Tryz.underlying94
 a91:=Tryz.isAgg94
 z91:=Tryz.sizeOf94
 v91:=Tryz.zeroValue94
 t93:=Tryz.underlying96
 a93:=Tryz.isAgg96
 z93:=Tryz.sizeOf96
 v93:=Tryz.zeroValue96
 t130:=Tryz.underlying152
 a130:=Tryz.isAgg152
 z130:=Tryz.sizeOf152
 v130:=Tryz.zeroValue152
 t131:=Tryz.underlying153
 a131:=Tryz.isAgg153
 z131:=Tryz.sizeOf153
 v131:=Tryz.zeroValue153
 g14:=by kernel_rfl
 t5:=Tryz.underlying5
 a5:=Tryz.isAgg5
 z5:=Tryz.sizeOf5
 v5:=Tryz.zeroValue5
 t9:=Tryz.underlying9
 a9:=Tryz.isAgg9
 z9:=Tryz.sizeOf9
 v9:=Tryz.zeroValue9
 t80:=Tryz.underlying217
 a80:=Tryz.isAgg217
 z80:=Tryz.sizeOf217
 v80:=Tryz.zeroValue217
 i0:=by kernel_rfl
 i3:=by kernel_rfl
 i4:=by kernel_rfl
 i5:=by kernel_rfl
 i9:=by kernel_rfl
 i20:=by kernel_rfl
 i37:=by kernel_rfl
 i75:=by kernel_rfl
 i80:=by kernel_rfl
 i91:=by kernel_rfl
 i93:=by kernel_rfl
 i130:=by kernel_rfl
 i131:=by kernel_rfl
 m14:=by kernel_rfl }
def Df:Go.Shelf.Ren:=⟨fun|178=>33|251=>82|252=>83|181=>194|184=>195|290=>196|324=>292|n=>n,fun|130=>152|9=>9|3=>3|75=>100|0=>0|93=>96|91=>94|131=>153|4=>4|37=>42|20=>20|80=>217|5=>5|n=>n,fun|14=>0|n=>n⟩
theorem Px:Go.Proofs.LaysM.n178 Tryz.prog Df:={
 mixed:=by kernel_rfl
 f178:=Tryz.func33.trans (congrArg some (by kernel_rfl))
 f181:=Tryz.func194.trans (congrArg some (by kernel_rfl))
 f184:=Tryz.func195.trans (congrArg some (by kernel_rfl))
 f251:=Tryz.func82.trans (congrArg some (by kernel_rfl))
 f252:=Tryz.func83.trans (congrArg some (by kernel_rfl))
 f290:=Tryz.func196.trans (congrArg some (by kernel_rfl))
 f324:=Tryz.func292.trans (congrArg some (by kernel_rfl))
 t0:=Tryz.underlying0
 a0:=Tryz.isAgg0
 z0:=Tryz.sizeOf0
 v0:=Tryz.zeroValue0
 t3:=Tryz.underlying3
 a3:=Tryz.isAgg3
 z3:=Tryz.sizeOf3
 v3:=Tryz.zeroValue3
 t4:=Tryz.underlying4
 a4:=Tryz.isAgg4
 z4:=Tryz.sizeOf4
 v4:=Tryz.zeroValue4
 t9:=Tryz.underlying9
 a9:=Tryz.isAgg9
 z9:=Tryz.sizeOf9
 v9:=Tryz.zeroValue9
 t20:=Tryz.underlying20
 a20:=Tryz.isAgg20
 z20:=Tryz.sizeOf20
 v20:=Tryz.zeroValue20
 t37:=Tryz.underlying42
 a37:=Tryz.isAgg42
 z37:=Tryz.sizeOf42
 v37:=Tryz.zeroValue42
 t75:=Tryz.underlying100
 a75:=Tryz.isAgg100
 z75:=Tryz.sizeOf100
 v75:=Tryz.zeroValue100
 t91:=Tryz.underlying94
 a91:=Tryz.isAgg94
 z91:=Tryz.sizeOf94
 v91:=Tryz.zeroValue94
 t93:=Tryz.underlying96
 a93:=Tryz.isAgg96
 z93:=Tryz.sizeOf96
 v93:=Tryz.zeroValue96
 t130:=Tryz.underlying152
 a130:=Tryz.isAgg152
 z130:=Tryz.sizeOf152
 v130:=Tryz.zeroValue152
 t131:=Tryz.underlying153
 a131:=Tryz.isAgg153
 z131:=Tryz.sizeOf153
 v131:=Tryz.zeroValue153
 g14:=by kernel_rfl
 t5:=Tryz.underlying5
 a5:=Tryz.isAgg5
 z5:=Tryz.sizeOf5
 v5:=Tryz.zeroValue5
 t80:=Tryz.underlying217
 a80:=Tryz.isAgg217
 z80:=Tryz.sizeOf217
 v80:=Tryz.zeroValue217
 i0:=by kernel_rfl
 i3:=by kernel_rfl
 i4:=by kernel_rfl
 i5:=by kernel_rfl
 i9:=by kernel_rfl
 i20:=by kernel_rfl
 i37:=by kernel_rfl
 i75:=by kernel_rfl
 i80:=by kernel_rfl
 i91:=by kernel_rfl
 i93:=by kernel_rfl
 i130:=by kernel_rfl
 i131:=by kernel_rfl
 m14:=by kernel_rfl }
end Go.Proofs.YtkkmjdceiocnbaaGreatDoor
namespace Go.Proofs.YtkkmjdceiocnbaaGreatDoor
open Go Go.RowKit
def jW(bs:List Bx)(rs:List Rw):Prop:=(∀ b∈bs,b.2.1≠5∧Nat.blt b.2.1 9000=true)∧∀ r∈rs,r.e≠5
theorem jW.nil:jW [] []:=⟨by simp,by simp⟩
theorem jW.cons{bs:List Bx}{rs:List Rw}(h:jW bs rs){g t:Nat}{cs:Array Value}(ht:Nat.beq t 5=false:=by rfl)(h9:Nat.blt t 9000=true:=by rfl):jW ((g,t,cs)::bs) rs:=
 ⟨fun b hb=>(ai1.1 hb).elim (fun e=>by subst e;exact⟨fun e=>(by rw[show t=5 from e] at ht;cases ht),h9⟩) (h.1 b),h.2⟩
abbrev bC (W:Nat) (v:Value) (lr ver:Int):Bx:=(W,98,#[v,.int .i64 0,.int .i8 lr,.int .i64 ver])
abbrev zH (ver:Int):Nat→Option Value:=fun i=>if i=3 then some (.int .i64 ver) else none
def RA(B:Nat)(w0 w:World)(bs:List Bx)(rs:List Rw)(W:Nat)(ver:Int)(xs:List Nat):Prop:=∃ v lr,aC B w0 w (bC W v lr ver::bs) (aH v xs::rs)
section
variable {B W:Nat} {w0 w w':World} {bs:List Bx} {rs:List Rw} {v:Value} {lr ver:Int} {xs ys:List Nat}
theorem Oa(M:aC B w0 w (bC W v lr ver::bs) (aH v xs::rs)):LibA.IsBuffer 98 (zH ver) 5 B W 0 (byteCells xs) w:=by
 refine⟨M.lo _ (ai2 ..),v,lr,⟨_,M.b 0 rfl,rfl,rfl,rfl,fun i hi=>?_⟩,?_,M.far _ (ai2 ..) _ (ai2 ..)⟩
 ·unfold zH
  match i with
  | 3=>rfl
  | i+4=>simp
 ·have:=M.r 0 rfl;simpa[byteCells] using this
theorem Ap(M:aC B w0 w (bC W v lr ver::bs) (aH v xs::rs))(h5:jW bs rs)(hI:LibA.IsBuffer 98 (zH ver) 5 B W 0 (byteCells ys) w')(hb:ai3 B w w')(hk:Lib.OthersKept 5 (some W) w w'):RA B w0 w' bs rs W ver ys:=by
 obtain⟨hB,v',V6,⟨cs,hc,h0,h1,h2,hr⟩,ho,hne⟩:=hI
 have hcs:cs=#[v',.int .i64 0,.int .i8 V6,.int .i64 ver]:=by
  refine Array.ext_getElem? fun i=>?_
  match i with
  | 0=>exact h0
  | 1=>exact h1
  | 2=>exact h2
  | 3=>exact(hr 3 (.inr (by omega))).trans rfl
  | i+4=>rw[hr (i+4) (.inr (by omega))];simp[zH]
 subst hcs;have hnd:=M.nd;simp only[List.map_cons,List.nodup_cons] at hnd;have hW:∀ b∈bs,b.1≠W:=fun b hb e=>hnd.1 (e▸List.mem_map_of_mem hb)
 have WI:∀ b∈bs,w'.heap[b.1]?=w.heap[b.1]?:=fun b hb=>by
  have hw:=q7.whole (M.box b (ai4 _ hb)) (h5.1 b hb).2;have h:=hk b.1 _ hw (fun e=>hW b hb (ai5 e)) (fun c fz e=>(h5.1 b hb).1 (by injection e));rw[h,hw]
 have hrow:∀ r∈rs,w'.ownsRow B r.e r.k r.v r.n r.xs∧∀ q,r.v.ownBlock=some q→∃ cur,w'.heap[q]?=some (.cells cur r.e (0,0)):=fun r hr=>by
  obtain⟨hl,h⟩:=M.row r (ai4 _ hr);rcases h with⟨h1,h2⟩|⟨g,cap,cur,h1,h2,h3,h4⟩
  ·exact⟨⟨hl,.inl ⟨h1,h2⟩⟩,fun q hq=>by rw[h1] at hq;cases hq⟩
  ·have hgW:g≠W:=fun e=>M.far r (ai4 _ hr) _ (ai2 ..) (by rw[h1,e];rfl)
   have h:=hk g _ h3 (fun e=>hgW (ai5 e)) (fun c fz e=>h5.2 r hr (by injection e));exact⟨⟨hl,.inr ⟨g,cap,cur,h1,h2,h,h4⟩⟩,fun q hq=>by rw[h1] at hq;cases hq;exact⟨cur,h⟩⟩
 have hv:∀ q,v'.ownBlock=some q→∃ cur,w'.heap[q]?=some (.cells cur 5 (0,0)):=fun q hq=>by
  obtain⟨hl,h⟩:=ho;rcases h with⟨h1,h2⟩|⟨g,cap,cur,h1,h2,h3,h4⟩
  ·rw[h1] at hq;cases hq
  ·rw[h1] at hq;cases hq;exact⟨cur,h3⟩
 refine⟨v',V6,M.below.trans hb,M.le,fun g cs hg=>?_,?_,fun b hb=>?_,M.nd,?_,?_,?_⟩
 ·have h1:=M.old g cs hg;refine hk g _ h1 (fun e=>?_) (fun c fz e=>by injection e with _ e2;cases e2);have h2:Whole w W 98 _:=M.b 0 rfl;rw[← ai5 e] at h2;have h3:=h1.symm.trans h2;injection h3 with h3;injection h3 with _ h3;cases h3
 ·intro b hb;rcases ai1.1 hb with rfl|hb
  ·exact .inl ⟨rfl,hc⟩
  ·exact(M.box b (ai4 _ hb)).kept (WI b hb)
 ·rcases ai1.1 hb with rfl|hb
  ·exact hB
  ·exact M.lo b (ai4 _ hb)
 ·intro r hr;rcases ai1.1 hr with rfl|hr
  ·simpa[byteCells] using ho
  ·exact(hrow r hr).1
 ·intro r hr b hb;rcases ai1.1 hr with rfl|hr
  ·rcases ai1.1 hb with rfl|hb
   ·exact hne
   ·intro e;obtain⟨cur,hq⟩:=hv _ e;have hw:=q7.whole (M.box b (ai4 _ hb)) (h5.1 b hb).2;rw[WI b hb,hw] at hq;injection hq with hq;exact(h5.1 b hb).1 (by injection hq)
  ·rcases ai1.1 hb with rfl|hb
   ·exact M.far r (ai4 _ hr) (bC W v lr ver) (ai2 ..)
   ·exact M.far r (ai4 _ hr) b (ai4 _ hb)
 ·refine List.pairwise_cons.2 ⟨fun s hs=>?_,(List.pairwise_cons.1 M.tZ).2⟩
  cases hq:v'.ownBlock with
  | none=>exact .inl rfl
  | some q=>
   refine .inr fun e=>?_
   obtain⟨c1,h1⟩:=hv q hq;obtain⟨c2,h2⟩:=(hrow s hs).2 q e.symm;rw[h1] at h2;injection h2 with h2;exact h5.2 s hs (by injection h2 with _ h2;exact h2.symm)
theorem zG{u:Value}(M:aC B w0 w (bC W v lr ver::bs) (aH v xs::rs))(h5:jW bs rs)(hs:aj w u ys)(hu:u.ownBlock≠some W)(hne:ys≠[])(hb:xs.length+ys.length≤aF):
 Calls Tryz.prog 84 #[.pointer (some ⟨W,0,none⟩),u] w fun r w'=>r=.returned (.tuple #[.int .i64 (ys.length:Int),.nilIface])∧RA B w0 w' bs rs W ver (xs++ys):=by
 have hl:0<ys.length:=List.length_pos_iff.2 hne;rcases hs.1.2.2.2 with⟨-,h0⟩|⟨a,c,rfl,hn,hc⟩
 ·omega
 have h:=Any.Buffer_Write_at Pw 98 (zH ver) B W 0 (byteCells xs) (byteCells ys) a ys.length c w (Oa M) M.big (iW xs) (by simp[byteCells]) (fun e=>hu (by rw[← e];rfl)) hc (iW ys) (by unfold aF at hb;simp[byteCells];omega);refine Calls.mono h fun e w' ⟨h1,h2,h3,h4⟩=>⟨h1,?_⟩
 rw[← byteCells_append] at h2;exact Ap M h5 h2 h3 h4
theorem Ju(s:ByteArray):Lib.byteCells s.data.toList=byteCells (bX s):=by
 simp[Lib.byteCells,byteCells,bX]
theorem Az{s:ByteArray}(M:aC B w0 w (bC W v lr ver::bs) (aH v xs::rs))(h5:jW bs rs)(hb:xs.length+s.size≤aF):
 Calls Tryz.prog 33 #[.pointer (some ⟨W,0,none⟩),.string s] w fun r w'=>r=.returned (.tuple #[.int .i64 (s.size:Int),.nilIface])∧RA B w0 w' bs rs W ver (xs++bX s):=by
 have h:=Any.Buffer_WriteString_at Px 98 (zH ver) B W 0 (byteCells xs) s w (Oa M) M.big (iW xs) (by unfold aF at hb;simp[byteCells];omega);refine Calls.mono h fun e w' ⟨h1,h2,h3,h4⟩=>⟨h1,?_⟩
 rw[Ju,← byteCells_append] at h2;exact Ap M h5 h2 h3 h4
end
abbrev Ps (α:Type):=List Nat→Except Int (α×List Nat)
def pb{α β:Type}(p:Ps α)(f:α→Ps β):Ps β:=fun l=>match p l with
 | .ok (x,r)=>f x r
 | .error e=>.error e
def pp{α:Type}(x:α):Ps α:=fun l=>.ok (x,l)
def pe{α:Type}(e:Int):Ps α:=fun _=>.error e
def nG:Ps Nat:=fun l=>if (number l).2.2=0 then .ok ((number l).1,(number l).2.1) else .error (number l).2.2
def Pm:Ps Nat:=pb nG fun n=>if n<4294967296 then pp n else pe 3
def iw:Ps Int:=pb Pm fun n=>pp (n:Int)
def rD:Ps Int:=fun l=>if (bZ l).2.2=0 then (if -2147483648≤(bZ l).1∧(bZ l).1<2147483648 then .ok ((bZ l).1,(bZ l).2.1) else .error 3) else .error (bZ l).2.2
def uZ:Ps Bool:=pb Pm fun n=>if n≤1 then pp (n == 1) else pe 6
def eX:Ps ByteArray:=fun l=>if (kR l 256).2.2=0 then .ok (strOf (kR l 256).1,(kR l 256).2.1) else .error (kR l 256).2.2
def lV:Ps aq:=fun l=>if (mI l).2.2=0 then .ok (⟨(mI l).1.getD 0 0,(mI l).1.getD 1 0,(mI l).1.getD 2 0,(mI l).1.getD 3 0⟩,(mI l).2.1) else .error (mI l).2.2
def E3:Ps jX:=pb iw fun s=>pb nG fun c=>pp ⟨s,c⟩
def E1:Ps kQ:=pb E3 fun a=>pb E3 fun b=>pp ⟨a,b⟩
def Jg:Ps mG:=pb iw fun u=>pb iw fun r=>pb iw fun t=>pb E1 fun g=>pp ⟨u,r,t,g⟩
def vC{α:Type}:Nat→Ps α→Ps (List α)
 | 0,_=>pp []
 | n+1,p=>pb p fun x=>pb (vC n p) fun xs=>pp (x::xs)
def cI{α:Type}(p:Ps α):Ps (List α):=pb Pm fun n=>vC n p
def pO:aq:=⟨0,0,0,0⟩
def jB:Nat→Ps aI
 | 0=>pb iw fun op=>if 1≤op∧op≤9 then pe 4 else pe 6
 | k+1=>pb iw fun op=>if 1≤op∧op≤9 then
  (if op=1 then pb iw fun a=>pp (.node op a 0 0 [] pO [])
  else if op=8 then pb iw fun a=>pb iw fun r=>pb iw fun b=>pp (.node op a r b [] pO [])
  else if op=9 then pb iw fun a=>pb lV fun s=>pp (.node op a 0 0 [] s [])
  else if op=2 then pb (jB k) fun x=>pp (.node op 0 0 0 [] pO [x])
  else pb (jB k) fun x=>pb (jB k) fun y=>pp (.node op 0 0 0 [] pO [x,y]))
  else pe 6
def E6:Ps jU:=pb eX fun n=>pb (cI eX) fun l=>pp ⟨n,l⟩
def EV(v:Nat):Ps gE:=pb eX fun n=>pb (cI eX) fun l=>pb (if 2≤v then uZ else pp false) fun b=>pp ⟨n,l,b⟩
def E8:Ps jG:=pb eX fun n=>pb lV fun s=>pp ⟨n,s⟩
def E0:Ps eM:=pb eX fun n=>pb lV fun s=>pb lV fun t=>pp ⟨n,s,t⟩
def EU:Ps jr:=pb eX fun n=>pb lV fun s=>pb E3 fun d=>pb E1 fun g=>pp ⟨n,s,d,g⟩
def E7:Ps jV:=pb eX fun n=>pb uZ fun b=>pp ⟨n,b⟩
def EY:Ps dz:=pb iw fun k=>pb lV fun s=>pb lV fun t=>pb uZ fun f=>pb iw fun c=>pb iw fun v=>pb rD fun d=>pp ⟨k,s,t,f,c,v,d⟩
def EW(v:Nat):Ps bG:=pb iw fun k=>pb lV fun s=>pb lV fun t=>pb iw fun c=>pb (if 2≤v then eX else pp ⟨#[]⟩) fun n=>pb iw fun r=>pb rD fun d=>pp ⟨k,s,t,c,n,r,d⟩
def EZ:Ps jD:=pb lV fun s=>pb lV fun t=>pb iw fun c=>pb iw fun r=>pp ⟨s,t,c,r⟩
def E2:Ps jE:=pb lV fun s=>pb lV fun t=>pb iw fun c=>pb E1 fun g=>pp ⟨s,t,c,g⟩
def E5:Ps lF:=pb iw fun c=>pb iw fun v=>pb uZ fun b=>pb (jB 12) fun e=>pp ⟨c,v,b,e⟩
def EX:Ps iY:=pb eX fun n=>pb Jg fun c=>pp ⟨n,c⟩
def E4:Ps jF:=pb eX fun n=>pb iw fun k=>pb Jg fun c=>pp ⟨n,k,c⟩
def E9:Ps jt:=pb eX fun n=>pb iw fun k=>pb lV fun s=>pb lV fun t=>pp ⟨n,k,s,t⟩
def zq(v:Nat):Ps aA:=
 pb (cI E6) fun a0=>pb (cI (EV v)) fun a1=>pb (cI E8) fun a2=>pb (cI E0) fun a3=>pb (cI EU) fun a4=>pb (cI E7) fun a5=>
 pb (cI eX) fun a6=>pb (cI eX) fun a7=>pb (cI (jB 12)) fun a8=>pb (cI EY) fun a9=>pb (cI (EW v)) fun nr=>pb (cI EZ) fun mH=>
 pb (if 2≤v then cI E2 else pp []) fun a12=>pb (cI E5) fun mF=>pb (cI EX) fun mE=>
 pb (if 3≤v then cI E4 else pp []) fun og=>pb (if 3≤v then cI E9 else pp []) fun n_=>pp ⟨a0,a1,a2,a3,a4,a5,a6,a7,a8,a9,nr,mH,a12,mF,mE,og,n_⟩
def eN(n:Int):List Nat:=aL (n%18446744073709551616).toNat
def eS(s:ByteArray):List Nat:=aL s.size++bX s
def eT(s:aq):List Nat:=iK s.a s.b s.c s.d
def eB(b:Bool):List Nat:=if b then [1] else [0]
def eC(n:Int):List Nat:=aL (Ch n)
def eL{α:Type}(f:α→List Nat)(l:List α):List Nat:=eN (l.length:Int)++l.flatMap f
def ng(l:jX):List Nat:=eN l.ay++aL l.cats
def oR(r:kQ):List Nat:=ng r.low++ng r.high
def qt(c:mG):List Nat:=eN c.user++(eN c.role++(eN c.typ++oR c.rng))
def qV(op a rel b:Int)(s:aq):List Nat:=eN op++(if op=1 then eN a else if op=8 then eN a++(eN rel++eN b) else if op=9 then eN a++eT s else [])
mutual
def eE:aI→List Nat
 | .node op a rel b _ s kids=>qV op a rel b s++tI kids
def tI:List aI→List Nat
 | []=>[]
 | k::r=>eE k++tI r
end
theorem Ny:∀ l:List aI,tI l=l.flatMap eE
 | []=>by rw[tI];rfl
 | k::r=>by rw[tI,Ny r];rfl
theorem Nz(e:aI):eE e=qV e.op e.a e.rel e.b e.set++e.kids.flatMap eE:=by cases e;rw[eE,Ny];rfl
def gT(x:jU):List Nat:=eS x.name++eL eS x.perms
def eTyp(v:Nat)(x:gE):List Nat:=eS x.name++(eL eS x.jy++(if 2≤v then eB x.perm else []))
def gU(x:jG):List Nat:=eS x.name++eT x.types
def gQ(x:eM):List Nat:=eS x.name++(eT x.types++eT x.next)
def gM(x:jr):List Nat:=eS x.name++(eT x.roles++(ng x.dflt++oR x.rng))
def fN(x:jV):List Nat:=eS x.name++eB x.val
def gO(x:dz):List Nat:=eN x.kind++(eT x.src++(eT x.tgt++(eB x.self++(eN x.cls++(eN x.perms++eC x.cond)))))
def gi(v:Nat)(x:bG):List Nat:=eN x.kind++(eT x.src++(eT x.tgt++(eN x.cls++((if 2≤v then eS x.name else [])++(eN x.res++eC x.cond)))))
def gP(x:jD):List Nat:=eT x.roles++(eT x.types++(eN x.cls++eN x.res))
def fU(x:jE):List Nat:=eT x.src++(eT x.tgt++(eN x.cls++oR x.rng))
def gS(x:lF):List Nat:=eN x.cls++(eN x.perms++(eB x.val++eE x.expr))
def gN(x:iY):List Nat:=eS x.name++qt x.ctx
def fC(x:jF):List Nat:=eS x.pat++(eN x.kind++qt x.ctx)
def fE(x:jt):List Nat:=eS x.name++(eN x.kind++(eT x.src++eT x.tgt))
def gD(v:Nat)(p:aA):List Nat:=
 eL gT p.classes++(eL (eTyp v) p.types++(eL gU p.attrs++(eL gQ p.roles++(eL gM p.users++(eL fN p.bools ++
 (eL eS p.ay++(eL eS p.cats++(eL eE p.conds++(eL gO p.rules++(eL (gi v) p.trans++(eL gP p.ak ++
 ((if 2≤v then eL fU p.ranges else [])++(eL gS p.cons++(eL gN p.aN ++
 ((if 3≤v then eL fC p.files else [])++(if 3≤v then eL fE p.asserts else []))))))))))))))))
def dB(v:Nat)(p:aA):List Nat:=[65,67,80,66]++(aL v++gD v p)
def iD(l:List Nat):List Nat:=l++dA (k_ l)
def jq{α:Type}(p:Ps α)(xs:List Nat)(x:α):Prop:=∀ r,p (xs++r)=.ok (x,r)
section
variable {α β:Type} {p:Ps α} {f:α→Ps β} {x:α} {y:β} {xs ys:List Nat}
theorem jq.bind(h:jq p xs x)(k:jq (f x) ys y):jq (pb p f) (xs++ys) y:=fun r=>by
 unfold pb;rw[List.append_assoc,h];exact k r
theorem jq.last(h:jq p xs x)(k:jq (f x) [] y):jq (pb p f) xs y:=by
 have:=h.bind k
 rwa [List.append_nil] at this
theorem jq.pure(x:α):jq (pp x) [] x:=fun _=>rfl
theorem jq.skip(h:jq p [] x)(k:jq (f x) ys y):jq (pb p f) ys y:=by
 have:=h.bind k
 rwa [List.nil_append] at this
end
theorem A9{n:Nat}(h:n<18446744073709551616):jq nG (aL n) n:=fun r=>by
 unfold nG;rw[lX _ _ h];rfl
theorem G_{n:Nat}(h:n<4294967296):jq Pm (aL n) n:=(A9 (by omega)).last (by rw[if_pos h];exact jq.pure _)
def lJ(n:Int):Prop:=0≤n∧n<4294967296
theorem Ia{n:Int}(h:lJ n):eN n=aL n.toNat:=by
 unfold eN;rw[Int.emod_eq_of_lt h.1 (by have:=h.2;omega)]
theorem cN{n:Int}(h:lJ n):jq iw (eN n) n:=by
 obtain⟨h0,h1⟩:=h;rw[Ia ⟨h0,h1⟩];refine(G_ (n:=n.toNat) (by omega)).last ?_;rw[show((n.toNat:Nat):Int)=n by omega];exact jq.pure _
theorem G9{n:Int}(h:-2147483648≤n∧n<2147483648):jq rD (eC n) n:=fun r=>by
 unfold rD eC;rw[Et _ _ ⟨by omega,by omega⟩];simp[h.1,h.2]
theorem NA(b:Bool):eB b=aL (if b then 1 else 0):=by cases b<;>rw[aL]<;>rfl
theorem vV(b:Bool):jq uZ (eB b) b:=by
 rw[NA]
 cases b with
 | true=>exact(G_ (n:=1) (by decide)).last (jq.pure _)
 | false=>exact(G_ (n:=0) (by decide)).last (jq.pure _)
theorem IK(s:ByteArray)(r:List Nat)(h:s.size≤256):kR ((aL s.size++bX s)++r) 256=(bX s,r,0):=by
 have hl:=dF s;unfold kR;rw[List.append_assoc,lX _ _ (by omega)];simp only[ne_eq,not_true_eq_false,if_false];rw[if_neg (by omega),if_neg (by rw[aiX];omega),← hl,List.take_left,List.drop_left]
theorem jK{s:ByteArray}(h:s.size≤256):jq eX (eS s) s:=fun r=>by
 unfold eX eS;rw[IK s r h];simp[wZ]
theorem jd{s:aq}(h:s.Ok):jq lV (eT s) s:=fun r=>by
 unfold lV eT;rw[O2 _ _ _ _ r h.a h.b h.c h.d];simp
theorem LM{α:Type}{p:Ps α}{f:α→List Nat}:∀ l:List α,(∀ x∈l,jq p (f x) x)→jq (vC l.length p) (l.flatMap f) l
 | [],_=>jq.pure _
 | x::l,h=>by
  rw[List.flatMap_cons];exact(h x (by simp)).bind ((LM l fun y hy=>h y (by simp[hy])).last (jq.pure _))
theorem iI{α:Type}{p:Ps α}{f:α→List Nat}{l:List α}(hl:l.length<4294967296)(h:∀ x∈l,jq p (f x) x):jq (cI p) (eL f l) l:=by
 unfold eL;rw[Ia ⟨by omega,by omega⟩];exact(G_ (n:=(l.length:Int).toNat) (by omega)).bind (by rw[show(l.length:Int).toNat=l.length by omega];exact LM l h)
structure Cc (x:jX):Prop where
 ay:lJ x.ay
 cats:cW x.cats
theorem EG{x:jX}(h:Cc x):jq E3 (ng x) x:=(cN h.ay).bind ((A9 h.cats).last (jq.pure _))
structure zD (x:kQ):Prop where
 low:Cc x.low
 high:Cc x.high
theorem ED{x:kQ}(h:zD x):jq E1 (oR x) x:=(EG h.low).bind ((EG h.high).last (jq.pure _))
structure Cg (x:mG):Prop where
 user:lJ x.user
 role:lJ x.role
 typ:lJ x.typ
 rng:zD x.rng
theorem LO{x:mG}(h:Cg x):jq Jg (qt x) x:=(cN h.user).bind ((cN h.role).bind ((cN h.typ).bind ((ED h.rng).last (jq.pure _))))
inductive qz:Nat→aI→Prop
 | name {k:Nat} {a:Int}:lJ a→qz (k+1) (.node 1 a 0 0 [] pO [])
 | cmp {k:Nat} {a r b:Int}:lJ a→lJ r→lJ b→qz (k+1) (.node 8 a r b [] pO [])
 | inn {k:Nat} {a:Int} {s:aq}:lJ a→s.Ok→qz (k+1) (.node 9 a 0 0 [] s [])
 | not {k:Nat} {x:aI}:qz k x→qz (k+1) (.node 2 0 0 0 [] pO [x])
 | two {k:Nat} {op:Int} {x y:aI}:3≤op→op≤7→qz k x→qz k y→qz (k+1) (.node op 0 0 0 [] pO [x,y])
theorem LN{k:Nat}{e:aI}(h:qz k e):jq (jB k) (eE e) e:=by
 induction h with
 | name ha=>
  rw[eE,tI,List.append_nil];unfold qV jB;exact(cN (n:=1) (by unfold lJ;decide)).bind (by simp only[if_true];exact(cN ha).last (jq.pure _))
 | cmp ha hr hb=>
  rw[eE,tI,List.append_nil];unfold qV jB;exact(cN (n:=8) (by unfold lJ;decide)).bind ((cN ha).bind ((cN hr).bind ((cN hb).last (jq.pure _))))
 | inn ha hs=>
  rw[eE,tI,List.append_nil];unfold qV jB;exact(cN (n:=9) (by unfold lJ;decide)).bind ((cN ha).bind ((jd hs).last (jq.pure _)))
 | not _ ih=>
  rw[eE,tI,tI,List.append_nil];unfold qV jB;rw[if_neg (by decide),if_neg (by decide),if_neg (by decide),List.append_nil];exact(cN (n:=2) (by unfold lJ;decide)).bind (ih.last (jq.pure _))
 | @two k op x y h3 h7 _ _ Dt ihy=>
  rw[eE,tI,tI,tI,List.append_nil];unfold qV jB;rw[if_neg (by omega),if_neg (by omega),if_neg (by omega),List.append_nil];refine(cN (n:=op) (by unfold lJ;omega)).bind ?_;rw[if_pos (by omega),if_neg (by omega),if_neg (by omega),if_neg (by omega),if_neg (by omega)];exact Dt.bind (ihy.last (jq.pure _))
end Go.Proofs.YtkkmjdceiocnbaaGreatDoor
namespace Go.Proofs.YtkkmjdceiocnbaaGreatDoor
open Go Go.RowKit
def mJ(B:Nat)(w0:World)(bs:List Bx)(rs:List Rw)(W:Nat)(ver:Int)(l:List Nat):Ending→World→Prop:=fun r w'=>r=.returned (.tuple #[])∧RA B w0 w' bs rs W ver l
theorem dX{w:World}{B:Nat}{v:Value}{l:List Nat}(h:w.ownsRow B 5 1 v l.length (byteCells l))(hx:Bytes l):aj w v l:=⟨SliceAt.iM h (iW l),hx⟩
section
variable {B W:Nat} {w0 w w':World} {bs:List Bx} {rs:List Rw} {v:Value} {lr ver:Int} {xs ys:List Nat}
theorem cwr{u:Value}{X:Prop}{K:Value→List Bx→List Rw→World→Prop}(M:aC B w0 w (bC W v lr ver::bs) (aH u ys::aH v xs::rs))(h5:jW bs rs)(hy:Bytes ys)(hne:ys≠[])(hb:xs.length+ys.length≤aF)
 (h:∀ v lr w',aC B w0 w' (bC W v lr ver::bs) (aH v (xs++ys)::rs)→K (.tuple #[.int .i64 (ys.length:Int),.nilIface]) (bC W v lr ver::bs) (aH v (xs++ys)::rs) w') :
 X∨∃ R:Value→World→Prop,(Calls Tryz.prog 84 #[.pointer (some ⟨W,0,none⟩),u] w fun e w'=>∃ v,e=.returned v∧R v w')∧∀ v w',R v w'→∃ bs' rs',aC B w0 w' bs' rs'∧K v bs' rs' w':=by
 refine .inr ⟨fun r w'=>r=.tuple #[.int .i64 (ys.length:Int),.nilIface]∧RA B w0 w' bs rs W ver (xs++ys),Calls.mono (zG (M.only (.refl _) (.cons _ (.refl _))) h5 (dX (M.r 0 rfl) hy) ?_ hne hb) fun e w' ⟨h1,h2⟩=>⟨_,h1,rfl,h2⟩,?_⟩
 ·exact M.far _ (ai2 ..) (bC W v lr ver) (ai2 ..)
 ·rintro _ w' ⟨rfl,v',V6,M'⟩;exact⟨_,_,M',h _ _ _ M'⟩
theorem j6(n:Nat):aL n≠[]:=by
 rw[aL];split<;>simp
theorem KY{s:ByteArray}(M:aC B w0 w (bC W v lr ver::bs) (aH v xs::rs))(h5:jW bs rs)(hb:xs.length+10+s.size≤aF):
 Calls Tryz.prog 88 #[.pointer (some ⟨W,0,none⟩),.string s] w (mJ B w0 bs rs W ver (xs++(aL s.size++bX s))):=by
 have zw:=aZ (n:=s.size) (by unfold aF at hb;omega);refine bY M [] (fn:=Tryz.f88) Tryz.func88 rfl Tryz.ntmps88 rfl<|sp [0,1,2,3] (.step 4 (.step 5 .done)) [] (by kernel_rfl) fun w2 hb2 M2=>cb (CT (xs:=[]) (M2.bE 5 1) (by simp only[List.length_nil];omega)) fun v3 w3 M3=>an rfl<|cwr M3 h5 ((eW _).append (pT s)) (by simp[j6]) (by simp only[List.nil_append,aiX,dF];omega) fun v4 Hq w4 M4=>an rfl<|fun M=>⟨rfl,_,_,M⟩
theorem KZ{m:Int}(M:aC B w0 w (bC W v lr ver::bs) (aH v xs::rs))(h5:jW bs rs)(hm:eF m)(hb:xs.length+10≤aF):
 Calls Tryz.prog 109 #[.pointer (some ⟨W,0,none⟩),.int .i64 m] w (mJ B w0 bs rs W ver (xs++aL (Ch m))):=by
 have zw:=aZ (wI hm);refine bY M [] (fn:=Tryz.f109) Tryz.func109 rfl Tryz.ntmps109 rfl<|sp [0,1,2,3] (.step 4 (.step 5 .done)) [] (by kernel_rfl)<|fun w2 hb2 M2=>cb (zo (xs:=[]) (M2.bE 5 1) hm (by simp;unfold aF;omega)) fun v3 w3 M3=>an rfl<|cwr M3 h5 (eW _) (j6 _) (by simp only[List.nil_append];omega) fun v4 Hq w4 M4=>an rfl<|fun M=>⟨rfl,_,_,M⟩
theorem wS(n:Int):cW (n%18446744073709551616).toNat:=by unfold cW;omega
theorem GR(n:Int):IntKind.u64.wrap n=(((n%18446744073709551616).toNat:Nat):Int):=by
 rw[Int.toNat_of_nonneg (by omega)];simp[IntKind.wrap,IntKind.bits,IntKind.signed]
theorem aG(n:Int):(eN n).length≤10:=aZ (wS n)
theorem gC(n:Int):Bytes (eN n):=eW _
def Dw(n:Int):Value:=.int .i64 n
theorem Ae:∀ ns:List Int,(ns.flatMap eN).length≤10*ns.length
 | []=>by simp
 | n::ns=>by have:=Ae ns;have:=aG n;simp only[List.flatMap_cons,aiX,List.length_cons];omega
theorem bn{g:Nat}{ns:List Int}(M:aC B w0 w (bC W v lr ver::(g,3,(ns.map Dw).toArray)::bs) (aH v xs::rs))(h5:jW bs rs)(hn:ns.length≤10)(hb:xs.length+100≤aF):
 Calls Tryz.prog 34 #[.pointer (some ⟨W,0,none⟩),.slice (some ⟨g,0,none⟩) ns.length ns.length] w (mJ B w0 ((g,3,(ns.map Dw).toArray)::bs) rs W ver (xs++ns.flatMap eN)):=by
 have h5':jW ((g,3,(ns.map Dw).toArray)::bs) rs:=h5.cons;refine bY M [] (fn:=Tryz.f34) Tryz.func34 rfl Tryz.ntmps34 rfl<|lp (ι:=Nat×Value×Int) (fun z=>[(8,.int .i64 (z.1:Int))]) (fun z=>bC W z.2.1 z.2.2 ver::(g,3,(ns.map Dw).toArray)::bs) (fun z=>aH z.2.1 (xs++(ns.take z.1).flatMap eN)::rs) (fun z _=>z.1≤ns.length) (fun z=>ns.length-z.1) (0,v,lr)<|an ⟨⟨rfl,trivial⟩,fun M=>⟨M.cast rfl (by simp),aiZ _⟩⟩ ?_;rintro⟨j,u,l⟩ w1 M1 hj;have hj:j≤ns.length:=hj;refine an (fun h=>?_) fun h=>?_
 ·have hlt:j<ns.length:=Int.ofNat_lt.1 (of_decide_eq_true h);obtain⟨n,hn1⟩:∃ n,ns[j]?=some n:=⟨_,ai6 hlt⟩
  have hlen:(xs++(ns.take j).flatMap eN).length+(eN n).length≤aF:=by
   have:=Ae (ns.take j);have:=aG n;simp only[aiX,ai7] at *;omega
  exact ia<|an ⟨rfl,rfl,hlt⟩<|lc (x:=.int .i64 n)<|an (by rw[(M1.b 1 rfl).cell];simp[hn1,Dw])<|sp [0,1,2,3,4] (.step 5 (.step 6 .done)) [] (by kernel_rfl)<|ei (x:=.int .u64 ((n%18446744073709551616).toNat:Int))<|an (fun a w o ho hv=>(dw ho (aQ hv) u3 uR).trans (by rw[GR]))<|fun w2 hb2 M2=>cb (fV (xs:=[]) (M2.bE 5 1) (wS n) (by simp;unfold aF;omega)) fun v3 w3 M3=>an rfl<|cwr M3 h5' (eW _) (j6 _) hlen fun v4 Hq w4 M4=>an rfl<|an (by omega)<|bk (j+1,v4,Hq) ⟨rfl,trivial⟩ (fun M=>⟨M.cast rfl (by rw[List.take_add_one,hn1,ai0,← List.append_assoc];simp[eN]),hlt⟩) (by dsimp only;omega)
 ·have hge:j=ns.length:=Nat.le_antisymm hj (Nat.le_of_not_lt fun h'=>of_decide_eq_false h (Int.ofNat_lt.2 h'));subst hge;exact fun M=>⟨rfl,u,l,M.cast rfl (congrArg (fun t=>aH u (xs++t.flatMap eN)::rs) ai8)⟩
theorem _root_.Go.Proofs.YtkkmjdceiocnbaaGreatDoor.aC.rC{bs':List Bx}(M:aC B w0 w bs rs)(hp:bs.Perm bs'):aC B w0 w bs' rs:=
 ⟨M.below,M.le,M.old,fun b h=>M.box b (hp.mem_iff.2 h),fun b h=>M.lo b (hp.mem_iff.2 h),(hp.map (·.1)).nodup_iff.1 M.nd,M.row,fun r h b hb=>M.far r h b (hp.mem_iff.2 hb),M.tZ⟩
theorem lU{α:Type}{x:α}:∀ {L:List α} {i:Nat},L[i]?=some x→L.Perm (x::L.eraseIdx i)
 | [],_,h=>by simp at h
 | a::L,0,h=>by
  simp at h;subst h;exact .refl _
 | a::L,i+1,h=>((lU (L:=L) (i:=i) (by simpa using h)).cons a).trans (.swap ..)
theorem sP{α:Type}{L:List α}{i:Nat}{x y:α}(h:L[i]?=some x):(y::L.eraseIdx i).Perm (L.set i y):=by
 obtain⟨hi,rfl⟩:=aiY.1 h;have h2:(L.set i y)[i]?=some y:=by simp[hi]
 have:=lU h2;rw[List.eraseIdx_set_eq] at this;exact this.symm
theorem cE{L:List Bx}{X:Prop}{f:FuncId}{args:Array Value}{l:List Nat}{K:Value→List Bx→List Rw→World→Prop}(i:Nat)(M:aC B w0 w L (aH v xs::rs))(hi:L[i]?=some (bC W v lr ver))
 (hc:aC B w0 w (bC W v lr ver::L.eraseIdx i) (aH v xs::rs)→Calls Tryz.prog f args w (mJ B w0 (L.eraseIdx i) rs W ver l))
 (h:∀ v lr w',pW L i (bC W v lr ver) fun L'=>aC B w0 w' L' (aH v l::rs)→K (.tuple #[]) L' (aH v l::rs) w') :
 X∨∃ R:Value→World→Prop,(Calls Tryz.prog f args w fun e w'=>∃ v,e=.returned v∧R v w')∧∀ v w',R v w'→∃ bs' rs',aC B w0 w' bs' rs'∧K v bs' rs' w':=by
 refine .inr ⟨fun r w'=>r=.tuple #[]∧RA B w0 w' (L.eraseIdx i) rs W ver l,(hc (M.rC (lU hi))).mono fun e w' ⟨h1,h2⟩=>⟨_,h1,rfl,h2⟩,?_⟩;rintro _ w' ⟨rfl,v',V6,M'⟩;have M2:=M'.rC (sP hi);exact⟨_,_,M2,lg (h _ _ _) M2⟩
theorem GY{n:Nat}(h:n<4294967296):(eN (n:Int))=aL n:=by unfold eN;congr 1;omega
theorem KW{n:Nat}(M:aC B w0 w (bC W v lr ver::bs) (aH v xs::rs))(h5:jW bs rs)(hn:n<4294967296)(hb:xs.length+100≤aF):
 Calls Tryz.prog 108 #[.pointer (some ⟨W,0,none⟩),.int .u32 (n:Int)] w (mJ B w0 bs rs W ver (xs++eN (n:Int))):=by
 refine bY M [] (fn:=Tryz.f108) Tryz.func108 rfl Tryz.ntmps108 rfl<|ei (x:=.int .i64 (n:Int))<|an (fun a w o ho hv=>(dw ho (aQ hv) Oo u3).trans (by rw[show IntKind.i64.wrap (n:Int)=n by simp[IntKind.wrap,IntKind.bits,IntKind.signed];omega]))<|fun g2 w2 M2=>cE 1 M2 rfl (fun M=>bn (ns:=[(n:Int)]) M h5 (by simp) hb) fun v3 kL w3 M3=>fun M=>⟨rfl,v3,kL,(M.only (.cons _ (.refl _)) (.refl _)).cast rfl (by simp)⟩
theorem cwi{L:List Bx}{u:Value}{X:Prop}{K:Value→List Bx→List Rw→World→Prop}(i:Nat)(M:aC B w0 w L (aH u ys::aH v xs::rs))(hi:L[i]?=some (bC W v lr ver))(h5:jW (L.eraseIdx i) rs)(hy:Bytes ys)(hne:ys≠[])(hb:xs.length+ys.length≤aF)
 (h:∀ v lr w',pW L i (bC W v lr ver) fun L'=>aC B w0 w' L' (aH v (xs++ys)::rs)→K (.tuple #[.int .i64 (ys.length:Int),.nilIface]) L' (aH v (xs++ys)::rs) w') :
 X∨∃ R:Value→World→Prop,(Calls Tryz.prog 84 #[.pointer (some ⟨W,0,none⟩),u] w fun e w'=>∃ v,e=.returned v∧R v w')∧∀ v w',R v w'→∃ bs' rs',aC B w0 w' bs' rs'∧K v bs' rs' w':=by
 have M0:=M.rC (lU hi);refine .inr ⟨fun r w'=>r=.tuple #[.int .i64 (ys.length:Int),.nilIface]∧RA B w0 w' (L.eraseIdx i) rs W ver (xs++ys),Calls.mono (zG (M0.only (.refl _) (.cons _ (.refl _))) h5 (dX (M0.r 0 rfl) hy) ?_ hne hb) fun e w' ⟨h1,h2⟩=>⟨_,h1,rfl,h2⟩,?_⟩
 ·exact M0.far _ (ai2 ..) (bC W v lr ver) (ai2 ..)
 ·rintro _ w' ⟨rfl,v',V6,M'⟩;have M2:=M'.rC (sP hi);exact⟨_,_,M2,lg (h _ _ _) M2⟩
theorem BP(b:Bool):eN (if b then 1 else 0)=eB b:=by
 cases b<;>(unfold eN eB;rw[aL];rfl)
theorem AO{b:Bool}(M:aC B w0 w (bC W v lr ver::bs) (aH v xs::rs))(h5:jW bs rs)(hb:xs.length+100≤aF):
 Calls Tryz.prog 92 #[.pointer (some ⟨W,0,none⟩),.bool b] w (mJ B w0 bs rs W ver (xs++eB b)):=by
 refine bY M [] (fn:=Tryz.f92) Tryz.func92 rfl Tryz.ntmps92 rfl<|an (fun h=>?_) fun h=>?_
 ·have h:b=true:=h;subst h;exact fun g2 w2 M2=>cE 1 M2 rfl (fun M=>bn (ns:=[1]) M h5 (by simp) hb) fun v3 kL w3 M3=>fun M=>⟨rfl,v3,kL,(M.only (.cons _ (.refl _)) (.refl _)).cast rfl (by rw[← BP];simp)⟩
 ·have h:b=false:=h;subst h;exact fun g2 w2 M2=>cE 1 M2 rfl (fun M=>bn (ns:=[0]) M h5 (by simp) hb) fun v3 kL w3 M3=>fun M=>⟨rfl,v3,kL,(M.only (.cons _ (.refl _)) (.refl _)).cast rfl (by rw[← BP];simp)⟩
theorem AL{l:jX}(M:aC B w0 w (bC W v lr ver::bs) (aH v xs::rs))(h5:jW bs rs)(hc:cW l.cats)(hb:xs.length+200≤aF):
 Calls Tryz.prog 100 #[.pointer (some ⟨W,0,none⟩),.agg #[.int .i64 l.ay,.int .u64 (l.cats:Int)]] w (mJ B w0 bs rs W ver (xs++ng l)):=by
 have h1:=aG l.ay;have h2:=aZ hc;refine bY M [] (fn:=Tryz.f100) Tryz.func100 rfl Tryz.ntmps100 rfl<|fun g1 w1 M1=>lb 0<|an rfl<|fun g2 w2 M2=>cE 2 M2 rfl (fun M=>bn (ns:=[l.ay]) M h5.cons (by simp) (by omega)) fun v3 kL w3 M3=>sp [0,1,2,3] (.step 4 (.step 5 (.step 6 .done))) [] (by kernel_rfl)<|fun w4 pI M4=>lb 1<|an rfl<|an rfl<|cb (fV (xs:=[]) (M4.bE 5 1) hc (by simp;unfold aF;omega)) fun v5 w5 M5=>an rfl<|cwi 2 M5 rfl h5.cons.cons (eW _) (j6 _) (by simp only[List.nil_append,aiX,List.flatMap_cons,List.flatMap_nil,List.length_nil];omega) fun v6 KF w6 M6=>an rfl<|fun M=>⟨rfl,v6,KF,(M.only (.cons _ (.cons _ (.refl _))) (.refl _)).cast rfl (by unfold ng;rw[← List.append_assoc];simp)⟩
theorem Ei{r:kQ}(M:aC B w0 w (bC W v lr ver::bs) (aH v xs::rs))(h5:jW bs rs)(hc:cW r.low.cats)(hd:cW r.high.cats)(hb:xs.length+300≤aF):
 Calls Tryz.prog 101 #[.pointer (some ⟨W,0,none⟩),.agg #[.int .i64 r.low.ay,.int .u64 (r.low.cats:Int),.int .i64 r.high.ay,.int .u64 (r.high.cats:Int)]] w (mJ B w0 bs rs W ver (xs++oR r)):=by
 have h1:=aG r.low.ay;have h2:=aZ hc;refine bY M [] (fn:=Tryz.f101) Tryz.func101 rfl Tryz.ntmps101 rfl<|fun g1 w1 M1=>lb 0<|an rfl<|cE 1 M1 rfl (fun M=>AL (l:=r.low) M h5.cons hc (by omega)) fun v3 kL w3 M3=>lb 0<|an rfl<|cE 1 M3 rfl (fun M=>AL (l:=r.high) M h5.cons hd (by unfold ng;simp only[aiX];omega)) fun v4 Hq w4 M4=>fun M=>⟨rfl,v4,Hq,(M.only (.cons _ (.refl _)) (.refl _)).cast rfl (by unfold oR;rw[← List.append_assoc])⟩
theorem zL{c:mG}(M:aC B w0 w (bC W v lr ver::bs) (aH v xs::rs))(h5:jW bs rs)(hc:cW c.rng.low.cats)(hd:cW c.rng.high.cats)(hb:xs.length+400≤aF):
 Calls Tryz.prog 120 #[.pointer (some ⟨W,0,none⟩),.agg c.cells.toArray] w (mJ B w0 bs rs W ver (xs++qt c)):=by
 have h1:=aG c.user;have h2:=aG c.role;have h3:=aG c.typ;refine bY M [] (fn:=Tryz.f120) Tryz.func120 rfl Tryz.ntmps120 rfl<|fun g1 w1 M1=>lb 0<|an rfl<|lb 0<|an rfl<|lb 0<|an rfl<|fun g2 w2 M2=>cE 2 M2 rfl (fun M=>bn (ns:=[c.user,c.role,c.typ]) M h5.cons (by simp) (by omega)) fun v3 kL w3 M3=>lb 1<|an rfl<|cE 2 M3 rfl (fun M=>Ei (r:=c.rng) M h5.cons.cons hc hd (by simp only[aiX,List.flatMap_cons,List.flatMap_nil,List.length_nil];omega)) fun v4 Hq w4 M4=>fun M=>⟨rfl,v4,Hq,(M.only (.cons _ (.cons _ (.refl _))) (.refl _)).cast rfl (by unfold qt;simp only[List.flatMap_cons,List.flatMap_nil,List.append_assoc,List.append_nil])⟩
end
theorem cS{α:Type}(f:α→List Nat){l:List α}{j:Nat}{y:α}(h:l[j]?=some y):((l.take j).flatMap f).length+(f y).length≤(l.flatMap f).length:=by
 have e:l=l.take j++(y::l.drop (j+1)):=by
  obtain⟨hj,rfl⟩:=aiY.1 h;simp
 conv=>rhs;rw[e]
 simp only[ai0,List.flatMap_cons,aiX];omega
theorem fM{s:aq}(h:s.Ok):(eT s).length≤50:=by
 have:=yA (j:=bM s.a s.b s.c s.d) (ny _ _ _ _) h.a h.b h.c h.d;have:=aZ (n:=bM s.a s.b s.c s.d) (by have:=ny s.a s.b s.c s.d;omega);unfold eT iK;simp only[aiX];omega
theorem kW{s:aq}:Bytes (eT s):=by
 unfold eT iK
 exact(eW _).append fun x hx=>by
  obtain⟨y,-,hy⟩:=List.mem_flatMap.1 hx;exact eW y x hy
theorem Xj{s:aq}:eT s≠[]:=by simp[eT,iK,j6]
theorem CH:∀ ss:List aq,(ss.flatMap aq.cells).length=ss.length*4
 | []=>rfl
 | s::ss=>by rw[List.flatMap_cons,aiX,CH ss,List.length_cons];show 4+_=_;omega
theorem Lu(ss:List aq):((ss.flatMap aq.cells).toArray.toList.all (·.oneCell'))=true:=by
 simp[aq.cells];exact fun _ _=>⟨rfl,rfl,rfl,rfl⟩
section
variable {B W:Nat} {w0 w w':World} {bs:List Bx} {rs:List Rw} {v:Value} {lr ver:Int} {xs ys:List Nat}
theorem ox{g:Nat}{ss:List aq}(M:aC B w0 w (bC W v lr ver::(g,77,(ss.flatMap aq.cells).toArray)::bs) (aH v xs::rs))(h5:jW bs rs)(hs:∀ s∈ss,s.Ok)(hn:ss.length≤2)(hb:xs.length+200≤aF):
 Calls Tryz.prog 95 #[.pointer (some ⟨W,0,none⟩),.slice (some ⟨g,0,none⟩) ss.length ss.length] w (mJ B w0 ((g,77,(ss.flatMap aq.cells).toArray)::bs) rs W ver (xs++ss.flatMap eT)):=by
 have h5':jW ((g,77,(ss.flatMap aq.cells).toArray)::bs) rs:=h5.cons
 have hlen:(ss.flatMap eT).length≤100:=by
  match ss,hs,hn with
  | [],_,_=>simp
  | [a],hs,_=>have:=fM (hs a (by simp));simp;omega
  | [a,b],hs,_=>have:=fM (hs a (by simp));have:=fM (hs b (by simp));simp;omega
 refine bY M [] (fn:=Tryz.f95) Tryz.func95 rfl Tryz.ntmps95 rfl<|lp (ι:=Nat×Value×Int) (fun z=>[(8,.int .i64 (z.1:Int))]) (fun z=>bC W z.2.1 z.2.2 ver::(g,77,(ss.flatMap aq.cells).toArray)::bs) (fun z=>aH z.2.1 (xs++(ss.take z.1).flatMap eT)::rs) (fun z _=>z.1≤ss.length) (fun z=>ss.length-z.1) (0,v,lr)<|an ⟨⟨rfl,trivial⟩,fun M=>⟨M.cast rfl (by simp),aiZ _⟩⟩ ?_;rintro⟨j,u,l⟩ w1 M1 hj;have hj:j≤ss.length:=hj;refine an (fun h=>?_) fun h=>?_
 ·have hlt:j<ss.length:=Int.ofNat_lt.1 (of_decide_eq_true h);obtain⟨s,hn1⟩:∃ s,ss[j]?=some s:=⟨_,ai6 hlt⟩;have QZ:=hs s (ai9 hn1);have hl2:=cS eT hn1;have fB:(xs++(ss.take j).flatMap eT).length+(eT s).length≤aF:=by simp only[aiX];omega
  obtain⟨b,off,e,hc⟩:=(M1.slice 1 rfl (k:=4) (n:=ss.length) (CH ss) (Lu ss) (by unfold maxLen;omega)).elt (f:=aq.cells) (fun _=>rfl) (by decide) hn1 hlt;cases e;exact ia<|an ⟨rfl,rfl,hlt⟩<|lc (x:=s.cells)<|an hc<|ei<|an pG fun g3 w2 M2=>lb 0<|an ⟨rfl,rfl⟩ fun w3 M3=>sp [0,1,2] (.step 3 (.step 4 (.step 5 .done))) [] (by kernel_rfl)<|fun w4 pI M4=>lb 0<|an rfl<|an rfl<|cb (EO (xs:=[]) (M4.bE 5 1) QZ.a QZ.b QZ.c QZ.d (by simp;unfold aF;omega)) fun v5 w5 M5=>an rfl<|cwi 1 M5 rfl h5'.cons kW Xj fB fun v6 KF w6 M6=>an rfl<|an (by omega)<|bk (j+1,v6,KF) ⟨rfl,trivial⟩ (fun M=>⟨(M.only (.cons _ (.refl _)) (.refl _)).cast rfl (by rw[List.take_add_one,hn1,ai0,← List.append_assoc];simp[eT]),hlt⟩) (by dsimp only;omega)
 ·have hge:j=ss.length:=Nat.le_antisymm hj (Nat.le_of_not_lt fun h'=>of_decide_eq_false h (Int.ofNat_lt.2 h'));subst hge;exact fun M=>⟨rfl,u,l,M.cast rfl (congrArg (fun t=>aH u (xs++t.flatMap eT)::rs) ai8)⟩
theorem vK{tv:Value}{l:List ByteArray}(M:Mm w0 w (bC W v lr ver::bs) (aH v xs::rs))(h5:jW bs rs)(hv:aJ w0 tv l)(hb:xs.length+(eL eS l).length+200≤aF):
 Calls Tryz.prog 89 #[.pointer (some ⟨W,0,none⟩),tv] w (mJ w0.heap.size w0 bs rs W ver (xs++eL eS l)):=by
 obtain⟨la,lc',rfl,hl1,hl2,-⟩:=SliceAt.form hv (by decide);have hle:(eL eS l).length=(eN (l.length:Int)).length+(l.flatMap eS).length:=by unfold eL;rw[aiX]
 have hne:=aG (l.length:Int);refine bY M [] (fn:=Tryz.f89) Tryz.func89 rfl Tryz.ntmps89 rfl<|fun g1 w1 M1=>cE 1 M1 rfl (fun M=>bn (ns:=[(l.length:Int)]) M h5 (by simp) (by omega)) fun v3 kL w3 M3=>lp (ι:=Nat×Value×Int) (fun z=>[(13,.int .i64 (z.1:Int))]) (fun z=>(g1,3,#[.int .i64 (l.length:Int)])::bC W z.2.1 z.2.2 ver::bs) (fun z=>aH z.2.1 (xs++(eN (l.length:Int)++(l.take z.1).flatMap eS))::rs) (fun z _=>z.1≤l.length) (fun z=>l.length-z.1) (0,v3,kL)<|an ⟨⟨rfl,trivial⟩,fun M=>⟨M.cast rfl (by simp),aiZ _⟩⟩ ?_
 rintro⟨j,u,q⟩ w4 M4 hj;have hj:j≤l.length:=hj;refine an (fun h=>?_) fun h=>?_
 ·have hlt:j<l.length:=Int.ofNat_lt.1 (of_decide_eq_true h);obtain⟨s,hn1⟩:∃ s,l[j]?=some s:=⟨_,ai6 hlt⟩;have fB:=cS eS hn1;have hes:(eS s).length=(aL s.size).length+s.size:=by unfold eS;rw[aiX,dF]
  obtain⟨b,off,e,hc⟩:=hv.elt (f:=aO) (fun _=>rfl) (by decide) hn1 hlt;have hpn:1≤(aL s.size).length:=List.length_pos_iff.2 (j6 _);exact ia<|an ⟨e,rfl,hlt⟩<|lc (x:=.string s)<|an (cL M4.below hc 0 _ rfl)<|cE 1 M4 rfl (fun M=>KY M h5.cons (by simp only[aiX] at *;omega)) fun v6 KF w6 M6=>an (by omega)<|bk (j+1,v6,KF) ⟨rfl,trivial⟩ (fun M=>⟨M.cast rfl (by rw[List.take_add_one,hn1,ai0];simp[eS]),hlt⟩) (by dsimp only;omega)
 ·have hge:j=l.length:=Nat.le_antisymm hj (Nat.le_of_not_lt fun h'=>of_decide_eq_false h (Int.ofNat_lt.2 h'));subst hge;exact fun M=>⟨rfl,u,q,(M.only (.cons _ (.refl _)) (.refl _)).cast rfl (congrArg (fun t=>aH u (xs++(eN (l.length:Int)++t.flatMap eS))::rs) ai8)⟩
end
theorem SliceAt.front{w:World}{a:Addr}{k n c i:Nat}{cs:List Value}(h:SliceAt w (.slice (some a) n c) k n cs)(hi:i≤n):SliceAt w (.slice (some a) i c) k i (cs.take (i*k)):=by
 obtain⟨h1,h2,h3,⟨h4,h5⟩|⟨a',c',h4,h5,h6⟩⟩:=h
 ·cases h4
 ·cases h4;refine⟨?_,by omega,fun u hu=>h3 u (List.mem_of_mem_take hu),.inr ⟨a,c,rfl,by omega,fun j u hj=>?_⟩⟩
  ·rw[ai7,h1];exact Nat.min_eq_left (Nat.mul_le_mul_right k hi)
  ·rw[List.getElem?_take] at hj;split at hj
   ·exact h6 j u hj
   ·cases hj
theorem IQ(l:List ByteArray)(i:Nat):(l.flatMap aO).take (i*1)=(l.take i).flatMap aO:=by
 rw[Nat.mul_one]
 induction l generalizing i with
 | nil=>simp
 | cons x l ih=>
  cases i with
  | zero=>simp
  | succ i=>simp[aO,List.flatMap_cons,ih]
theorem aJ.front{w:World}{a:Addr}{n c i:Nat}{l:List ByteArray}(h:aJ w (.slice (some a) n c) l)(hn:n=l.length)(hi:i≤n):aJ w (.slice (some a) i c) (l.take i):=by
 subst hn;have h1:=SliceAt.front h hi;rw[IQ] at h1;unfold aJ;rw[ai7,Nat.min_eq_left hi];exact h1
theorem aJ.open{w:World}{v:Value}{l:List ByteArray}(h:aJ w v l):∃ a c,v=.slice a l.length c∧l.length≤c∧l.length≤9223372036854775807∧∀ i s,l[i]?=some s→∃ b off,a=some ⟨b,off,none⟩∧w.cell? ⟨b,off+i,none⟩=some (.string s):=by
 obtain⟨a,c,h1,h2,h3,h4⟩:=SliceAt.form h (by decide);refine⟨a,c,h1,h2,h3,fun i s hs=>?_⟩;have hi:=(aiY.1 hs).1;obtain⟨b,off,ha,hc⟩:=h4 i hi;have h5:=hc 0 (.string s) (by rw[H7 CB hs 0 (by decide)];rfl);simp only[Nat.mul_one,Nat.add_zero] at h5;exact⟨b,off,ha,h5⟩
def FK(l:List ByteArray)(s:ByteArray)(i:Nat):Bool:=match l[i]? with
 | some x=>decide (x.toList=s.toList)
 | none=>false
def hasB(l:List ByteArray)(s:ByteArray):Bool:=eH (FK l s) l.length 0
theorem wB{l:List ByteArray}{s x:ByteArray}{i:Nat}(h:l[i]?=some x):FK l s i=decide (x.toList=s.toList):=by unfold FK;rw[h]
theorem Dz(w:World)(s:ByteArray)(v:Value)(l:List ByteArray)(h:aJ w v l):Calls Tryz.prog 259 #[.string s,v] w fun e w'=>e=.returned (.bool (hasB l s))∧w=w':=by
 obtain⟨a,c,rfl,hc,hm,hcell⟩:=h.open;obtain⟨n,hn⟩:∃ n,n=l.length:=⟨_,rfl⟩;have HN:=ai_ hn;have HC:=ai_ hcell;unfold hasB;rw[← hn] at hc hm ⊢;clear hcell h hn
 go_enter Tryz.func259,Tryz.ntmps259
 go_wp2_with fail
 go_loopw [5] (fun i wr=>wr=w∧∃ k:Nat,k≤n∧i=.int .i64 k∧Hid (eH (FK l s) n 0=eH (FK l s) (n-k) k)) (fun i _=>n-(intOf i).toNat)
 case atStart=>exact⟨rfl,0,aiZ _,rfl,ai_ (by rw[Nat.sub_zero])⟩
 case round=>
  obtain⟨rfl,k,hk,rfl,hinv⟩:=hrel;by_cases hlt:k<n
  ·obtain⟨x,hx⟩:∃ x,l[k]?=some x:=⟨_,ai6 (by rw[← HN.out];exact hlt)⟩;have HX:=ai_ hx;obtain⟨b,off,rfl,k0⟩:=HC.out k x hx;clear hx;by_cases he:x.toList=s.toList
   ·have HB:=ai_ (show FK l s k=true by rw[wB HX.out];simp[he])
    go_wp2_with fail
    go_ret
    exact⟨bw (by rw[hinv.out,eG hlt HB.out]),rfl⟩
   ·have HB:=ai_ (show FK l s k=false by rw[wB HX.out];simp[he]);have hb1:(x.toList == s.toList)=false:=by simp[he]
    go_wp2_with fail
    go_roundw
    case rel=>exact⟨by first|trivial|rfl,k+1,by omega,by go_num,ai_ (hinv.out.trans (kE hlt HB.out))⟩
    case measure=>simp[intOf];omega
  ·obtain rfl:k=n:=by omega
   go_wp2_with fail
   go_ret
   exact⟨bw (by rw[hinv.out,jv]),rfl⟩
def gh(l o:List ByteArray)(i:Nat):Int:=match l[i]? with
 | some s=>if mg s=true then (if hasB (l.take i) s=true then 12 else if hasB o s=true then 12 else 0) else 10
 | none=>0
def aP(l o:List ByteArray):Int:=ah (gh l o) l.length 0
theorem qM{l o:List ByteArray}{s:ByteArray}{i:Nat}(h:l[i]?=some s):gh l o i=if mg s=true then (if hasB (l.take i) s=true then 12 else if hasB o s=true then 12 else 0) else 10:=by unfold gh;rw[h]
theorem nO{P:Program}{a:Act}{w:World}{o:Oper}{t e:TypeId}{x hi:Operand}{g off n c h k:Nat}{hk:IntKind}(ho:o.op=.slice t x none (some hi) none)(hx:a.eval x=.slice (some ⟨g,off,none⟩) n c)(hh:a.eval hi=.int hk (h:Int))(hhc:h≤c)(hc:0<c)
 (hu:P.underlying t=some (.slice e)) (hs:(P.info? e).map (·.size)=some k):(execOp a.eval o).run P w=.ok (.value (.slice (some ⟨g,off,none⟩) h c)) w:=by
 have hadd:(⟨g,off,none⟩:Addr).add 0=⟨g,off,none⟩:=by unfold Addr.add;split<;>simp_all
 have h1:(0:Int)≤(h:Int)∧(h:Int)≤(c:Int):=by omega
 have hne:¬ c=0:=by omega
 unfold execOp;simp[ho,hx,hh,Instr.sliceAt,aiW,run_underlying hu w,Result.andThen_ok,Instr.slice,Instr.sliceBounds,Instr.sliceBound,asIntOf,Sem.run_pure,h1,run_sizeOf hs,hne,hadd];intro h';omega
theorem eY(w:World)(v v':Value)(l o:List ByteArray)(h:aJ w v l)(ho:aJ w v' o)(hok:∀ s∈l,cB s):Calls Tryz.prog 150 #[v,v'] w fun e w'=>e=.returned (.int .i64 (aP l o))∧ai3 w.heap.size w w':=by
 obtain⟨a,c,rfl,KI,hget⟩:=aJ.get h;obtain⟨_,_,rfl,-⟩:=aJ.get ho;have hcl:l.length≤c:=by obtain⟨_,_,e,hk,-⟩:=SliceAt.form h (by decide);injection e with e1 e2 e3;omega
 unfold aP;refine bU [] (fn:=Tryz.f150) Tryz.func150 rfl Tryz.ntmps150 rfl<|lr (ι:=Nat) (fun m=>[(5,.int .i64 (m:Int))]) (fun m _=>m≤l.length∧ah (gh l o) l.length 0=ah (gh l o) (l.length-m) m) (fun m=>l.length-m) 0 (an ⟨⟨rfl,trivial⟩,fun M=>⟨M,aiZ _,by rw[Nat.sub_zero]⟩⟩ ?_);rintro m w1 M ⟨hm,hinv⟩;refine an (fun h2=>?_) fun h2 M=>⟨ri (by rw[hinv,show m=l.length by simp at h2;omega,aT]),M.below⟩
 have hlt:m<l.length:=by simp at h2;omega
 obtain⟨s,hs⟩:∃ s,l[m]?=some s:=⟨_,ai6 hlt⟩;obtain⟨b,off,rfl,hc⟩:=hget m s hs;have hcf:=qM (o:=o) hs;have out:∀ v:Int,gh l o m=v→v≠0→ah (gh l o) l.length 0=v:=fun v h1 h2=>by rw[hinv,aV hlt (by rw[h1];exact h2),h1]
 refine ia<|an ⟨rfl,rfl,hlt⟩<|lc (x:=.string s)<|an (cell_later M.below hc)<|cl<|an ((yh _ s (hok s (ai9 hs))).mono fun _ _ ⟨h1,h2⟩=>⟨h1,h2▸Below.refl _ _⟩) fun w2 M2=>an (fun h3 M=>⟨ri (out 10 (by rw[hcf,if_neg (by simpa using h3)]) (by decide)),M.below⟩) fun h3=>?_
 rw[if_pos (by simpa using h3)] at hcf;refine dr (by kernel_rfl)<|ia<|an ⟨rfl,rfl,hlt⟩<|lc (x:=.string s)<|an (cell_later M2.below hc)<|ei (x:=.slice (some ⟨b,off,none⟩) m c)<|an (fun a w o ho hv=>nO ho (aQ hv) (cO hv) (by omega) (by omega) u28 sz9)<|cl<|an (fun w' hb M'=>(Dz w' s _ _ ((aJ.front h rfl (Nat.le_of_lt hlt)).keep M'.below)).mono fun _ _ ⟨h1,h2⟩=>⟨h1,h2▸Below.refl _ _⟩)<|ia<|an (fun _=>⟨rfl,rfl,hlt⟩)<|lc (x:=.string s)<|an (fun _=>cell_later M2.below hc)<|cl<|an (fun _ w' hb M'=>(Dz w' s _ _ (ho.keep M'.below)).mono fun _ _ ⟨h1,h2⟩=>⟨h1,h2▸Below.refl _ _⟩) fun w3 eu M3=>an (fun h4 M=>⟨ri (out 12 ?_ (by decide)),M.below⟩) fun h4=>an (by omega)<|bk (m+1) ⟨rfl,trivial⟩ (fun M=>⟨M,by omega,hinv.trans (aM hlt ?_)⟩) (by dsimp only;omega)
 all_goals rw[hcf];clear out hinv hcf;cases h5:hasB (l.take m) s<;>cases h6:hasB o s<;>simp_all
end Go.Proofs.YtkkmjdceiocnbaaGreatDoor
namespace Go.Proofs.YtkkmjdceiocnbaaGreatDoor
open Go Go.RowKit Go.WideMaps
theorem W5(d:Nat)(x0 y0:Int)(w:World):(Op.equalIn (d+1) 59 (.int .u64 x0) (.int .u64 y0)).run Tryz.prog w=.ok (decide (x0=y0)) w:=by
 by_cases h:x0=y0<;>simp[Op.equalIn,run_underlying Tryz.underlying59,h]
theorem Ni(d:Nat)(x0 x1 x2 x3 y0 y1 y2 y3:Int)(w:World):(Op.equalIn (d+2) 77 (.agg #[.int .u64 x0,.int .u64 x1,.int .u64 x2,.int .u64 x3]) (.agg #[.int .u64 y0,.int .u64 y1,.int .u64 y2,.int .u64 y3])).run Tryz.prog w=.ok (decide (x0=y0∧x1=y1∧x2=y2∧x3=y3)) w:=by
 have hsz:=YV
 obtain⟨i0,hi,-⟩:∃ i,Tryz.prog.info? 59=some i∧True:=by
  cases h:Tryz.prog.info? 59 with
  | none=>rw[h] at hsz;cases hsz
  | some i=>exact⟨i,rfl,trivial⟩
 rw[show d+2=(d+1)+1 from rfl,run_equalIn_array w (d+1) _ _ Tryz.underlying77 hi,show Tryz.prog.cellsOf 59=1 from by kernel_rfl];have p0:∀ x0 x1 x2 x3:Int,(part 59 #[.int .u64 x0,.int .u64 x1,.int .u64 x2,.int .u64 x3] (0*1)).run Tryz.prog w=.ok (.int .u64 x0) w:=fun x0 x1 x2 x3=>by kernel_rfl
 have p1:∀ x0 x1 x2 x3:Int,(part 59 #[.int .u64 x0,.int .u64 x1,.int .u64 x2,.int .u64 x3] (1*1)).run Tryz.prog w=.ok (.int .u64 x1) w:=fun x0 x1 x2 x3=>by kernel_rfl
 have p2:∀ x0 x1 x2 x3:Int,(part 59 #[.int .u64 x0,.int .u64 x1,.int .u64 x2,.int .u64 x3] (2*1)).run Tryz.prog w=.ok (.int .u64 x2) w:=fun x0 x1 x2 x3=>by kernel_rfl
 have p3:∀ x0 x1 x2 x3:Int,(part 59 #[.int .u64 x0,.int .u64 x1,.int .u64 x2,.int .u64 x3] (3*1)).run Tryz.prog w=.ok (.int .u64 x3) w:=fun x0 x1 x2 x3=>by kernel_rfl
 have eq:=fun a b=>W5 d a b w
 rw[show List.range 4=[0,1,2,3] from rfl];simp only[Op.eqItems,aiW,p0,Result.andThen_ok,eq];by_cases h0:x0=y0<;>by_cases h1:x1=y1<;>by_cases h2:x2=y2<;>by_cases h3:x3=y3<;>simp[h0,h1,h2,h3,aiW,p0,p1,p2,p3,eq]
theorem aaY(d:Nat)(x0 y0:ByteArray)(w:World):(Op.equalIn (d+1) 9 (.string x0) (.string y0)).run Tryz.prog w=.ok (decide (x0=y0)) w:=by
 have e:(x0 == y0)=decide (x0=y0):=by
  rw[Bool.eq_iff_iff,decide_eq_true_eq];constructor
  ·intro h;have h':(x0.data == y0.data)=true:=h;exact ByteArray.ext (by simpa using h')
  ·intro h;subst h;show(x0.data == x0.data)=true;simp
 simp[Op.equalIn,run_underlying Tryz.underlying9,e]
theorem TU(d:Nat)(x1 x2 x3 x4 x5 x6 x7 x8 y1 y2 y3 y4 y5 y6 y7 y8:Int)(x0 y0:ByteArray)(w:World):(Op.equalIn (d+3) 136 (.agg #[.string x0,.int .u64 x1,.int .u64 x2,.int .u64 x3,.int .u64 x4,.int .u64 x5,.int .u64 x6,.int .u64 x7,.int .u64 x8]) (.agg #[.string y0,.int .u64 y1,.int .u64 y2,.int .u64 y3,.int .u64 y4,.int .u64 y5,.int .u64 y6,.int .u64 y7,.int .u64 y8])).run Tryz.prog w=.ok (decide (x0=y0∧x1=y1∧x2=y2∧x3=y3∧x4=y4∧x5=y5∧x6=y6∧x7=y7∧x8=y8)) w:=by
 have hf:(Tryz.prog.fieldsOf 136).toList.map (fun f=>(f.type,f.offset))=[(9,0),(77,1),(77,5)]:=by kernel_rfl
 have hq:(Op.eqFields (d+2) #[.string x0,.int .u64 x1,.int .u64 x2,.int .u64 x3,.int .u64 x4,.int .u64 x5,.int .u64 x6,.int .u64 x7,.int .u64 x8] #[.string y0,.int .u64 y1,.int .u64 y2,.int .u64 y3,.int .u64 y4,.int .u64 y5,.int .u64 y6,.int .u64 y7,.int .u64 y8] (Tryz.prog.fieldsOf 136).toList).run Tryz.prog w=.ok ([decide (x0=y0),decide (x1=y1∧x2=y2∧x3=y3∧x4=y4),decide (x5=y5∧x6=y6∧x7=y7∧x8=y8)].all id) w:=by
  refine Ag _ _ (by kernel_rfl) (by kernel_rfl) fun i f r hi hr=>?_
  have hm:=congrArg (fun z:List (Nat×Nat)=>z[i]?) hf;simp only[List.getElem?_map,hi,Option.map_some] at hm;have hlt:i<3:=(aiY.1 hr).1
  match i,hlt with
  | 0,_=>
   obtain⟨h1,h2⟩:=Prod.mk.inj (ai5 hm);obtain rfl:=ai5 hr;rw[h1,h2];exact⟨.string x0,.string y0,by kernel_rfl,by kernel_rfl,aaY (d+1) x0 y0 w⟩
  | 1,_=>
   obtain⟨h1,h2⟩:=Prod.mk.inj (ai5 hm);obtain rfl:=ai5 hr;rw[h1,h2];exact⟨.agg #[.int .u64 x1,.int .u64 x2,.int .u64 x3,.int .u64 x4],.agg #[.int .u64 y1,.int .u64 y2,.int .u64 y3,.int .u64 y4],by kernel_rfl,by kernel_rfl,Ni d x1 x2 x3 x4 y1 y2 y3 y4 w⟩
  | 2,_=>
   obtain⟨h1,h2⟩:=Prod.mk.inj (ai5 hm);obtain rfl:=ai5 hr;rw[h1,h2];exact⟨.agg #[.int .u64 x5,.int .u64 x6,.int .u64 x7,.int .u64 x8],.agg #[.int .u64 y5,.int .u64 y6,.int .u64 y7,.int .u64 y8],by kernel_rfl,by kernel_rfl,Ni d x5 x6 x7 x8 y5 y6 y7 y8 w⟩
 rw[show d+3=(d+2)+1 from rfl,run_equalIn_agg w (d+2) 136 _ _ (by kernel_rfl) (by kernel_rfl),hq];congr 1;rw[Bool.eq_iff_iff];simp[and_assoc]
end Go.Proofs.YtkkmjdceiocnbaaGreatDoor
namespace Go.Proofs.YtkkmjdceiocnbaaGreatDoor
open Go Go.RowKit
theorem RW:(Tryz.prog.info? 84).map (·.size)=some 10:=by kernel_rfl
theorem nj(n:Nat):(aq.all n).Ok:=wG _
def bD(s:aq):Bool:=!(decide (s=aq.zero))
theorem Rc(x y:aq)(w:World):(Op.equalIn 10000 77 (.agg #[.int .u64 x.a,.int .u64 x.b,.int .u64 x.c,.int .u64 x.d]) (.agg #[.int .u64 y.a,.int .u64 y.b,.int .u64 y.c,.int .u64 y.d])).run Tryz.prog w=.ok (decide (x=y)) w:=by
 rw[show(10000:Nat)=9998+2 from rfl,Ni];congr 1;rw[Bool.eq_iff_iff];obtain⟨x_a,x_b,x_c,x_d⟩:=x;obtain⟨y_a,y_b,y_c,y_d⟩:=y;simp only[decide_eq_true_eq,aq.mk.injEq,Int.natCast_inj,and_assoc]
theorem gG(w:World)(s:aq)(hs:s.Ok)(n:Nat)(hn:n≤140737488355328):Calls Tryz.prog 152 #[.agg #[.int .u64 s.a,.int .u64 s.b,.int .u64 s.c,.int .u64 s.d],.int .i64 (n:Int)] w fun e w'=>e=.returned (.tuple #[.bool (bD s),.bool (s.within (aq.all n))])∧ai3 w.heap.size w w':=by
 exact bU [] (fn:=Tryz.f152) Tryz.func152 rfl Tryz.ntmps152 rfl<|fun g1 w1 M1=>dr (by kernel_rfl)<|lb 0<|an rfl<|ei (x:=.agg #[.int .u64 0,.int .u64 0,.int .u64 0,.int .u64 0])<|an (bd (by kernel_rfl))<|ei (x:=decide (s=aq.zero))<|an ⟨zx,fun w=>Rc s aq.zero w⟩<|lb 0<|an rfl<|cl<|an (fun w' hb' M'=>xK w' n hn)<|cl<|an (fun w' hb' M'=>pX w' s _ hs (nj n))<|fun w hb M=>fun M=>⟨rfl,M.below⟩
def lN(n:Nat)(s:aq):Bool:=s.within (aq.all n).unit
theorem j7(w:World)(c0 c1 c2 c3 c4 c5 c6 c7 c8 c9 c10 c11 c12 c13 c14 c15 c16:Value)(p:aA)(hp:aD w c0 c1 c2 c3 c4 c5 c6 c7 c8 c9 c10 c11 c12 c13 c14 c15 c16 p)(hok:p.Ok)(s:aq)(hs:s.Ok):Calls Tryz.prog 155 #[.agg #[c0,c1,c2,c3,c4,c5,c6,c7,c8,c9,c10,c11,c12,c13,c14,c15,c16],.agg #[.int .u64 s.a,.int .u64 s.b,.int .u64 s.c,.int .u64 s.d]] w fun e w'=>e=.returned (.bool (lN p.roles.length s))∧ai3 w.heap.size w w':=by
 obtain⟨_,_,_,_,_,_,_,_,_,_,_,_,_,_,_,_,_,_,_,_,_,_,_,_,_,_,_,_,_,_,_,_,_,_,rfl,rfl,rfl,rfl,rfl,rfl,rfl,rfl,rfl,rfl,rfl,rfl,rfl,rfl,rfl,rfl,rfl⟩:=hp.open;have Wv:p.roles.length≤140737488355328:=hok.Ew;exact bU [] (fn:=Tryz.f155) Tryz.func155 rfl Tryz.ntmps155 rfl<|fun g1 w1 M1=>fun g2 w2 M2=>dr (by kernel_rfl)<|lb 0<|an rfl<|lb 1<|an rfl<|cl<|an (fun w' hb' M'=>xK w' _ Wv)<|cl<|an (fun w' hb' M'=>zm w' (aq.all p.roles.length) (nj _))<|cl<|an (fun w' hb' M'=>pX w' s _ hs (aq.OT (nj _)))<|fun w hb M=>fun M=>⟨rfl,M.below⟩
def ji(nS nC:Nat)(l:jX):Bool:=aE l.ay (nS:Int)&&(decide ((64:Int)≤(nC:Int))||decide ((l.cats:Int)/2^nC=0))
theorem uh(w:World)(c0 c1 c2 c3 c4 c5 c6 c7 c8 c9 c10 c11 c12 c13 c14 c15 c16:Value)(p:aA)(hp:aD w c0 c1 c2 c3 c4 c5 c6 c7 c8 c9 c10 c11 c12 c13 c14 c15 c16 p)(l:jX)(hl:l.Ok):Calls Tryz.prog 157 #[.agg #[c0,c1,c2,c3,c4,c5,c6,c7,c8,c9,c10,c11,c12,c13,c14,c15,c16],.agg #[.int .i64 l.ay,.int .u64 l.cats]] w fun e w'=>e=.returned (.bool (ji p.ay.length p.cats.length l))∧ai3 w.heap.size w w':=by
 obtain⟨a6,k6,rfl,hk6,hm6⟩:=aD.f6 hp;obtain⟨n6,Z7⟩:∃ n,n=p.ay.length:=⟨_,rfl⟩;have N6:=ai_ Z7;rw[← Z7] at hk6 hm6 ⊢;clear Z7;obtain⟨a7,k7,rfl,hk7,hm7⟩:=aD.f7 hp;obtain⟨n7,Z6⟩:∃ n,n=p.cats.length:=⟨_,rfl⟩;have N7:=ai_ Z6;rw[← Z6] at hk7 hm7 ⊢;clear Z6;have hcl:l.cats<18446744073709551616:=hl.cats;clear hp hl;obtain⟨wo,j_⟩:∃ wo,wo=((w).alloc (.cells #[c0,c1,c2,c3,c4,c5,.slice a6 n6 k6,.slice a7 n7 k7,c8,c9,c10,c11,c12,c13,c14,c15,c16] 39)).alloc (.cells #[.int .i64 l.ay,.int .u64 l.cats] 61):=⟨_,rfl⟩;have W0:=ai_ (show Whole wo w.heap.size 39 #[c0,c1,c2,c3,c4,c5,.slice a6 n6 k6,.slice a7 n7 k7,c8,c9,c10,c11,c12,c13,c14,c15,c16] by rw[j_];exact((show Whole _ w.heap.size 39 #[c0,c1,c2,c3,c4,c5,.slice a6 n6 k6,.slice a7 n7 k7,c8,c9,c10,c11,c12,c13,c14,c15,c16] from Whole.new w 39 _).alloc _));have W1:=ai_ (show Whole wo (w.heap.size+1) 61 #[.int .i64 l.ay,.int .u64 l.cats] by rw[j_];exact(tV w _ _ _));have vu:=ai_ (show ai3 w.heap.size w wo by rw[j_];exact(((Below.refl _ w).alloc (Nat.le_refl _) _).alloc (by simp) _));have ka6:wo.cell? ⟨w.heap.size,6,none⟩=some (.slice a6 n6 k6):=W0.out.cell 6;have Ya:wo.cell? ⟨w.heap.size,7,none⟩=some (.slice a7 n7 k7):=W0.out.cell 7;have kb0:wo.cell? ⟨w.heap.size+1,0,none⟩=some (.int .i64 l.ay):=W1.out.cell 0;have kb1:wo.cell? ⟨w.heap.size+1,1,none⟩=some (.int .u64 l.cats):=W1.out.cell 1;unfold ji
 cases hb:aE l.ay (n6:Int) with
 | false=>
  have H1:=ai_ hb;clear hb
  go_enter Tryz.func157,Tryz.ntmps157
  go_upto_region 1 with(fail)
  rw[← j_];clear j_
  go_wp2_with (have hZ:=H1;clear hZ;go_at_call 162;go_must (refine(show Calls Tryz.prog 162 _ _ (fun e w'=>e=.returned (.bool false)∧wo=w') from by have h:=fZ wo l.ay (n6:Int);rw[H1.out] at h;exact h).mono ?_;rintro e w' ⟨rfl,rfl⟩;clear H1))
  go_ret
  exact⟨rfl,vu.out⟩
 | true=>
  have H1:=ai_ hb;clear hb;by_cases h64:(64:Int)≤(n7:Int)
  ·have d1:decide ((64:Int)≤(n7:Int))=true:=by simp;omega
   rw[d1]
   go_enter Tryz.func157,Tryz.ntmps157
   go_upto_region 1 with(fail)
   rw[← j_];clear j_
   go_wp2_with (have hZ:=H1;clear hZ;go_at_call 162;go_must (refine(show Calls Tryz.prog 162 _ _ (fun e w'=>e=.returned (.bool true)∧wo=w') from by have h:=fZ wo l.ay (n6:Int);rw[H1.out] at h;exact h).mono ?_;rintro e w' ⟨rfl,rfl⟩;clear H1))
   go_ret
   exact⟨rfl,vu.out⟩
  ·have d1:decide ((64:Int)≤(n7:Int))=false:=by simp;omega
   rw[d1];have h7:n7<64:=by omega
   go_enter Tryz.func157,Tryz.ntmps157
   go_upto_region 1 with(fail)
   rw[← j_];clear j_
   go_wp2_with (have hZ:=H1;clear hZ;go_at_call 162;go_must (refine(show Calls Tryz.prog 162 _ _ (fun e w'=>e=.returned (.bool true)∧wo=w') from by have h:=fZ wo l.ay (n6:Int);rw[H1.out] at h;exact h).mono ?_;rintro e w' ⟨rfl,rfl⟩;clear H1))
   go_ret
   exact⟨bw (by first|rfl|(simp<;>rfl)),vu.out⟩
def iJ(nS nC:Nat)(r:kQ):Bool:=ji nS nC r.low&&ji nS nC r.high&&kN r.high r.low
theorem t_(w:World)(c0 c1 c2 c3 c4 c5 c6 c7 c8 c9 c10 c11 c12 c13 c14 c15 c16:Value)(p:aA)(hp:aD w c0 c1 c2 c3 c4 c5 c6 c7 c8 c9 c10 c11 c12 c13 c14 c15 c16 p)(r:kQ)(hr:r.Ok):Calls Tryz.prog 156 #[.agg #[c0,c1,c2,c3,c4,c5,c6,c7,c8,c9,c10,c11,c12,c13,c14,c15,c16],.agg #[.int .i64 r.low.ay,.int .u64 r.low.cats,.int .i64 r.high.ay,.int .u64 r.high.cats]] w fun e w'=>e=.returned (.bool (iJ p.ay.length p.cats.length r))∧ai3 w.heap.size w w':=by
 obtain⟨_,_,_,_,_,_,_,_,_,_,_,_,_,_,_,_,_,_,_,_,_,_,_,_,_,_,_,_,_,_,_,_,_,_,rfl,rfl,rfl,rfl,rfl,rfl,rfl,rfl,rfl,rfl,rfl,rfl,rfl,rfl,rfl,rfl,rfl⟩:=hp.open;exact bU [] (fn:=Tryz.f156) Tryz.func156 rfl Tryz.ntmps156 rfl<|fun g1 w1 M1=>fun g2 w2 M2=>lb 1<|an rfl<|lb 0<|an rfl<|cl<|an (uh _ _ _ _ _ _ _ _ _ _ _ _ _ _ _ _ _ _ p (hp.keep M2.below) r.low hr.low) fun w3 M3=>lb 1<|an (fun _=>rfl)<|lb 0<|an (fun _=>rfl)<|cl<|an (fun _=>uh _ _ _ _ _ _ _ _ _ _ _ _ _ _ _ _ _ _ p (hp.keep M3.below) r.high hr.high) fun w4 M4=>lb 0<|an (fun _=>rfl)<|lb 0<|an (fun _=>rfl)<|cl<|an (fun _=>tL _ r.high r.low hr.high hr.low) fun w5 M5=>fun M=>⟨rfl,M.below⟩
def h_(cl:List jU)(c:Int)(v:Int):Bool:=match (if 0≤c then cl[c.toNat]? else none) with
 | some x=>decide ((32:Int)≤(x.perms.length:Int))||decide (v/2^x.perms.length=0)
 | none=>false
theorem uQ{cl:List jU}{c v:Int}(h:aE c (cl.length:Int)=false):h_ cl c v=false:=by
 unfold h_;by_cases h0:0≤c
 ·rw[if_pos h0,List.getElem?_eq_none (by unfold aE at h;simp[h0] at h;omega)]
 ·rw[if_neg h0]
theorem wR(w:World)(c0 c1 c2 c3 c4 c5 c6 c7 c8 c9 c10 c11 c12 c13 c14 c15 c16:Value)(p:aA)(hp:aD w c0 c1 c2 c3 c4 c5 c6 c7 c8 c9 c10 c11 c12 c13 c14 c15 c16 p)(c v:Int)(hv:Ed v):Calls Tryz.prog 160 #[.agg #[c0,c1,c2,c3,c4,c5,c6,c7,c8,c9,c10,c11,c12,c13,c14,c15,c16],.int .i64 c,.int .u32 v] w fun e w'=>e=.returned (.bool (h_ p.classes c v))∧ai3 w.heap.size w w':=by
 obtain⟨a0,k0,rfl,hk0,hm0,hcell⟩:=au.form hp.classes (by decide);obtain⟨n0,hn0⟩:∃ n,n=p.classes.length:=⟨_,rfl⟩;have N0:=ai_ hn0;have HC:=ai_ hcell;rw[← hn0] at hk0 hm0 ⊢;have hv':0≤v∧v<4294967296:=hv;clear hn0 hcell hp hv;obtain⟨wo,j_⟩:∃ wo,wo=(w).alloc (.cells #[.slice a0 n0 k0,c1,c2,c3,c4,c5,c6,c7,c8,c9,c10,c11,c12,c13,c14,c15,c16] 39):=⟨_,rfl⟩;have W0:=ai_ (show Whole wo w.heap.size 39 #[.slice a0 n0 k0,c1,c2,c3,c4,c5,c6,c7,c8,c9,c10,c11,c12,c13,c14,c15,c16] by rw[j_];exact(Whole.new w 39 _));have vu:=ai_ (show ai3 w.heap.size w wo by rw[j_];exact((Below.refl _ w).alloc (Nat.le_refl _) _));have ka0:wo.cell? ⟨w.heap.size,0,none⟩=some (.slice a0 n0 k0):=W0.out.cell 0
 cases hb:aE c (n0:Int) with
 | false=>
  have H1:=ai_ hb;rw[uQ (by rw[← N0.out];exact hb)];clear hb
  go_enter Tryz.func160,Tryz.ntmps160
  go_upto_region 1 with(fail)
  rw[← j_];clear j_
  go_wp2_with (have hZ:=H1;clear hZ;go_at_call 162;go_must (refine(show Calls Tryz.prog 162 _ _ (fun e w'=>e=.returned (.bool false)∧wo=w') from by have h:=fZ wo c (n0:Int);rw[H1.out] at h;exact h).mono ?_;rintro e w' ⟨rfl,rfl⟩;clear H1))
  go_ret
  exact⟨rfl,vu.out⟩
 | true=>
  have H1:=ai_ hb;obtain⟨hc0,hcn⟩:0≤c∧c<(n0:Int):=by unfold aE at hb;simpa using hb
  obtain⟨i,rfl⟩:∃ i:Nat,c=i:=⟨c.toNat,by omega⟩;obtain⟨x,hx⟩:∃ x,p.classes[i]?=some x:=⟨_,ai6 (by have:=N0.out;omega)⟩
  have hval:h_ p.classes (i:Int) v=(decide ((32:Int)≤(x.perms.length:Int))||decide (v/2^x.perms.length=0)):=by
   unfold h_;rw[if_pos hc0];simp only[Int.toNat_natCast,hx]
  rw[hval];obtain⟨b,off,cs,rfl,hrow,hlen,hcc⟩:=HC.out i x hx;obtain⟨pv,rfl,hst⟩:=hrow;obtain⟨a1,k1,rfl,hk1,hm1,-⟩:=hst.open;have kx:wo.cell? ⟨b,off+i*2+1,none⟩=some (.slice a1 x.perms.length k1):=cell_later vu.out (hcc 1 _ rfl);obtain⟨m,hm⟩:∃ m,m=x.perms.length:=⟨_,rfl⟩;rw[← hm] at kx hm1 hk1 ⊢;clear hb hval hx hst hcc hm;by_cases U4:(32:Int)≤(m:Int)
  ·have d1:decide ((32:Int)≤(m:Int))=true:=by simp;omega
   rw[d1]
   go_enter Tryz.func160,Tryz.ntmps160
   go_upto_region 1 with(fail)
   rw[← j_];clear j_
   go_wp2_with (have hZ:=H1;clear hZ;go_at_call 162;go_must (refine(show Calls Tryz.prog 162 _ _ (fun e w'=>e=.returned (.bool true)∧wo=w') from by have h:=fZ wo (i:Int) (n0:Int);rw[H1.out] at h;exact h).mono ?_;rintro e w' ⟨rfl,rfl⟩;clear H1))
   go_ret
   exact⟨rfl,vu.out⟩
  ·have d1:decide ((32:Int)≤(m:Int))=false:=by simp;omega
   rw[d1];have h7:m<32:=by omega
   go_enter Tryz.func160,Tryz.ntmps160
   go_upto_region 1 with(fail)
   rw[← j_];clear j_
   go_wp2_with (have hZ:=H1;clear hZ;go_at_call 162;go_must (refine(show Calls Tryz.prog 162 _ _ (fun e w'=>e=.returned (.bool true)∧wo=w') from by have h:=fZ wo (i:Int) (n0:Int);rw[H1.out] at h;exact h).mono ?_;rintro e w' ⟨rfl,rfl⟩;clear H1))
   go_ret
   exact⟨bw (by first|rfl|(simp<;>rfl)),vu.out⟩
def aY:Nat→aI→Int
 | 0,_=>0
 | m+1,e=>jh (fun i=>match e.kids[i]? with|some k=>aY m k|none=>0) e.kids.length+1
theorem m_:∀ (m:Nat) (e:aI),0≤aY m e∧aY m e≤m
 | 0,_=>⟨Int.le_refl 0,Int.le_refl 0⟩
 | m+1,e=>by
  unfold aY;have h1:=fW (fun i=>match e.kids[i]? with|some k=>aY m k|none=>0) e.kids.length
  have h2:=nH (f:=fun i=>match e.kids[i]? with|some k=>aY m k|none=>0) (b:=m) (by omega) e.kids.length fun i _=>by
   split
   ·exact(m_ m _).2
   ·omega
  omega
theorem Fw:∀ (m:Nat) (w:World) (cs:List Value) (e:aI),m≤13→bV w cs e→Calls Tryz.prog 72 #[.agg cs.toArray,.int .i64 (m:Int)] w fun r w'=>r=.returned (.int .i64 (aY m e))∧ai3 w.heap.size w w':=by
 intro m
 induction m with
 | zero=>
  intro w cs e _ h;obtain⟨_,_,rfl,hn,hk⟩:=h.open;obtain⟨_,_,rfl,-⟩:=aJ.get hn;obtain⟨_,_,rfl,-⟩:=au.form hk (by decide);refine bU [] (fn:=Tryz.f72) Tryz.func72 rfl Tryz.ntmps72 rfl<|fun g1 w1 M1=>?_
  exact an (fun _ M=>⟨rfl,M.below⟩) fun h=>by simp at h
 | succ m ih=>
  intro w cs e hm h;obtain⟨_,_,rfl,hn,hk⟩:=h.open;obtain⟨_,_,rfl,-⟩:=aJ.get hn;obtain⟨_,_,rfl,-,hkm,-⟩:=au.form hk (by decide);refine bU [] (fn:=Tryz.f72) Tryz.func72 rfl Tryz.ntmps72 rfl<|fun g1 w1 M1=>?_
  refine an (fun h=>by simp at h;omega) fun _=>?_
  refine lr (ι:=Nat) (fun k=>[(5,.int .i64 (jh (fun i=>match e.kids[i]? with|some k=>aY m k|none=>0) k)),(6,.int .i64 (k:Int))]) (fun k _=>k≤e.kids.length) (fun k=>e.kids.length-k) 0 (an ⟨⟨rfl,rfl,trivial⟩,fun M=>⟨M,aiZ _⟩⟩ ?_);intro k w M hkl;have hx:=fW (fun i=>match e.kids[i]? with|some k=>aY m k|none=>0) k
  have hz:=nH (f:=fun i=>match e.kids[i]? with|some k=>aY m k|none=>0) (b:=m) (by omega) k fun i _=>by
   split
   ·exact(m_ m _).2
   ·omega
  refine lb 0<|an rfl<|an (fun h1=>?_) fun h1=>?_
  ·have hlt:k<e.kids.length:=by simp at h1;omega
   obtain⟨y,hy⟩:∃ y,e.kids[k]?=some y:=⟨_,ai6 hlt⟩;obtain⟨b,o,_,e1,hE,hc⟩:=au.elt hk (by decide) hy;obtain⟨_,_,rfl,hn2,hk2⟩:=hE.open;obtain⟨_,_,rfl,-⟩:=aJ.get hn2;obtain⟨_,_,rfl,-⟩:=au.form hk2 (by decide);refine lb 0<|an rfl<|ia<|an ⟨e1,rfl,hlt⟩<|lc<|an (cL M.below hc)<|an (by omega)<|cl (v:=.int .i64 (aY m y))<|an ?_ fun w2 M2=>Rb M2 (v:=.int .i64 (jh (fun i=>match e.kids[i]? with|some k=>aY m k|none=>0) (k+1))) (fun a o ho hv=>?_)<|?_
   ·have h2:=ih _ _ y (by omega) (hE.keep M.below)
    rwa [show((m:Nat):Int)=((m+1:Nat):Int)-1 by omega] at h2
   ·rw[BI ho (aQ hv) (cO hv)]
    have e2:jh (fun i=>match e.kids[i]? with|some k=>aY m k|none=>0) (k+1)=max (jh (fun i=>match e.kids[i]? with|some k=>aY m k|none=>0) k) (aY m y):=by
     show max _ (match e.kids[k]? with|some k=>aY m k|none=>0)=_;rw[hy]
    rw[e2,Int.max_def];congr 3;split<;>split<;>omega
   ·exact an (by omega)<|bk (k+1) ⟨rfl,rfl,trivial⟩ (fun M=>⟨M,by omega⟩) (by dsimp only;omega)
  ·obtain rfl:k=e.kids.length:=by simp at h1;omega
   exact an (by omega) fun M=>⟨rfl,M.below⟩
def dh(o:Int):Int:=if o=1 then 0 else if o=8 then 0 else if o=9 then 0 else if o=2 then 1 else if o=3 then 2 else if o=4 then 2 else if o=5 then 2 else if o=6 then 2 else if o=7 then 2 else -1
theorem Dq(w:World)(o:Int):Calls Tryz.prog 303 #[.int .i64 o] w fun e w'=>e=.returned (.int .i64 (dh o))∧w=w':=by
 unfold dh;by_cases h0:o=1
 ·rw[if_pos h0];subst h0
  go_enter Tryz.func303,Tryz.ntmps303
  go_wp2
  go_ret
  exact⟨rfl,rfl⟩
 ·rw[if_neg h0];by_cases h1:o=8
  ·rw[if_pos h1];subst h1
   go_enter Tryz.func303,Tryz.ntmps303
   go_wp2
   go_ret
   exact⟨rfl,rfl⟩
  ·rw[if_neg h1];by_cases h2:o=9
   ·rw[if_pos h2];subst h2
    go_enter Tryz.func303,Tryz.ntmps303
    go_wp2
    go_ret
    exact⟨rfl,rfl⟩
   ·rw[if_neg h2];by_cases h3:o=2
    ·rw[if_pos h3];subst h3
     go_enter Tryz.func303,Tryz.ntmps303
     go_wp2
     go_ret
     exact⟨rfl,rfl⟩
    ·rw[if_neg h3];by_cases h4:o=3
     ·rw[if_pos h4];subst h4
      go_enter Tryz.func303,Tryz.ntmps303
      go_wp2
      go_ret
      exact⟨rfl,rfl⟩
     ·rw[if_neg h4];by_cases h5:o=4
      ·rw[if_pos h5];subst h5
       go_enter Tryz.func303,Tryz.ntmps303
       go_wp2
       go_ret
       exact⟨rfl,rfl⟩
      ·rw[if_neg h5];by_cases h6:o=5
       ·rw[if_pos h6];subst h6
        go_enter Tryz.func303,Tryz.ntmps303
        go_wp2
        go_ret
        exact⟨rfl,rfl⟩
       ·rw[if_neg h6];by_cases h7:o=6
        ·rw[if_pos h7];subst h7
         go_enter Tryz.func303,Tryz.ntmps303
         go_wp2
         go_ret
         exact⟨rfl,rfl⟩
        ·rw[if_neg h7];by_cases h8:o=7
         ·rw[if_pos h8];subst h8
          go_enter Tryz.func303,Tryz.ntmps303
          go_wp2
          go_ret
          exact⟨rfl,rfl⟩
         ·rw[if_neg h8]
          go_enter Tryz.func303,Tryz.ntmps303
          go_wp2
          go_ret
          exact⟨rfl,rfl⟩
theorem pq(w:World)(cs:List Value)(e:aI)(h:bV w cs e):Calls Tryz.prog 27 #[.agg cs.toArray] w fun r w'=>r=.returned (.int .i64 (aY 13 e))∧ai3 w.heap.size w w':=by
 have HE:=ai_ h;obtain⟨nv,kv,hcs,-,-⟩:=h.open;rw[hcs] at HE;subst hcs;clear h;show Calls Tryz.prog 27 #[.agg #[.int .i64 e.op,.int .i64 e.a,.int .i64 e.rel,.int .i64 e.b,nv,.int .u64 e.set.a,.int .u64 e.set.b,.int .u64 e.set.c,.int .u64 e.set.d,kv]] w _;obtain⟨wo,j_⟩:∃ wo,wo=(w).alloc (.cells #[.int .i64 e.op,.int .i64 e.a,.int .i64 e.rel,.int .i64 e.b,nv,.int .u64 e.set.a,.int .u64 e.set.b,.int .u64 e.set.c,.int .u64 e.set.d,kv] 84):=⟨_,rfl⟩;have W0:=ai_ (show Whole wo w.heap.size 84 #[.int .i64 e.op,.int .i64 e.a,.int .i64 e.rel,.int .i64 e.b,nv,.int .u64 e.set.a,.int .u64 e.set.b,.int .u64 e.set.c,.int .u64 e.set.d,kv] by rw[j_];exact(Whole.new w 84 _));have vu:=ai_ (show ai3 w.heap.size w wo by rw[j_];exact((Below.refl _ w).alloc (Nat.le_refl _) _))
 go_enter Tryz.func27,Tryz.ntmps27
 go_upto_region 1 with(fail)
 rw[← j_];clear j_
 go_wp2_with (first|(refine wpList_load_row rfl 84 _ rfl (w.heap.size) rfl 84 _ (0,0) _ W0.out Tryz.underlying84 rfl RW ?_)|(go_at_call 72;go_must (refine(Fw 13 wo _ e (by omega) (bV.keep vu.out HE.out)).mono ?_;rintro r w1 ⟨rfl,hb1⟩;have HB1:=ai_ hb1;clear hb1)))
 go_ret
 exact⟨rfl,vu.out.trans (HB1.out.mono vu.out.size)⟩
def kC(e:aI):Bool:=(((((((decide (e.op=8)||decide (e.op=9))||(!decide (dh e.op=(e.kids.length:Int))))||(!decide (e.rel=0)))||(!decide (e.b=0)))||decide (0<(e.names.length:Int)))||(!decide (e.set=aq.zero)))||((!decide (e.op=1))&&(!decide (e.a=0))))
theorem aI.ind{M:aI→Prop}(h:∀ e,(∀ k∈e.kids,M k)→M e):∀ e,M e:=
 fun e=>aI.rec (motive_1:=M) (motive_2:=fun l=>∀ k∈l,M k) (fun _ _ _ _ _ _ _ ih=>h _ ih) (fun _ hk=>by cases hk) (fun _ _ hk hl x hx=>by
  rcases ai1.1 hx with rfl|hx
  ·exact hk
  ·exact hl x hx) e
mutual
def mA(nB:Nat):aI→Int
 | .node op a rel b names set kids=>if kC (.node op a rel b names set kids)=true then 2 else if (decide (op=1)&&!aE a (nB:Int))=true then 3 else mB nB kids
def mB(nB:Nat):List aI→Int
 | []=>0
 | k::l=>if mA nB k=0 then mB nB l else mA nB k
end
theorem tM(nB:Nat)(e:aI):mA nB e=if kC e=true then 2 else if (decide (e.op=1)&&!aE e.a (nB:Int))=true then 3 else mB nB e.kids:=by
 cases e;rw[mA];rfl
theorem oV{nB:Nat}{l:List aI}{k:Nat}{y:aI}(h:l[k]?=some y):mB nB (l.drop k)=if mA nB y=0 then mB nB (l.drop (k+1)) else mA nB y:=by
 obtain⟨hk,rfl⟩:=aiY.1 h;rw[List.drop_eq_getElem_cons hk,mB]
section
variable {nB:Nat} {e:aI}
theorem Am(h:kC e=true):mA nB e=2:=by rw[tM,if_pos h]
theorem Al(h:kC e=false)(h2:(decide (e.op=1)&&!aE e.a (nB:Int))=true):mA nB e=3:=by rw[tM,if_neg (by rw[h];decide),if_pos h2]
theorem oU(h:kC e=false)(h2:(decide (e.op=1)&&!aE e.a (nB:Int))=false):mA nB e=mB nB e.kids:=by rw[tM,if_neg (by rw[h];decide),if_neg (by rw[h2];decide)]
end
theorem zy:∀ e:aI,∀ (w0:World) (cs:List Value) (c0 c1 c2 c3 c4 c5 c6 c7 c8 c9 c10 c11 c12 c13 c14 c15 c16:Value) (p:aA),aD w0 c0 c1 c2 c3 c4 c5 c6 c7 c8 c9 c10 c11 c12 c13 c14 c15 c16 p→bV w0 cs e→Calls Tryz.prog 263 #[.agg #[c0,c1,c2,c3,c4,c5,c6,c7,c8,c9,c10,c11,c12,c13,c14,c15,c16],.agg cs.toArray] w0 (RI w0 (mA p.bools.length e)):=by
 refine aI.ind fun e ih=>?_
 intro w0 cs c0 c1 c2 c3 c4 c5 c6 c7 c8 c9 c10 c11 c12 c13 c14 c15 c16 p hp h;obtain⟨nv,kv,rfl,vh,hk⟩:=h.open;obtain⟨_,_,rfl,-⟩:=aJ.get vh;obtain⟨_,_,rfl,-,KI,-⟩:=au.form hk (by decide);obtain⟨_,_,_,_,_,_,_,_,_,_,_,_,_,_,_,_,_,_,_,_,_,_,_,_,_,_,_,_,_,_,_,_,_,_,rfl,rfl,rfl,rfl,rfl,rfl,rfl,rfl,rfl,rfl,rfl,rfl,rfl,rfl,rfl,rfl,rfl⟩:=hp.open;refine bU [] (fn:=Tryz.f263) Tryz.func263 rfl Tryz.ntmps263 rfl<|fun g1 w1 M1=>fun g2 w2 M2=>dr (by kernel_rfl)<|lb 0<|an rfl<|lb 0<|an (fun _=>rfl)<|lb 0<|an (fun _=>rfl)<|cl<|an (fun _ w' hb M=>(Dq _ _).mono fun _ _ ⟨h1,h2⟩=>⟨h1,h2▸Below.refl _ _⟩)<|lb 0<|an (fun _=>rfl)<|lb 0<|an (fun _=>rfl)<|lb 0<|an (fun _=>rfl)<|lb 0<|an (fun _=>rfl)<|lb 0<|an (fun _=>rfl)<|ei (x:=.agg #[.int .u64 0,.int .u64 0,.int .u64 0,.int .u64 0])<|an (fun _=>bd (by kernel_rfl))<|ei<|an (fun _=>⟨zx,fun w=>g_ e.set w⟩)<|lb 0<|an (fun _=>rfl)<|lb 0<|an (fun _=>rfl)<|fun w3 hb M3=>an (fun h1 M=>⟨ri (Am h1),M.below⟩) fun h1=>lb 0<|an rfl<|lb 0<|an (fun _=>rfl)<|lb 1<|an (fun _=>rfl)<|cl<|an (fun _=>(fZ _ _ _).mono fun _ _ ⟨h1,h2⟩=>⟨h1,h2▸Below.refl _ _⟩) fun w4 M4=>an (fun h2 M=>⟨ri (Al h1 h2),M.below⟩) fun h2=>lr (ι:=Nat) (fun m=>[(5,.int .i64 (m:Int))]) (fun m _=>m≤e.kids.length∧mB p.bools.length e.kids=mB p.bools.length (e.kids.drop m)) (fun m=>e.kids.length-m) 0 (an ⟨⟨rfl,trivial⟩,fun M=>⟨M,aiZ _,rfl⟩⟩ ?_)
 rintro m w M ⟨hm,hinv⟩;refine lb 0<|an rfl<|an (fun h3=>?_) fun h3 M=>⟨ri (by rw[oU h1 h2,hinv,show m=e.kids.length by simp at h3;omega,List.drop_length];rfl),M.below⟩
 have hlt:m<e.kids.length:=by simp at h3;omega
 obtain⟨y,hy⟩:∃ y,e.kids[m]?=some y:=⟨_,ai6 hlt⟩;obtain⟨b,o,_,e1,hE,hc⟩:=au.elt hk (by decide) hy;obtain⟨SA,kv',rfl,hn',hk'⟩:=hE.open;obtain⟨_,_,rfl,-⟩:=aJ.get hn';obtain⟨_,_,rfl,-⟩:=au.form hk' (by decide);exact dr (by kernel_rfl)<|lb 1<|an rfl<|lb 0<|an rfl<|ia<|an ⟨e1,rfl,hlt⟩<|lc<|an (cL M.below hc)<|cl<|an (fun w' hb M'=>ih y (ai9 hy) w' _ _ _ _ _ _ _ _ _ _ _ _ _ _ _ _ _ _ p (hp.keep M'.below) (hE.keep M'.below)) fun w5 ze M5=>an (fun h4 M=>⟨ri (by rw[oU h1 h2,hinv,oV hy,if_neg (by simpa using h4)]),M.below⟩) fun h4=>an (by omega)<|bk (m+1) ⟨rfl,trivial⟩ (fun M=>⟨M,by omega,by rw[hinv,oV hy,if_pos (by simpa using h4)]⟩) (by dsimp only;omega)
def fO(nB:Nat)(e:aI):Int:=if (12:Int)<aY 13 e then 4 else mA nB e
theorem zE(e:aI)(w0:World)(cs:List Value)(c0 c1 c2 c3 c4 c5 c6 c7 c8 c9 c10 c11 c12 c13 c14 c15 c16:Value)(p:aA)(hp:aD w0 c0 c1 c2 c3 c4 c5 c6 c7 c8 c9 c10 c11 c12 c13 c14 c15 c16 p)(h:bV w0 cs e):Calls Tryz.prog 159 #[.agg #[c0,c1,c2,c3,c4,c5,c6,c7,c8,c9,c10,c11,c12,c13,c14,c15,c16],.agg cs.toArray] w0 (RI w0 (fO p.bools.length e)):=by
 obtain⟨nv,kv,rfl,-,-⟩:=h.open;have uM:=hr1 Tryz.prog Tryz.f159 (RI w0 (fO p.bools.length e)) 11 4 rfl;refine en Tryz.func159 rfl Tryz.ntmps159 rfl (vs:=[.agg #[c0,c1,c2,c3,c4,c5,c6,c7,c8,c9,c10,c11,c12,c13,c14,c15,c16],.agg #[.int .i64 e.op,.int .i64 e.a,.int .i64 e.rel,.int .i64 e.b,nv,.int .u64 e.set.a,.int .u64 e.set.b,.int .u64 e.set.c,.int .u64 e.set.d,kv]]) rfl fun _ F=>?_
 have M:=Mm.start w0;refine aja fun K1 Qh=>bS<|X_ (on rfl) rfl (F.u rf) rfl F rfl M fun g1 _ _ F M=>X_ (on rfl) rfl (F.u rf) rfl F rfl M fun g2 _ _ F M=>xA (v:=.int .i64 0) F rf rf rf fun _ F=>ajb<|Qh _ _ ?_
 refine aja fun K2 Qg=>aja fun K3 WT=>bS<|xW F (M.b 0 rfl) rf rf rf VA rf Lm rf fun _ F=>xC F M rf rf q27 (args1 (F.u rf)) (pq _ _ e (bV.keep M.below h)) fun _ _ F M=>kz F rf (Ns rfl (F.u rf) rfl) fun _ F=>ajb<|WT _ _ ?_
 refine wp_cond_split (F.e 7 rfl) (fun hc3=>?_) (fun hc3=>?_)
 ·have WG:=of_decide_eq_true hc3;refine aja fun K4 TJ=>bS<|xA (v:=.int .i64 4) F rf rf rf fun _ F=>ajb<|TJ _ _ ?_
  refine wp_ret<|uM _ _ _ _ F rfl ?_;exact⟨mM (by unfold fO;repeat (first|with_reducible rfl|assumption|(with_reducible refine Eq.trans (if_pos ?_) ?_;focus (first|assumption|(refine ru ?_;assumption)|(refine rm ?_;assumption)|omega|(simp[WG];done)))|(with_reducible refine Eq.trans (if_neg ?_) ?_;focus (first|assumption|(refine ru ?_;assumption)|(refine rm ?_;assumption)|omega|(simp[WG];done)))|omega)),M.below⟩
 ·have Tx:=of_decide_eq_false hc3;refine wp_skip<|Qg _ _ ?_;refine aja fun K5 hK5=>bS<|xW F (M.b 1 rfl) rf rf rf VD rf RR rf fun _ F=>xW F (M.b 0 rfl) rf rf rf VA rf Lm rf fun _ F=>xC F M rf rf Y0 (args2 (F.u rf) (F.u rf)) (zy e _ _ _ _ _ _ _ _ _ _ _ _ _ _ _ _ _ _ _ p (hp.keep M.below) (bV.keep M.below h)) fun _ _ F M=>xA F rf rf rf fun _ F=>ajb<|hK5 _ _ ?_
  refine wp_ret<|uM _ _ _ _ F rfl ?_;exact⟨mM (by unfold fO;repeat (first|with_reducible rfl|assumption|(with_reducible refine Eq.trans (if_pos ?_) ?_;focus (first|assumption|(refine ru ?_;assumption)|(refine rm ?_;assumption)|omega|(simp[Tx];done)))|(with_reducible refine Eq.trans (if_neg ?_) ?_;focus (first|assumption|(refine ru ?_;assumption)|(refine rm ?_;assumption)|omega|(simp[Tx];done)))|omega)),M.below⟩
end Go.Proofs.YtkkmjdceiocnbaaGreatDoor
namespace Go.Proofs.YtkkmjdceiocnbaaGreatDoor
open Go Go.RowKit
def ez(e:aI):Bool:=
 if e.op=2∨e.op=3∨e.op=4 then (((((decide ((e.kids.length:Int)=dh e.op)&&decide (e.a=0))&&decide (e.rel=0))&&decide (e.b=0))&&decide ((e.names.length:Int)=0))&&decide (e.set=aq.zero))
 else if e.op=8 then ((decide ((e.kids.length:Int)=0)&&decide ((e.names.length:Int)=0))&&decide (e.set=aq.zero))
 else if e.op=9 then (((decide ((e.kids.length:Int)=0)&&decide (e.rel=0))&&decide (e.b=0))&&decide ((e.names.length:Int)=0))
 else false
theorem FV(w0:World)(cs:List Value)(e:aI)(h:bV w0 cs e):Calls Tryz.prog 304 #[.agg cs.toArray] w0 (fun(r:Ending) (w':World)=>r=.returned (.bool (ez e))∧ai3 w0.heap.size w0 w'):=by
 obtain⟨nv,kv,rfl,vh,hk⟩:=h.open;obtain⟨_,_,rfl,-⟩:=aJ.get vh;obtain⟨_,_,rfl,-,KI,-⟩:=au.form hk (by decide);refine bU [] (fn:=Tryz.f304) Tryz.func304 rfl Tryz.ntmps304 rfl<|fun g1 w1 M1=>lb 0<|an rfl<|an (fun h=>an (fun _=>?_) fun h'=>by rw[h] at h';cases h') fun h1=>an (fun h=>an (fun _=>?_) fun h'=>by rw[h] at h';cases h') fun h2=>an (fun h=>?_) fun h3=>an (fun h4=>lb 0<|an rfl<|lb 0<|an (fun _=>rfl)<|lb 0<|an (fun _=>rfl)<|ei (x:=.agg #[.int .u64 0,.int .u64 0,.int .u64 0,.int .u64 0])<|an (fun _=>bd (by kernel_rfl))<|ei<|an (fun _=>⟨zx,fun w=>g_ e.set w⟩)<|fun M=>⟨rb ?_,M.below⟩) fun h4=>an (fun h5=>lb 0<|an rfl<|lb 0<|an (fun _=>rfl)<|lb 0<|an (fun _=>rfl)<|lb 0<|an (fun _=>rfl)<|fun M=>⟨rb ?_,M.below⟩) fun h5 M=>⟨rb ?_,M.below⟩
 rotate_left 3
 ·simp only[decide_eq_true_eq,decide_eq_false_iff_not] at h1 h2 h3 h4;unfold ez;rw[if_neg (by omega),if_pos h4]
 ·simp only[decide_eq_true_eq,decide_eq_false_iff_not] at h1 h2 h3 h4 h5;unfold ez;rw[if_neg (by omega),if_neg h4,if_pos h5]
 ·simp only[decide_eq_true_eq,decide_eq_false_iff_not] at h1 h2 h3 h4 h5;unfold ez;rw[if_neg (by omega),if_neg h4,if_neg h5]
 all_goals
  refine dr (by kernel_rfl)<|lb 0<|an rfl<|lb 0<|an rfl<|cl<|an (fun w' hb M=>(Dq _ _).mono fun _ _ ⟨h1,h2⟩=>⟨h1,h2▸Below.refl _ _⟩)<|lb 0<|an (fun _=>rfl)<|lb 0<|an (fun _=>rfl)<|lb 0<|an (fun _=>rfl)<|lb 0<|an (fun _=>rfl)<|lb 0<|an (fun _=>rfl)<|ei (x:=.agg #[.int .u64 0,.int .u64 0,.int .u64 0,.int .u64 0])<|an (fun _=>bd (by kernel_rfl))<|ei<|an (fun _=>⟨zx,fun w=>g_ e.set w⟩)<|fun w2 hb2 M2 M=>⟨rb ?_,M.below⟩
  simp only[decide_eq_true_eq] at h;unfold ez;rw[if_pos (by omega)]
def eU(nU nR nT k:Nat):Int:=if k%5=0 then (nU:Int) else if k%5=1 then (nR:Int) else if k%5=2 then (nT:Int) else -1
theorem Fk(w:World)(c0 c1 c2 c3 c4 c5 c6 c7 c8 c9 c10 c11 c12 c13 c14 c15 c16:Value)(p:aA)(hp:aD w c0 c1 c2 c3 c4 c5 c6 c7 c8 c9 c10 c11 c12 c13 c14 c15 c16 p)(k:Nat)(hk:k<1000):Calls Tryz.prog 306 #[.agg #[c0,c1,c2,c3,c4,c5,c6,c7,c8,c9,c10,c11,c12,c13,c14,c15,c16],.int .i64 (k:Int)] w fun e w'=>e=.returned (.int .i64 (eU p.users.length p.roles.length p.types.length k))∧ai3 w.heap.size w w':=by
 obtain⟨a1,k1,rfl,hk1,hm1⟩:=aD.f1 hp;obtain⟨n1,hn1⟩:∃ n,n=p.types.length:=⟨_,rfl⟩;have N1:=ai_ hn1;rw[← hn1] at hk1 hm1 ⊢;clear hn1;obtain⟨a3,k3,rfl,Yd,hm3⟩:=aD.f3 hp;obtain⟨n3,Wv⟩:∃ n,n=p.roles.length:=⟨_,rfl⟩;have N3:=ai_ Wv;rw[← Wv] at Yd hm3 ⊢;clear Wv;obtain⟨a4,k4,rfl,Q5,hm4⟩:=aD.f4 hp;obtain⟨n4,Z8⟩:∃ n,n=p.users.length:=⟨_,rfl⟩;have N4:=ai_ Z8;rw[← Z8] at Q5 hm4 ⊢;clear Z8;clear hp;unfold eU;obtain⟨wo,j_⟩:∃ wo,wo=(w).alloc (.cells #[c0,.slice a1 n1 k1,c2,.slice a3 n3 k3,.slice a4 n4 k4,c5,c6,c7,c8,c9,c10,c11,c12,c13,c14,c15,c16] 39):=⟨_,rfl⟩;have W0:=ai_ (show Whole wo w.heap.size 39 #[c0,.slice a1 n1 k1,c2,.slice a3 n3 k3,.slice a4 n4 k4,c5,c6,c7,c8,c9,c10,c11,c12,c13,c14,c15,c16] by rw[j_];exact(Whole.new w 39 _));have vu:=ai_ (show ai3 w.heap.size w wo by rw[j_];exact((Below.refl _ w).alloc (Nat.le_refl _) _));have kp1:wo.cell? ⟨w.heap.size,1,none⟩=some (.slice a1 n1 k1):=W0.out.cell 1;have kp3:wo.cell? ⟨w.heap.size,3,none⟩=some (.slice a3 n3 k3):=W0.out.cell 3;have kp4:wo.cell? ⟨w.heap.size,4,none⟩=some (.slice a4 n4 k4):=W0.out.cell 4;by_cases h0:k%5=0
 ·rw[if_pos h0]
  go_enter Tryz.func306,Tryz.ntmps306
  go_upto_region 1 with(fail)
  rw[← j_];clear j_
  go_wp2_with fail
  go_ret
  exact⟨rfl,vu.out⟩
 ·rw[if_neg h0];by_cases h1:k%5=1
  ·rw[if_pos h1]
   go_enter Tryz.func306,Tryz.ntmps306
   go_upto_region 1 with(fail)
   rw[← j_];clear j_
   go_wp2_with fail
   go_ret
   exact⟨rfl,vu.out⟩
  ·rw[if_neg h1];by_cases h2:k%5=2
   ·rw[if_pos h2]
    go_enter Tryz.func306,Tryz.ntmps306
    go_upto_region 1 with(fail)
    rw[← j_];clear j_
    go_wp2_with fail
    go_ret
    exact⟨rfl,vu.out⟩
   ·rw[if_neg h2];have g0:¬ ((k%5:Nat):Int)=0:=by omega
    have g1:¬ ((k%5:Nat):Int)=1:=by omega
    have g2:¬ ((k%5:Nat):Int)=2:=by omega
    go_enter Tryz.func306,Tryz.ntmps306
    go_upto_region 1 with(fail)
    rw[← j_];clear j_
    go_wp2_with fail
    go_ret
    exact⟨rfl,vu.out⟩
def qv(er:Int)(ka kb:Nat):Int:=if 3≤ka%5∧3≤kb%5 then 0 else if ¬ ka%5=kb%5 then 13 else if (1:Int)<er then 13 else 0
def gV(n:Nat)(e:aI):Int:=if aE e.a (n:Int)=false then 3 else if aE e.b (n:Int)=false then 3 else if aE e.rel 5=false then 3 else qv e.rel e.a.toNat e.b.toNat
theorem yQ(w:World)(i n:Int):Calls Tryz.prog 162 #[.int .i64 i,.int .i64 n] w fun e w'=>e=.returned (.bool (aE i n))∧ai3 w.heap.size w w':=(fZ w i n).mono fun _ _ ⟨h1,h2⟩=>⟨h1,h2▸ai3.refl _ _⟩
theorem R8{P:Program}{a:Act}{w:World}{o:Oper}{ty yt:TypeId}{x y:Operand}{m:Int}(hm:0≤m)(ho:o.op=.binOp .rem ty x y yt)(hx:a.eval x=.int .i64 m)(hy:a.eval y=.int .i64 5):(execOp a.eval o).run P w=.ok (.value (.int .i64 ((m.toNat%5:Nat):Int))) w:=by
 unfold execOp;simp[ho,hx,hy,eqGuard,binOp,Op.intDiv];rw[Int.tmod_eq_emod_of_nonneg hm];omega
theorem A_(w:World)(cs:List Value)(e:aI)(h:bV w cs e)(n:Nat):Calls Tryz.prog 305 #[.agg cs.toArray,.int .i64 (n:Int)] w fun r w'=>r=.returned (.int .i64 (gV n e))∧ai3 w.heap.size w w':=by
 obtain⟨nv,kv,rfl,-,-⟩:=h.open;refine bU [] (fn:=Tryz.f305) Tryz.func305 rfl Tryz.ntmps305 rfl<|fun g1 w1 M1=>lb 0<|an rfl<|cl<|an (yQ _ e.a n) fun w2 M2=>lb 0<|an (fun _=>rfl)<|cl<|an (fun _=>yQ _ e.b n) fun w3 M3=>lb 0<|an (fun _=>rfl)<|cl<|an (fun _=>yQ _ e.rel 5) fun w4 M4=>an (fun h M=>⟨ri ?_,M.below⟩) fun h=>?_
 ·unfold gV;cases h1:aE e.a (n:Int)<;>cases h2:aE e.b (n:Int)<;>cases h3:aE e.rel 5<;>simp_all
 simp only[Bool.or_eq_false_iff,Bool.not_eq_false'] at h;obtain⟨⟨h1,h2⟩,h3⟩:=h;have hc:gV n e=qv e.rel e.a.toNat e.b.toNat:=by unfold gV;rw[h1,h2,h3];rfl
 rw[hc];have a0:0≤e.a:=by unfold aE at h1;rw[ajc,decide_eq_true_eq] at h1;exact h1.1
 have b0:0≤e.b:=by unfold aE at h2;rw[ajc,decide_eq_true_eq] at h2;exact h2.1
 unfold qv;refine dr (by kernel_rfl)<|lb 0<|an rfl<|ei<|an (fun a w o ho hv=>R8 a0 ho (aQ hv) (cO hv))<|lb 0<|an rfl<|ei<|an (fun a w o ho hv=>R8 b0 ho (aQ hv) (cO hv))<|fun w5 ze M5=>an (fun h4 M=>⟨ri (if_pos ?_),M.below⟩) fun h4=>?_
 ·rw[ajc,decide_eq_true_eq,decide_eq_true_eq] at h4;omega
 rw[if_neg (by rw[Bool.and_eq_false_iff,decide_eq_false_iff_not,decide_eq_false_iff_not] at h4;omega)];refine lb 0<|an (fun _=>rfl)<|an (fun h5 M=>⟨ri ?_,M.below⟩) fun h5 M=>⟨ri ?_,M.below⟩
 ·by_cases e1:e.a.toNat%5=e.b.toNat%5
  ·rw[if_neg (by omega),if_pos];simp[e1] at h5;omega
  ·rw[if_pos e1]
 ·simp at h5;rw[if_neg (by omega),if_neg (by omega)]
theorem aI.Ok.set'{e:aI}(h:e.Ok):e.set.Ok:=by cases h;assumption
theorem aI.Ok.Hv{e:aI}(h:e.Ok):∀ k∈e.kids,k.Ok:=by cases h;assumption
def eD(nU nR nT N:Nat)(e:aI):Option Int:=
 if ez e=false then some 2
 else if e.op=8 then some (gV N e)
 else if e.op=9 then
  (if aE e.a (N:Int)=false then some 3
   else if eU nU nR nT e.a.toNat<0 then some 13
   else if e.set.within (aq.all (eU nU nR nT e.a.toNat).toNat)=false then some 3
   else if bD e.set=false then some 2 else none)
 else none
mutual
def iU(nU nR nT N:Nat):aI→Int
 | .node op a rel b names set kids=>match eD nU nR nT N (.node op a rel b names set kids) with
  | some r=>r
  | none=>mT nU nR nT N kids
def mT(nU nR nT N:Nat):List aI→Int
 | []=>0
 | k::l=>if iU nU nR nT N k=0 then mT nU nR nT N l else iU nU nR nT N k
end
theorem mw{nU nR nT N:Nat}{e:aI}{r:Int}(h:eD nU nR nT N e=some r):iU nU nR nT N e=r:=by
 cases e;rw[iU,h]
theorem oP{nU nR nT N:Nat}{e:aI}(h:eD nU nR nT N e=none):iU nU nR nT N e=mT nU nR nT N e.kids:=by
 cases e;rw[iU,h];rfl
theorem rW{nU nR nT N:Nat}{l:List aI}{k:Nat}{y:aI}(h:l[k]?=some y):mT nU nR nT N (l.drop k)=if iU nU nR nT N y=0 then mT nU nR nT N (l.drop (k+1)) else iU nU nR nT N y:=by
 obtain⟨hk,rfl⟩:=aiY.1 h;rw[List.drop_eq_getElem_cons hk,mT]
theorem Jo{nU nR nT:Nat}(k:Nat){B:Nat}(h1:nU≤B)(h2:nR≤B)(h3:nT≤B):eU nU nR nT k≤(B:Int):=by
 unfold eU;split
 ·omega
 ·split
  ·omega
  ·split<;>omega
theorem qp(N:Nat)(hN:N≤100):∀ e:aI,e.Ok→∀ (w0:World) (cs:List Value) (c0 c1 c2 c3 c4 c5 c6 c7 c8 c9 c10 c11 c12 c13 c14 c15 c16:Value) (p:aA),aD w0 c0 c1 c2 c3 c4 c5 c6 c7 c8 c9 c10 c11 c12 c13 c14 c15 c16 p→p.Ok→bV w0 cs e→Calls Tryz.prog 264 #[.agg #[c0,c1,c2,c3,c4,c5,c6,c7,c8,c9,c10,c11,c12,c13,c14,c15,c16],.agg cs.toArray,.int .i64 (N:Int)] w0 (RI w0 (iU p.users.length p.roles.length p.types.length N e)):=by
 refine aI.ind fun e ih=>?_
 intro he w0 cs c0 c1 c2 c3 c4 c5 c6 c7 c8 c9 c10 c11 c12 c13 c14 c15 c16 p hp hok h;have hU:=hok.Le;have hR:=hok.Ew;have hT:=hok.oy;obtain⟨_,_,_,_,_,_,_,_,_,_,_,_,_,_,_,_,_,_,_,_,_,_,_,_,_,_,_,_,_,_,_,_,_,_,rfl,rfl,rfl,rfl,rfl,rfl,rfl,rfl,rfl,rfl,rfl,rfl,rfl,rfl,rfl,rfl,rfl⟩:=hp.open;obtain⟨nv,kv,rfl,vh,hk⟩:=h.open;obtain⟨_,_,rfl,-⟩:=aJ.get vh;obtain⟨_,_,rfl,-,KI,-⟩:=au.form hk (by decide);have out:∀ r:Int,eD p.users.length p.roles.length p.types.length N e=some r→iU p.users.length p.roles.length p.types.length N e=r:=fun r h=>mw h
 have hs:eD p.users.length p.roles.length p.types.length N e=none→iU p.users.length p.roles.length p.types.length N e=mT p.users.length p.roles.length p.types.length N e.kids:=oP;unfold eD at out hs;refine bU [] (fn:=Tryz.f264) Tryz.func264 rfl Tryz.ntmps264 rfl<|fun g1 w1 M1=>fun g2 w2 M2=>lb 0<|an rfl<|cl<|an (FV _ _ e (h.keep M2.below)) fun w3 M3=>an (fun h1 M=>⟨ri (out _ (if_pos (by simpa using h1))),M.below⟩) fun h1=>?_
 rw[if_neg (by simpa using h1)] at out hs;refine lb 0<|an rfl<|an (fun h2=>lb 0<|an rfl<|cl<|an (A_ _ _ e (h.keep M3.below) N) fun w4 M4 M=>⟨ri (out _ (if_pos (by simpa using h2))),M.below⟩) fun h2=>?_
 rw[if_neg (by simpa using h2)] at out hs;refine lb 0<|an rfl<|an (fun h3=>?_) fun h3=>?_
 focus
  rw[if_pos (by simpa using h3)] at out hs;refine lb 0<|an rfl<|cl<|an ((fZ _ _ _).mono fun _ _ ⟨h1,h2⟩=>⟨h1,h2▸Below.refl _ _⟩) fun w5 M5=>an (fun h4 M=>⟨ri (out _ (if_pos (by simpa using h4))),M.below⟩) fun h4=>?_
  rw[if_neg (by simpa using h4)] at out hs;have hb:0≤e.a∧e.a<(N:Int):=by simpa[aE] using h4
  have hea:((e.a.toNat:Nat):Int)=e.a:=by omega
  have hle:=Jo (nU:=p.users.length) (nR:=p.roles.length) (nT:=p.types.length) e.a.toNat (B:=140737488355328) hU hR hT;refine lb 1<|an rfl<|lb 0<|an rfl<|cl<|an (hea▸Fk _ _ _ _ _ _ _ _ _ _ _ _ _ _ _ _ _ _ p (hp.keep M5.below) e.a.toNat (by omega) :) fun w6 M6=>an (fun h5 M=>⟨ri (out _ (if_pos (by simpa using h5))),M.below⟩) fun h5=>?_
  rw[if_neg (by simpa using h5)] at out hs;have hnn:((eU p.users.length p.roles.length p.types.length e.a.toNat).toNat:Int)=eU p.users.length p.roles.length p.types.length e.a.toNat:=by simp at h5;omega
  refine lb 0<|an rfl<|cl<|an (hnn▸gG _ e.set he.set' (eU p.users.length p.roles.length p.types.length e.a.toNat).toNat (by omega) :) fun w7 M7=>an (fun h6 M=>⟨ri (out _ (if_pos (by simpa using h6))),M.below⟩) fun h6=>?_
  rw[if_neg (by simpa using h6)] at out hs;refine an (fun h7 M=>⟨ri (out _ (if_pos (by simpa using h7))),M.below⟩) fun h7=>?_
  rw[if_neg (by simpa using h7)] at out hs;replace hs:=hs rfl
 rotate_left 1
 focus
  replace hs:=hs (if_neg (by simpa using h3))
 all_goals
  refine lr (ι:=Nat) (fun m=>[(10,.int .i64 (m:Int))]) (fun m _=>m≤e.kids.length∧mT p.users.length p.roles.length p.types.length N e.kids=mT p.users.length p.roles.length p.types.length N (e.kids.drop m)) (fun m=>e.kids.length-m) 0 (an ⟨⟨rfl,trivial⟩,fun M=>⟨M,aiZ _,rfl⟩⟩ ?_);rintro m w M ⟨hm,hinv⟩;refine lb 0<|an rfl<|an (fun h9=>?_) fun h9 M=>⟨ri (by rw[hs,hinv,show m=e.kids.length by simp at h9;omega,List.drop_length];rfl),M.below⟩
  have hlt:m<e.kids.length:=by simp at h9;omega
  obtain⟨y,hy⟩:∃ y,e.kids[m]?=some y:=⟨_,ai6 hlt⟩;obtain⟨b,o,_,e1,hE,hc⟩:=au.elt hk (by decide) hy;obtain⟨SA,kv',rfl,hn',hk'⟩:=hE.open;obtain⟨_,_,rfl,-⟩:=aJ.get hn';obtain⟨_,_,rfl,-⟩:=au.form hk' (by decide);exact dr (by kernel_rfl)<|lb 1<|an rfl<|lb 0<|an rfl<|ia<|an ⟨e1,rfl,hlt⟩<|lc<|an (cL M.below hc)<|cl<|an (fun w' hb M'=>ih y (ai9 hy) (he.Hv y (ai9 hy)) w' _ _ _ _ _ _ _ _ _ _ _ _ _ _ _ _ _ _ p (hp.keep M'.below) hok (hE.keep M'.below)) fun w5 ze M5=>an (fun h4 M=>⟨ri (by rw[hs,hinv,rW hy,if_neg (by simpa using h4)]),M.below⟩) fun h4=>an (by omega)<|bk (m+1) ⟨rfl,trivial⟩ (fun M=>⟨M,by omega,by rw[hinv,rW hy,if_pos (by simpa using h4)]⟩) (by dsimp only;omega)
def eA(nU nR nT:Nat)(v:Bool)(e:aI):Int:=if (12:Int)<aY 13 e then 4 else if v=true then iU nU nR nT 15 e else iU nU nR nT 10 e
theorem yX(e:aI)(he:e.Ok)(w0:World)(cs:List Value)(c0 c1 c2 c3 c4 c5 c6 c7 c8 c9 c10 c11 c12 c13 c14 c15 c16:Value)(p:aA)(hp:aD w0 c0 c1 c2 c3 c4 c5 c6 c7 c8 c9 c10 c11 c12 c13 c14 c15 c16 p)(hok:p.Ok)(h:bV w0 cs e)(v:Bool):Calls Tryz.prog 164 #[.agg #[c0,c1,c2,c3,c4,c5,c6,c7,c8,c9,c10,c11,c12,c13,c14,c15,c16],.agg cs.toArray,.bool v] w0 (RI w0 (eA p.users.length p.roles.length p.types.length v e)):=by
 obtain⟨nv,kv,rfl,-,-⟩:=h.open;have uM:=hr1 Tryz.prog Tryz.f164 (RI w0 (eA p.users.length p.roles.length p.types.length v e)) 17 6 rfl;refine en Tryz.func164 rfl Tryz.ntmps164 rfl (vs:=[.agg #[c0,c1,c2,c3,c4,c5,c6,c7,c8,c9,c10,c11,c12,c13,c14,c15,c16],.agg #[.int .i64 e.op,.int .i64 e.a,.int .i64 e.rel,.int .i64 e.b,nv,.int .u64 e.set.a,.int .u64 e.set.b,.int .u64 e.set.c,.int .u64 e.set.d,kv],.bool v]) rfl fun _ F=>?_
 have M:=Mm.start w0;refine aja fun K1 Qh=>bS<|X_ (on rfl) rfl (F.u rf) rfl F rfl M fun g1 _ _ F M=>X_ (on rfl) rfl (F.u rf) rfl F rfl M fun g2 _ _ F M=>xA (v:=.int .i64 0) F rf rf rf fun _ F=>ajb<|Qh _ _ ?_
 refine aja fun K2 Qg=>aja fun K3 WT=>bS<|xW F (M.b 0 rfl) rf rf rf VA rf Lm rf fun _ F=>xC F M rf rf q27 (args1 (F.u rf)) (pq _ _ e (bV.keep M.below h)) fun _ _ F M=>kz F rf (Ns rfl (F.u rf) rfl) fun _ F=>ajb<|WT _ _ ?_
 refine wp_cond_split (F.e 9 rfl) (fun hc3=>?_) (fun hc3=>?_)
 ·have WG:=of_decide_eq_true hc3;refine aja fun K4 TJ=>bS<|xA (v:=.int .i64 4) F rf rf rf fun _ F=>ajb<|TJ _ _ ?_
  refine wp_ret<|uM _ _ _ _ F rfl ?_;exact⟨mM (by unfold eA;refine Eq.symm ?_;repeat (first|with_reducible rfl|assumption|(with_reducible refine Eq.trans (if_pos ?_) ?_;focus (first|assumption|(refine ru ?_;assumption)|(refine rm ?_;assumption)|omega|(simp[WG];done)))|(with_reducible refine Eq.trans (if_neg ?_) ?_;focus (first|assumption|(refine ru ?_;assumption)|(refine rm ?_;assumption)|omega|(simp[WG];done)))|omega)),M.below⟩
 ·have Tx:=of_decide_eq_false hc3;refine wp_skip<|Qg _ _ ?_;refine aja fun K5 hK5=>aja fun K6 hK6=>bS<|xM F rf rf rf fun _ F=>ajb<|hK6 _ _ ?_
  refine wp_cond_split (F.e 10 rfl) (fun WH=>?_) (fun WH=>?_)
  ·refine aja fun K7 hK7=>bS<|xW F (M.b 1 rfl) rf rf rf VD rf RR rf fun _ F=>xW F (M.b 0 rfl) rf rf rf VA rf Lm rf fun _ F=>
    xC F M rf rf VT (Ry (F.u rf) (F.u rf) rfl) (qp 15 (by decide) e he _ _ _ _ _ _ _ _ _ _ _ _ _ _ _ _ _ _ _ p (hp.keep M.below) hok (bV.keep M.below h)) fun _ _ F M=>
    xA F rf rf rf fun _ F=>
    ajb<|
    hK7 _ _ ?_
   refine wp_ret<|uM _ _ _ _ F rfl ?_;exact⟨mM (by unfold eA;refine Eq.symm ?_;repeat (first|with_reducible rfl|assumption|(with_reducible refine Eq.trans (if_pos ?_) ?_;focus (first|assumption|(refine ru ?_;assumption)|(refine rm ?_;assumption)|omega|(simp[Tx,WH];done)))|(with_reducible refine Eq.trans (if_neg ?_) ?_;focus (first|assumption|(refine ru ?_;assumption)|(refine rm ?_;assumption)|omega|(simp[Tx,WH];done)))|omega)),M.below⟩
  ·refine wp_skip<|hK5 _ _ ?_
   refine aja fun K8 hK8=>bS<|xW F (M.b 1 rfl) rf rf rf VD rf RR rf fun _ F=>xW F (M.b 0 rfl) rf rf rf VA rf Lm rf fun _ F=>
    xC F M rf rf VT (Ry (F.u rf) (F.u rf) rfl) (qp 10 (by decide) e he _ _ _ _ _ _ _ _ _ _ _ _ _ _ _ _ _ _ _ p (hp.keep M.below) hok (bV.keep M.below h)) fun _ _ F M=>
    xA F rf rf rf fun _ F=>
    ajb<|
    hK8 _ _ ?_
   refine wp_ret<|uM _ _ _ _ F rfl ?_;exact⟨mM (by unfold eA;refine Eq.symm ?_;repeat (first|with_reducible rfl|assumption|(with_reducible refine Eq.trans (if_pos ?_) ?_;focus (first|assumption|(refine ru ?_;assumption)|(refine rm ?_;assumption)|omega|(simp[Tx,WH];done)))|(with_reducible refine Eq.trans (if_neg ?_) ?_;focus (first|assumption|(refine ru ?_;assumption)|(refine rm ?_;assumption)|omega|(simp[Tx,WH];done)))|omega)),M.below⟩
end Go.Proofs.YtkkmjdceiocnbaaGreatDoor

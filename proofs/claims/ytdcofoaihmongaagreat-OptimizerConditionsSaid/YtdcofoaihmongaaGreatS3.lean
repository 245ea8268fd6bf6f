import Derived.Laws.Bits64b
import Derived.Shelf.SlicesE.Clone
import Derived.Test.YtdcofoaihmongaaGreatProg
import Derived.Test.YtdcofoaihmongaaGreatS2
open Bool renaming eq_iff_iff→aup
open Go renaming wp_seq_k→aus,wpList_nil→aut,wp_cond_split→auu,wp_block→auw,cell_later→auy
open Go.RowKit renaming Below→aui
open List renaming getElem?_eq_getElem→auk,mem_of_getElem?→aul,getElem?_eq_some_iff→aum,mem_singleton→aun,all_eq_true→auo,take_length→aur,mem_append→auA,mem_cons→auB,length_map→auC,map_append→auD,length_append→auE,flatMap_append→auF,filterMap_append→auG
open Nat renaming zero_le→auj,le_trans→auv,mul_le_mul_right→auz
open Option.some renaming inj→auq
set_option maxRecDepth 100000
set_option maxHeartbeats 8000000
namespace Go.Proofs.YtdcofoaihmongaaGreat
open Go Go.RowKit
def zF(ok ig vc cd:Bool):Bool:=!ok||!ig||!vc||!cd
def E1(sa sb:Bool)(r:aj):Bool:=!sa||(!sb&&!r.self)||decide (r.perms=0)||(decide (r.kind=4)&&!(decide (r.cond=0)))
def DL(nT nC:Nat)(cl:List mD)(r:aj):Int:=
 if r.kind<1 then 13 else if 4<r.kind then 13
 else if zF (r.src.within (ay.all nT)) (r.tgt.within (ay.all nT)) (kJ cl r.cls r.perms) (uW nC r.cond)=true then 3
 else if E1 (eT r.src) (eT r.tgt) r=true then 2 else 0
def lW(p:aC)(i:Nat):Int:=match p.conds[i]? with
 | some e=>dB p.bools.length e
 | none=>0
def yp(p:aC)(i:Nat):Int:=match p.rules[i]? with
 | some r=>DL p.types.length p.conds.length p.classes r
 | none=>0
def iu(p:aC):Int:=if 64<p.conds.length then 4 else if aJ (lW p) p.conds.length 0=0 then (if 4096<p.rules.length then 4 else aJ (yp p) p.rules.length 0) else aJ (lW p) p.conds.length 0
theorem II{p:aC}(h1:¬ 64<p.conds.length)(h2:¬ aJ (lW p) p.conds.length 0=0):iu p=aJ (lW p) p.conds.length 0:=by
 unfold iu;rw[if_neg h1,if_neg h2]
theorem IG{p:aC}(h1:¬ 64<p.conds.length)(h2:aJ (lW p) p.conds.length 0=0)(h3:4096<p.rules.length):iu p=4:=by
 unfold iu;rw[if_neg h1,if_pos h2,if_pos h3]
theorem IE{p:aC}(h1:¬ 64<p.conds.length)(h2:aJ (lW p) p.conds.length 0=0)(h3:¬ 4096<p.rules.length):iu p=aJ (yp p) p.rules.length 0:=by
 unfold iu;rw[if_neg h1,if_pos h2,if_neg h3]
theorem Qm(w:World)(c0 c1 c2 c3 c4 c5 c6 c7 c8 c9 aV aP aO aU aT aS aR:Value)(p:aC)(hp:aM w c0 c1 c2 c3 c4 c5 c6 c7 c8 c9 aV aP aO aU aT aS aR p)(hok:p.Ok):Calls Tryz.prog 46 #[.agg #[c0,c1,c2,c3,c4,c5,c6,c7,c8,c9,aV,aP,aO,aU,aT,aS,aR]] w fun e w'=>e=.returned (.int .i64 (iu p))∧aui w.heap.size w w':=by
 obtain⟨_,_,_,_,_,_,_,_,_,_,_,_,_,_,_,_,_,_,_,_,_,_,_,_,_,_,_,_,_,_,_,_,_,_,rfl,rfl,rfl,rfl,rfl,rfl,rfl,rfl,rfl,rfl,rfl,rfl,rfl,rfl,rfl,rfl,rfl⟩:=hp.open;have CS:=hok.vW;refine cL [] (fn:=Tryz.f46) Tryz.func46 rfl Tryz.ntmps46 rfl<|fun g1 w1 M1=>lb 0<|an rfl<|an (fun h M=>⟨ri (if_pos (by simp at h;omega)),M.below⟩) fun h=>?_
 have h1:¬ 64<p.conds.length:=by simp at h;omega
 refine lr (ι:=Nat) (fun m=>[(3,.int .i64 (m:Int))]) (fun m _=>m≤p.conds.length∧aJ (lW p) p.conds.length 0=aJ (lW p) (p.conds.length-m) m) (fun m=>p.conds.length-m) 0 (an ⟨⟨rfl,trivial⟩,fun M=>⟨M,auj _,by rw[Nat.sub_zero]⟩⟩ ?_);rintro m w2 M ⟨hm,hinv⟩;refine lb 0<|an rfl<|an (fun h2=>?_) fun h2=>?_
 ·have hlt:m<p.conds.length:=by simp at h2;omega
  obtain⟨y,hy⟩:∃ y,p.conds[m]?=some y:=⟨_,auk hlt⟩;obtain⟨b,o,_,e,hE,hc⟩:=au.elt hp.conds (by decide) hy;obtain⟨nv,kv,rfl,hn,hk⟩:=hE.open;obtain⟨_,_,rfl,-⟩:=aF.get hn;obtain⟨_,_,rfl,-⟩:=au.form hk (by decide);have hcf:lW p m=dB p.bools.length y:=by unfold lW;rw[hy]
  exact dr (by kernel_rfl)<|lb 0<|an rfl<|lb 0<|an rfl<|ia<|an ⟨e,rfl,hlt⟩<|lc<|an (cF M.below hc)<|cl<|an (fun w' hb' M'=>sH y _ _ _ _ _ _ _ _ _ _ _ _ _ _ _ _ _ _ _ p (hp.keep M'.below) (hE.keep M'.below)) fun w2 hb2 M2=>an (fun h3 M=>⟨ri (by
   have h3:lW p m≠0:=by rw[hcf];simpa using h3
   rw[II h1 (by rw[hinv,cN hlt h3];exact h3),hinv,cN hlt h3,hcf]),M.below⟩) fun h3=>an (by omega)<|bk (m+1) ⟨rfl,trivial⟩ (fun M=>⟨M,by omega,hinv.trans (bR hlt (by rw[hcf];simpa using h3))⟩) (by dsimp only;omega)
 have hz:aJ (lW p) p.conds.length 0=0:=by rw[hinv,show m=p.conds.length by simp at h2;omega,cM]
 clear hinv h2 hm h;refine lb 0<|an rfl<|an (fun h M=>⟨ri (IG h1 hz (by simp at h;omega)),M.below⟩) fun h=>?_
 rw[IE h1 hz (by simp at h;omega)];have hr:¬ 4096<p.rules.length:=by simp at h;omega
 clear h M;refine lr (ι:=Nat) (fun m=>[(5,.int .i64 (m:Int))]) (fun i _=>i≤p.rules.length∧aJ (yp p) p.rules.length 0=aJ (yp p) (p.rules.length-i) i) (fun i=>p.rules.length-i) 0 (an ⟨⟨rfl,trivial⟩,fun M=>⟨M,auj _,by rw[Nat.sub_zero]⟩⟩ ?_);rintro i w M ⟨hi,hinv⟩;refine lb 0<|an rfl<|an (fun h2=>?_) fun h2 M=>⟨ri (by rw[hinv,show i=p.rules.length by simp at h2;omega,cM]),M.below⟩
 have hlt:i<p.rules.length:=by simp at h2;omega
 obtain⟨r,hy⟩:∃ y,p.rules[i]?=some y:=⟨_,auk hlt⟩;have okr:=hok.rules r (aul hy);obtain⟨b,o,e,hc⟩:=SliceAt.elt hp.rules (fun _=>rfl) (by decide) hy hlt;have hcf:yp p i=DL p.types.length p.conds.length p.classes r:=by unfold yp;rw[hy]
 have out:∀ v:Int,DL p.types.length p.conds.length p.classes r=v→v≠0→aJ (yp p) p.rules.length 0=v:=fun v h1 h2=>by rw[hinv,cN hlt (by rw[hcf,h1];exact h2),hcf,h1]
 unfold DL at hcf out;refine lb 0<|an rfl<|ia<|an ⟨e,rfl,hlt⟩<|lc<|an (cF M.below hc)<|ei<|an oy fun g2 w3 M3=>lb 0<|an ⟨rfl,rfl⟩ fun w4 M4=>lb 0<|an rfl<|lb 0<|an (fun _=>rfl)<|an (fun h M=>⟨ri (out 13 ?_ (by decide)),M.below⟩) fun h=>?_
 ·by_cases h5:r.kind<1
  ·rw[if_pos h5]
  ·rw[if_neg h5,if_pos (by simp at h;omega)]
 rw[if_neg (by simp at h;omega),if_neg (by simp at h;omega)] at hcf out;refine lb 0<|an rfl<|lb 1<|an rfl<|cl<|an (gD _ r.src okr.src _ CS) fun w5 M5=>lb 0<|an rfl<|lb 1<|an rfl<|cl<|an (gD _ r.tgt okr.tgt _ CS) fun w6 M6=>lb 1<|an (fun _=>rfl)<|lb 0<|an (fun _=>rfl)<|lb 0<|an (fun _=>rfl)<|cl<|an (fun _=>Aj _ _ _ _ _ _ _ _ _ _ _ _ _ _ _ _ _ _ p (hp.keep M6.below) r.cls r.perms okr.perms) fun w7 M7=>lb 1<|an (fun _=>rfl)<|lb 0<|an (fun _=>rfl)<|cl<|an (fun _=>J8 _ _ _ _ _ _ _ _ _ _ _ _ _ _ _ _ _ _ p (hp.keep M7.below) _) fun w8 M8=>an (fun h3 M=>⟨ri (out 3 ?_ (by decide)),M.below⟩) fun h3=>?_
 ·clear out hcf;cases h6:r.src.within (ay.all p.types.length)<;>cases h7:r.tgt.within (ay.all p.types.length)<;>cases h8:kJ p.classes r.cls r.perms<;>cases h9:uW p.conds.length r.cond<;>simp_all [zF]
 rw[if_neg (by clear out hcf;cases h6:r.src.within (ay.all p.types.length)<;>cases h7:r.tgt.within (ay.all p.types.length)<;>cases h8:kJ p.classes r.cls r.perms<;>cases h9:uW p.conds.length r.cond<;>simp_all [zF])] at hcf out;exact lb 0<|an (fun _=>rfl)<|lb 0<|an (fun _=>rfl)<|lb 0<|an (fun _=>rfl)<|lb 0<|an (fun _=>rfl)<|an (fun h4 M=>⟨ri (out 2 (if_pos h4) (by decide)),M.below⟩) fun h4=>an (by omega)<|bk (i+1) ⟨rfl,trivial⟩ (fun M=>⟨M.only (.cons _ (.refl _)) (.refl _),by omega,hinv.trans (bR hlt (by rw[hcf,if_neg (fun e=>by rw[show E1 (eT r.src) (eT r.tgt) r=false from h4] at e;cases e)]))⟩) (by dsimp only;omega)
def atI(l:List Int)(i:Nat):Int:=match l[i]? with
 | some x=>x
 | none=>0
def oO(l:List Int):Int:=aJ (atI l) l.length 0
theorem j4{l:List Int}:oO l=0↔∀ x∈l,x=0:=by
 unfold oO;rw[fJ];constructor
 ·intro h x hx;obtain⟨i,hi⟩:=List.getElem?_of_mem hx;have:=h i (auj _) (by have:=(aum.1 hi).1;omega);unfold atI at this;rw[hi] at this;exact this
 ·intro h i _ hi;unfold atI;rw[auk (by omega:i<l.length)];exact h _ (List.getElem_mem _)
theorem Rl(w:World)(v:Value)(l:List Int)(h:SliceAt w v 1 l.length (l.map j7)):Calls Tryz.prog 40 #[v] w fun e w'=>e=.returned (.int .i64 (oO l))∧w=w':=by
 obtain⟨a,c,rfl,hac,CP,HA⟩:=h.form (by decide);have H1:=Lib.hid HA;clear HA h;unfold oO;obtain⟨n,hn⟩:∃ n,n=l.length:=⟨_,rfl⟩;have HN:=Lib.hid hn;rw[← hn] at H1 hac CP ⊢;clear hn
 go_enter Tryz.func40,Tryz.ntmps40
 go_wp2_with fail
 go_loopw [3] (fun i wr=>wr=w∧∃ k:Nat,k≤n∧i=.int .i64 k∧Hid (aJ (atI l) n 0=aJ (atI l) (n-k) k)) (fun i _=>n-(intOf i).toNat)
 case atStart=>exact⟨rfl,0,auj _,rfl,Lib.hid (by rw[Nat.sub_zero])⟩
 case round=>
  obtain⟨rfl,k,hk,rfl,hinv⟩:=hrel;by_cases hlt:k<n
  ·obtain⟨x,hx⟩:∃ x,l[k]?=some x:=⟨_,auk (by rw[← HN.out];exact hlt)⟩;obtain⟨b,off,rfl,hc⟩:=H1.out k hlt
   have k0:wr.cell? ⟨b,off+k,none⟩=some (.int .i64 x):=by
    have h:=hc 0 (.int .i64 x) (by simp[hx,j7])
    rwa [Nat.mul_one] at h
   have HF:=Lib.hid (show atI l k=x by unfold atI;rw[hx]);clear hx hc;by_cases hx0:x=0
   ·subst hx0
    go_wp2_with fail
    go_roundw
    case rel=>exact⟨by first|trivial|rfl,k+1,by omega,by go_num,Lib.hid (hinv.out.trans (bR hlt HF.out))⟩
    case measure=>simp[intOf];omega
   ·have d0:(x != 0)=true:=by simp[hx0]
    have HX0:=Lib.hid hx0;clear hx0
    go_wp2_with fail
    go_ret
    exact⟨dQ (by rw[hinv.out,cN hlt (by rw[HF.out];exact HX0.out),HF.out]),rfl⟩
  ·obtain rfl:n=k:=by omega
   go_wp2_with fail
   go_ret
   exact⟨dQ (by rw[hinv.out,cM]),rfl⟩
def aja(w:World)(base:Nat)(v:Value)(l:List ByteArray):Prop:=w.ownsRow base 9 1 v l.length (l.flatMap aW)
theorem Iq(l:List ByteArray):∀ u∈l.flatMap aW,u.oneCell'=true:=by
 intro u hu;obtain⟨s,-,hs⟩:=List.mem_flatMap.1 hu;rw[aun.1 hs];rfl
theorem SliceAt.A8{w:World}{g:Nat}{t:TypeId}{cs:Array Value}{k n:Nat}(h:Whole w g t cs)(hl:cs.toList.length=n*k)(h1:cs.toList.all (·.oneCell')=true)(hn:n≤maxLen):
 SliceAt w (.slice (some ⟨g,0,none⟩) n n) k n cs.toList:=
 ⟨hl,hn,fun u hu=>auo.1 h1 u hu,.inr ⟨_,n,rfl,Nat.le_refl _,fun j u hu=>by rw[Addr.add_lit,Nat.zero_add,h.cell];simpa using hu⟩⟩
def zZ(nT:Nat)(before:List ByteArray)(y:kW):Int:=
 if bP [y.name] before=0 then
  (if y.kind<1 then 13 else if 3<y.kind then 13
   else if (!(y.src.within (ay.all nT))||!(y.tgt.within (ay.all nT)))=true then 3
   else if (!(eT y.src)||!(eT y.tgt))=true then 2 else 0)
 else bP [y.name] before
def oR(p:aC)(i:Nat):Int:=match p.asserts[i]? with
 | some y=>zZ p.types.length ((p.asserts.take i).map (·.name)) y
 | none=>0
def qR(p:aC):Int:=if 64<p.asserts.length then 4 else aJ (oR p) p.asserts.length 0
theorem Kq(w:World)(c0 c1 c2 c3 c4 c5 c6 c7 c8 c9 aV aP aO aU aT aS aR:Value)(p:aC)(hp:aM w c0 c1 c2 c3 c4 c5 c6 c7 c8 c9 aV aP aO aU aT aS aR p)(hok:p.Ok):Calls Tryz.prog 51 #[.agg #[c0,c1,c2,c3,c4,c5,c6,c7,c8,c9,aV,aP,aO,aU,aT,aS,aR]] w fun e w'=>e=.returned (.int .i64 (qR p))∧aui w.heap.size w w':=by
 obtain⟨_,_,_,_,_,_,_,_,_,_,_,_,_,_,_,_,_,_,_,_,_,_,_,_,_,_,_,_,_,_,_,_,_,_,rfl,rfl,rfl,rfl,rfl,rfl,rfl,rfl,rfl,rfl,rfl,rfl,rfl,rfl,rfl,rfl,rfl⟩:=hp.open;have CS:=hok.vW;refine cL [] (fn:=Tryz.f51) Tryz.func51 rfl Tryz.ntmps51 rfl<|fun g1 w1 M1=>lb 0<|an rfl<|an (fun h M=>⟨ri (if_pos (by simp at h;omega)),M.below⟩) fun h=>?_
 have hr:¬ 64<p.asserts.length:=by simp at h;omega
 rw[show qR p=aJ (oR p) p.asserts.length 0 from if_neg hr];refine lq (ι:=Nat×Value) (fun(m,u)=>[(3,u),(4,.int .i64 (m:Int))]) (fun(m,u)=>[⟨u,9,1,m,((p.asserts.take m).map (·.name)).flatMap aW⟩]) (fun(m,u) _=>m≤p.asserts.length∧aJ (oR p) p.asserts.length 0=aJ (oR p) (p.asserts.length-m) m) (fun(m,u)=>p.asserts.length-m) (0,.slice none 0 0) (an ⟨⟨rfl,rfl,trivial⟩,fun M=>⟨M.bC 9 1,auj _,by rw[Nat.sub_zero]⟩⟩ ?_);rintro⟨m,u⟩ w M ⟨hm,hinv⟩;refine lb 0<|an rfl<|an (fun h2=>?_) fun h2 M=>⟨ri (by rw[hinv,show m=p.asserts.length by simp at h2;omega,cM]),M.below⟩
 have hlt:m<p.asserts.length:=by simp at h2;omega
 obtain⟨y,hy⟩:∃ y,p.asserts[m]?=some y:=⟨_,auk hlt⟩;have qu:=hok.asserts y (aul hy);obtain⟨b,o,e,hc⟩:=SliceAt.elt hp.asserts (fun _=>rfl) (by decide) hy hlt;have hcf:oR p m=zZ p.types.length ((p.asserts.take m).map (·.name)) y:=by unfold oR;rw[hy]
 have out:∀ v:Int,zZ p.types.length ((p.asserts.take m).map (·.name)) y=v→v≠0→aJ (oR p) p.asserts.length 0=v:=fun v h1 h2=>by rw[hinv,cN hlt (by rw[hcf,h1];exact h2),hcf,h1]
 unfold zZ at hcf out;refine lb 0<|an rfl<|ia<|an ⟨e,rfl,hlt⟩<|lc<|an (cF M.below hc)<|ei<|an adh fun g2 w2 M2=>lb 0<|an ⟨rfl,rfl⟩ fun w3 M3=>lb 0<|an rfl<|fun g3 w4 M4=>cl<|an (fE _ _ _ [y.name] ((p.asserts.take m).map (·.name)) (M4.slice 0 rfl rfl rfl (by simp[maxLen])) (gA (M4.r 0 rfl) (by simp;omega) rfl) (by simpa using qu.name)) fun w5 M5=>an (fun h3 M=>⟨ri (out _ (if_neg (by simpa using h3)) (by simpa using h3)),M.below⟩) fun h3=>?_
 replace h3:bP [y.name] ((p.asserts.take m).map (·.name))=0:=by simpa using h3
 rw[if_pos h3] at hcf out;refine lb 1<|an rfl<|fun g4 w6 M6=>ap 0 id rfl (M6.slice 0 rfl rfl rfl (by simp[maxLen])) ⟨by unfold maxLen;omega,by omega⟩ fun v5 w7 M7=>lb 2<|an rfl<|lb 2<|an (fun _=>rfl)<|an (fun h M=>⟨ri (out 13 ?_ (by decide)),M.below⟩) fun h=>?_
 ·by_cases h5:y.kind<1
  ·rw[if_pos h5]
  ·rw[if_neg h5,if_pos (by simp at h;omega)]
 rw[if_neg (by simp at h;omega),if_neg (by simp at h;omega)] at hcf out;refine lb 2<|an rfl<|lb 3<|an rfl<|cl<|an (gD _ y.src qu.src _ CS) fun w8 M8=>lb 2<|an rfl<|lb 3<|an rfl<|cl<|an (gD _ y.tgt qu.tgt _ CS) fun w9 M9=>an (fun h4 M=>⟨ri (out 3 (if_pos h4) (by decide)),M.below⟩) fun h4=>?_
 rw[if_neg (fun e=>by rw[h4] at e;cases e)] at hcf out;exact an (fun h5 M=>⟨ri (out 2 (if_pos h5) (by decide)),M.below⟩) fun h5=>an (by omega)<|bk (m+1,v5) ⟨rfl,rfl,trivial⟩ (fun M=>⟨(M.only (.cons _ (.cons _ (.cons _ (.refl _)))) (.refl _)).cast rfl (by dsimp only;rw[rD hy]),by omega,hinv.trans (bR hlt (by rw[hcf,if_neg (fun e=>by rw[h5] at e;cases e)]))⟩) (by dsimp only;omega)
deriving instance DecidableEq for aj
def Og(x:Int):List Value:=[.int .u64 x]
theorem oD(x y:ByteArray):(x.toList == y.toList)=decide (x=y):=by
 rw[aup,decide_eq_true_eq,beq_iff_eq];exact⟨fun h=>by rw[ByteArray.toList_eq,ByteArray.toList_eq] at h;exact ByteArray.ext (Array.toList_inj.1 h),fun h=>by rw[h]⟩
section
variable {α:Type} [DecidableEq α] {l1 l2:List α} {m:Nat} {x y:α}
theorem gQ(h:¬ l1.length=l2.length):false=decide (l1=l2):=(decide_eq_false fun e=>h (by rw[e])).symm
theorem jt(hx:l1[m]?=some x)(hy:l2[m]?=some y)(h:decide (x=y)=false):false=decide (l1=l2):=by
 refine(decide_eq_false fun e=>?_).symm;rw[e,hy] at hx;exact of_decide_eq_false h (auq hx).symm
theorem jr(hx:l1[m]?=some x)(hy:l2[m]?=some y)(h:l1.take m=l2.take m)(hq:decide (x=y)=true):l1.take (m+1)=l2.take (m+1):=by
 rw[bw hx,bw hy,h,of_decide_eq_true hq]
theorem gT(hm:m=l1.length)(hl:l1.length=l2.length)(h:l1.take m=l2.take m):true=decide (l1=l2):=by
 subst hm;rw[aur,hl,aur] at h;exact(decide_eq_true h).symm
end
theorem VL(x y:bM)(w:World):(Op.equalIn 10000 84 (.agg #[.int .i64 x.kind,.int .u64 x.src.a,.int .u64 x.src.b,.int .u64 x.src.c,.int .u64 x.src.d,.int .u64 x.tgt.a,.int .u64 x.tgt.b,.int .u64 x.tgt.c,.int .u64 x.tgt.d,.int .i64 x.cls,.string x.name,.int .i64 x.res,.int .i64 x.cond]) (.agg #[.int .i64 y.kind,.int .u64 y.src.a,.int .u64 y.src.b,.int .u64 y.src.c,.int .u64 y.src.d,.int .u64 y.tgt.a,.int .u64 y.tgt.b,.int .u64 y.tgt.c,.int .u64 y.tgt.d,.int .i64 y.cls,.string y.name,.int .i64 y.res,.int .i64 y.cond])).run Tryz.prog w=.ok (decide (x=y)) w:=by
 rw[show(10000:Nat)=9997+3 from rfl,aff];congr 1;rw[aup];obtain⟨Lh,⟨Lg,Le,Ld,Lc⟩,⟨Lb,La,KZ,KY⟩,SV,vN,ado,aai⟩:=x;obtain⟨KX,⟨KW,KV,KU,KT⟩,⟨KS,KR,KQ,KP⟩,SK,vK,adk,aaf⟩:=y;simp only[decide_eq_true_eq,ay.mk.injEq,bM.mk.injEq,Int.natCast_inj,and_assoc]
theorem yE(w0:World)(v1 v2:Value)(l1 l2:List bM)(h1:SliceAt w0 v1 13 l1.length (l1.flatMap bM.cells))(h2:SliceAt w0 v2 13 l2.length (l2.flatMap bM.cells)):Calls Tryz.prog 74 #[v1,v2] w0 (fun(r:Ending) (w':World)=>r=.returned (.bool (decide (l1=l2)))∧aui w0.heap.size w0 w'):=by
 obtain⟨_,_,rfl,-,hm1,-⟩:=h1.form (by decide);obtain⟨_,_,rfl,-⟩:=h2.form (by decide);refine cL [] (fn:=Tryz.f74) Tryz.func74 rfl Tryz.ntmps74 rfl<|an (fun h M=>⟨aD (gQ (by simp at h;omega)),M.below⟩) fun h=>lr (ι:=Nat) (fun m=>[(13,.int .i64 (m:Int))]) (fun m _=>m≤l1.length∧l1.take m=l2.take m) (fun m=>l1.length-m) 0 (an ⟨⟨rfl,trivial⟩,fun M=>⟨M,auj _,rfl⟩⟩ ?_)
 have hl:l1.length=l2.length:=by simp at h;omega
 rintro m w M ⟨hm,ht⟩;refine an (fun h3=>?_) fun h3 M=>⟨aD (gT (by simp at h3;omega) hl ht),M.below⟩
 have hlt:m<l1.length:=by simp at h3;omega
 obtain⟨x,y,_,_,_,_,hx,hy,e1,e2⟩:=dU (f:=bM.cells) (k:=13) (fun _=>rfl) (by decide) h1 h2 rfl rfl hlt hl M.below;exact dr (by kernel_rfl)<|ia<|an ⟨e1.1,rfl,hlt⟩<|lc<|an e1.2<|ia<|an ⟨e2.1,rfl,hl▸hlt⟩<|lc<|an e2.2<|ei<|an ⟨acd,VL x y⟩<|fun w hb M=>an (fun h M=>⟨aD (jt hx hy (by simpa using h)),M.below⟩) fun h=>an (by omega)<|bk (m+1) ⟨rfl,trivial⟩ (fun M=>⟨M,by omega,jr hx hy ht (by simpa using h)⟩) (by dsimp only;omega)
theorem qK(w0:World)(v1 v2:Value)(l1 l2:List Int)(h1:SliceAt w0 v1 1 l1.length (l1.flatMap Og))(h2:SliceAt w0 v2 1 l2.length (l2.flatMap Og)):Calls Tryz.prog 77 #[v1,v2] w0 (fun(r:Ending) (w':World)=>r=.returned (.bool (decide (l1=l2)))∧aui w0.heap.size w0 w'):=by
 obtain⟨_,_,rfl,-,hm1,-⟩:=h1.form (by decide);obtain⟨_,_,rfl,-⟩:=h2.form (by decide);refine cL [] (fn:=Tryz.f77) Tryz.func77 rfl Tryz.ntmps77 rfl<|an (fun h M=>⟨aD (gQ (by simp at h;omega)),M.below⟩) fun h=>lr (ι:=Nat) (fun m=>[(13,.int .i64 (m:Int))]) (fun m _=>m≤l1.length∧l1.take m=l2.take m) (fun m=>l1.length-m) 0 (an ⟨⟨rfl,trivial⟩,fun M=>⟨M,auj _,rfl⟩⟩ ?_)
 have hl:l1.length=l2.length:=by simp at h;omega
 rintro m w M ⟨hm,ht⟩;refine an (fun h3=>?_) fun h3 M=>⟨aD (gT (by simp at h3;omega) hl ht),M.below⟩
 have hlt:m<l1.length:=by simp at h3;omega
 obtain⟨x,y,_,_,_,_,hx,hy,e1,e2⟩:=dU (f:=Og) (k:=1) (fun _=>rfl) (by decide) h1 h2 rfl rfl hlt hl M.below;exact dr (by kernel_rfl)<|ia<|an ⟨e1.1,rfl,hlt⟩<|lc (x:=.int .u64 x)<|an (e1.2 0 _ rfl)<|ia<|an ⟨e2.1,rfl,hl▸hlt⟩<|lc (x:=.int .u64 y)<|an (e2.2 0 _ rfl)<|fun w hb M=>an (fun h M=>⟨aD (jt hx hy (by simpa using h)),M.below⟩) fun h=>an (by omega)<|bk (m+1) ⟨rfl,trivial⟩ (fun M=>⟨M,by omega,jr hx hy ht (by simpa using h)⟩) (by dsimp only;omega)
theorem VN(x y:aj)(w:World):(Op.equalIn 10000 56 (.agg #[.int .i64 x.kind,.int .u64 x.src.a,.int .u64 x.src.b,.int .u64 x.src.c,.int .u64 x.src.d,.int .u64 x.tgt.a,.int .u64 x.tgt.b,.int .u64 x.tgt.c,.int .u64 x.tgt.d,.bool x.self,.int .i64 x.cls,.int .u32 x.perms,.int .i64 x.cond]) (.agg #[.int .i64 y.kind,.int .u64 y.src.a,.int .u64 y.src.b,.int .u64 y.src.c,.int .u64 y.src.d,.int .u64 y.tgt.a,.int .u64 y.tgt.b,.int .u64 y.tgt.c,.int .u64 y.tgt.d,.bool y.self,.int .i64 y.cls,.int .u32 y.perms,.int .i64 y.cond])).run Tryz.prog w=.ok (decide (x=y)) w:=by
 rw[show(10000:Nat)=9997+3 from rfl,afg];congr 1;rw[aup];obtain⟨Lh,⟨Lg,Le,Ld,Lc⟩,⟨Lb,La,KZ,KY⟩,agF,SV,afM,aai⟩:=x;obtain⟨KX,⟨KW,KV,KU,KT⟩,⟨KS,KR,KQ,KP⟩,agC,SK,afH,aaf⟩:=y;simp only[decide_eq_true_eq,aj.mk.injEq,ay.mk.injEq,Int.natCast_inj,and_assoc]
theorem FR(w0:World)(v1 v2:Value)(l1 l2:List aj)(h1:SliceAt w0 v1 13 l1.length (l1.flatMap aj.cells))(h2:SliceAt w0 v2 13 l2.length (l2.flatMap aj.cells)):Calls Tryz.prog 141 #[v1,v2] w0 (fun(r:Ending) (w':World)=>r=.returned (.bool (decide (l1=l2)))∧aui w0.heap.size w0 w'):=by
 obtain⟨_,_,rfl,-,hm1,-⟩:=h1.form (by decide);obtain⟨_,_,rfl,-⟩:=h2.form (by decide);refine cL [] (fn:=Tryz.f141) Tryz.func141 rfl Tryz.ntmps141 rfl<|an (fun h M=>⟨aD (gQ (by simp at h;omega)),M.below⟩) fun h=>lr (ι:=Nat) (fun m=>[(13,.int .i64 (m:Int))]) (fun m _=>m≤l1.length∧l1.take m=l2.take m) (fun m=>l1.length-m) 0 (an ⟨⟨rfl,trivial⟩,fun M=>⟨M,auj _,rfl⟩⟩ ?_)
 have hl:l1.length=l2.length:=by simp at h;omega
 rintro m w M ⟨hm,ht⟩;refine an (fun h3=>?_) fun h3 M=>⟨aD (gT (by simp at h3;omega) hl ht),M.below⟩
 have hlt:m<l1.length:=by simp at h3;omega
 obtain⟨x,y,_,_,_,_,hx,hy,e1,e2⟩:=dU (f:=aj.cells) (k:=13) (fun _=>rfl) (by decide) h1 h2 rfl rfl hlt hl M.below;exact dr (by kernel_rfl)<|ia<|an ⟨e1.1,rfl,hlt⟩<|lc<|an e1.2<|ia<|an ⟨e2.1,rfl,hl▸hlt⟩<|lc<|an e2.2<|ei<|an ⟨ace,VN x y⟩<|fun w hb M=>an (fun h M=>⟨aD (jt hx hy (by simpa using h)),M.below⟩) fun h=>an (by omega)<|bk (m+1) ⟨rfl,trivial⟩ (fun M=>⟨M,by omega,jr hx hy ht (by simpa using h)⟩) (by dsimp only;omega)
theorem VP(x y:kS)(w:World):(Op.equalIn 10000 203 (.agg #[.int .u64 x.roles.a,.int .u64 x.roles.b,.int .u64 x.roles.c,.int .u64 x.roles.d,.int .u64 x.types.a,.int .u64 x.types.b,.int .u64 x.types.c,.int .u64 x.types.d,.int .i64 x.cls,.int .i64 x.res]) (.agg #[.int .u64 y.roles.a,.int .u64 y.roles.b,.int .u64 y.roles.c,.int .u64 y.roles.d,.int .u64 y.types.a,.int .u64 y.types.b,.int .u64 y.types.c,.int .u64 y.types.d,.int .i64 y.cls,.int .i64 y.res])).run Tryz.prog w=.ok (decide (x=y)) w:=by
 rw[show(10000:Nat)=9997+3 from rfl,ab2];congr 1;rw[aup];obtain⟨⟨SQ,SN,SM,SL⟩,⟨Hx,Hw,Hv,Hu⟩,SV,ado⟩:=x;obtain⟨⟨SH,SG,SF,SE⟩,⟨Ht,Hs,Hr,Hq⟩,SK,adk⟩:=y;simp only[decide_eq_true_eq,kS.mk.injEq,ay.mk.injEq,Int.natCast_inj,and_assoc]
theorem FQ(w0:World)(v1 v2:Value)(l1 l2:List kS)(h1:SliceAt w0 v1 10 l1.length (l1.flatMap kS.cells))(h2:SliceAt w0 v2 10 l2.length (l2.flatMap kS.cells)):Calls Tryz.prog 142 #[v1,v2] w0 (fun(r:Ending) (w':World)=>r=.returned (.bool (decide (l1=l2)))∧aui w0.heap.size w0 w'):=by
 obtain⟨_,_,rfl,-,hm1,-⟩:=h1.form (by decide);obtain⟨_,_,rfl,-⟩:=h2.form (by decide);refine cL [] (fn:=Tryz.f142) Tryz.func142 rfl Tryz.ntmps142 rfl<|an (fun h M=>⟨aD (gQ (by simp at h;omega)),M.below⟩) fun h=>lr (ι:=Nat) (fun m=>[(13,.int .i64 (m:Int))]) (fun m _=>m≤l1.length∧l1.take m=l2.take m) (fun m=>l1.length-m) 0 (an ⟨⟨rfl,trivial⟩,fun M=>⟨M,auj _,rfl⟩⟩ ?_)
 have hl:l1.length=l2.length:=by simp at h;omega
 rintro m w M ⟨hm,ht⟩;refine an (fun h3=>?_) fun h3 M=>⟨aD (gT (by simp at h3;omega) hl ht),M.below⟩
 have hlt:m<l1.length:=by simp at h3;omega
 obtain⟨x,y,_,_,_,_,hx,hy,e1,e2⟩:=dU (f:=kS.cells) (k:=10) (fun _=>rfl) (by decide) h1 h2 rfl rfl hlt hl M.below;exact dr (by kernel_rfl)<|ia<|an ⟨e1.1,rfl,hlt⟩<|lc<|an e1.2<|ia<|an ⟨e2.1,rfl,hl▸hlt⟩<|lc<|an e2.2<|ei<|an ⟨ZN,VP x y⟩<|fun w hb M=>an (fun h M=>⟨aD (jt hx hy (by simpa using h)),M.below⟩) fun h=>an (by omega)<|bk (m+1) ⟨rfl,trivial⟩ (fun M=>⟨M,by omega,jr hx hy ht (by simpa using h)⟩) (by dsimp only;omega)
theorem VO(x y:kT)(w:World):(Op.equalIn 10000 205 (.agg #[.int .u64 x.src.a,.int .u64 x.src.b,.int .u64 x.src.c,.int .u64 x.src.d,.int .u64 x.tgt.a,.int .u64 x.tgt.b,.int .u64 x.tgt.c,.int .u64 x.tgt.d,.int .i64 x.cls,.int .i64 x.rng.low.aZ,.int .u64 x.rng.low.cats,.int .i64 x.rng.high.aZ,.int .u64 x.rng.high.cats]) (.agg #[.int .u64 y.src.a,.int .u64 y.src.b,.int .u64 y.src.c,.int .u64 y.src.d,.int .u64 y.tgt.a,.int .u64 y.tgt.b,.int .u64 y.tgt.c,.int .u64 y.tgt.d,.int .i64 y.cls,.int .i64 y.rng.low.aZ,.int .u64 y.rng.low.cats,.int .i64 y.rng.high.aZ,.int .u64 y.rng.high.cats])).run Tryz.prog w=.ok (decide (x=y)) w:=by
 rw[show(10000:Nat)=9996+4 from rfl,ab1];congr 1;rw[aup];obtain⟨⟨Lg,Le,Ld,Lc⟩,⟨Lb,La,KZ,KY⟩,SV,⟨⟨EA,EB⟩,⟨CX,CY⟩⟩⟩:=x;obtain⟨⟨KW,KV,KU,KT⟩,⟨KS,KR,KQ,KP⟩,SK,⟨⟨Ey,Ez⟩,⟨CT,CU⟩⟩⟩:=y;simp only[decide_eq_true_eq,rW.mk.injEq,kT.mk.injEq,vC.mk.injEq,ay.mk.injEq,Int.natCast_inj,and_assoc]
theorem FP(w0:World)(v1 v2:Value)(l1 l2:List kT)(h1:SliceAt w0 v1 13 l1.length (l1.flatMap kT.cells))(h2:SliceAt w0 v2 13 l2.length (l2.flatMap kT.cells)):Calls Tryz.prog 143 #[v1,v2] w0 (fun(r:Ending) (w':World)=>r=.returned (.bool (decide (l1=l2)))∧aui w0.heap.size w0 w'):=by
 obtain⟨_,_,rfl,-,hm1,-⟩:=h1.form (by decide);obtain⟨_,_,rfl,-⟩:=h2.form (by decide);refine cL [] (fn:=Tryz.f143) Tryz.func143 rfl Tryz.ntmps143 rfl<|an (fun h M=>⟨aD (gQ (by simp at h;omega)),M.below⟩) fun h=>lr (ι:=Nat) (fun m=>[(13,.int .i64 (m:Int))]) (fun m _=>m≤l1.length∧l1.take m=l2.take m) (fun m=>l1.length-m) 0 (an ⟨⟨rfl,trivial⟩,fun M=>⟨M,auj _,rfl⟩⟩ ?_)
 have hl:l1.length=l2.length:=by simp at h;omega
 rintro m w M ⟨hm,ht⟩;refine an (fun h3=>?_) fun h3 M=>⟨aD (gT (by simp at h3;omega) hl ht),M.below⟩
 have hlt:m<l1.length:=by simp at h3;omega
 obtain⟨x,y,_,_,_,_,hx,hy,e1,e2⟩:=dU (f:=kT.cells) (k:=13) (fun _=>rfl) (by decide) h1 h2 rfl rfl hlt hl M.below;exact dr (by kernel_rfl)<|ia<|an ⟨e1.1,rfl,hlt⟩<|lc<|an e1.2<|ia<|an ⟨e2.1,rfl,hl▸hlt⟩<|lc<|an e2.2<|ei<|an ⟨ZM,VO x y⟩<|fun w hb M=>an (fun h M=>⟨aD (jt hx hy (by simpa using h)),M.below⟩) fun h=>an (by omega)<|bk (m+1) ⟨rfl,trivial⟩ (fun M=>⟨M,by omega,jr hx hy ht (by simpa using h)⟩) (by dsimp only;omega)
theorem VY(x y:kR)(w:World):(Op.equalIn 10000 125 (.agg #[.string x.name,.int .i64 x.ctx.user,.int .i64 x.ctx.role,.int .i64 x.ctx.typ,.int .i64 x.ctx.rng.low.aZ,.int .u64 x.ctx.rng.low.cats,.int .i64 x.ctx.rng.high.aZ,.int .u64 x.ctx.rng.high.cats]) (.agg #[.string y.name,.int .i64 y.ctx.user,.int .i64 y.ctx.role,.int .i64 y.ctx.typ,.int .i64 y.ctx.rng.low.aZ,.int .u64 y.ctx.rng.low.cats,.int .i64 y.ctx.rng.high.aZ,.int .u64 y.ctx.rng.high.cats])).run Tryz.prog w=.ok (decide (x=y)) w:=by
 rw[show(10000:Nat)=9995+5 from rfl,ab8];congr 1;rw[aup];obtain⟨vN,⟨PS,PU,SS,⟨⟨yQ,yR⟩,⟨vO,vQ⟩⟩⟩⟩:=x;obtain⟨vK,⟨PN,PO,SI,⟨⟨yO,yP⟩,⟨vL,vM⟩⟩⟩⟩:=y;simp only[decide_eq_true_eq,xR.mk.injEq,rW.mk.injEq,vC.mk.injEq,kR.mk.injEq,Int.natCast_inj,and_assoc]
theorem FN(w0:World)(v1 v2:Value)(l1 l2:List kR)(h1:SliceAt w0 v1 8 l1.length (l1.flatMap kR.cells))(h2:SliceAt w0 v2 8 l2.length (l2.flatMap kR.cells)):Calls Tryz.prog 145 #[v1,v2] w0 (fun(r:Ending) (w':World)=>r=.returned (.bool (decide (l1=l2)))∧aui w0.heap.size w0 w'):=by
 obtain⟨_,_,rfl,-,hm1,-⟩:=h1.form (by decide);obtain⟨_,_,rfl,-⟩:=h2.form (by decide);refine cL [] (fn:=Tryz.f145) Tryz.func145 rfl Tryz.ntmps145 rfl<|an (fun h M=>⟨aD (gQ (by simp at h;omega)),M.below⟩) fun h=>lr (ι:=Nat) (fun m=>[(13,.int .i64 (m:Int))]) (fun m _=>m≤l1.length∧l1.take m=l2.take m) (fun m=>l1.length-m) 0 (an ⟨⟨rfl,trivial⟩,fun M=>⟨M,auj _,rfl⟩⟩ ?_)
 have hl:l1.length=l2.length:=by simp at h;omega
 rintro m w M ⟨hm,ht⟩;refine an (fun h3=>?_) fun h3 M=>⟨aD (gT (by simp at h3;omega) hl ht),M.below⟩
 have hlt:m<l1.length:=by simp at h3;omega
 obtain⟨x,y,_,_,_,_,hx,hy,e1,e2⟩:=dU (f:=kR.cells) (k:=8) (fun _=>rfl) (by decide) h1 h2 rfl rfl hlt hl M.below;exact dr (by kernel_rfl)<|ia<|an ⟨e1.1,rfl,hlt⟩<|lc<|an e1.2<|ia<|an ⟨e2.1,rfl,hl▸hlt⟩<|lc<|an e2.2<|ei<|an ⟨ZT,VY x y⟩<|fun w hb M=>an (fun h M=>⟨aD (jt hx hy (by simpa using h)),M.below⟩) fun h=>an (by omega)<|bk (m+1) ⟨rfl,trivial⟩ (fun M=>⟨M,by omega,jr hx hy ht (by simpa using h)⟩) (by dsimp only;omega)
theorem VX(x y:kU)(w:World):(Op.equalIn 10000 127 (.agg #[.string x.pat,.int .i64 x.kind,.int .i64 x.ctx.user,.int .i64 x.ctx.role,.int .i64 x.ctx.typ,.int .i64 x.ctx.rng.low.aZ,.int .u64 x.ctx.rng.low.cats,.int .i64 x.ctx.rng.high.aZ,.int .u64 x.ctx.rng.high.cats]) (.agg #[.string y.pat,.int .i64 y.kind,.int .i64 y.ctx.user,.int .i64 y.ctx.role,.int .i64 y.ctx.typ,.int .i64 y.ctx.rng.low.aZ,.int .u64 y.ctx.rng.low.cats,.int .i64 y.ctx.rng.high.aZ,.int .u64 y.ctx.rng.high.cats])).run Tryz.prog w=.ok (decide (x=y)) w:=by
 rw[show(10000:Nat)=9995+5 from rfl,ab7];congr 1;rw[aup];obtain⟨ajw,Lh,⟨PS,PU,SS,⟨⟨yQ,yR⟩,⟨vO,vQ⟩⟩⟩⟩:=x;obtain⟨ajs,KX,⟨PN,PO,SI,⟨⟨yO,yP⟩,⟨vL,vM⟩⟩⟩⟩:=y;simp only[decide_eq_true_eq,xR.mk.injEq,kU.mk.injEq,rW.mk.injEq,vC.mk.injEq,Int.natCast_inj,and_assoc]
theorem FM(w0:World)(v1 v2:Value)(l1 l2:List kU)(h1:SliceAt w0 v1 9 l1.length (l1.flatMap kU.cells))(h2:SliceAt w0 v2 9 l2.length (l2.flatMap kU.cells)):Calls Tryz.prog 146 #[v1,v2] w0 (fun(r:Ending) (w':World)=>r=.returned (.bool (decide (l1=l2)))∧aui w0.heap.size w0 w'):=by
 obtain⟨_,_,rfl,-,hm1,-⟩:=h1.form (by decide);obtain⟨_,_,rfl,-⟩:=h2.form (by decide);refine cL [] (fn:=Tryz.f146) Tryz.func146 rfl Tryz.ntmps146 rfl<|an (fun h M=>⟨aD (gQ (by simp at h;omega)),M.below⟩) fun h=>lr (ι:=Nat) (fun m=>[(13,.int .i64 (m:Int))]) (fun m _=>m≤l1.length∧l1.take m=l2.take m) (fun m=>l1.length-m) 0 (an ⟨⟨rfl,trivial⟩,fun M=>⟨M,auj _,rfl⟩⟩ ?_)
 have hl:l1.length=l2.length:=by simp at h;omega
 rintro m w M ⟨hm,ht⟩;refine an (fun h3=>?_) fun h3 M=>⟨aD (gT (by simp at h3;omega) hl ht),M.below⟩
 have hlt:m<l1.length:=by simp at h3;omega
 obtain⟨x,y,_,_,_,_,hx,hy,e1,e2⟩:=dU (f:=kU.cells) (k:=9) (fun _=>rfl) (by decide) h1 h2 rfl rfl hlt hl M.below;exact dr (by kernel_rfl)<|ia<|an ⟨e1.1,rfl,hlt⟩<|lc<|an e1.2<|ia<|an ⟨e2.1,rfl,hl▸hlt⟩<|lc<|an e2.2<|ei<|an ⟨ZS,VX x y⟩<|fun w hb M=>an (fun h M=>⟨aD (jt hx hy (by simpa using h)),M.below⟩) fun h=>an (by omega)<|bk (m+1) ⟨rfl,trivial⟩ (fun M=>⟨M,by omega,jr hx hy ht (by simpa using h)⟩) (by dsimp only;omega)
theorem VW(x y:kW)(w:World):(Op.equalIn 10000 129 (.agg #[.string x.name,.int .i64 x.kind,.int .u64 x.src.a,.int .u64 x.src.b,.int .u64 x.src.c,.int .u64 x.src.d,.int .u64 x.tgt.a,.int .u64 x.tgt.b,.int .u64 x.tgt.c,.int .u64 x.tgt.d]) (.agg #[.string y.name,.int .i64 y.kind,.int .u64 y.src.a,.int .u64 y.src.b,.int .u64 y.src.c,.int .u64 y.src.d,.int .u64 y.tgt.a,.int .u64 y.tgt.b,.int .u64 y.tgt.c,.int .u64 y.tgt.d])).run Tryz.prog w=.ok (decide (x=y)) w:=by
 rw[show(10000:Nat)=9997+3 from rfl,ab6];congr 1;rw[aup];obtain⟨vN,Lh,⟨Lg,Le,Ld,Lc⟩,⟨Lb,La,KZ,KY⟩⟩:=x;obtain⟨vK,KX,⟨KW,KV,KU,KT⟩,⟨KS,KR,KQ,KP⟩⟩:=y;simp only[decide_eq_true_eq,kW.mk.injEq,ay.mk.injEq,Int.natCast_inj,and_assoc]
theorem FL(w0:World)(v1 v2:Value)(l1 l2:List kW)(h1:SliceAt w0 v1 10 l1.length (l1.flatMap kW.cells))(h2:SliceAt w0 v2 10 l2.length (l2.flatMap kW.cells)):Calls Tryz.prog 147 #[v1,v2] w0 (fun(r:Ending) (w':World)=>r=.returned (.bool (decide (l1=l2)))∧aui w0.heap.size w0 w'):=by
 obtain⟨_,_,rfl,-,hm1,-⟩:=h1.form (by decide);obtain⟨_,_,rfl,-⟩:=h2.form (by decide);refine cL [] (fn:=Tryz.f147) Tryz.func147 rfl Tryz.ntmps147 rfl<|an (fun h M=>⟨aD (gQ (by simp at h;omega)),M.below⟩) fun h=>lr (ι:=Nat) (fun m=>[(13,.int .i64 (m:Int))]) (fun m _=>m≤l1.length∧l1.take m=l2.take m) (fun m=>l1.length-m) 0 (an ⟨⟨rfl,trivial⟩,fun M=>⟨M,auj _,rfl⟩⟩ ?_)
 have hl:l1.length=l2.length:=by simp at h;omega
 rintro m w M ⟨hm,ht⟩;refine an (fun h3=>?_) fun h3 M=>⟨aD (gT (by simp at h3;omega) hl ht),M.below⟩
 have hlt:m<l1.length:=by simp at h3;omega
 obtain⟨x,y,_,_,_,_,hx,hy,e1,e2⟩:=dU (f:=kW.cells) (k:=10) (fun _=>rfl) (by decide) h1 h2 rfl rfl hlt hl M.below;exact dr (by kernel_rfl)<|ia<|an ⟨e1.1,rfl,hlt⟩<|lc<|an e1.2<|ia<|an ⟨e2.1,rfl,hl▸hlt⟩<|lc<|an e2.2<|ei<|an ⟨ZR,VW x y⟩<|fun w hb M=>an (fun h M=>⟨aD (jt hx hy (by simpa using h)),M.below⟩) fun h=>an (by omega)<|bk (m+1) ⟨rfl,trivial⟩ (fun M=>⟨M,by omega,jr hx hy ht (by simpa using h)⟩) (by dsimp only;omega)
theorem je(w0:World)(v1 v2:Value)(l1 l2:List ByteArray)(h1:SliceAt w0 v1 1 l1.length (l1.flatMap aW))(h2:SliceAt w0 v2 1 l2.length (l2.flatMap aW)):Calls Tryz.prog 213 #[v1,v2] w0 (fun(r:Ending) (w':World)=>r=.returned (.bool (decide (l1=l2)))∧aui w0.heap.size w0 w'):=by
 obtain⟨_,_,rfl,-,hm1,-⟩:=h1.form (by decide);obtain⟨_,_,rfl,-⟩:=h2.form (by decide);refine cL [] (fn:=Tryz.f213) Tryz.func213 rfl Tryz.ntmps213 rfl<|an (fun h M=>⟨aD (gQ (by simp at h;omega)),M.below⟩) fun h=>lr (ι:=Nat) (fun m=>[(13,.int .i64 (m:Int))]) (fun m _=>m≤l1.length∧l1.take m=l2.take m) (fun m=>l1.length-m) 0 (an ⟨⟨rfl,trivial⟩,fun M=>⟨M,auj _,rfl⟩⟩ ?_)
 have hl:l1.length=l2.length:=by simp at h;omega
 rintro m w M ⟨hm,ht⟩;refine an (fun h3=>?_) fun h3 M=>⟨aD (gT (by simp at h3;omega) hl ht),M.below⟩
 have hlt:m<l1.length:=by simp at h3;omega
 obtain⟨x,y,_,_,_,_,hx,hy,e1,e2⟩:=dU (f:=aW) (k:=1) (fun _=>rfl) (by decide) h1 h2 rfl rfl hlt hl M.below;exact dr (by kernel_rfl)<|ia<|an ⟨e1.1,rfl,hlt⟩<|lc (x:=.string x)<|an (e1.2 0 _ rfl)<|ia<|an ⟨e2.1,rfl,hl▸hlt⟩<|lc (x:=.string y)<|an (e2.2 0 _ rfl)<|fun w hb M=>an (fun h M=>⟨aD (jt hx hy (by rw[← oD];simpa using h)),M.below⟩) fun h=>an (by omega)<|bk (m+1) ⟨rfl,trivial⟩ (fun M=>⟨M,by omega,jr hx hy ht (by rw[← oD];simpa using h)⟩) (by dsimp only;omega)
theorem VU(x y:kV)(w:World):(Op.equalIn 10000 184 (.agg #[.string x.name,.int .u64 x.types.a,.int .u64 x.types.b,.int .u64 x.types.c,.int .u64 x.types.d]) (.agg #[.string y.name,.int .u64 y.types.a,.int .u64 y.types.b,.int .u64 y.types.c,.int .u64 y.types.d])).run Tryz.prog w=.ok (decide (x=y)) w:=by
 rw[show(10000:Nat)=9997+3 from rfl,ab5];congr 1;rw[aup];obtain⟨vN,⟨Hx,Hw,Hv,Hu⟩⟩:=x;obtain⟨vK,⟨Ht,Hs,Hr,Hq⟩⟩:=y;simp only[decide_eq_true_eq,kV.mk.injEq,ay.mk.injEq,Int.natCast_inj]
theorem FK(w0:World)(v1 v2:Value)(l1 l2:List kV)(h1:SliceAt w0 v1 5 l1.length (l1.flatMap kV.cells))(h2:SliceAt w0 v2 5 l2.length (l2.flatMap kV.cells)):Calls Tryz.prog 218 #[v1,v2] w0 (fun(r:Ending) (w':World)=>r=.returned (.bool (decide (l1=l2)))∧aui w0.heap.size w0 w'):=by
 obtain⟨_,_,rfl,-,hm1,-⟩:=h1.form (by decide);obtain⟨_,_,rfl,-⟩:=h2.form (by decide);refine cL [] (fn:=Tryz.f218) Tryz.func218 rfl Tryz.ntmps218 rfl<|an (fun h M=>⟨aD (gQ (by simp at h;omega)),M.below⟩) fun h=>lr (ι:=Nat) (fun m=>[(13,.int .i64 (m:Int))]) (fun m _=>m≤l1.length∧l1.take m=l2.take m) (fun m=>l1.length-m) 0 (an ⟨⟨rfl,trivial⟩,fun M=>⟨M,auj _,rfl⟩⟩ ?_)
 have hl:l1.length=l2.length:=by simp at h;omega
 rintro m w M ⟨hm,ht⟩;refine an (fun h3=>?_) fun h3 M=>⟨aD (gT (by simp at h3;omega) hl ht),M.below⟩
 have hlt:m<l1.length:=by simp at h3;omega
 obtain⟨x,y,_,_,_,_,hx,hy,e1,e2⟩:=dU (f:=kV.cells) (k:=5) (fun _=>rfl) (by decide) h1 h2 rfl rfl hlt hl M.below;exact dr (by kernel_rfl)<|ia<|an ⟨e1.1,rfl,hlt⟩<|lc<|an e1.2<|ia<|an ⟨e2.1,rfl,hl▸hlt⟩<|lc<|an e2.2<|ei<|an ⟨ZQ,VU x y⟩<|fun w hb M=>an (fun h M=>⟨aD (jt hx hy (by simpa using h)),M.below⟩) fun h=>an (by omega)<|bk (m+1) ⟨rfl,trivial⟩ (fun M=>⟨M,by omega,jr hx hy ht (by simpa using h)⟩) (by dsimp only;omega)
theorem VT(x y:iD)(w:World):(Op.equalIn 10000 188 (.agg #[.string x.name,.int .u64 x.types.a,.int .u64 x.types.b,.int .u64 x.types.c,.int .u64 x.types.d,.int .u64 x.next.a,.int .u64 x.next.b,.int .u64 x.next.c,.int .u64 x.next.d]) (.agg #[.string y.name,.int .u64 y.types.a,.int .u64 y.types.b,.int .u64 y.types.c,.int .u64 y.types.d,.int .u64 y.next.a,.int .u64 y.next.b,.int .u64 y.next.c,.int .u64 y.next.d])).run Tryz.prog w=.ok (decide (x=y)) w:=by
 rw[show(10000:Nat)=9997+3 from rfl,VK];congr 1;rw[aup];obtain⟨vN,⟨Hx,Hw,Hv,Hu⟩,⟨afQ,afP,afO,afN⟩⟩:=x;obtain⟨vK,⟨Ht,Hs,Hr,Hq⟩,⟨afL,afK,afJ,afI⟩⟩:=y;simp only[decide_eq_true_eq,iD.mk.injEq,ay.mk.injEq,Int.natCast_inj,and_assoc]
theorem FJ(w0:World)(v1 v2:Value)(l1 l2:List iD)(h1:SliceAt w0 v1 9 l1.length (l1.flatMap iD.cells))(h2:SliceAt w0 v2 9 l2.length (l2.flatMap iD.cells)):Calls Tryz.prog 219 #[v1,v2] w0 (fun(r:Ending) (w':World)=>r=.returned (.bool (decide (l1=l2)))∧aui w0.heap.size w0 w'):=by
 obtain⟨_,_,rfl,-,hm1,-⟩:=h1.form (by decide);obtain⟨_,_,rfl,-⟩:=h2.form (by decide);refine cL [] (fn:=Tryz.f219) Tryz.func219 rfl Tryz.ntmps219 rfl<|an (fun h M=>⟨aD (gQ (by simp at h;omega)),M.below⟩) fun h=>lr (ι:=Nat) (fun m=>[(13,.int .i64 (m:Int))]) (fun m _=>m≤l1.length∧l1.take m=l2.take m) (fun m=>l1.length-m) 0 (an ⟨⟨rfl,trivial⟩,fun M=>⟨M,auj _,rfl⟩⟩ ?_)
 have hl:l1.length=l2.length:=by simp at h;omega
 rintro m w M ⟨hm,ht⟩;refine an (fun h3=>?_) fun h3 M=>⟨aD (gT (by simp at h3;omega) hl ht),M.below⟩
 have hlt:m<l1.length:=by simp at h3;omega
 obtain⟨x,y,_,_,_,_,hx,hy,e1,e2⟩:=dU (f:=iD.cells) (k:=9) (fun _=>rfl) (by decide) h1 h2 rfl rfl hlt hl M.below;exact dr (by kernel_rfl)<|ia<|an ⟨e1.1,rfl,hlt⟩<|lc<|an e1.2<|ia<|an ⟨e2.1,rfl,hl▸hlt⟩<|lc<|an e2.2<|ei<|an ⟨V1,VT x y⟩<|fun w hb M=>an (fun h M=>⟨aD (jt hx hy (by simpa using h)),M.below⟩) fun h=>an (by omega)<|bk (m+1) ⟨rfl,trivial⟩ (fun M=>⟨M,by omega,jr hx hy ht (by simpa using h)⟩) (by dsimp only;omega)
theorem VR(x y:kC)(w:World):(Op.equalIn 10000 192 (.agg #[.string x.name,.int .u64 x.roles.a,.int .u64 x.roles.b,.int .u64 x.roles.c,.int .u64 x.roles.d,.int .i64 x.dflt.aZ,.int .u64 x.dflt.cats,.int .i64 x.rng.low.aZ,.int .u64 x.rng.low.cats,.int .i64 x.rng.high.aZ,.int .u64 x.rng.high.cats]) (.agg #[.string y.name,.int .u64 y.roles.a,.int .u64 y.roles.b,.int .u64 y.roles.c,.int .u64 y.roles.d,.int .i64 y.dflt.aZ,.int .u64 y.dflt.cats,.int .i64 y.rng.low.aZ,.int .u64 y.rng.low.cats,.int .i64 y.rng.high.aZ,.int .u64 y.rng.high.cats])).run Tryz.prog w=.ok (decide (x=y)) w:=by
 rw[show(10000:Nat)=9996+4 from rfl,ab4];congr 1;rw[aup];obtain⟨vN,⟨SQ,SN,SM,SL⟩,⟨aag,aah⟩,⟨⟨EA,EB⟩,⟨CX,CY⟩⟩⟩:=x;obtain⟨vK,⟨SH,SG,SF,SE⟩,⟨aad,aae⟩,⟨⟨Ey,Ez⟩,⟨CT,CU⟩⟩⟩:=y;simp only[decide_eq_true_eq,rW.mk.injEq,vC.mk.injEq,ay.mk.injEq,kC.mk.injEq,Int.natCast_inj,and_assoc]
theorem FI(w0:World)(v1 v2:Value)(l1 l2:List kC)(h1:SliceAt w0 v1 11 l1.length (l1.flatMap kC.cells))(h2:SliceAt w0 v2 11 l2.length (l2.flatMap kC.cells)):Calls Tryz.prog 220 #[v1,v2] w0 (fun(r:Ending) (w':World)=>r=.returned (.bool (decide (l1=l2)))∧aui w0.heap.size w0 w'):=by
 obtain⟨_,_,rfl,-,hm1,-⟩:=h1.form (by decide);obtain⟨_,_,rfl,-⟩:=h2.form (by decide);refine cL [] (fn:=Tryz.f220) Tryz.func220 rfl Tryz.ntmps220 rfl<|an (fun h M=>⟨aD (gQ (by simp at h;omega)),M.below⟩) fun h=>lr (ι:=Nat) (fun m=>[(13,.int .i64 (m:Int))]) (fun m _=>m≤l1.length∧l1.take m=l2.take m) (fun m=>l1.length-m) 0 (an ⟨⟨rfl,trivial⟩,fun M=>⟨M,auj _,rfl⟩⟩ ?_)
 have hl:l1.length=l2.length:=by simp at h;omega
 rintro m w M ⟨hm,ht⟩;refine an (fun h3=>?_) fun h3 M=>⟨aD (gT (by simp at h3;omega) hl ht),M.below⟩
 have hlt:m<l1.length:=by simp at h3;omega
 obtain⟨x,y,_,_,_,_,hx,hy,e1,e2⟩:=dU (f:=kC.cells) (k:=11) (fun _=>rfl) (by decide) h1 h2 rfl rfl hlt hl M.below;exact dr (by kernel_rfl)<|ia<|an ⟨e1.1,rfl,hlt⟩<|lc<|an e1.2<|ia<|an ⟨e2.1,rfl,hl▸hlt⟩<|lc<|an e2.2<|ei<|an ⟨ZP,VR x y⟩<|fun w hb M=>an (fun h M=>⟨aD (jt hx hy (by simpa using h)),M.below⟩) fun h=>an (by omega)<|bk (m+1) ⟨rfl,trivial⟩ (fun M=>⟨M,by omega,jr hx hy ht (by simpa using h)⟩) (by dsimp only;omega)
theorem VQ(x y:dP)(w:World):(Op.equalIn 10000 197 (.agg #[.string x.name,.bool x.val]) (.agg #[.string y.name,.bool y.val])).run Tryz.prog w=.ok (decide (x=y)) w:=by
 rw[show(10000:Nat)=9998+2 from rfl,ab3];congr 1;rw[aup];obtain⟨vN,ajv⟩:=x;obtain⟨vK,ajr⟩:=y;simp only[decide_eq_true_eq,dP.mk.injEq]
theorem FH(w0:World)(v1 v2:Value)(l1 l2:List dP)(h1:SliceAt w0 v1 2 l1.length (l1.flatMap dP.cells))(h2:SliceAt w0 v2 2 l2.length (l2.flatMap dP.cells)):Calls Tryz.prog 221 #[v1,v2] w0 (fun(r:Ending) (w':World)=>r=.returned (.bool (decide (l1=l2)))∧aui w0.heap.size w0 w'):=by
 obtain⟨_,_,rfl,-,hm1,-⟩:=h1.form (by decide);obtain⟨_,_,rfl,-⟩:=h2.form (by decide);refine cL [] (fn:=Tryz.f221) Tryz.func221 rfl Tryz.ntmps221 rfl<|an (fun h M=>⟨aD (gQ (by simp at h;omega)),M.below⟩) fun h=>lr (ι:=Nat) (fun m=>[(13,.int .i64 (m:Int))]) (fun m _=>m≤l1.length∧l1.take m=l2.take m) (fun m=>l1.length-m) 0 (an ⟨⟨rfl,trivial⟩,fun M=>⟨M,auj _,rfl⟩⟩ ?_)
 have hl:l1.length=l2.length:=by simp at h;omega
 rintro m w M ⟨hm,ht⟩;refine an (fun h3=>?_) fun h3 M=>⟨aD (gT (by simp at h3;omega) hl ht),M.below⟩
 have hlt:m<l1.length:=by simp at h3;omega
 obtain⟨x,y,_,_,_,_,hx,hy,e1,e2⟩:=dU (f:=dP.cells) (k:=2) (fun _=>rfl) (by decide) h1 h2 rfl rfl hlt hl M.below;exact dr (by kernel_rfl)<|ia<|an ⟨e1.1,rfl,hlt⟩<|lc<|an e1.2<|ia<|an ⟨e2.1,rfl,hl▸hlt⟩<|lc<|an e2.2<|ei<|an ⟨ZO,VQ x y⟩<|fun w hb M=>an (fun h M=>⟨aD (jt hx hy (by simpa using h)),M.below⟩) fun h=>an (by omega)<|bk (m+1) ⟨rfl,trivial⟩ (fun M=>⟨M,by omega,jr hx hy ht (by simpa using h)⟩) (by dsimp only;omega)
def aA{α:Type}(p:α→α→Bool):List α→List α→Bool
 | [],[]=>true
 | x::l,y::r=>p x y&&aA p l r
 | _,_=>false
section
variable {α:Type} {p:α→α→Bool} {l1 l2:List α} {m:Nat} {x y:α}
theorem tO(h:¬ l1.length=l2.length):false=aA p l1 l2:=by
 induction l1 generalizing l2 with
 | nil=>cases l2 with
  | nil=>exact absurd rfl h
  | cons y r=>rfl
 | cons x l ih=>cases l2 with
  | nil=>rfl
  | cons y r=>rw[aA,← ih (fun e=>h (by rw[List.length_cons,List.length_cons,e])),Bool.and_false]
theorem Px(hx:l1[m]?=some x)(hy:l2[m]?=some y):aA p (l1.drop m) (l2.drop m)=(p x y&&aA p (l1.drop (m+1)) (l2.drop (m+1))):=by
 rw[List.drop_eq_getElem_cons (aum.1 hx).1,(aum.1 hx).2,List.drop_eq_getElem_cons (aum.1 hy).1,(aum.1 hy).2,aA]
theorem Ks(hx:l1[m]?=some x)(hy:l2[m]?=some y)(h:aA p l1 l2=aA p (l1.drop m) (l2.drop m))(hq:p x y=false):false=aA p l1 l2:=by
 rw[h,Px hx hy,hq];rfl
theorem Kr(hx:l1[m]?=some x)(hy:l2[m]?=some y)(h:aA p l1 l2=aA p (l1.drop m) (l2.drop m))(hq:p x y=true):aA p l1 l2=aA p (l1.drop (m+1)) (l2.drop (m+1)):=by
 rw[h,Px hx hy,hq];rfl
theorem Cy(hm:m=l1.length)(hl:l1.length=l2.length)(h:aA p l1 l2=aA p (l1.drop m) (l2.drop m)):true=aA p l1 l2:=by
 subst hm;rw[h,List.drop_length,hl,List.drop_length];rfl
end
mutual
def eU:aq→aq→Bool
 | .node op a rel b names set kids,y=>(((((decide (op=y.op)&&decide (a=y.a))&&decide (rel=y.rel))&&decide (b=y.b))&&decide (set=y.set))&&decide (names=y.names))&&mY kids y.kids
def mY:List aq→List aq→Bool
 | [],[]=>true
 | x::l,y::r=>eU x y&&mY l r
 | [],_::_=>false
 | _::_,[]=>false
end
theorem DJ:∀ l r:List aq,mY l r=aA eU l r
 | [],[]=>by rw[mY];rfl
 | x::l,y::r=>by rw[mY,DJ l r];rfl
 | [],_::_=>by rw[mY];rfl
 | _::_,[]=>by rw[mY];rfl
theorem AJ(x y:aq):eU x y=((((((decide (x.op=y.op)&&decide (x.a=y.a))&&decide (x.rel=y.rel))&&decide (x.b=y.b))&&decide (x.set=y.set))&&decide (x.names=y.names))&&aA eU x.kids y.kids):=by
 cases x;rw[eU,DJ];rfl
theorem sE(w0:World)(v1 v2:Value)(l1 l2:List aq)(h1:mq w0 v1 l1)(h2:mq w0 v2 l2)(hF:∀ x∈l1,∀ (y:aq) (w:World) (cx cy:List Value),bf w cx x→bf w cy y→Calls Tryz.prog 138 #[.agg cx.toArray,.agg cy.toArray] w fun r w'=>r=.returned (.bool (eU x y))∧aui w.heap.size w w'):Calls Tryz.prog 140 #[v1,v2,.func (.func 138) #[] #[]] w0 (fun(r:Ending) (w':World)=>r=.returned (.bool (aA eU l1 l2))∧aui w0.heap.size w0 w'):=by
 obtain⟨_,_,rfl,-,hm1,-⟩:=au.form h1 (by decide);obtain⟨_,_,rfl,-⟩:=au.form h2 (by decide);refine cL [] (fn:=Tryz.f140) Tryz.func140 rfl Tryz.ntmps140 rfl<|an (fun h M=>⟨rb (tO (by simp at h;omega)).symm,M.below⟩) fun h=>?_
 have hl:l1.length=l2.length:=by simp at h;omega
 refine lr (ι:=Nat) (fun m=>[(17,.int .i64 (m:Int))]) (fun m _=>m≤l1.length∧aA eU l1 l2=aA eU (l1.drop m) (l2.drop m)) (fun m=>l1.length-m) 0 (an ⟨⟨rfl,trivial⟩,fun M=>⟨M,auj _,rfl⟩⟩ ?_);intro m w M ⟨hm,hI⟩;refine an (fun h3=>?_) fun h3 M=>⟨rb (Cy (by simp at h3;omega) hl hI).symm,M.below⟩
 have hlt:m<l1.length:=by simp at h3;omega
 have hlt2:m<l2.length:=by omega
 obtain⟨x,hx⟩:∃ x,l1[m]?=some x:=⟨_,auk hlt⟩;obtain⟨y,hy⟩:∃ y,l2[m]?=some y:=⟨_,auk hlt2⟩;obtain⟨b1,o1,_,e1,BD,hc1⟩:=au.elt h1 (by decide) hx;obtain⟨b2,o2,_,e2,he2,hc2⟩:=au.elt h2 (by decide) hy;obtain⟨_,_,rfl,hn1,hk1⟩:=BD.open;obtain⟨_,_,rfl,-⟩:=aF.get hn1;obtain⟨_,_,rfl,-⟩:=au.form hk1 (by decide);obtain⟨_,_,rfl,hn2,hk2⟩:=he2.open;obtain⟨_,_,rfl,-⟩:=aF.get hn2;obtain⟨_,_,rfl,-⟩:=au.form hk2 (by decide);exact ia<|an ⟨e1,rfl,hlt⟩<|lc<|an (cF M.below hc1)<|ei<|an rM fun g1 w1 M1=>lb 0<|an ⟨rfl,rfl⟩ fun w2 M2=>ia<|an ⟨e2,rfl,hlt2⟩<|lc<|an (cF M2.below hc2)<|ei<|an rM fun g2 w3 M3=>lb 0<|an ⟨rfl,rfl⟩ fun w4 M4=>lb 1<|an rfl<|lb 0<|an rfl<|cl<|an (hF x (aul hx) y _ _ _ (BD.keep M4.below) (he2.keep M4.below)) fun w5 M5=>an (fun hq M=>⟨rb (Ks hx hy hI (by simpa using hq)).symm,M.below⟩) fun hq=>an (by omega)<|bk (m+1) ⟨rfl,trivial⟩ (fun M=>⟨M.only (.cons _ (.cons _ (.refl _))) (.refl _),by omega,Kr hx hy hI (by simpa using hq)⟩) (by dsimp only;omega)
theorem um:∀ (x y:aq) (w0:World) (cx cy:List Value),bf w0 cx x→bf w0 cy y→Calls Tryz.prog 138 #[.agg cx.toArray,.agg cy.toArray] w0 (fun(r:Ending) (w':World)=>r=.returned (.bool (eU x y))∧aui w0.heap.size w0 w'):=by
 refine aq.ind fun x ih=>?_
 intro y w0 cx cy hx hy;obtain⟨_,_,rfl,hn1,hk1⟩:=hx.open;obtain⟨_,_,rfl,hn2,hk2⟩:=hy.open;obtain⟨_,_,rfl,-⟩:=aF.get hn1;obtain⟨_,_,rfl,-⟩:=aF.get hn2;obtain⟨_,_,rfl,-⟩:=au.form hk1 (by decide);obtain⟨_,_,rfl,-⟩:=au.form hk2 (by decide);exact cL [] (fn:=Tryz.f138) Tryz.func138 rfl Tryz.ntmps138 rfl<|fun g1 w1 M1=>fun g2 w2 M2=>lb 1<|an rfl<|lb 0<|an rfl<|lb 1<|an (fun _=>rfl)<|lb 0<|an (fun _=>rfl)<|lb 1<|an (fun _=>rfl)<|lb 0<|an (fun _=>rfl)<|lb 1<|an (fun _=>rfl)<|lb 0<|an (fun _=>rfl)<|lb 1<|an (fun _=>rfl)<|lb 0<|an (fun _=>rfl)<|ei (x:=decide (x.set=y.set))<|an (fun _=>⟨xg,fun w=>uQ x.set y.set w⟩)<|lb 1<|an (fun _=>rfl)<|lb 0<|an (fun _=>rfl)<|cl<|an (fun _=>je _ _ _ x.names y.names (hn1.keep M2.below) (hn2.keep M2.below)) fun w3 M3=>lb 1<|an (fun _=>rfl)<|lb 0<|an (fun _=>rfl)<|cl<|an (fun _=>sE _ _ _ x.kids y.kids (mq.keep hk1 M3.below) (mq.keep hk2 M3.below) fun k hk y w cx cy h1 h2=>ih k hk y w cx cy h1 h2) fun w4 M4=>fun M=>⟨rb (AJ x y),M.below⟩
def mK(x y:mD):Bool:=(x.name.toList == y.name.toList)&&decide (x.perms=y.perms)
def nL(x y:mH):Bool:=((x.name.toList == y.name.toList)&&(x.perm == y.perm))&&decide (x.oT=y.oT)
def sw(x y:oZ):Bool:=((decide (x.cls=y.cls)&&decide (x.perms=y.perms))&&(x.val == y.val))&&eU x.expr y.expr
theorem Ql(w0:World)(x y:mD)(IY Uh:Value)(hn1:aF w0 IY x.perms)(hn2:aF w0 Uh y.perms):Calls Tryz.prog 214 #[.agg #[.string x.name,IY],.agg #[.string y.name,Uh]] w0 (fun(r:Ending) (w':World)=>r=.returned (.bool (mK x y))∧aui w0.heap.size w0 w'):=by
 obtain⟨_,_,rfl,-⟩:=aF.get hn1;obtain⟨_,_,rfl,-⟩:=aF.get hn2;exact cL [] (fn:=Tryz.f214) Tryz.func214 rfl Tryz.ntmps214 rfl<|fun g1 w1 M1=>fun g2 w2 M2=>lb 1<|an rfl<|lb 0<|an rfl<|lb 1<|an (fun _=>rfl)<|lb 0<|an (fun _=>rfl)<|cl<|an (fun _=>je _ _ _ x.perms y.perms (hn1.keep M2.below) (hn2.keep M2.below)) fun w3 M3=>fun M=>⟨rfl,M.below⟩
theorem Df(w0:World)(v1 v2:Value)(l1 l2:List mD)(h1:au 2 (qZ w0) w0 v1 l1)(h2:au 2 (qZ w0) w0 v2 l2):Calls Tryz.prog 216 #[v1,v2,.func (.func 214) #[] #[]] w0 (fun(r:Ending) (w':World)=>r=.returned (.bool (aA mK l1 l2))∧aui w0.heap.size w0 w'):=by
 obtain⟨_,_,rfl,-,hm1,-⟩:=au.form h1 (by decide);obtain⟨_,_,rfl,-⟩:=au.form h2 (by decide);refine cL [] (fn:=Tryz.f216) Tryz.func216 rfl Tryz.ntmps216 rfl<|an (fun h M=>⟨rb (tO (by simp at h;omega)).symm,M.below⟩) fun h=>?_
 have hl:l1.length=l2.length:=by simp at h;omega
 refine lr (ι:=Nat) (fun m=>[(17,.int .i64 (m:Int))]) (fun m _=>m≤l1.length∧aA mK l1 l2=aA mK (l1.drop m) (l2.drop m)) (fun m=>l1.length-m) 0 (an ⟨⟨rfl,trivial⟩,fun M=>⟨M,auj _,rfl⟩⟩ ?_);intro m w M ⟨hm,hI⟩;refine an (fun h3=>?_) fun h3 M=>⟨rb (Cy (by simp at h3;omega) hl hI).symm,M.below⟩
 have hlt:m<l1.length:=by simp at h3;omega
 have hlt2:m<l2.length:=by omega
 obtain⟨x,hx⟩:∃ x,l1[m]?=some x:=⟨_,auk hlt⟩;obtain⟨y,hy⟩:∃ y,l2[m]?=some y:=⟨_,auk hlt2⟩;obtain⟨b1,o1,_,e1,BD,hc1⟩:=au.elt h1 (by decide) hx;obtain⟨b2,o2,_,e2,he2,hc2⟩:=au.elt h2 (by decide) hy;obtain⟨_,rfl,hn1⟩:=BD;obtain⟨_,_,rfl,-⟩:=aF.get hn1;obtain⟨_,rfl,hn2⟩:=he2;obtain⟨_,_,rfl,-⟩:=aF.get hn2;exact ia<|an ⟨e1,rfl,hlt⟩<|lc<|an (cF M.below hc1)<|ei<|an N9 fun g1 w1 M1=>lb 0<|an ⟨rfl,rfl⟩ fun w2 M2=>ia<|an ⟨e2,rfl,hlt2⟩<|lc<|an (cF M2.below hc2)<|ei<|an N9 fun g2 w3 M3=>lb 0<|an ⟨rfl,rfl⟩ fun w4 M4=>lb 1<|an rfl<|lb 0<|an rfl<|cl<|an (Ql _ x y _ _ (hn1.keep M4.below) (hn2.keep M4.below)) fun w5 M5=>an (fun hq M=>⟨rb (Ks hx hy hI (by simpa using hq)).symm,M.below⟩) fun hq=>an (by omega)<|bk (m+1) ⟨rfl,trivial⟩ (fun M=>⟨M.only (.cons _ (.cons _ (.refl _))) (.refl _),by omega,Kr hx hy hI (by simpa using hq)⟩) (by dsimp only;omega)
theorem Qj(w0:World)(x y:mH)(IY Uh:Value)(hn1:aF w0 IY x.oT)(hn2:aF w0 Uh y.oT):Calls Tryz.prog 215 #[.agg #[.string x.name,IY,.bool x.perm],.agg #[.string y.name,Uh,.bool y.perm]] w0 (fun(r:Ending) (w':World)=>r=.returned (.bool (nL x y))∧aui w0.heap.size w0 w'):=by
 obtain⟨_,_,rfl,-⟩:=aF.get hn1;obtain⟨_,_,rfl,-⟩:=aF.get hn2;exact cL [] (fn:=Tryz.f215) Tryz.func215 rfl Tryz.ntmps215 rfl<|fun g1 w1 M1=>fun g2 w2 M2=>lb 1<|an rfl<|lb 0<|an rfl<|lb 1<|an (fun _=>rfl)<|lb 0<|an (fun _=>rfl)<|lb 1<|an (fun _=>rfl)<|lb 0<|an (fun _=>rfl)<|cl<|an (fun _=>je _ _ _ x.oT y.oT (hn1.keep M2.below) (hn2.keep M2.below)) fun w3 M3=>fun M=>⟨rfl,M.below⟩
theorem Dd(w0:World)(v1 v2:Value)(l1 l2:List mH)(h1:au 3 (qU w0) w0 v1 l1)(h2:au 3 (qU w0) w0 v2 l2):Calls Tryz.prog 217 #[v1,v2,.func (.func 215) #[] #[]] w0 (fun(r:Ending) (w':World)=>r=.returned (.bool (aA nL l1 l2))∧aui w0.heap.size w0 w'):=by
 obtain⟨_,_,rfl,-,hm1,-⟩:=au.form h1 (by decide);obtain⟨_,_,rfl,-⟩:=au.form h2 (by decide);refine cL [] (fn:=Tryz.f217) Tryz.func217 rfl Tryz.ntmps217 rfl<|an (fun h M=>⟨rb (tO (by simp at h;omega)).symm,M.below⟩) fun h=>?_
 have hl:l1.length=l2.length:=by simp at h;omega
 refine lr (ι:=Nat) (fun m=>[(17,.int .i64 (m:Int))]) (fun m _=>m≤l1.length∧aA nL l1 l2=aA nL (l1.drop m) (l2.drop m)) (fun m=>l1.length-m) 0 (an ⟨⟨rfl,trivial⟩,fun M=>⟨M,auj _,rfl⟩⟩ ?_);intro m w M ⟨hm,hI⟩;refine an (fun h3=>?_) fun h3 M=>⟨rb (Cy (by simp at h3;omega) hl hI).symm,M.below⟩
 have hlt:m<l1.length:=by simp at h3;omega
 have hlt2:m<l2.length:=by omega
 obtain⟨x,hx⟩:∃ x,l1[m]?=some x:=⟨_,auk hlt⟩;obtain⟨y,hy⟩:∃ y,l2[m]?=some y:=⟨_,auk hlt2⟩;obtain⟨b1,o1,_,e1,BD,hc1⟩:=au.elt h1 (by decide) hx;obtain⟨b2,o2,_,e2,he2,hc2⟩:=au.elt h2 (by decide) hy;obtain⟨_,rfl,hn1⟩:=BD;obtain⟨_,_,rfl,-⟩:=aF.get hn1;obtain⟨_,rfl,hn2⟩:=he2;obtain⟨_,_,rfl,-⟩:=aF.get hn2;exact ia<|an ⟨e1,rfl,hlt⟩<|lc<|an (cF M.below hc1)<|ei<|an Z_ fun g1 w1 M1=>lb 0<|an ⟨rfl,rfl⟩ fun w2 M2=>ia<|an ⟨e2,rfl,hlt2⟩<|lc<|an (cF M2.below hc2)<|ei<|an Z_ fun g2 w3 M3=>lb 0<|an ⟨rfl,rfl⟩ fun w4 M4=>lb 1<|an rfl<|lb 0<|an rfl<|cl<|an (Qj _ x y _ _ (hn1.keep M4.below) (hn2.keep M4.below)) fun w5 M5=>an (fun hq M=>⟨rb (Ks hx hy hI (by simpa using hq)).symm,M.below⟩) fun hq=>an (by omega)<|bk (m+1) ⟨rfl,trivial⟩ (fun M=>⟨M.only (.cons _ (.cons _ (.refl _))) (.refl _),by omega,Kr hx hy hI (by simpa using hq)⟩) (by dsimp only;omega)
theorem Qk(w0:World)(x y:oZ)(IY Uh UG kv2:Value)(BD:bf w0 [.int .i64 x.expr.op,.int .i64 x.expr.a,.int .i64 x.expr.rel,.int .i64 x.expr.b,IY,.int .u64 x.expr.set.a,.int .u64 x.expr.set.b,.int .u64 x.expr.set.c,.int .u64 x.expr.set.d,UG] x.expr)(he2:bf w0 [.int .i64 y.expr.op,.int .i64 y.expr.a,.int .i64 y.expr.rel,.int .i64 y.expr.b,Uh,.int .u64 y.expr.set.a,.int .u64 y.expr.set.b,.int .u64 y.expr.set.c,.int .u64 y.expr.set.d,kv2] y.expr):Calls Tryz.prog 137 #[.agg #[.int .i64 x.cls,.int .u32 x.perms,.bool x.val,.int .i64 x.expr.op,.int .i64 x.expr.a,.int .i64 x.expr.rel,.int .i64 x.expr.b,IY,.int .u64 x.expr.set.a,.int .u64 x.expr.set.b,.int .u64 x.expr.set.c,.int .u64 x.expr.set.d,UG],.agg #[.int .i64 y.cls,.int .u32 y.perms,.bool y.val,.int .i64 y.expr.op,.int .i64 y.expr.a,.int .i64 y.expr.rel,.int .i64 y.expr.b,Uh,.int .u64 y.expr.set.a,.int .u64 y.expr.set.b,.int .u64 y.expr.set.c,.int .u64 y.expr.set.d,kv2]] w0 (fun(r:Ending) (w':World)=>r=.returned (.bool (sw x y))∧aui w0.heap.size w0 w'):=by
 obtain⟨_,_,e1,hn1,hk1⟩:=BD.open;obtain⟨_,_,e2,hn2,hk2⟩:=he2.open;cases e1;cases e2;obtain⟨_,_,rfl,-⟩:=aF.get hn1;obtain⟨_,_,rfl,-⟩:=aF.get hn2;obtain⟨_,_,rfl,-⟩:=au.form hk1 (by decide);obtain⟨_,_,rfl,-⟩:=au.form hk2 (by decide);exact cL [] (fn:=Tryz.f137) Tryz.func137 rfl Tryz.ntmps137 rfl<|fun g1 w1 M1=>fun g2 w2 M2=>lb 1<|an rfl<|lb 0<|an rfl<|lb 1<|an (fun _=>rfl)<|lb 0<|an (fun _=>rfl)<|lb 1<|an (fun _=>rfl)<|lb 0<|an (fun _=>rfl)<|lb 1<|an (fun _=>rfl)<|lb 0<|an (fun _=>rfl)<|cl<|an (fun _=>um x.expr y.expr _ _ _ (BD.keep M2.below) (he2.keep M2.below)) fun w3 M3=>fun M=>⟨rfl,M.below⟩
theorem Dg(w0:World)(v1 v2:Value)(l1 l2:List oZ)(h1:au 13 (qY w0) w0 v1 l1)(h2:au 13 (qY w0) w0 v2 l2):Calls Tryz.prog 144 #[v1,v2,.func (.func 137) #[] #[]] w0 (fun(r:Ending) (w':World)=>r=.returned (.bool (aA sw l1 l2))∧aui w0.heap.size w0 w'):=by
 obtain⟨_,_,rfl,-,hm1,-⟩:=au.form h1 (by decide);obtain⟨_,_,rfl,-⟩:=au.form h2 (by decide);refine cL [] (fn:=Tryz.f144) Tryz.func144 rfl Tryz.ntmps144 rfl<|an (fun h M=>⟨rb (tO (by simp at h;omega)).symm,M.below⟩) fun h=>?_
 have hl:l1.length=l2.length:=by simp at h;omega
 refine lr (ι:=Nat) (fun m=>[(17,.int .i64 (m:Int))]) (fun m _=>m≤l1.length∧aA sw l1 l2=aA sw (l1.drop m) (l2.drop m)) (fun m=>l1.length-m) 0 (an ⟨⟨rfl,trivial⟩,fun M=>⟨M,auj _,rfl⟩⟩ ?_);intro m w M ⟨hm,hI⟩;refine an (fun h3=>?_) fun h3 M=>⟨rb (Cy (by simp at h3;omega) hl hI).symm,M.below⟩
 have hlt:m<l1.length:=by simp at h3;omega
 have hlt2:m<l2.length:=by omega
 obtain⟨x,hx⟩:∃ x,l1[m]?=some x:=⟨_,auk hlt⟩;obtain⟨y,hy⟩:∃ y,l2[m]?=some y:=⟨_,auk hlt2⟩;obtain⟨b1,o1,_,e1,BD,hc1⟩:=au.elt h1 (by decide) hx;obtain⟨b2,o2,_,e2,he2,hc2⟩:=au.elt h2 (by decide) hy;obtain⟨_,rfl,BD⟩:=BD;obtain⟨_,_,rfl,hn1,hk1⟩:=BD.open;obtain⟨_,_,rfl,-⟩:=aF.get hn1;obtain⟨_,_,rfl,-⟩:=au.form hk1 (by decide);obtain⟨_,rfl,he2⟩:=he2;obtain⟨_,_,rfl,hn2,hk2⟩:=he2.open;obtain⟨_,_,rfl,-⟩:=aF.get hn2;obtain⟨_,_,rfl,-⟩:=au.form hk2 (by decide);exact ia<|an ⟨e1,rfl,hlt⟩<|lc<|an (cF M.below hc1)<|ei<|an PL fun g1 w1 M1=>lb 0<|an ⟨rfl,rfl⟩ fun w2 M2=>ia<|an ⟨e2,rfl,hlt2⟩<|lc<|an (cF M2.below hc2)<|ei<|an PL fun g2 w3 M3=>lb 0<|an ⟨rfl,rfl⟩ fun w4 M4=>lb 1<|an rfl<|lb 0<|an rfl<|cl<|an (Qk _ x y _ _ _ _ (BD.keep M4.below) (he2.keep M4.below)) fun w5 M5=>an (fun hq M=>⟨rb (Ks hx hy hI (by simpa using hq)).symm,M.below⟩) fun hq=>an (by omega)<|bk (m+1) ⟨rfl,trivial⟩ (fun M=>⟨M.only (.cons _ (.cons _ (.refl _))) (.refl _),by omega,Kr hx hy hI (by simpa using hq)⟩) (by dsimp only;omega)
def kq(p q:aC):Bool:=(((((((aA mK p.classes q.classes&&aA nL p.types q.types)&&decide (p.attrs=q.attrs))&&decide (p.roles=q.roles))&&decide (p.users=q.users))&&decide (p.bools=q.bools))&&decide (p.aZ=q.aZ))&&decide (p.cats=q.cats))
def gM(p q:aC):Bool:=(((((((((kq p q&&aA eU p.conds q.conds)&&decide (p.rules=q.rules))&&decide (p.trans=q.trans))&&decide (p.aN=q.aN))&&decide (p.ranges=q.ranges))&&aA sw p.cons q.cons)&&decide (p.bO=q.bO))&&decide (p.files=q.files))&&decide (p.asserts=q.asserts))
theorem yY(w0:World)(c0 c1 c2 c3 c4 c5 c6 c7 c8 c9 aV aP aO aU aT aS aR d0 d1 d2 d3 d4 d5 d6 d7 d8 d9 Ch Cg Ce Cd Cc Cb Ca:Value)(p q:aC)(hp:aM w0 c0 c1 c2 c3 c4 c5 c6 c7 c8 c9 aV aP aO aU aT aS aR p)(hq:aM w0 d0 d1 d2 d3 d4 d5 d6 d7 d8 d9 Ch Cg Ce Cd Cc Cb Ca q):Calls Tryz.prog 139 #[.agg #[c0,c1,c2,c3,c4,c5,c6,c7,c8,c9,aV,aP,aO,aU,aT,aS,aR],.agg #[d0,d1,d2,d3,d4,d5,d6,d7,d8,d9,Ch,Cg,Ce,Cd,Cc,Cb,Ca]] w0 (fun(r:Ending) (w':World)=>r=.returned (.bool (kq p q))∧aui w0.heap.size w0 w'):=by
 obtain⟨_,_,_,_,_,_,_,_,_,_,_,_,_,_,_,_,_,_,_,_,_,_,_,_,_,_,_,_,_,_,_,_,_,_,rfl,rfl,rfl,rfl,rfl,rfl,rfl,rfl,rfl,rfl,rfl,rfl,rfl,rfl,rfl,rfl,rfl⟩:=hp.open;obtain⟨_,_,_,_,_,_,_,_,_,_,_,_,_,_,_,_,_,_,_,_,_,_,_,_,_,_,_,_,_,_,_,_,_,_,rfl,rfl,rfl,rfl,rfl,rfl,rfl,rfl,rfl,rfl,rfl,rfl,rfl,rfl,rfl,rfl,rfl⟩:=hq.open;exact cL [] (fn:=Tryz.f139) Tryz.func139 rfl Tryz.ntmps139 rfl<|fun g1 w1 M1=>fun g2 w2 M2=>lb 1<|an rfl<|lb 0<|an rfl<|cl<|an (Df _ _ _ p.classes q.classes (hp.keep M2.below).classes (hq.keep M2.below).classes) fun w3 M3=>lb 1<|an (fun _=>rfl)<|lb 0<|an (fun _=>rfl)<|cl<|an (fun _=>Dd _ _ _ p.types q.types (hp.keep M3.below).types (hq.keep M3.below).types) fun w4 M4=>lb 1<|an (fun _=>rfl)<|lb 0<|an (fun _=>rfl)<|cl<|an (fun _=>FK _ _ _ p.attrs q.attrs (hp.keep M4.below).attrs (hq.keep M4.below).attrs) fun w5 M5=>lb 1<|an (fun _=>rfl)<|lb 0<|an (fun _=>rfl)<|cl<|an (fun _=>FJ _ _ _ p.roles q.roles (hp.keep M5.below).roles (hq.keep M5.below).roles) fun w6 M6=>lb 1<|an (fun _=>rfl)<|lb 0<|an (fun _=>rfl)<|cl<|an (fun _=>FI _ _ _ p.users q.users (hp.keep M6.below).users (hq.keep M6.below).users) fun w7 M7=>lb 1<|an (fun _=>rfl)<|lb 0<|an (fun _=>rfl)<|cl<|an (fun _=>FH _ _ _ p.bools q.bools (hp.keep M7.below).bools (hq.keep M7.below).bools) fun w8 M8=>lb 1<|an (fun _=>rfl)<|lb 0<|an (fun _=>rfl)<|cl<|an (fun _=>je _ _ _ p.aZ q.aZ (hp.keep M8.below).aZ (hq.keep M8.below).aZ) fun w9 M9=>lb 1<|an (fun _=>rfl)<|lb 0<|an (fun _=>rfl)<|cl<|an (fun _=>je _ _ _ p.cats q.cats (hp.keep M9.below).cats (hq.keep M9.below).cats) fun tS nr=>fun M=>⟨rfl,M.below⟩
theorem FD(w0:World)(c0 c1 c2 c3 c4 c5 c6 c7 c8 c9 aV aP aO aU aT aS aR d0 d1 d2 d3 d4 d5 d6 d7 d8 d9 Ch Cg Ce Cd Cc Cb Ca:Value)(p q:aC)(hp:aM w0 c0 c1 c2 c3 c4 c5 c6 c7 c8 c9 aV aP aO aU aT aS aR p)(hq:aM w0 d0 d1 d2 d3 d4 d5 d6 d7 d8 d9 Ch Cg Ce Cd Cc Cb Ca q):Calls Tryz.prog 72 #[.agg #[c0,c1,c2,c3,c4,c5,c6,c7,c8,c9,aV,aP,aO,aU,aT,aS,aR],.agg #[d0,d1,d2,d3,d4,d5,d6,d7,d8,d9,Ch,Cg,Ce,Cd,Cc,Cb,Ca]] w0 (fun(r:Ending) (w':World)=>r=.returned (.bool (gM p q))∧aui w0.heap.size w0 w'):=by
 obtain⟨_,_,_,_,_,_,_,_,_,_,_,_,_,_,_,_,_,_,_,_,_,_,_,_,_,_,_,_,_,_,_,_,_,_,rfl,rfl,rfl,rfl,rfl,rfl,rfl,rfl,rfl,rfl,rfl,rfl,rfl,rfl,rfl,rfl,rfl⟩:=hp.open;obtain⟨_,_,_,_,_,_,_,_,_,_,_,_,_,_,_,_,_,_,_,_,_,_,_,_,_,_,_,_,_,_,_,_,_,_,rfl,rfl,rfl,rfl,rfl,rfl,rfl,rfl,rfl,rfl,rfl,rfl,rfl,rfl,rfl,rfl,rfl⟩:=hq.open;exact cL [] (fn:=Tryz.f72) Tryz.func72 rfl Tryz.ntmps72 rfl<|fun g1 w1 M1=>fun g2 w2 M2=>lb 1<|an rfl<|lb 0<|an rfl<|cl<|an (yY _ _ _ _ _ _ _ _ _ _ _ _ _ _ _ _ _ _ _ _ _ _ _ _ _ _ _ _ _ _ _ _ _ _ _ p q (hp.keep M2.below) (hq.keep M2.below)) fun w3 M3=>lb 1<|an (fun _=>rfl)<|lb 0<|an (fun _=>rfl)<|cl<|an (fun _=>sE _ _ _ p.conds q.conds (hp.keep M3.below).conds (hq.keep M3.below).conds fun x _ y w cx cy h1 h2=>um x y w cx cy h1 h2) fun w4 M4=>lb 1<|an (fun _=>rfl)<|lb 0<|an (fun _=>rfl)<|cl<|an (fun _=>FR _ _ _ p.rules q.rules (hp.keep M4.below).rules (hq.keep M4.below).rules) fun w5 M5=>lb 1<|an (fun _=>rfl)<|lb 0<|an (fun _=>rfl)<|cl<|an (fun _=>yE _ _ _ p.trans q.trans (hp.keep M5.below).trans (hq.keep M5.below).trans) fun w6 M6=>lb 1<|an (fun _=>rfl)<|lb 0<|an (fun _=>rfl)<|cl<|an (fun _=>FQ _ _ _ p.aN q.aN (hp.keep M6.below).aN (hq.keep M6.below).aN) fun w7 M7=>lb 1<|an (fun _=>rfl)<|lb 0<|an (fun _=>rfl)<|cl<|an (fun _=>FP _ _ _ p.ranges q.ranges (hp.keep M7.below).ranges (hq.keep M7.below).ranges) fun w8 M8=>lb 1<|an (fun _=>rfl)<|lb 0<|an (fun _=>rfl)<|cl<|an (fun _=>Dg _ _ _ p.cons q.cons (hp.keep M8.below).cons (hq.keep M8.below).cons) fun w9 M9=>lb 1<|an (fun _=>rfl)<|lb 0<|an (fun _=>rfl)<|cl<|an (fun _=>FN _ _ _ p.bO q.bO (hp.keep M9.below).bO (hq.keep M9.below).bO) fun tS nr=>lb 1<|an (fun _=>rfl)<|lb 0<|an (fun _=>rfl)<|cl<|an (fun _=>FM _ _ _ p.files q.files (hp.keep nr.below).files (hq.keep nr.below).files) fun Dw M11=>lb 1<|an (fun _=>rfl)<|lb 0<|an (fun _=>rfl)<|cl<|an (fun _=>FL _ _ _ p.asserts q.asserts (hp.keep M11.below).asserts (hq.keep M11.below).asserts) fun He Dr=>fun M=>⟨rfl,M.below⟩
def aK(n:Nat):Int:=2^(2^n)-1
theorem five{n:Nat}(h:n≤5):n=0∨n=1∨n=2∨n=3∨n=4∨n=5:=by omega
theorem nt1{n:Nat}(h:n≤5):IntKind.i64.wrap (1*2^((n:Nat):Int).toNat)=((2^n:Nat):Int):=by
 rcases five h with rfl|rfl|rfl|rfl|rfl|rfl<;>rfl
theorem nt2{n:Nat}(h:n≤5):IntKind.i64.wrap ((((2^n:Nat):Int)).tdiv 64)=0:=by
 rcases five h with rfl|rfl|rfl|rfl|rfl|rfl<;>rfl
theorem nt3{n:Nat}(h:n≤5):IntKind.u64.wrap (1*2^((n:Nat):Int).toNat)=((2^n:Nat):Int):=by
 rcases five h with rfl|rfl|rfl|rfl|rfl|rfl<;>rfl
theorem nt4{n:Nat}(h:n≤5):IntKind.u64.wrap (1*2^(((2^n:Nat):Int)).toNat)=aK n+1:=by
 rcases five h with rfl|rfl|rfl|rfl|rfl|rfl<;>rfl
theorem nt5{n:Nat}(h:n≤5):IntKind.u64.wrap (aK n+1-1)=aK n:=by
 rcases five h with rfl|rfl|rfl|rfl|rfl|rfl<;>rfl
theorem nt6{n:Nat}(h:n≤5):2^n≤32:=by
 rcases five h with rfl|rfl|rfl|rfl|rfl|rfl<;>decide
def qV(w:World)(tp mb:Nat)(c0 c1 c2 c3 c4 c5 c6 c7 c8 c9 aV aP aO aU aT aS aR:Value)(u:Int):Prop:=Whole w tp 304 #[c0,c1,c2,c3,c4,c5,c6,c7,c8,c9,aV,aP,aO,aU,aT,aS,aR,.int .i64 1,.int .u64 u,.map (some mb)]
def bT(w:World)(base:Nat)(v:Value)(x:Int):Prop:=∃ g,v=.slice (some ⟨g,0,none⟩) 1 1∧Whole w g 52 #[.int .u64 x]∧base≤g
theorem bT.keep{w w':World}{base:Nat}{v:Value}{x:Int}(h:bT w base v x)(hb:aui w.heap.size w w'):bT w' base v x:=by
 obtain⟨g,e,hw,hl⟩:=h;exact⟨g,e,Whole.under hb hw hw.lt,hl⟩
def jO(i:Int)(k:Nat):Bool:=decide (bits .and .i64 (((0*64)+(k:Int))/2^(i:Int).toNat) 1=1)
def fT(i:Int):Nat→Int
 | 0=>0
 | k+1=>if jO i k=true then bits .or .u64 (fT i k) (IntKind.u64.wrap (1*2^((k:Int):Int).toNat)) else fT i k
def yJ(u i:Int):Int:=bits .and .u64 (fT i 64) u
def notM(u x:Int):Int:=bits .and .u64 (bits .xor .u64 18446744073709551615 x) u
def qp(op:Int):Int:=if op=1 then 0 else if op=2 then 1 else 2
def Dm(u op x y:Int):Int:=if op=3 then bits .and .u64 x y else if op=4 then bits .or .u64 x y else if op=6 then bits .and .u64 (bits .xor .u64 18446744073709551615 (bits .xor .u64 x y)) u else bits .xor .u64 x y
def dG(n:Nat)(op a:Int)(k:Nat):Bool:=((!decide ((k:Int)=qp op))||(decide (op=1)&&(decide (a<0)||decide ((n:Int)≤a))))
def Lp(u:Int)(n:Nat)(op a:Int)(l:List Int):Int:=
 if dG n op a l.length=true then 0 else if op=1 then yJ u a else if op=2 then notM u (l.getD 0 0) else Dm u op (l.getD 0 0) (l.getD 1 0)
mutual
def bN(u:Int)(n:Nat):aq→Int
 | .node op a _ _ _ _ kids=>Lp u n op a (nA u n kids)
def nA(u:Int)(n:Nat):List aq→List Int
 | []=>[]
 | k::l=>bN u n k::nA u n l
end
theorem tW(u:Int)(n:Nat)(e:aq):bN u n e=Lp u n e.op e.a (nA u n e.kids):=by cases e;rw[bN];rfl
theorem pS(u:Int)(n:Nat):∀ l:List aq,(nA u n l).length=l.length
 | []=>by rw[nA];rfl
 | k::l=>by rw[nA,List.length_cons,List.length_cons,pS u n l]
theorem tX(u:Int)(n:Nat):∀ (l:List aq) (i:Nat) {y:aq},l[i]?=some y→(nA u n l).getD i 0=bN u n y
 | [],_,_,h=>by simp at h
 | k::l,0,y,h=>by
  rw[nA];obtain rfl:k=y:=by simpa using h
  rfl
 | k::l,i+1,y,h=>by
  rw[nA];simpa using tX u n l i (by simpa using h)
theorem Cu{i:Int}{k:Nat}(h:jO i k=true):fT i (k+1)=bits .or .u64 (fT i k) (IntKind.u64.wrap (1*2^((k:Int):Int).toNat)):=if_pos h
theorem Ep{i:Int}{k:Nat}(h:jO i k=false):fT i (k+1)=fT i k:=if_neg (by rw[h];decide)
theorem m_(w0:World)(c0 c1 c2 c3 c4 c6 c7 c8 c9 aV aP aO aU aT aS aR:Value)(g_:Option Addr)(nB gZ:Nat)(hn:nB≤5):Calls Tryz.prog 148 #[.agg #[c0,c1,c2,c3,c4,.slice g_ nB gZ,c6,c7,c8,c9,aV,aP,aO,aU,aT,aS,aR]] w0 (fun(r:Ending) (w':World)=>∃ v,r=.returned v∧((∃ tp mb,v=.pointer (some ⟨tp,0,none⟩)∧qV w' tp mb c0 c1 c2 c3 c4 (.slice g_ nB gZ) c6 c7 c8 c9 aV aP aO aU aT aS aR (aK nB)∧aX w' Tryz.prog 3 mb (List.map ival [])∧w0.heap.size≤tp∧w0.heap.size≤mb)∧aui w0.heap.size w0 w')):=by
 have hn6:=nt6 hn;have bL:=hr1 Tryz.prog Tryz.f148 (fun(r:Ending) (w':World)=>∃ v,r=.returned v∧((∃ tp mb,v=.pointer (some ⟨tp,0,none⟩)∧qV w' tp mb c0 c1 c2 c3 c4 (.slice g_ nB gZ) c6 c7 c8 c9 aV aP aO aU aT aS aR (aK nB)∧aX w' Tryz.prog 3 mb (List.map ival [])∧w0.heap.size≤tp∧w0.heap.size≤mb)∧aui w0.heap.size w0 w')) 28 2 rfl;refine en Tryz.func148 rfl Tryz.ntmps148 rfl (vs:=[.agg #[c0,c1,c2,c3,c4,.slice g_ nB gZ,c6,c7,c8,c9,aV,aP,aO,aU,aT,aS,aR]]) rfl fun _ F=>?_
 have M:=Mm.start w0;refine aus fun K1 gV=>ah<|Hf (on rfl) rfl (F.u rf) rfl F rfl M fun g1 _ _ F M=>xA (v:=(.pointer none)) F rf rf rf fun _ F=>aut<|gV _ _ ?_
 refine aus fun K2 h_=>ah<|xF 5 F rf rf rf Oj rf agR rf fun _ F=>xL F (M.b 0 rfl) rf rf rf u27 rf rf fun _ F=>kz F rf (fQ rfl (F.u rf) u27) fun _ F=>
  ke (on rfl) (ach rfl (F.u rf) rfl) rfl F rfl (congrArg (Value.int .i64) (if_neg (by omega))) fun _ F=>
  xA F rf rf rf fun _ F=>
  aut<|
  h_ _ _ ?_
 refine aus fun K3 nh=>?_
 refine rd 9 [9,10,11,12,13,14,15,16,4] [bZ (.agg #[c0,c1,c2,c3,c4,.slice g_ nB gZ,c6,c7,c8,c9,aV,aP,aO,aU,aT,aS,aR]),bZ (.int .i64 (nB:Int)),bZ (.int .i64 ((2^nB:Nat):Int)),bZ (.int .i64 0),bZ (.int .i64 1),(G6 M.wd),(KA M.wd #[c0,c1,c2,c3,c4,.slice g_ nB gZ,c6,c7,c8,c9,aV,aP,aO,aU,aT,aS,aR,.int .i64 1,.int .u64 18446744073709551615]),(CN M.wd 304 #[c0,c1,c2,c3,c4,.slice g_ nB gZ,c6,c7,c8,c9,aV,aP,aO,aU,aT,aS,aR,.int .i64 1,.int .u64 18446744073709551615]),(CN M.wd 304 #[c0,c1,c2,c3,c4,.slice g_ nB gZ,c6,c7,c8,c9,aV,aP,aO,aU,aT,aS,aR,.int .i64 1,.int .u64 18446744073709551615])] (by kernel_rfl) (by kernel_rfl) (by kernel_rfl) rfl (by decide) rfl rfl F ⟨ak _,ak _,ak _,ak _,ak _,QO _,Jc _ _,yx _ _ _,yx _ _ _,trivial⟩ ⟨?_,?_,?_,?_,?_,?_,?_,?_,?_,trivial⟩ ?_
 ·exact fun a w Q' hf hi H G hK=>dv (on rfl) (zV rfl (G 1 _ rfl (F.g 1 rfl)).ev Oj rfl ((M.keep hi).b 0 rfl) Aw rfl) rfl hf rfl hK rfl
 ·exact fun a w Q' hf hi H G hK=>dv (on rfl) (cQ rfl (G 3 _ rfl (F.g 3 rfl)).ev) rfl hf rfl hK rfl
 ·exact fun a w Q' hf hi H G hK=>dv (on rfl) (j5 rfl rfl (iA (H 1 ⟨.data,by simp,rfl⟩ _ _ rfl rfl)).ev (by omega) (show _≤((64:Nat):Int) by omega)) rfl hf rfl hK (Eq.symm (congrArg (Value.int .i64) (nt1 hn)))
 ·exact fun a w Q' hf hi H G hK=>dv (on rfl) (Ph rfl (iA (H 2 ⟨.data,by simp,rfl⟩ _ _ rfl rfl)).ev rfl (by decide)) rfl hf rfl hK (Eq.symm (congrArg (Value.int .i64) (nt2 hn)))
 ·exact fun a w Q' hf hi H G hK=>dv (on rfl) (B6 rfl rfl (iA (H 3 ⟨.data,by simp,rfl⟩ _ _ rfl rfl)).ev) rfl hf rfl hK (Eq.symm rfl)
 ·exact fun a w Q' hf hi H G hK=>dmk (on rfl) rfl EN rfl hf rfl hi hK
 ·intro a w Q' hf hi H G hK;obtain⟨_,KH,mb2,rfl,ahV,ahf⟩:=H 5 ⟨.data,by simp,rfl⟩ _ _ rfl rfl;exact dv (on rfl) (uS rfl (pv:=#[(0,.agg #[c0,c1,c2,c3,c4,.slice g_ nB gZ,c6,c7,c8,c9,aV,aP,aO,aU,aT,aS,aR]),(1,.int .i64 1),(2,.int .u64 18446744073709551615),(3,(.map (some mb2)))]) (by simp[(iA (H 0 ⟨.data,by simp,rfl⟩ _ _ rfl rfl)).ev,(iA (H 4 ⟨.data,by simp,rfl⟩ _ _ rfl rfl)).ev,KH.ev,BigFrame.eval_const]) (cells:=#[c0,c1,c2,c3,c4,.slice g_ nB gZ,c6,c7,c8,c9,aV,aP,aO,aU,aT,aS,aR,.int .i64 1,.int .u64 18446744073709551615,.map (some mb2)]) (by kernel_rfl)) rfl hf rfl hK ⟨mb2,rfl,ahV,ahf⟩
 ·intro a w Q' hf hi H G hK;obtain⟨_,Ea,mbx,rfl,CP,lmx⟩:=H 6 ⟨.data,by simp,rfl⟩ _ _ rfl rfl;exact dn (f:=fun n=>.pointer (some ⟨n,0,none⟩)) (on rfl) (Pn rfl Ea.ev) rfl hf rfl hK (fun b w' n=>⟨b,mbx,rfl,n.whole,CP.kept (n.below.block _ CP.lt),n.at_▸hi.size,lmx⟩)
 ·intro a w Q' hf hi H G hK;obtain⟨_,D_,tpx,mbx,rfl,htx,CP,ltx,lmx⟩:=H 7 ⟨.data,by simp,rfl⟩ _ _ rfl rfl;exact dv (on rfl) (oh rfl D_.ev) rfl hf rfl hK ⟨tpx,mbx,rfl,htx,CP,ltx,lmx⟩
 (repeat clear F);intro _ _ CQ F D
 have M0:=M;have aie:=CQ;obtain⟨_,h,tpx,mbx,rfl,htx,CP,ltx,lmx⟩:=D 8 _ _ rfl rfl;have F:=F.add h;have M:=M.keep CQ;clear D CQ;have M:=M0.Fg aie (b1:=(tpx,304,#[c0,c1,c2,c3,c4,.slice g_ nB gZ,c6,c7,c8,c9,aV,aP,aO,aU,aT,aS,aR,.int .i64 1,.int .u64 18446744073709551615,(.map (some mbx))])) (.inl ⟨rfl,htx⟩) ltx (b2:=(mbx,9003,eE [])) (mO CP) lmx (gP htx CP);refine nh _ _ ?_
 refine aus fun K4 n_=>aus fun K5 nZ=>ah<|xM F rf rf rf fun _ F=>
  ke (on rfl) (j5 rfl rfl (F.u rf) (by omega) (show _≤((64:Nat):Int) by omega)) rfl F rfl (congrArg (Value.int .i64) (nt1 hn)) fun _ F=>
  kz F rf (jf rfl (F.u rf) rfl) fun _ F=>
  aut<|
  nZ _ _ ?_
 refine auu (F.e 19 rfl) (fun hc3=>?_) (fun hc3=>?_)
 ·have Vf:=of_decide_eq_true hc3
  refine ah<|xM F rf rf rf fun _ F=>xM F rf rf rf fun _ F=>
   ke (on rfl) (j5 rfl rfl (F.u rf) (by omega) (show _≤((64:Nat):Int) by omega)) rfl F rfl (congrArg (Value.int .u64) (nt3 hn)) fun _ F=>
   ke (on rfl) (j5 rfl rfl (F.u rf) (Int.natCast_nonneg _) (Int.ofNat_le.2 (auv hn6 (by decide)))) rfl F rfl (congrArg (Value.int .u64) (nt4 hn)) fun _ F=>
   ke (on rfl) (JT rfl (F.u rf) rfl) rfl F rfl (congrArg (Value.int .u64) (nt5 hn)) fun _ F=>
   kz F rf (dJ rfl (F.u rf)) fun _ F=>
   xF 18 F rf rf rf yU rf kf rf fun _ F=>
   ks (on rfl) rfl (F.u rf) (F.u rf) F M 0 (cs':=#[c0,c1,c2,c3,c4,.slice g_ nB gZ,c6,c7,c8,c9,aV,aP,aO,aU,aT,aS,aR,.int .i64 1,.int .u64 (aK nB),(.map (some mbx))]) rfl rfl rfl kf rfl rfl rfl rfl fun _ M=>
   aut<|
   n_ _ _ ?_
  refine aus fun K6 pN=>ah<|xM F rf rf rf fun _ F=>xA F rf rf rf fun _ F=>aut<|pN _ _ ?_
  refine wp_ret<|bL _ _ _ _ F rfl ?_;exact⟨_,rfl,⟨_,_,rfl,M.b 0 rfl,M.map 1 rfl,M.lo _ (aul (i:=0) rfl),M.lo _ (aul (i:=1) rfl)⟩,M.below⟩
 ·have Sq:=of_decide_eq_false hc3;exfalso;omega
theorem E9(w0:World)(op:Int):Calls Tryz.prog 232 #[.int .i64 op] w0 (fun(e:Ending) (w':World)=>e=.returned (.int .i64 (qp op))∧aui w0.heap.size w0 w'):=by
 exact cL [] (fn:=Tryz.f232) Tryz.func232 rfl Tryz.ntmps232 rfl<|an (fun a=>fun M=>⟨ri (by simp_all [qp]),M.below⟩) fun a=>an (fun b=>fun M=>⟨ri (by simp_all [qp]),M.below⟩) fun b=>fun M=>⟨ri (by simp_all [qp]),M.below⟩
theorem Km(w0:World)(tp mb:Nat)(c0 c1 c2 c3 c4 c6 c7 c8 c9 aV aP aO aU aT aS aR:Value)(g_:Option Addr)(nB gZ:Nat)(u:Int)(hT:qV w0 tp mb c0 c1 c2 c3 c4 (.slice g_ nB gZ) c6 c7 c8 c9 aV aP aO aU aT aS aR u)(bi:Int)(hb0:0≤bi)(hb1:bi≤60):Calls Tryz.prog 233 #[.pointer (some ⟨tp,0,none⟩),.int .i64 bi] w0 (fun(r:Ending) (w':World)=>∃ v,r=.returned v∧((bT w' w0.heap.size v (yJ u bi))∧aui w0.heap.size w0 w')):=by
 have Sr:∀ j uu,[c0,c1,c2,c3,c4,.slice g_ nB gZ,c6,c7,c8,c9,aV,aP,aO,aU,aT,aS,aR,.int .i64 1,.int .u64 u,(.map (some mb))][j]?=some uu→w0.cell? ⟨tp,0+j,none⟩=some uu:=fun j u hu=>by rw[Nat.zero_add];exact(Whole.cell hT j).trans (by simpa using hu)
 have bL:=hr1 Tryz.prog Tryz.f233 (fun(r:Ending) (w':World)=>∃ v,r=.returned v∧((bT w' w0.heap.size v (yJ u bi))∧aui w0.heap.size w0 w')) 50 4 rfl;refine en Tryz.func233 rfl Tryz.ntmps233 rfl (vs:=[.pointer (some ⟨tp,0,none⟩),.int .i64 bi]) rfl fun _ F=>?_
 have M:=Mm.start w0;refine aus fun K1 gV=>ah<|xA (v:=.slice none 0 0) F rf rf rf fun _ F=>aut<|gV _ _ ?_
 refine aus fun K2 h_=>ah<|xM F rf rf rf fun _ F=>kz F rf (dJ rfl (F.u rf)) fun _ F=>xF 17 F rf rf rf yU rf Tz rf fun _ F=>kz F rf (bW rf (F.u rf) u3 rfl ((cF M.below Sr) 17 _ rfl)) fun _ F=>
  kn (f:=fun n=>.slice (some ⟨n,0,none⟩) 1 1) (on rfl) (zU rfl (F.u rf) (F.u rf) Aq Jp Sz rfl (by decide)) rfl F rfl M fun g1 _ _ F M=>
  xA F rf rf rf fun _ F=>
  aut<|
  h_ _ _ ?_
 refine aus fun K3 nh=>aus fun K4 n_=>ah<|xM F rf rf rf fun _ F=>kz F rf (fQ rfl (F.u rf) Aq) fun _ F=>xM (v:=.int .i64 0) F rf rf rf fun _ F=>aut<|n_ _ _ ?_
 refine auw<|?_;refine eH (ι:=Nat×Int) (fun|(t,x),a,w=>Fs a 50 [(0,.pointer (some ⟨tp,0,none⟩)),(1,.int .i64 bi),(5,.slice (some ⟨g1,0,none⟩) 1 1),(14,.int .i64 1),(15,.int .i64 (t:Int))]∧Mm w0 w [(g1,52,#[.int .u64 x])] []∧t≤1∧(t=0→x=0)∧(t=1→x=yJ u bi)) (fun|(t,x)=>1-t) (0,0) ⟨F.sub ⟨rfl,rfl,rfl,rfl,rfl,trivial⟩,M,auj _,⟨fun _=>rfl,fun h=>by cases h⟩⟩ ?_
 (repeat clear F);(repeat clear M)
 rintro⟨t,x⟩ _ _ ⟨F,M,ht,hx⟩;refine aus fun K5 nZ=>ah<|kz F rf (jf rfl (F.u rf) (F.u rf)) fun _ F=>aut<|nZ _ _ ?_
 refine aus fun K6 pN=>?_
 refine auu (F.e 16 rfl) (fun hc2=>?_) (fun hc2=>?_)
 ·have hd3:=of_decide_eq_true hc2;refine wp_skip<|pN _ _ ?_;refine aus fun K7 rR=>auw<|aus fun K8 wX=>?_
  have ht0:t=0:=by omega
  have F:=F.eq 15 rfl (congrArg (Value.int .i64) (show((t:Nat):Int)=0 by omega));refine ah<|xM F rf rf rf fun _ F=>xA F rf rf rf fun _ F=>aut<|wX _ _ ?_
  refine aus fun K9 yD=>aus fun WG lS=>ah<|xM (v:=.int .i64 0) F rf rf rf fun _ F=>aut<|lS _ _ ?_
  refine auw<|?_;refine eH (ι:=Nat×Int) (fun|(k,acc),a,w=>Fs a 50 [(0,.pointer (some ⟨tp,0,none⟩)),(1,.int .i64 bi),(5,.slice (some ⟨g1,0,none⟩) 1 1),(6,.int .i64 0),(14,.int .i64 1),(15,.int .i64 0),(18,.int .i64 (k:Int))]∧Mm w0 w [(g1,52,#[.int .u64 acc])] []∧k≤64∧acc=fT bi k) (fun|(k,acc)=>64-k) (0,x) ⟨F.sub ⟨rfl,rfl,rfl,rfl,rfl,rfl,rfl,trivial⟩,M,auj _,hx.1 ht0⟩ ?_
  (repeat clear F);(repeat clear M)
  rintro⟨k,acc⟩ _ _ ⟨F,M,hk,hacc⟩;refine aus fun Z7 qE=>ah<|kz F rf (jf rfl (F.u rf) rfl) fun _ F=>aut<|qE _ _ ?_
  refine aus fun Z6 pI=>?_
  refine auu (F.e 19 rfl) (fun Q_=>?_) (fun Q_=>?_)
  ·have Sq:=of_decide_eq_true Q_;refine wp_skip<|pI _ _ ?_;refine aus fun Z5 pH=>auw<|aus fun K14 tC=>ah<|xM F rf rf rf fun _ F=>xA F rf rf rf fun _ F=>aut<|tC _ _ ?_
   refine aus fun K15 rS=>ah<|xM F rf rf rf fun _ F=>
    ke (on rfl) (V6 rfl (F.u rf) rfl) rfl F rfl (congrArg (Value.int .i64) (wrap_i64 (by omega))) fun _ F=>
    xM F rf rf rf fun _ F=>
    ke (on rfl) (eV rfl (F.u rf) (F.u rf)) rfl F rfl (congrArg (Value.int .i64) (wrap_i64 (by omega))) fun _ F=>
    xM F rf rf rf fun _ F=>
    kz F rf (Pg rfl (F.u rf) (F.u rf) (by omega) (show _≤((64:Nat):Int) by omega)) fun _ F=>
    kz F rf (JX rfl (F.u rf) rfl) fun _ F=>
    kz F rf (Pj rfl (F.u rf) rfl) fun _ F=>
    aut<|
    rS _ _ ?_
   refine auu (F.e 28 rfl) (fun rQ=>?_) (fun rQ=>?_)
   ·have hd7:=of_decide_eq_true rQ;have hbit:jO bi k=true:=rQ;refine rd 8 [29,30,31,32,33,34,35,36] [bZ (.slice (some ⟨g1,0,none⟩) 1 1),bZ (.int .i64 0),bZ (.pointer (some ⟨g1,0,none⟩)),bZ (.int .u64 acc),bZ (.int .i64 (k:Int)),bZ (.int .u64 (IntKind.u64.wrap (1*2^((k:Int):Int).toNat))),bZ (.int .u64 (bits .or .u64 acc (IntKind.u64.wrap (1*2^((k:Int):Int).toNat)))),bZ (.pointer (some ⟨g1,0,none⟩))] (by kernel_rfl) (by kernel_rfl) (by kernel_rfl) rfl (by decide) rfl rfl F ⟨ak _,ak _,ak _,ak _,ak _,ak _,ak _,ak _,trivial⟩ ⟨?_,?_,?_,?_,?_,?_,?_,?_,trivial⟩ ?_
    ·exact fun a w Q' hf hi H G hK=>dv (on rfl) (cQ rfl (G 5 _ rfl (F.g 5 rfl)).ev) rfl hf rfl hK rfl
    ·exact fun a w Q' hf hi H G hK=>dv (on rfl) (cQ rfl (G 6 _ rfl (F.g 6 rfl)).ev) rfl hf rfl hK rfl
    ·exact fun a w Q' hf hi H G hK=>dv (on rfl) (bE (i:=0) rfl (iA (H 0 ⟨.data,by simp,rfl⟩ _ _ rfl rfl)).ev (iA (H 1 ⟨.data,by simp,rfl⟩ _ _ rfl rfl)).ev (by omega) Aq kf) rfl hf rfl hK rfl
    ·exact fun a w Q' hf hi H G hK=>dv (on rfl) (bW rfl (iA (H 2 ⟨.data,by simp,rfl⟩ _ _ rfl rfl)).ev Oi rfl (((M.keep hi).b 0 rfl).c1 0)) rfl hf rfl hK rfl
    ·exact fun a w Q' hf hi H G hK=>dv (on rfl) (cQ rfl (G 7 _ rfl (F.g 7 rfl)).ev) rfl hf rfl hK rfl
    ·exact fun a w Q' hf hi H G hK=>dv (on rfl) (j5 rfl rfl (iA (H 4 ⟨.data,by simp,rfl⟩ _ _ rfl rfl)).ev (by omega) (show _≤((64:Nat):Int) by omega)) rfl hf rfl hK rfl
    ·exact fun a w Q' hf hi H G hK=>dv (on rfl) (V3 rfl (iA (H 3 ⟨.data,by simp,rfl⟩ _ _ rfl rfl)).ev (iA (H 5 ⟨.data,by simp,rfl⟩ _ _ rfl rfl)).ev) rfl hf rfl hK rfl
    ·exact fun a w Q' hf hi H G hK=>dv (on rfl) (bE (i:=0) rfl (iA (H 0 ⟨.data,by simp,rfl⟩ _ _ rfl rfl)).ev (iA (H 1 ⟨.data,by simp,rfl⟩ _ _ rfl rfl)).ev (by omega) Aq kf) rfl hf rfl hK rfl
    (repeat clear F);intro _ _ CQ F D
    obtain⟨_,h,rfl⟩:=D 6 _ _ rfl rfl;have F:=F.add h;obtain⟨_,h,rfl⟩:=D 7 _ _ rfl rfl;have F:=F.add h;have M:=M.keep CQ;clear D CQ;intro Qt Vm;refine ks (on rfl) rfl (F.u rf) (F.u rf) F M 0 (cs':=#[.int .u64 (bits .or .u64 acc (IntKind.u64.wrap (1*2^((k:Int):Int).toNat)))]) rfl rfl rfl kf rfl (jm _ _ rfl) rfl rfl fun _ M=>aut (Vm _ _ ?_)
    refine pH _ _ ?_
    refine ah<|
     ke (on rfl) (eV rfl (F.u rf) rfl) rfl F rfl (congrArg (Value.int .i64) (wrap_i64 (by omega))) fun _ F=>
     xM F rf rf rf fun _ F=>
     aut<|?_
    exact⟨(k+1,bits .or .u64 acc (IntKind.u64.wrap (1*2^((k:Int):Int).toNat))),⟨F.sub ⟨rfl,rfl,rfl,rfl,rfl,rfl,rfl,trivial⟩,M,by omega,by rw[Cu hbit,← hacc]⟩,by show 64-(k+1)<64-k;omega⟩
   ·have hd8:=of_decide_eq_false rQ;have hbit:jO bi k=false:=rQ;refine wp_skip<|pH _ _ ?_
    refine ah<|
     ke (on rfl) (eV rfl (F.u rf) rfl) rfl F rfl (congrArg (Value.int .i64) (wrap_i64 (by omega))) fun _ F=>
     xM F rf rf rf fun _ F=>
     aut<|?_
    exact⟨(k+1,acc),⟨F.sub ⟨rfl,rfl,rfl,rfl,rfl,rfl,rfl,trivial⟩,M,by omega,by rw[Ep hbit,← hacc]⟩,by show 64-(k+1)<64-k;omega⟩
  ·have hd9:=of_decide_eq_false Q_;refine wp_exit<|yD _ _ ?_;refine rd 10 [38,39,40,41,42,43,44,45,46,47] [bZ (.slice (some ⟨g1,0,none⟩) 1 1),bZ (.int .i64 0),bZ (.pointer (some ⟨g1,0,none⟩)),bZ (.int .u64 acc),bZ (.pointer (some ⟨tp,0,none⟩)),bZ (.pointer (some ⟨tp,0,none⟩)),bZ (.pointer (some ⟨tp,18,none⟩)),bZ (.int .u64 u),bZ (.int .u64 (bits .and .u64 acc u)),bZ (.pointer (some ⟨g1,0,none⟩))] (by kernel_rfl) (by kernel_rfl) (by kernel_rfl) rfl (by decide) rfl rfl F ⟨ak _,ak _,ak _,ak _,ak _,ak _,ak _,ak _,ak _,ak _,trivial⟩ ⟨?_,?_,?_,?_,?_,?_,?_,?_,?_,?_,trivial⟩ ?_
   ·exact fun a w Q' hf hi H G hK=>dv (on rfl) (cQ rfl (G 5 _ rfl (F.g 5 rfl)).ev) rfl hf rfl hK rfl
   ·exact fun a w Q' hf hi H G hK=>dv (on rfl) (cQ rfl (G 6 _ rfl (F.g 6 rfl)).ev) rfl hf rfl hK rfl
   ·exact fun a w Q' hf hi H G hK=>dv (on rfl) (bE (i:=0) rfl (iA (H 0 ⟨.data,by simp,rfl⟩ _ _ rfl rfl)).ev (iA (H 1 ⟨.data,by simp,rfl⟩ _ _ rfl rfl)).ev (by omega) Aq kf) rfl hf rfl hK rfl
   ·exact fun a w Q' hf hi H G hK=>dv (on rfl) (bW rfl (iA (H 2 ⟨.data,by simp,rfl⟩ _ _ rfl rfl)).ev Oi rfl (((M.keep hi).b 0 rfl).c1 0)) rfl hf rfl hK rfl
   ·exact fun a w Q' hf hi H G hK=>dv (on rfl) (cQ rfl (G 0 _ rfl (F.g 0 rfl)).ev) rfl hf rfl hK rfl
   ·exact fun a w Q' hf hi H G hK=>dv (on rfl) (dJ rfl (iA (H 4 ⟨.data,by simp,rfl⟩ _ _ rfl rfl)).ev) rfl hf rfl hK rfl
   ·exact fun a w Q' hf hi H G hK=>dv (on rfl) (kN rfl (iA (H 5 ⟨.data,by simp,rfl⟩ _ _ rfl rfl)).ev yU rfl kf) rfl hf rfl hK rfl
   ·exact fun a w Q' hf hi H G hK=>dv (on rfl) (bW rfl (iA (H 6 ⟨.data,by simp,rfl⟩ _ _ rfl rfl)).ev Oi rfl ((cF (M.keep hi).below Sr) 18 _ rfl)) rfl hf rfl hK rfl
   ·exact fun a w Q' hf hi H G hK=>dv (on rfl) (JX rfl (iA (H 3 ⟨.data,by simp,rfl⟩ _ _ rfl rfl)).ev (iA (H 7 ⟨.data,by simp,rfl⟩ _ _ rfl rfl)).ev) rfl hf rfl hK rfl
   ·exact fun a w Q' hf hi H G hK=>dv (on rfl) (bE (i:=0) rfl (iA (H 0 ⟨.data,by simp,rfl⟩ _ _ rfl rfl)).ev (iA (H 1 ⟨.data,by simp,rfl⟩ _ _ rfl rfl)).ev (by omega) Aq kf) rfl hf rfl hK rfl
   (repeat clear F);intro _ _ CQ F D
   obtain⟨_,h,rfl⟩:=D 8 _ _ rfl rfl;have F:=F.add h;obtain⟨_,h,rfl⟩:=D 9 _ _ rfl rfl;have F:=F.add h;have M:=M.keep CQ;clear D CQ;intro Qt Vm;refine ks (on rfl) rfl (F.u rf) (F.u rf) F M 0 (cs':=#[.int .u64 (bits .and .u64 acc u)]) rfl rfl rfl kf rfl (jm _ _ rfl) rfl rfl fun _ M=>aut (Vm _ _ ?_)
   refine rR _ _ ?_;have F:=F.eq 15 rfl (congrArg (Value.int .i64) (show(0:Int)=((t:Nat):Int) by omega))
   refine ah<|
    ke (on rfl) (eV rfl (F.u rf) rfl) rfl F rfl (congrArg (Value.int .i64) (wrap_i64 (by omega))) fun _ F=>
    xM F rf rf rf fun _ F=>
    aut<|?_
   exact⟨(t+1,bits .and .u64 acc u),⟨F.sub ⟨rfl,rfl,rfl,rfl,rfl,trivial⟩,M,by omega,⟨fun h=>by omega,fun _=>by rw[show k=64 by omega] at hacc;rw[hacc];rfl⟩⟩,by show 1-(t+1)<1-t;omega⟩
 ·have aeM:=of_decide_eq_false hc2;refine wp_exit<|nh _ _ ?_;refine aus fun K16 Fy=>ah<|xM F rf rf rf fun _ F=>xA F rf rf rf fun _ F=>aut<|Fy _ _ ?_
  refine wp_ret<|bL _ _ _ _ F rfl ?_;exact⟨_,rfl,⟨_,rfl,(by have hW:=M.b 0 rfl;rw[hx.2 (by omega)] at hW;exact hW),M.lo _ (aul (i:=0) rfl)⟩,M.below⟩
theorem cst{B:Nat}{w0 w:World}{bs:List Bx}{rs:List Rw}{X:Prop}{f:FuncId}{args:Array Value}{x:Int}{K:Value→List Bx→List Rw→World→Prop}(M:aY B w0 w bs rs)
 (hc:Calls Tryz.prog f args w fun r w'=>∃ v,r=.returned v∧(bT w' w.heap.size v x∧aui w.heap.size w w')) (h:∀ g w',aY B w0 w' ((g,52,#[.int .u64 x])::bs) rs→K (.slice (some ⟨g,0,none⟩) 1 1) ((g,52,#[.int .u64 x])::bs) rs w') :
 X∨∃ R:Value→World→Prop,(Calls Tryz.prog f args w fun e w'=>∃ v,e=.returned v∧R v w')∧∀ v w',R v w'→∃ bs' rs',aY B w0 w' bs' rs'∧K v bs' rs' w':=
 .inr ⟨_,hc,fun v w' ⟨⟨g,e,hW,hg⟩,hb⟩=>by subst e;exact⟨_,_,M.newAt hb hW hg,h g w' (M.newAt hb hW hg)⟩⟩
theorem mz1{B:Nat}{w0 w:World}{bs:List Bx}{rs:List Rw}{t e ty b:Nat}{z:Value}{x y:Operand}{κ κ':IntKind}{K:Value→List Bx→List Rw→World→Prop}(M:aY B w0 w bs rs)(hu:Tryz.prog.underlying t=some (.slice e))(hi:iP (Tryz.prog.info? e) 1 b=true)(hz:(Tryz.prog.info? e).bind (·.zero)=some z)(h1:z.cells=#[z])(hb:b≤281474976710656)
 (h:∀ g w',aY B w0 w' ((g,e,#[z])::bs) rs→K (.slice (some ⟨g,0,none⟩) 1 1) ((g,e,#[z])::bs) rs w') (he:Nat.blt e 9000=true:=by rfl) :
 ∃ R:Value→World→Prop,(∀ (a:Act) (o':Oper),o'.op=.makeSlice t x y→o'.type=ty→vJ a [x,y] [.int κ 1,.int κ' 1]→∃ v w',(execOp a.eval o').run Tryz.prog w=.ok (.value v) w'∧R v w')∧∀ v w',R v w'→∃ bs' rs',aY B w0 w' bs' rs'∧K v bs' rs' w':=by
 refine⟨fun v w'=>v=.slice (some ⟨w.heap.size,0,none⟩) 1 1∧w'=w.alloc (.cells #[z] e),fun a o' ho _ ou=>⟨_,_,zU ho (kB ou) (qX ou) hu hi hz h1 hb,rfl,rfl⟩,?_⟩;rintro v w' ⟨rfl,rfl⟩;have M':=M.newAt (w':=w.alloc (.cells #[z] e)) ((Below.refl _ w).alloc (Nat.le_refl _) _) (Whole.new w e #[z]) (Nat.le_refl _) he;exact⟨_,_,M',h _ _ M'⟩
section
variable {u:Int} {n:Nat} {e:aq}
theorem PY{n:Nat}{op a:Int}{k:Nat}(h:dG n op a k=false):(k:Int)=qp op∧(op=1→0≤a∧a<n):=by
 unfold dG at h;simp only[Bool.or_eq_false_iff,Bool.not_eq_false',decide_eq_true_eq,Bool.and_eq_false_iff,decide_eq_false_iff_not] at h;refine⟨h.1,fun ho=>?_⟩;rcases h.2 with h2|h2
 ·exact absurd ho h2
 ·omega
theorem Xc(h:dG n e.op e.a e.kids.length=true):bN u n e=0:=by
 rw[tW,Lp,pS,if_pos h]
theorem Tj(h:dG n e.op e.a e.kids.length=false)(h1:e.op=1):bN u n e=yJ u e.a:=by
 rw[tW,Lp,pS,if_neg (by rw[h];decide),if_pos h1]
theorem Xa{y:aq}(h:dG n e.op e.a e.kids.length=false)(h2:e.op=2)(hy:e.kids[0]?=some y):bN u n e=notM u (bN u n y):=by
 rw[tW,Lp,pS,if_neg (by rw[h];decide),if_neg (by omega),if_pos h2,tX _ _ _ _ hy]
theorem Xb{y z:aq}(h:dG n e.op e.a e.kids.length=false)(h1:e.op≠1)(h2:e.op≠2)(hy:e.kids[0]?=some y)(hz:e.kids[1]?=some z):bN u n e=Dm u e.op (bN u n y) (bN u n z):=by
 rw[tW,Lp,pS,if_neg (by rw[h];decide),if_neg h1,if_neg h2,tX _ _ _ _ hy,tX _ _ _ _ hz]
end
theorem zL(w0:World)(tp mb:Nat)(c0 c1 c2 c3 c4 c6 c7 c8 c9 aV aP aO aU aT aS aR:Value)(g_:Option Addr)(nB gZ:Nat)(u:Int)(hT:qV w0 tp mb c0 c1 c2 c3 c4 (.slice g_ nB gZ) c6 c7 c8 c9 aV aP aO aU aT aS aR u)(sg:Nat)(sx:Int)(hs:Whole w0 sg 52 #[.int .u64 sx]):Calls Tryz.prog 175 #[.pointer (some ⟨tp,0,none⟩),.slice (some ⟨sg,0,none⟩) 1 1] w0 (fun(r:Ending) (w':World)=>∃ v,r=.returned v∧((bT w' w0.heap.size v (notM u sx))∧aui w0.heap.size w0 w')):=by
 refine cL [] (fn:=Tryz.f175) Tryz.func175 rfl Tryz.ntmps175 rfl<|lc (x:=.int .i64 1)<|an (hT.cell 17)<|mz1 (Mm.start w0) Aq Jp Sz rfl (by decide) fun g w1 M1=>lp (ι:=Nat×Int) (fun(t,x)=>[(14,.int .i64 (t:Int))]) (fun(t,x)=>[(g,52,#[.int .u64 x])]) (fun _=>[]) (fun(t,x) _=>t≤1∧(t=1→x=notM u sx)) (fun(t,x)=>1-t) (0,0) (an ⟨⟨rfl,trivial⟩,fun M=>⟨M,auj _,fun h=>by cases h⟩⟩ ?_)
 rintro⟨t,x⟩ w M ⟨ht,hx⟩;refine an (fun h=>?_) fun h M=>?_
 ·obtain rfl:t=0:=by simp at h;omega
  refine dr (by kernel_rfl)<|ia (i:=0)<|an ⟨rfl,rfl,by decide⟩<|lc (x:=.int .u64 sx)<|an (auy M.below ((Whole.cell hs) 0))<|ei (x:=.int .u64 (bits .xor .u64 18446744073709551615 sx))<|an (fun a w o ho hv=>Pm ho (kB hv))<|lc (x:=.int .u64 u)<|an (auy M.below (hT.cell 18))<|ei (x:=bits .and .u64 (bits .xor .u64 18446744073709551615 sx) u)<|an rfl<|ia (i:=0)<|an ⟨rfl,rfl,by decide⟩<|fun w hb M=>?_
  exact lb 0<|an ⟨⟨rfl,rfl⟩,Nat.le_refl _⟩ fun w M=>an (by omega)<|bk (1,notM u sx) ⟨rfl,trivial⟩ (fun M=>⟨M,by omega,fun _=>rfl⟩) (by dsimp only;omega)
 ·obtain rfl:=hx (by simp at h;omega);exact⟨_,rfl,⟨_,rfl,M.b 0 rfl,M.lo _ (aul (i:=0) rfl)⟩,M.below⟩
theorem vS:∀ e:aq,∀ (w0:World) (cs:List Value) (tp mb:Nat) (c0 c1 c2 c3 c4 c6 c7 c8 c9 aV aP aO aU aT aS aR:Value) (g_:Option Addr) (nB gZ:Nat) (u:Int) (_:nB≤5),qV w0 tp mb c0 c1 c2 c3 c4 (.slice g_ nB gZ) c6 c7 c8 c9 aV aP aO aU aT aS aR u→bf w0 cs e→Calls Tryz.prog 173 #[.pointer (some ⟨tp,0,none⟩),.agg cs.toArray] w0 (fun(r:Ending) (w':World)=>∃ v,r=.returned v∧((bT w' w0.heap.size v (bN u nB e))∧aui w0.heap.size w0 w')):=by
 refine aq.ind fun e ih=>?_
 intro w0 cs tp mb c0 c1 c2 c3 c4 c6 c7 c8 c9 aV aP aO aU aT aS aR g_ nB gZ u hn hT h;obtain⟨nv,kv,rfl,-,hk⟩:=h.open;obtain⟨_,_,rfl,-,CP,-⟩:=au.form hk (by decide);refine cL [] (fn:=Tryz.f173) Tryz.func173 rfl Tryz.ntmps173 rfl<|fun g1 w1 M1=>dr (by kernel_rfl)<|lb 0<|an rfl<|lb 0<|an rfl<|cl<|an (fun w' hb M'=>E9 w' e.op)<|lb 0<|an (fun _=>rfl)<|lb 0<|an (fun _=>rfl)<|lb 0<|an (fun _=>rfl)<|lc (x:=.slice g_ nB gZ)<|an (fun _=>auy M1.below (hT.cell 5))<|fun w2 hb2 M2=>an (fun h1=>?_) fun h1=>?_
 ·exact lc (x:=.int .i64 1)<|an (auy M2.below (hT.cell 17))<|mz1 M2 Aq Jp Sz rfl (by decide) fun g w M M=>⟨_,rfl,⟨_,rfl,by have hW:=M.b 0 rfl;rw[Xc h1];exact hW,M.lo _ (aul (i:=0) rfl)⟩,M.below⟩
 have h1:dG nB e.op e.a e.kids.length=false:=h1;obtain⟨hv1,hv2⟩:=PY h1;refine lb 0<|an rfl<|an (fun h2=>?_) fun h2=>?_
 ·have h2:e.op=1:=by simpa using h2
  exact lb 0<|an rfl<|cst M2 (Km _ tp mb _ _ _ _ _ _ _ _ _ _ _ _ _ _ _ _ g_ nB gZ u (Whole.under M2.below hT hT.lt) e.a (by omega) (by omega)) fun g w M M=>⟨_,rfl,⟨_,rfl,by have hW:=M.b 0 rfl;rw[Tj h1 h2];exact hW,M.lo _ (aul (i:=0) rfl)⟩,M.below⟩
 have h2:¬ e.op=1:=by simpa using h2
 have U_:0<e.kids.length:=by unfold qp at hv1;split at hv1<;>(try split at hv1)<;>omega
 obtain⟨y,hy⟩:∃ y,e.kids[0]?=some y:=⟨_,auk U_⟩;obtain⟨b,o,_,e1,hE,hc⟩:=au.elt hk (by decide) hy;obtain⟨nv',kv',rfl,-⟩:=hE.open;refine lb 0<|an rfl<|ia (i:=0)<|an ⟨e1,rfl,U_⟩<|lc<|an (cF M2.below hc)<|cst M2 (ih y (aul hy) _ _ tp mb _ _ _ _ _ _ _ _ _ _ _ _ _ _ _ _ g_ nB gZ u hn (Whole.under M2.below hT hT.lt) (hE.keep M2.below)) fun gy w3 M3=>lb 1<|an rfl<|an (fun h3=>?_) fun h3=>?_
 ·exact cst M3 (zL _ tp mb _ _ _ _ _ _ _ _ _ _ _ _ _ _ _ _ g_ nB gZ u (Whole.under M3.below hT hT.lt) gy _ (M3.b 0 rfl)) fun g w M M=>⟨_,rfl,⟨_,rfl,by have hW:=M.b 0 rfl;rw[Xa h1 (by simpa using h3) hy];exact hW,M.lo _ (aul (i:=0) rfl)⟩,M.below⟩
 have h3:¬ e.op=2:=by simpa using h3
 have hlz:1<e.kids.length:=by unfold qp at hv1;split at hv1<;>(try split at hv1)<;>omega
 obtain⟨z,hz⟩:∃ z,e.kids[1]?=some z:=⟨_,auk hlz⟩;obtain⟨bz,oz,_,e2,ZF,hcz⟩:=au.elt hk (by decide) hz;obtain⟨nvz,kvz,rfl,-⟩:=ZF.open;refine lb 1<|an rfl<|ia (i:=1)<|an ⟨e2,rfl,hlz⟩<|lc<|an (cF M3.below hcz)<|cst M3 (ih z (aul hz) _ _ tp mb _ _ _ _ _ _ _ _ _ _ _ _ _ _ _ _ g_ nB gZ u hn (Whole.under M3.below hT hT.lt) (ZF.keep M3.below)) fun gz w4 M4=>lp (ι:=Nat×Int) (fun(t,x)=>[(68,.int .i64 (t:Int))]) (fun(t,x)=>_::(gy,52,#[.int .u64 x])::_) (fun _=>[]) (fun(t,x) _=>t≤1∧(t=0→x=bN u nB y)∧(t=1→x=Dm u e.op (bN u nB y) (bN u nB z))) (fun(t,x)=>1-t) (0,bN u nB y) (an ⟨⟨rfl,trivial⟩,fun M=>⟨M,by decide,fun _=>rfl,fun h=>by cases h⟩⟩ ?_)
 rintro⟨t,x⟩ w M ⟨ht,hx0,hx1⟩;refine an (fun h=>?_) fun h M=>⟨_,rfl,⟨_,rfl,by have hW:=M.b 1 rfl;rw[Xb h1 h2 h3 hy hz,← hx1 (by simp at h;omega)];exact hW,M.lo _ (aul (i:=1) rfl)⟩,M.below⟩
 obtain rfl:t=0:=by simp at h;omega
 obtain rfl:=hx0 rfl;refine lb 2<|an rfl<|an (fun h4=>?_) fun h4=>an (fun h5=>?_) fun h5=>an (fun h6=>?_) fun h6=>?_
 all_goals simp only[decide_eq_true_eq,decide_eq_false_iff_not] at *
 ·exact dr (by kernel_rfl)<|ia (i:=0)<|an ⟨rfl,rfl,by decide⟩<|lb 1<|an rfl<|ia (i:=0)<|an ⟨rfl,rfl,by decide⟩<|lb 0<|an rfl<|ei (x:=bits .and .u64 (bN u nB y) (bN u nB z))<|an rfl<|ia (i:=0)<|an ⟨rfl,rfl,by decide⟩<|fun w hb M=>lb 1<|an ⟨⟨rfl,rfl⟩,Nat.le_refl _⟩ fun w M=>an (by omega)<|bk (1,bits .and .u64 (bN u nB y) (bN u nB z)) ⟨rfl,trivial⟩ (fun M=>⟨M,by omega,(fun h=>by cases h),fun _=>by unfold Dm;rw[if_pos h4]⟩) (by dsimp only;omega)
 ·exact dr (by kernel_rfl)<|ia (i:=0)<|an ⟨rfl,rfl,by decide⟩<|lb 1<|an rfl<|ia (i:=0)<|an ⟨rfl,rfl,by decide⟩<|lb 0<|an rfl<|ei (x:=bits .or .u64 (bN u nB y) (bN u nB z))<|an rfl<|ia (i:=0)<|an ⟨rfl,rfl,by decide⟩<|fun w hb M=>lb 1<|an ⟨⟨rfl,rfl⟩,Nat.le_refl _⟩ fun w M=>an (by omega)<|bk (1,bits .or .u64 (bN u nB y) (bN u nB z)) ⟨rfl,trivial⟩ (fun M=>⟨M,by omega,(fun h=>by cases h),fun _=>by unfold Dm;rw[if_neg h4,if_pos h5]⟩) (by dsimp only;omega)
 ·exact dr (by kernel_rfl)<|ia (i:=0)<|an ⟨rfl,rfl,by decide⟩<|lb 1<|an rfl<|ia (i:=0)<|an ⟨rfl,rfl,by decide⟩<|lb 0<|an rfl<|ei (x:=bits .xor .u64 (bN u nB y) (bN u nB z))<|an rfl<|ei (x:=.int .u64 (bits .xor .u64 18446744073709551615 (bits .xor .u64 (bN u nB y) (bN u nB z))))<|an (fun a w o ho hv=>Pm ho (kB hv))<|lc (x:=.int .u64 u)<|an (auy M.below (hT.cell 18))<|ei (x:=bits .and .u64 (bits .xor .u64 18446744073709551615 (bits .xor .u64 (bN u nB y) (bN u nB z))) u)<|an rfl<|ia (i:=0)<|an ⟨rfl,rfl,by decide⟩<|fun w hb M=>lb 1<|an ⟨⟨rfl,rfl⟩,Nat.le_refl _⟩ fun w M=>an (by omega)<|bk (1,bits .and .u64 (bits .xor .u64 18446744073709551615 (bits .xor .u64 (bN u nB y) (bN u nB z))) u) ⟨rfl,trivial⟩ (fun M=>⟨M,by omega,(fun h=>by cases h),fun _=>by unfold Dm;rw[if_neg h4,if_neg h5,if_pos h6]⟩) (by dsimp only;omega)
 ·exact dr (by kernel_rfl)<|ia (i:=0)<|an ⟨rfl,rfl,by decide⟩<|lb 1<|an rfl<|ia (i:=0)<|an ⟨rfl,rfl,by decide⟩<|lb 0<|an rfl<|ei (x:=bits .xor .u64 (bN u nB y) (bN u nB z))<|an rfl<|ia (i:=0)<|an ⟨rfl,rfl,by decide⟩<|fun w hb M=>lb 1<|an ⟨⟨rfl,rfl⟩,Nat.le_refl _⟩ fun w M=>an (by omega)<|bk (1,bits .xor .u64 (bN u nB y) (bN u nB z)) ⟨rfl,trivial⟩ (fun M=>⟨M,by omega,(fun h=>by cases h),fun _=>by unfold Dm;rw[if_neg h4,if_neg h5,if_neg h6]⟩) (by dsimp only;omega)
theorem one_cell{w:World}{g:Nat}{x:Value}(hs:w.cell? ⟨g,0,none⟩=some x):∀ j uu,[x][j]?=some uu→w.cell? ⟨g,0+j,none⟩=some uu:=fun j u hu=>by
 match j with
 | 0=>
  obtain rfl:x=u:=by simpa using hu
  exact hs
 | j+1=>simp at hu
def Za(x:Int):Int:=if x=0 then -1 else 0
theorem aaP(x:Int):(!decide (0≤Za x))=decide (x=0):=by
 unfold Za;by_cases h:x=0
 ·rw[if_pos h];simp[h]
 ·rw[if_neg h];simp[h]
theorem QF(w0:World)(sx:Int):Calls Tryz.prog 223 #[.int .u64 sx] w0 (fun(r:Ending) (w':World)=>r=.returned (.bool (!decide (sx=0)))∧aui w0.heap.size w0 w'):=by
 have bL:=hr1 Tryz.prog Tryz.f223 (fun(r:Ending) (w':World)=>r=.returned (.bool (!decide (sx=0)))∧aui w0.heap.size w0 w') 5 2 rfl;refine en Tryz.func223 rfl Tryz.ntmps223 rfl (vs:=[.int .u64 sx]) rfl fun _ F=>?_
 have M:=Mm.start w0;refine aus fun K1 gV=>ah<|xA (v:=.bool false) F rf rf rf fun _ F=>aut<|gV _ _ ?_
 refine aus fun K2 h_=>ah<|xM F rf rf rf fun _ F=>kz F rf (V5 rfl (F.u rf) rfl) fun _ F=>xA F rf rf rf fun _ F=>aut<|h_ _ _ ?_
 refine wp_ret<|bL _ _ _ _ F rfl ?_;exact⟨rfl,M.below⟩
theorem QD(w0:World)(sg ck:Nat)(sx:Int)(hs:w0.cell? ⟨sg,0,none⟩=some (.int .u64 sx)):Calls Tryz.prog 266 #[.slice (some ⟨sg,0,none⟩) 1 ck,.func (.func 223) #[] #[]] w0 (fun(r:Ending) (w':World)=>r=.returned (.int .i64 (Za sx))∧aui w0.heap.size w0 w'):=by
 have hSG:=one_cell hs;have bL:=hr1 Tryz.prog Tryz.f266 (fun(r:Ending) (w':World)=>r=.returned (.int .i64 (Za sx))∧aui w0.heap.size w0 w') 19 4 rfl;refine en Tryz.func266 rfl Tryz.ntmps266 rfl (vs:=[.slice (some ⟨sg,0,none⟩) 1 ck,.func (.func 223) #[] #[]]) rfl fun _ F=>?_
 have M:=Mm.start w0;refine aus fun K1 gV=>ah<|xA (v:=.int .i64 0) F rf rf rf fun _ F=>aut<|gV _ _ ?_
 refine aus fun K2 h_=>aus fun K3 nh=>ah<|xM F rf rf rf fun _ F=>kz F rf (fQ rfl (F.u rf) Aq) fun _ F=>xM (v:=.int .i64 0) F rf rf rf fun _ F=>aut<|nh _ _ ?_
 refine auw<|?_;refine eH (ι:=Nat) (fun t a w=>Fs a 19 [(0,.slice (some ⟨sg,0,none⟩) 1 ck),(1,.func (.func 223) #[] #[]),(7,.int .i64 1),(8,.int .i64 (t:Int))]∧Mm w0 w [] []∧t≤1∧(t=1→sx=0)) (fun t=>1-t) 0 ⟨F.sub ⟨rfl,rfl,rfl,rfl,trivial⟩,M,auj _,fun h=>by cases h⟩ ?_
 (repeat clear F);(repeat clear M)
 rintro t _ _ ⟨F,M,ht,hz⟩;refine aus fun K4 n_=>ah<|kz F rf (jf rfl (F.u rf) (F.u rf)) fun _ F=>aut<|n_ _ _ ?_
 refine aus fun K5 nZ=>?_
 refine auu (F.e 9 rfl) (fun hc1=>?_) (fun hc1=>?_)
 ·have hd2:=of_decide_eq_true hc1;refine wp_skip<|nZ _ _ ?_;refine aus fun K6 pN=>auw<|aus fun K7 rR=>?_
  have F:=F.eq 8 rfl (congrArg (Value.int .i64) (show((t:Nat):Int)=0 by omega));refine ah<|xM F rf rf rf fun _ F=>xA F rf rf rf fun _ F=>aut<|rR _ _ ?_
  refine aus fun K8 wX=>ah<|xM F rf rf rf fun _ F=>xM F rf rf rf fun _ F=>xM F rf rf rf fun _ F=>
   ke (u:=.pointer (some ⟨sg,0,none⟩)) (on rfl) (bE (i:=0) rfl (F.u rf) (F.u rf) (by omega) Aq kf) rfl F rfl rfl fun _ F=>
   kz F rf (bW rf (F.u rf) Oi rfl ((cF M.below hSG) 0 _ rfl)) fun _ F=>
   kc (on rfl) (FV rfl (F.u rf) Tryz.func223 (by kernel_rfl) rfl (args:=#[.int .u64 sx]) (by simp[(F.e 15 rfl)])) (QF _ sx) rfl F rfl M fun _ _ F M=>
   aut<|
   wX _ _ ?_
  refine auu (F.e 16 rfl) (fun hc3=>?_) (fun hc3=>?_)
  ·have Vf:=of_decide_eq_false (show decide (sx=0)=false by simpa using hc3);have hk5:(decide (sx=0))=false:=by simpa using hc3
   refine aus fun K9 yD=>ah<|xM F rf rf rf fun _ F=>xA F rf rf rf fun _ F=>aut<|yD _ _ ?_
   refine wp_ret<|bL _ _ _ _ F rfl ?_;exact⟨dQ (by unfold Za;rw[if_neg (by omega)]),M.below⟩
  ·have hd6:=of_decide_eq_true (show decide (sx=0)=true by simpa using hc3);have hk7:(decide (sx=0))=true:=by simpa using hc3
   refine wp_skip<|pN _ _ ?_;have F:=F.eq 8 rfl (congrArg (Value.int .i64) (show(0:Int)=((t:Nat):Int) by omega))
   refine ah<|
    ke (on rfl) (eV rfl (F.u rf) rfl) rfl F rfl (congrArg (Value.int .i64) (wrap_i64 (by omega))) fun _ F=>
    xM F rf rf rf fun _ F=>
    aut<|?_
   exact⟨t+1,⟨F.sub ⟨rfl,rfl,rfl,rfl,trivial⟩,M,by omega,fun _=>by omega⟩,by show 1-(t+1)<1-t;omega⟩
 ·have hd8:=of_decide_eq_false hc1;refine wp_exit<|h_ _ _ ?_;refine aus fun WG lS=>ah<|xA (v:=.int .i64 (-1)) F rf rf rf fun _ F=>aut<|lS _ _ ?_
  refine wp_ret<|bL _ _ _ _ F rfl ?_;exact⟨dQ (by have:=hz (by omega);unfold Za;rw[if_pos this]),M.below⟩
theorem QE(w0:World)(sg ck:Nat)(sx:Int)(hs:w0.cell? ⟨sg,0,none⟩=some (.int .u64 sx)):Calls Tryz.prog 222 #[.slice (some ⟨sg,0,none⟩) 1 ck,.func (.func 223) #[] #[]] w0 (fun(r:Ending) (w':World)=>r=.returned (.bool (decide (0≤Za sx)))∧aui w0.heap.size w0 w'):=by
 have bL:=hr1 Tryz.prog Tryz.f222 (fun(r:Ending) (w':World)=>r=.returned (.bool (decide (0≤Za sx)))∧aui w0.heap.size w0 w') 9 4 rfl;refine en Tryz.func222 rfl Tryz.ntmps222 rfl (vs:=[.slice (some ⟨sg,0,none⟩) 1 ck,.func (.func 223) #[] #[]]) rfl fun _ F=>?_
 have M:=Mm.start w0;refine aus fun K1 gV=>ah<|xA (v:=.bool false) F rf rf rf fun _ F=>aut<|gV _ _ ?_
 refine aus fun K2 h_=>ah<|xM F rf rf rf fun _ F=>xM F rf rf rf fun _ F=>xC F M rf rf agZ (args2 (F.u rf) (F.u rf)) (QD _ sg ck sx (auy M.below hs)) fun _ _ F M=>kz F rf (JW rfl (F.u rf) rfl) fun _ F=>xA F rf rf rf fun _ F=>aut<|h_ _ _ ?_
 refine wp_ret<|bL _ _ _ _ F rfl ?_;exact⟨rfl,M.below⟩
theorem Ba(w0:World)(sg ck:Nat)(sx:Int)(hs:w0.cell? ⟨sg,0,none⟩=some (.int .u64 sx)):Calls Tryz.prog 150 #[.slice (some ⟨sg,0,none⟩) 1 ck] w0 (fun(r:Ending) (w':World)=>r=.returned (.bool (decide (sx=0)))∧aui w0.heap.size w0 w'):=by
 have bL:=hr1 Tryz.prog Tryz.f150 (fun(r:Ending) (w':World)=>r=.returned (.bool (decide (sx=0)))∧aui w0.heap.size w0 w') 6 2 rfl;refine en Tryz.func150 rfl Tryz.ntmps150 rfl (vs:=[.slice (some ⟨sg,0,none⟩) 1 ck]) rfl fun _ F=>?_
 have M:=Mm.start w0;refine aus fun K1 gV=>ah<|xA (v:=.bool false) F rf rf rf fun _ F=>aut<|gV _ _ ?_
 refine aus fun K2 h_=>ah<|xM F rf rf rf fun _ F=>xC F M rf rf ag1 (args2 (F.u rf) rfl) (QE _ sg ck sx (auy M.below hs)) fun _ _ F M=>kz F rf (pq rfl (F.u rf)) fun _ F=>xA F rf rf rf fun _ F=>aut<|h_ _ _ ?_
 refine wp_ret<|bL _ _ _ _ F rfl ?_;exact⟨aD (aaP sx),M.below⟩
def eW(u:Int)(n:Nat)(conds:List aq)(k:Int):Int:=
 if 0<k∧k≤conds.length then (match conds[(k-1).toNat]? with|some e=>bN u n e|none=>0)
 else if k<0∧0-(conds.length:Int)≤k then notM u (match conds[(0-k-1).toNat]? with|some e=>bN u n e|none=>0)
 else notM u 0
theorem YP{u:Int}{n:Nat}{conds:List aq}{k:Int}{e:aq}{m:Nat}(h1:0<k)(h2:k≤conds.length)(hm:(m:Int)=k-1)(he:conds[m]?=some e):eW u n conds k=bN u n e:=by
 unfold eW;rw[if_pos ⟨h1,h2⟩,← hm,Int.toNat_natCast,he]
theorem YQ{u:Int}{n:Nat}{conds:List aq}{k:Int}{e:aq}{m:Nat}(h1:k<0)(h2:0-(conds.length:Int)≤k)(hm:(m:Int)=0-k-1)(he:conds[m]?=some e):eW u n conds k=notM u (bN u n e):=by
 unfold eW;rw[if_neg (by omega),if_pos ⟨h1,h2⟩,← hm,Int.toNat_natCast,he]
theorem YR{u:Int}{n:Nat}{conds:List aq}{k:Int}(h1:¬ (0<k∧k≤conds.length))(h2:¬ (k<0∧0-(conds.length:Int)≤k)):eW u n conds k=notM u 0:=by
 unfold eW;rw[if_neg h1,if_neg h2]
structure gh (w:World) (base tp mb:Nat) (c0 c1 c2 c3 c4 c5 c6 c7 c8 c9 aV aP aO aU aT aS aR:Value) (u:Int) (act:Int→Int):Prop where
 box:qV w tp mb c0 c1 c2 c3 c4 c5 c6 c7 c8 c9 aV aP aO aU aT aS aR u
 map:∃ L,aX w Tryz.prog 3 mb (L.map ival)∧∀ k v,jI L k=some v→bT w base v (act k)
 lo:base≤tp∧base≤mb
section
variable {w w':World} {base tp mb:Nat} {c0 c1 c2 c3 c4 c5 c6 c7 c8 c9 aV aP aO aU aT aS aR:Value} {u:Int} {act:Int→Int}
theorem gh.keep(h:gh w base tp mb c0 c1 c2 c3 c4 c5 c6 c7 c8 c9 aV aP aO aU aT aS aR u act)(hb:aui w.heap.size w w'):gh w' base tp mb c0 c1 c2 c3 c4 c5 c6 c7 c8 c9 aV aP aO aU aT aS aR u act:=by
 obtain⟨h1,⟨L,h2,h3⟩,h4⟩:=h;exact⟨Whole.under hb h1 h1.lt,⟨L,h2.kept (hb.block _ h2.lt),fun k v hk=>(h3 k v hk).keep hb⟩,h4⟩
theorem gh.lt(h:gh w base tp mb c0 c1 c2 c3 c4 c5 c6 c7 c8 c9 aV aP aO aU aT aS aR u act):base≤w.heap.size:=auv h.lo.1 (Nat.le_of_lt h.box.lt)
theorem bT.turn{v:Value}{x:Int}{D:List (Value×Value)}(h:bT w base v x)(hm:aX w Tryz.prog 3 mb D)(hg:w.grownBy w' (some mb)):bT w' base v x:=by
 obtain⟨g,e,hw,hl⟩:=h;exact⟨g,e,hw.grown hg fun e2=>gP hw hm (auq e2),hl⟩
theorem bT.low{v:Value}{x:Int}{b:Nat}(h:bT w base v x)(hb:b≤base):bT w b v x:=by
 obtain⟨g,e,hw,hl⟩:=h;exact⟨g,e,hw,auv hb hl⟩
theorem G2{w0:World}{L:List (Int×Value)}{k:Int}{v:Value}(hT:qV w0 tp mb c0 c1 c2 c3 c4 c5 c6 c7 c8 c9 aV aP aO aU aT aS aR u)(hM:aX w0 Tryz.prog 3 mb (L.map ival))(hL:∀ k v,jI L k=some v→bT w0 base v (act k))(hlo:base≤tp∧base≤mb)(hb:aui w0.heap.size w0 w)
 (O4:aX w' Tryz.prog 3 mb (((k,v)::gX L k).map ival)) (hg:w.grownBy w' (some mb)) (hv:bT w w0.heap.size v (act k)):bT w' base v (act k)∧gh w' base tp mb c0 c1 c2 c3 c4 c5 c6 c7 c8 c9 aV aP aO aU aT aS aR u act∧St [mb] w0 w':=by
 have hMw:=hM.kept (hb.block _ hM.lt);have hTw:qV w tp mb c0 c1 c2 c3 c4 c5 c6 c7 c8 c9 aV aP aO aU aT aS aR u:=Whole.under hb hT hT.lt;have hs:bT w' base v (act k):=(hv.low (auv hlo.1 (Nat.le_of_lt hT.lt))).turn hMw hg;refine⟨hs,⟨Whole.grown hTw hg fun e=>gP hTw hMw (auq e),⟨_,O4,fun j x hj=>?_⟩,hlo⟩,gB _ _ _ _ (iy _ _ _ hb) (St.grown hg (aun.2 rfl))⟩;rw[zN] at hj;by_cases e:j=k
 ·rw[if_pos e] at hj;rw[e,← auq hj];exact hs
 ·rw[if_neg e] at hj;exact((hL j x hj).keep hb).turn hMw hg
end
theorem PA{p q:Prop}[Decidable p][Decidable q](h:(decide p&&decide q)=true):p∧q:=by simpa using h
theorem Kt{p q:Prop}[Decidable p][Decidable q](h:(decide p&&decide q)=false):¬ (p∧q):=by simpa using h
def KI(r:aj):Int:=if r.kind=4 then 0 else r.cond
theorem tP(w0:World)(base tp mb:Nat)(c0 c1 c2 c3 c4 c6 c7 c8 c9 aV aP aO aU aT aS aR:Value)(g_:Option Addr)(nB gZ:Nat)(u:Int)(conds:List aq)(hn:nB≤5)(hE:mq w0 c8 conds)(hcl:conds.length≤1000)(k:Int)(hk:iR k)(hTT:gh w0 base tp mb c0 c1 c2 c3 c4 (.slice g_ nB gZ) c6 c7 c8 c9 aV aP aO aU aT aS aR u (eW u nB conds)):Calls Tryz.prog 149 #[.pointer (some ⟨tp,0,none⟩),.int .i64 k] w0 (fun(r:Ending) (w':World)=>∃ v,r=.returned v∧(bT w' base v (eW u nB conds k)∧gh w' base tp mb c0 c1 c2 c3 c4 (.slice g_ nB gZ) c6 c7 c8 c9 aV aP aO aU aT aS aR u (eW u nB conds)∧St [mb] w0 w')):=by
 obtain⟨la8,lk8,rfl,hk8,hm8,Fv⟩:=au.form hE (by decide);obtain⟨hT,⟨L,hM,hL⟩,hlo⟩:=hTT;have Sr:∀ j uu,[c0,c1,c2,c3,c4,.slice g_ nB gZ,c6,c7,.slice la8 conds.length lk8,c9,aV,aP,aO,aU,aT,aS,aR,.int .i64 1,.int .u64 u,(.map (some mb))][j]?=some uu→w0.cell? ⟨tp,0+j,none⟩=some uu:=fun j u hu=>by rw[Nat.zero_add];exact(Whole.cell hT j).trans (by simpa using hu)
 have hk1:=hk.1;have hk2:=hk.2;have bL:=hr1 Tryz.prog Tryz.f149 (fun(r:Ending) (w':World)=>∃ v,r=.returned v∧(bT w' base v (eW u nB conds k)∧gh w' base tp mb c0 c1 c2 c3 c4 (.slice g_ nB gZ) c6 c7 (.slice la8 conds.length lk8) c9 aV aP aO aU aT aS aR u (eW u nB conds)∧St [mb] w0 w')) 85 4 rfl;refine en Tryz.func149 rfl Tryz.ntmps149 rfl (vs:=[.pointer (some ⟨tp,0,none⟩),.int .i64 k]) rfl fun _ F=>?_
 have M:=Mm.start w0;refine aus fun K1 gV=>ah<|xA (v:=.slice none 0 0) F rf rf rf fun _ F=>aut<|gV _ _ ?_
 refine aus fun K2 h_=>aus fun K3 nh=>ah<|xM F rf rf rf fun _ F=>kz F rf (dJ rfl (F.u rf)) fun _ F=>xF 19 F rf rf rf yU rf Ou rf fun _ F=>kz F rf (bW rf (F.u rf) EN rfl ((cF M.below Sr) 19 _ rfl)) fun _ F=>xM F rf rf rf fun _ F=>
  kz F rf (uR (z:=.slice none 0 0) EN (by kernel_rfl) (hM.kept (M.below.block _ hM.lt)) rfl (F.u rf) (F.u rf) (by exact hk)) fun _ F=>
  xM F rf rf rf fun _ F=>
  kz F rf (bX rfl (F.u rf) rfl) fun _ F=>
  kz F rf (bX rfl (F.u rf) rfl) fun _ F=>
  xA F rf rf rf fun _ F=>
  xA F rf rf rf fun _ F=>
  aut<|
  nh _ _ ?_
 refine aus fun K4 n_=>ah<|xM F rf rf rf fun _ F=>aut<|n_ _ _ ?_
 refine auu (F.e 17 rfl) (fun hc1=>?_) (fun hc1=>?_)
 ·refine aus fun K5 nZ=>ah<|xM F rf rf rf fun _ F=>xA F rf rf rf fun _ F=>aut<|nZ _ _ ?_
  refine wp_ret<|bL _ _ _ _ F rfl ?_;obtain⟨v,hv⟩:=Option.isSome_iff_exists.1 hc1;exact⟨_,rfl,(by rw[hv];exact(hL k v hv).keep M.below),(gh.keep ⟨hT,⟨L,hM,hL⟩,hlo⟩ M.below),iy _ _ _ M.below⟩
 ·refine wp_skip<|h_ _ _ ?_
  refine aus fun K6 pN=>ah<|xM F rf rf rf fun _ F=>xM F rf rf rf fun _ F=>kz F rf (dJ rfl (F.u rf)) fun _ F=>xF 17 F rf rf rf yU rf Tz rf fun _ F=>kz F rf (bW rf (F.u rf) u3 rfl ((cF M.below Sr) 17 _ rfl)) fun _ F=>
   kn (f:=fun n=>.slice (some ⟨n,0,none⟩) 1 1) (on rfl) (zU rfl (F.u rf) (F.u rf) Aq Jp Sz rfl (by decide)) rfl F rfl M fun g2 _ _ F M=>
   kx (on rfl) (fS rfl Tryz.func175 Zd rfl (args2 (F.u rf) (F.u rf))) (zL _ tp mb _ _ _ _ _ _ _ _ _ _ _ _ _ _ _ _ g_ nB gZ u (Whole.under M.below hT hT.lt) g2 _ (M.b 0 rfl)) rfl F rfl M fun sv _ _ hR hB F _=>?_
  obtain⟨gs3,rfl,Zz,Zq⟩:=hR;have M:=M.newAt hB Zz Zq;clear Zz Zq;refine xA F rf rf rf fun _ F=>aut<|pN _ _ ?_
  refine aus fun K7 rR=>auw<|aus fun K8 wX=>ah<|xM F rf rf rf fun _ F=>kz F rf (JV rfl (F.u rf) rfl) fun _ F=>xM F rf rf rf fun _ F=>Fo (x:=.int .i64 k) rfl rfl (F.g 29 rfl) (bt _) (fun ge=>(cQ rfl (F.u rf))) rfl F rfl rfl fun _ F=>Fo (x:=.pointer (some ⟨tp,0,none⟩)) rfl rfl (F.g 29 rfl) (bt _) (fun ge=>(cQ rfl (F.u rf))) rfl F rfl rfl fun _ F=>Fo (x:=.pointer (some ⟨tp,0,none⟩)) rfl rfl (F.g 29 rfl) (bt _) (fun ge=>(dJ rfl ((F.g 31 rfl).on ge).ev)) rfl F rfl rfl fun _ F=>Fo (x:=.pointer (some ⟨tp,0,none⟩)) rfl rfl (F.g 29 rfl) (bt _) (fun ge=>(kN rfl ((F.g 32 rfl).on ge).ev yU rfl Aw)) rfl F rfl rfl fun _ F=>Fo (x:=.pointer (some ⟨tp,8,none⟩)) rfl rfl (F.g 29 rfl) (bt _) (fun ge=>(kN rfl ((F.g 33 rfl).on ge).ev Oj rfl TA)) rfl F rfl rfl fun _ F=>Fo (x:=.slice la8 conds.length lk8) rfl rfl (F.g 29 rfl) (bt _) (fun ge=>(bW rfl ((F.g 34 rfl).on ge).ev Tm rfl ((cF M.below Sr) 8 _ rfl))) rfl F rfl rfl fun _ F=>Fo (x:=.int .i64 (conds.length:Int)) rfl rfl (F.g 29 rfl) (bt _) (fun ge=>(fQ rfl ((F.g 35 rfl).on ge).ev Tm)) rfl F rfl rfl fun _ F=>Fo (x:=.bool (decide (k≤(conds.length:Int)))) rfl rfl (F.g 29 rfl) (bt _) (fun ge=>(ZU rfl ((F.g 30 rfl).on ge).ev ((F.g 36 rfl).on ge).ev)) rfl F rfl rfl fun _ F=>kz F rf (rq (tH rfl (F.u rf) (F.u rf) rfl) (pkF _ _)) fun _ F=>xA F rf rf rf fun _ F=>aut<|wX _ _ ?_
  refine auu (F.e 26 rfl) (fun Q_=>?_) (fun Q_=>?_)
  ·have hP:=PA Q_;obtain⟨m,hm⟩:∃ m:Nat,(m:Int)=k-1:=⟨(k-1).toNat,by omega⟩;have abn:m<conds.length:=by omega
   obtain⟨y,hy⟩:∃ y,conds[m]?=some y:=⟨_,auk abn⟩;obtain⟨b8,ob8,cs8,rfl,abv,abj,abe⟩:=Fv _ y hy
   refine ah<|xM F rf rf rf fun _ F=>xM F rf rf rf fun _ F=>kz F rf (dJ rfl (F.u rf)) fun _ F=>xF 0 F rf rf rf yU rf Aw rf fun _ F=>xF 8 F rf rf rf Oj rf TA rf fun _ F=>kz F rf (bW rf (F.u rf) Tm rfl ((cF M.below Sr) 8 _ rfl)) fun _ F=>xM F rf rf rf fun _ F=>
    ke (on rfl) (JT rfl (F.u rf) rfl) rfl F rfl (congrArg (Value.int .i64) ((wrap_i64 (by omega)).trans (by omega))) fun _ F=>
    kz F rf (bE (i:=m) rfl (F.u rf) (F.u rf) (by omega) Tm rO) fun _ F=>
    kz F rf (gW cs8 rfl (F.u rf) Oh rfl (by rw[abj];exact rO) (cF M.below abe)) fun _ F=>
    kx (on rfl) (fS rfl Tryz.func173 Ze rfl (args2 (F.u rf) (F.u rf))) (vS y _ _ tp mb _ _ _ _ _ _ _ _ _ _ _ _ _ _ _ _ g_ nB gZ u hn (Whole.under M.below hT hT.lt) (bf.keep M.below abv)) rfl F rfl M fun sv _ _ hR hB F _=>?_
   obtain⟨gs5,rfl,Zy,Zp⟩:=hR;have M:=M.newAt hB Zy Zp;clear Zy Zp;refine xA F rf rf rf fun _ F=>aut<|rR _ _ ?_
   refine aus fun K9 yD=>ah<|xM F rf rf rf fun _ F=>kz F rf (dJ rfl (F.u rf)) fun _ F=>xF 19 F rf rf rf yU rf Ou rf fun _ F=>kz F rf (bW rf (F.u rf) EN rfl ((cF M.below Sr) 19 _ rfl)) fun _ F=>xM F rf rf rf fun _ F=>xM F rf rf rf fun _ F=>kmu rfl rfl rfl (F.u rf) (F.u rf) (F.u rf) (aX.TW EN (hM.kept (M.below.block _ hM.lt)) hk _) fun w9 hP=>?_
   obtain⟨O4,hg9⟩:=hP;refine aut<|yD _ _ ?_;refine aus fun WG lS=>ah<|xM F rf rf rf fun _ F=>xA F rf rf rf fun _ F=>aut<|lS _ _ ?_
   refine wp_ret<|bL _ _ _ _ F rfl ?_;exact⟨_,rfl,G2 hT hM hL hlo M.below O4 hg9 ⟨gs5,rfl,(by rw[YP hP.1 hP.2 hm hy];exact M.b 0 rfl),M.lo _ (aul (i:=0) rfl)⟩⟩
  ·have hP:=Kt Q_
   refine aus fun Z7 qE=>ah<|xM F rf rf rf fun _ F=>kz F rf (jf rfl (F.u rf) rfl) fun _ F=>xM F rf rf rf fun _ F=>Fo (x:=.int .i64 k) rfl rfl (F.g 53 rfl) (bt _) (fun ge=>(cQ rfl (F.u rf))) rfl F rfl rfl fun _ F=>Fo (x:=.pointer (some ⟨tp,0,none⟩)) rfl rfl (F.g 53 rfl) (bt _) (fun ge=>(cQ rfl (F.u rf))) rfl F rfl rfl fun _ F=>Fo (x:=.pointer (some ⟨tp,0,none⟩)) rfl rfl (F.g 53 rfl) (bt _) (fun ge=>(dJ rfl ((F.g 55 rfl).on ge).ev)) rfl F rfl rfl fun _ F=>Fo (x:=.pointer (some ⟨tp,0,none⟩)) rfl rfl (F.g 53 rfl) (bt _) (fun ge=>(kN rfl ((F.g 56 rfl).on ge).ev yU rfl Aw)) rfl F rfl rfl fun _ F=>Fo (x:=.pointer (some ⟨tp,8,none⟩)) rfl rfl (F.g 53 rfl) (bt _) (fun ge=>(kN rfl ((F.g 57 rfl).on ge).ev Oj rfl TA)) rfl F rfl rfl fun _ F=>Fo (x:=.slice la8 conds.length lk8) rfl rfl (F.g 53 rfl) (bt _) (fun ge=>(bW rfl ((F.g 58 rfl).on ge).ev Tm rfl ((cF M.below Sr) 8 _ rfl))) rfl F rfl rfl fun _ F=>Fo (x:=.int .i64 (conds.length:Int)) rfl rfl (F.g 53 rfl) (bt _) (fun ge=>(fQ rfl ((F.g 59 rfl).on ge).ev Tm)) rfl F rfl rfl fun _ F=>
    Fo (x:=.int .i64 (0-(conds.length:Int))) rfl rfl (F.g 53 rfl) (bt _) (fun ge=>(rq (V4 rfl ((F.g 60 rfl).on ge).ev) (congrArg (Value.int .i64) (wrap_i64 (by omega))))) rfl F rfl rfl fun _ F=>
    Fo (x:=.bool (decide (0-(conds.length:Int)≤k))) rfl rfl (F.g 53 rfl) (bt _) (fun ge=>(JW rfl ((F.g 54 rfl).on ge).ev ((F.g 61 rfl).on ge).ev)) rfl F rfl rfl fun _ F=>
    kz F rf (rq (tH rfl (F.u rf) (F.u rf) rfl) (pkF _ _)) fun _ F=>
    xA F rf rf rf fun _ F=>
    aut<|
    qE _ _ ?_
   refine auu (F.e 50 rfl) (fun rQ=>?_) (fun rQ=>?_)
   ·have hN:=PA rQ;obtain⟨m,hm⟩:∃ m:Nat,(m:Int)=0-k-1:=⟨(0-k-1).toNat,by omega⟩;have abn:m<conds.length:=by omega
    obtain⟨y,hy⟩:∃ y,conds[m]?=some y:=⟨_,auk abn⟩;obtain⟨b8,ob8,cs8,rfl,abv,abj,abe⟩:=Fv _ y hy
    refine ah<|xM F rf rf rf fun _ F=>xM F rf rf rf fun _ F=>xM F rf rf rf fun _ F=>kz F rf (dJ rfl (F.u rf)) fun _ F=>xF 0 F rf rf rf yU rf Aw rf fun _ F=>xF 8 F rf rf rf Oj rf TA rf fun _ F=>kz F rf (bW rf (F.u rf) Tm rfl ((cF M.below Sr) 8 _ rfl)) fun _ F=>xM F rf rf rf fun _ F=>
     ke (on rfl) (V4 rfl (F.u rf)) rfl F rfl (congrArg (Value.int .i64) (wrap_i64 (by omega))) fun _ F=>
     ke (on rfl) (JT rfl (F.u rf) rfl) rfl F rfl (congrArg (Value.int .i64) ((wrap_i64 (by omega)).trans (by omega))) fun _ F=>
     kz F rf (bE (i:=m) rfl (F.u rf) (F.u rf) (by omega) Tm rO) fun _ F=>
     kz F rf (gW cs8 rfl (F.u rf) Oh rfl (by rw[abj];exact rO) (cF M.below abe)) fun _ F=>
     kx (on rfl) (fS rfl Tryz.func173 Ze rfl (args2 (F.u rf) (F.u rf))) (vS y _ _ tp mb _ _ _ _ _ _ _ _ _ _ _ _ _ _ _ _ g_ nB gZ u hn (Whole.under M.below hT hT.lt) (bf.keep M.below abv)) rfl F rfl M fun sv _ _ hR hB F _=>?_
    obtain⟨gs7,rfl,Zx,Zo⟩:=hR;have M:=M.newAt hB Zx Zo;clear Zx Zo;refine kx (on rfl) (fS rfl Tryz.func175 Zd rfl (args2 (F.u rf) (F.u rf))) (zL _ tp mb _ _ _ _ _ _ _ _ _ _ _ _ _ _ _ _ g_ nB gZ u (Whole.under M.below hT hT.lt) gs7 _ (M.b 0 rfl)) rfl F rfl M fun sv _ _ hR hB F _=>?_
    obtain⟨gs8,rfl,Zw,Zn⟩:=hR;have M:=M.newAt hB Zw Zn;clear Zw Zn;refine xA F rf rf rf fun _ F=>aut<|rR _ _ ?_
    refine aus fun Z6 pI=>ah<|xM F rf rf rf fun _ F=>kz F rf (dJ rfl (F.u rf)) fun _ F=>xF 19 F rf rf rf yU rf Ou rf fun _ F=>kz F rf (bW rf (F.u rf) EN rfl ((cF M.below Sr) 19 _ rfl)) fun _ F=>xM F rf rf rf fun _ F=>xM F rf rf rf fun _ F=>kmu rfl rfl rfl (F.u rf) (F.u rf) (F.u rf) (aX.TW EN (hM.kept (M.below.block _ hM.lt)) hk _) fun w9 hP=>?_
    obtain⟨O4,hg9⟩:=hP;refine aut<|pI _ _ ?_;refine aus fun Z5 pH=>ah<|xM F rf rf rf fun _ F=>xA F rf rf rf fun _ F=>aut<|pH _ _ ?_
    refine wp_ret<|bL _ _ _ _ F rfl ?_;exact⟨_,rfl,G2 hT hM hL hlo M.below O4 hg9 ⟨gs8,rfl,(by rw[YQ hN.1 hN.2 hm hy];exact M.b 0 rfl),M.lo _ (aul (i:=0) rfl)⟩⟩
   ·have hN:=Kt rQ;refine wp_skip<|rR _ _ ?_;refine aus fun K14 tC=>ah<|xM F rf rf rf fun _ F=>kz F rf (dJ rfl (F.u rf)) fun _ F=>xF 19 F rf rf rf yU rf Ou rf fun _ F=>kz F rf (bW rf (F.u rf) EN rfl ((cF M.below Sr) 19 _ rfl)) fun _ F=>xM F rf rf rf fun _ F=>xM F rf rf rf fun _ F=>kmu rfl rfl rfl (F.u rf) (F.u rf) (F.u rf) (aX.TW EN (hM.kept (M.below.block _ hM.lt)) hk _) fun w9 hP=>?_
    obtain⟨O4,hg9⟩:=hP;refine aut<|tC _ _ ?_;refine aus fun K15 rS=>ah<|xM F rf rf rf fun _ F=>xA F rf rf rf fun _ F=>aut<|rS _ _ ?_
    refine wp_ret<|bL _ _ _ _ F rfl ?_;exact⟨_,rfl,G2 hT hM hL hlo M.below O4 hg9 ⟨gs3,rfl,(by rw[YR hP hN];exact M.b 0 rfl),M.lo _ (aul (i:=0) rfl)⟩⟩
theorem Rh(w0:World)(base tp mb:Nat)(c0 c1 c2 c3 c4 c6 c7 c8 c9 aV aP aO aU aT aS aR:Value)(g_:Option Addr)(nB gZ:Nat)(u:Int)(conds:List aq)(hn:nB≤5)(hE:mq w0 c8 conds)(hcl:conds.length≤1000)(q:aj)(hk:iR q.cond)(hTT:gh w0 base tp mb c0 c1 c2 c3 c4 (.slice g_ nB gZ) c6 c7 c8 c9 aV aP aO aU aT aS aR u (eW u nB conds)):Calls Tryz.prog 151 #[.pointer (some ⟨tp,0,none⟩),.agg #[.int .i64 q.kind,.int .u64 q.src.a,.int .u64 q.src.b,.int .u64 q.src.c,.int .u64 q.src.d,.int .u64 q.tgt.a,.int .u64 q.tgt.b,.int .u64 q.tgt.c,.int .u64 q.tgt.d,.bool q.self,.int .i64 q.cls,.int .u32 q.perms,.int .i64 q.cond]] w0 (fun(r:Ending) (w':World)=>∃ v,r=.returned v∧(bT w' base v (eW u nB conds (KI q))∧gh w' base tp mb c0 c1 c2 c3 c4 (.slice g_ nB gZ) c6 c7 c8 c9 aV aP aO aU aT aS aR u (eW u nB conds)∧St [mb] w0 w')):=by
 have bL:=hr1 Tryz.prog Tryz.f151 (fun(r:Ending) (w':World)=>∃ v,r=.returned v∧(bT w' base v (eW u nB conds (KI q))∧gh w' base tp mb c0 c1 c2 c3 c4 (.slice g_ nB gZ) c6 c7 c8 c9 aV aP aO aU aT aS aR u (eW u nB conds)∧St [mb] w0 w')) 14 4 rfl;refine en Tryz.func151 rfl Tryz.ntmps151 rfl (vs:=[.pointer (some ⟨tp,0,none⟩),.agg #[.int .i64 q.kind,.int .u64 q.src.a,.int .u64 q.src.b,.int .u64 q.src.c,.int .u64 q.src.d,.int .u64 q.tgt.a,.int .u64 q.tgt.b,.int .u64 q.tgt.c,.int .u64 q.tgt.d,.bool q.self,.int .i64 q.cls,.int .u32 q.perms,.int .i64 q.cond]]) rfl fun _ F=>?_
 have M:=Mm.start w0;refine aus fun K1 gV=>ah<|Hf (on rfl) rfl (F.u rf) rfl F rfl M fun g1 _ _ F M=>xA (v:=.slice none 0 0) F rf rf rf fun _ F=>aut<|gV _ _ ?_
 refine aus fun K2 h_=>aus fun K3 nh=>ah<|xF 0 F rf rf rf Xf rf Tz rf fun _ F=>xL F (M.b 0 rfl) rf rf rf u3 rf rf fun _ F=>kz F rf (Pj rfl (F.u rf) rfl) fun _ F=>aut<|nh _ _ ?_
 refine auu (F.e 7 rfl) (fun hc2=>?_) (fun hc2=>?_)
 ·have hd3:=of_decide_eq_true hc2;refine aus fun K4 n_=>ah<|xM F rf rf rf fun _ F=>kt (on rfl) (fS rfl Tryz.func149 Uo rfl (args2 (F.u rf) rfl)) (tP _ base tp mb _ _ _ _ _ _ _ _ _ _ _ _ _ _ _ _ g_ nB gZ u conds hn (hE.keep M.below) hcl 0 ⟨by decide,by decide⟩ (hTT.keep M.below)) rfl F rfl fun v9 _ w9 hR F=>?_
  refine xA F rf rf rf fun _ F=>aut<|n_ _ _ ?_
  refine wp_ret<|bL _ _ _ _ F rfl ?_;exact⟨_,rfl,(by unfold KI;rw[if_pos (by omega)];exact hR.1),hR.2.1,gB _ _ _ _ (iy _ _ _ M.below) hR.2.2⟩
 ·have Vf:=of_decide_eq_false hc2;refine wp_skip<|h_ _ _ ?_;refine aus fun K5 nZ=>ah<|xM F rf rf rf fun _ F=>xF 12 F rf rf rf Xf rf Tz rf fun _ F=>xL F (M.b 0 rfl) rf rf rf u3 rf rf fun _ F=>kt (on rfl) (fS rfl Tryz.func149 Uo rfl (args2 (F.u rf) (F.u rf))) (tP _ base tp mb _ _ _ _ _ _ _ _ _ _ _ _ _ _ _ _ g_ nB gZ u conds hn (hE.keep M.below) hcl q.cond hk (hTT.keep M.below)) rfl F rfl fun v9 _ w9 hR F=>?_
  refine xA F rf rf rf fun _ F=>aut<|nZ _ _ ?_
  refine wp_ret<|bL _ _ _ _ F rfl ?_;exact⟨_,rfl,(by unfold KI;rw[if_neg (by omega)];exact hR.1),hR.2.1,gB _ _ _ _ (iy _ _ _ M.below) hR.2.2⟩
end Go.Proofs.YtdcofoaihmongaaGreat
namespace Go.Proofs.YtdcofoaihmongaaGreat
open Go Go.Proofs Go.RowKit Go.Shelf
variable {P:Program} {ρ:Go.Shelf.Ren}
theorem Nx(L:SlLaysE0.n41 P ρ)(size:Nat)(z23:∀ w,(Go.sizeOf (ρ.t 23)).run P w=.ok size w)(a:Addr)(c:Nat)(w:World):
 Calls P (ρ.f 41) #[.slice (some a) 0 c] w fun e w'=>∃ v',e=.returned v'∧w'.ownsRow w.heap.size (ρ.t 23) size v' 0 []∧v'≠.slice none 0 0∧aui w.heap.size w w':=by
 have mixed:=L.mixed;have t4:=L.t4;have a4:=L.a4;have z4:=L.z4;have v4:=L.v4;have t22:=L.t22;have a22:=L.a22;have z22:=L.z22;have v22:=L.v22;have q22:∀ (w:World) (a:Option Addr) (n c n' c':Nat),(binOp .eql (ρ.t 22) (.slice a n c) (.slice none n' c')).run P w=.ok (.bool a.isNone) w:=fun w a n c n' c'=>Lib.run_eql_slice_nil w _ _ a n c n' c' L.t22
 have u22:∀ w,Sem.run P (underlying (ρ.t 22)) w=.ok (TypeDesc.slice (ρ.t 23)) w:=run_underlying t22;obtain⟨_,_,FG⟩:=L.f41
 go_enter FG,SlBodyN.n41_ntmps ρ
 go_wp2
 go_ret
 refine⟨_,rfl,?_,?_,((Below.refl _ w).alloc (Nat.le_refl _) _)⟩
 ·exact⟨by simp,.inr ⟨w.heap.size,0,#[],rfl,Nat.le_refl _,Whole.new w _ #[],Nat.le_refl _,by simp[maxLen],by simp,by simp⟩⟩
 ·intro h;cases h
theorem dL(L:SlLaysE0.n41 P ρ)(size bytes:Nat)(hi:iP (P.info? (ρ.t 23)) size bytes=true)(hsz:1≤size)(z23:∀ w,(Go.sizeOf (ρ.t 23)).run P w=.ok size w)(w:World)(v:Value)(n:Nat)(cs:List Value)(h:SliceAt w v size n cs)(hbig:n*bytes≤140737488355328):
 Calls P (ρ.f 41) #[v] w fun e w'=>∃ v',e=.returned v'∧w'.ownsRow w.heap.size (ρ.t 23) size v' n cs∧(v=.slice none 0 0↔v'=.slice none 0 0)∧aui w.heap.size w w':=by
 obtain⟨i0,z,hi0,hz0,hz1,hz2,hzs⟩:=ng hi;rcases h.2.2.2 with⟨rfl,rfl⟩|⟨a,c,rfl,hac,hc⟩
 ·have hl:=h.1;rw[Nat.zero_mul] at hl;have:cs=[]:=List.eq_nil_of_length_eq_zero hl;subst this;refine(AnyE.slices_Clone_nil L 0 0 w).mono ?_;rintro e w' ⟨rfl,rfl⟩;exact⟨_,rfl,World.ownsRow_nil _ _ _ _,Iff.rfl,Below.refl _ _⟩
 ·have hn:¬ Value.slice (some a) n c=.slice none 0 0:=by intro h;cases h
  cases cs with
  | nil=>
   have hl:=h.1
   have:n=0:=by
    rcases Nat.eq_zero_or_pos n with h0|h0
    ·exact h0
    ·have:=Nat.mul_le_mul h0 hsz;simp at hl;omega
   subst this;refine(Nx L size z23 a c w).mono ?_;rintro e w' ⟨v',rfl,ho,hv,hb⟩;exact⟨v',rfl,ho,iff_of_false hn hv,hb⟩
  | cons b0 bs=>
   obtain⟨b,off,rfl⟩:=DI (hc 0 _ (by simp;rfl));refine(AnyE.slices_Clone L i0 z size bytes hi0 hz0 hz1 hz2 hzs hsz z23 b off n c (b0::bs) w h.1 h.2.1 hbig (fun j u hu=>by have:=hc j u hu;rwa [Addr.add_mid] at this) h.2.2.1).mono ?_;rintro e w' ⟨v',rfl,ho,hv,hb⟩;exact⟨v',rfl,ho,iff_of_false hn hv,hb⟩
def GQ:Go.Shelf.Ren:=⟨fun|41=>155|n=>n,fun|22=>28|23=>9|4=>4|n=>n,fun|n=>n⟩
theorem GR:Go.Proofs.SlLaysE0.n41 Tryz.prog GQ:={
 mixed:=by kernel_rfl
 f41:=⟨Tryz.f155.name,by decide,Tryz.func155.trans (congrArg some (by kernel_rfl))⟩
 t4:=Tryz.underlying4
 a4:=Tryz.isAgg4
 z4:=Tryz.sizeOf4
 v4:=Tryz.zeroValue4
 t22:=Tryz.underlying28
 a22:=Tryz.isAgg28
 z22:=Tryz.sizeOf28
 v22:=Tryz.zeroValue28 }
def GK:Go.Shelf.Ren:=⟨fun|41=>157|n=>n,fun|22=>24|23=>184|4=>4|n=>n,fun|n=>n⟩
theorem GL:Go.Proofs.SlLaysE0.n41 Tryz.prog GK:={
 mixed:=by kernel_rfl
 f41:=⟨Tryz.f157.name,by decide,Tryz.func157.trans (congrArg some (by kernel_rfl))⟩
 t4:=Tryz.underlying4
 a4:=Tryz.isAgg4
 z4:=Tryz.sizeOf4
 v4:=Tryz.zeroValue4
 t22:=Tryz.underlying24
 a22:=Tryz.isAgg24
 z22:=Tryz.sizeOf24
 v22:=Tryz.zeroValue24 }
def GH:Go.Shelf.Ren:=⟨fun|41=>158|n=>n,fun|22=>25|23=>188|4=>4|n=>n,fun|n=>n⟩
theorem GI:Go.Proofs.SlLaysE0.n41 Tryz.prog GH:={
 mixed:=by kernel_rfl
 f41:=⟨Tryz.f158.name,by decide,Tryz.func158.trans (congrArg some (by kernel_rfl))⟩
 t4:=Tryz.underlying4
 a4:=Tryz.isAgg4
 z4:=Tryz.sizeOf4
 v4:=Tryz.zeroValue4
 t22:=Tryz.underlying25
 a22:=Tryz.isAgg25
 z22:=Tryz.sizeOf25
 v22:=Tryz.zeroValue25 }
def GA:Go.Shelf.Ren:=⟨fun|41=>159|n=>n,fun|22=>26|23=>192|4=>4|n=>n,fun|n=>n⟩
theorem GD:Go.Proofs.SlLaysE0.n41 Tryz.prog GA:={
 mixed:=by kernel_rfl
 f41:=⟨Tryz.f159.name,by decide,Tryz.func159.trans (congrArg some (by kernel_rfl))⟩
 t4:=Tryz.underlying4
 a4:=Tryz.isAgg4
 z4:=Tryz.sizeOf4
 v4:=Tryz.zeroValue4
 t22:=Tryz.underlying26
 a22:=Tryz.isAgg26
 z22:=Tryz.sizeOf26
 v22:=Tryz.zeroValue26 }
def Gx:Go.Shelf.Ren:=⟨fun|41=>160|n=>n,fun|22=>27|23=>197|4=>4|n=>n,fun|n=>n⟩
theorem Gy:Go.Proofs.SlLaysE0.n41 Tryz.prog Gx:={
 mixed:=by kernel_rfl
 f41:=⟨Tryz.f160.name,by decide,Tryz.func160.trans (congrArg some (by kernel_rfl))⟩
 t4:=Tryz.underlying4
 a4:=Tryz.isAgg4
 z4:=Tryz.sizeOf4
 v4:=Tryz.zeroValue4
 t22:=Tryz.underlying27
 a22:=Tryz.isAgg27
 z22:=Tryz.sizeOf27
 v22:=Tryz.zeroValue27 }
def Gt:Go.Shelf.Ren:=⟨fun|41=>161|n=>n,fun|22=>30|23=>56|4=>4|n=>n,fun|n=>n⟩
theorem Gu:Go.Proofs.SlLaysE0.n41 Tryz.prog Gt:={
 mixed:=by kernel_rfl
 f41:=⟨Tryz.f161.name,by decide,Tryz.func161.trans (congrArg some (by kernel_rfl))⟩
 t4:=Tryz.underlying4
 a4:=Tryz.isAgg4
 z4:=Tryz.sizeOf4
 v4:=Tryz.zeroValue4
 t22:=Tryz.underlying30
 a22:=Tryz.isAgg30
 z22:=Tryz.sizeOf30
 v22:=Tryz.zeroValue30 }
def Gq:Go.Shelf.Ren:=⟨fun|41=>162|n=>n,fun|22=>31|23=>84|4=>4|n=>n,fun|n=>n⟩
theorem Gr:Go.Proofs.SlLaysE0.n41 Tryz.prog Gq:={
 mixed:=by kernel_rfl
 f41:=⟨Tryz.f162.name,by decide,Tryz.func162.trans (congrArg some (by kernel_rfl))⟩
 t4:=Tryz.underlying4
 a4:=Tryz.isAgg4
 z4:=Tryz.sizeOf4
 v4:=Tryz.zeroValue4
 t22:=Tryz.underlying31
 a22:=Tryz.isAgg31
 z22:=Tryz.sizeOf31
 v22:=Tryz.zeroValue31 }
def Gm:Go.Shelf.Ren:=⟨fun|41=>163|n=>n,fun|22=>32|23=>203|4=>4|n=>n,fun|n=>n⟩
theorem Gn:Go.Proofs.SlLaysE0.n41 Tryz.prog Gm:={
 mixed:=by kernel_rfl
 f41:=⟨Tryz.f163.name,by decide,Tryz.func163.trans (congrArg some (by kernel_rfl))⟩
 t4:=Tryz.underlying4
 a4:=Tryz.isAgg4
 z4:=Tryz.sizeOf4
 v4:=Tryz.zeroValue4
 t22:=Tryz.underlying32
 a22:=Tryz.isAgg32
 z22:=Tryz.sizeOf32
 v22:=Tryz.zeroValue32 }
def Gi:Go.Shelf.Ren:=⟨fun|41=>164|n=>n,fun|22=>33|23=>205|4=>4|n=>n,fun|n=>n⟩
theorem Gj:Go.Proofs.SlLaysE0.n41 Tryz.prog Gi:={
 mixed:=by kernel_rfl
 f41:=⟨Tryz.f164.name,by decide,Tryz.func164.trans (congrArg some (by kernel_rfl))⟩
 t4:=Tryz.underlying4
 a4:=Tryz.isAgg4
 z4:=Tryz.sizeOf4
 v4:=Tryz.zeroValue4
 t22:=Tryz.underlying33
 a22:=Tryz.isAgg33
 z22:=Tryz.sizeOf33
 v22:=Tryz.zeroValue33 }
def Gf:Go.Shelf.Ren:=⟨fun|41=>165|n=>n,fun|22=>35|23=>125|4=>4|n=>n,fun|n=>n⟩
theorem Gg:Go.Proofs.SlLaysE0.n41 Tryz.prog Gf:={
 mixed:=by kernel_rfl
 f41:=⟨Tryz.f165.name,by decide,Tryz.func165.trans (congrArg some (by kernel_rfl))⟩
 t4:=Tryz.underlying4
 a4:=Tryz.isAgg4
 z4:=Tryz.sizeOf4
 v4:=Tryz.zeroValue4
 t22:=Tryz.underlying35
 a22:=Tryz.isAgg35
 z22:=Tryz.sizeOf35
 v22:=Tryz.zeroValue35 }
def Gb:Go.Shelf.Ren:=⟨fun|41=>166|n=>n,fun|22=>36|23=>127|4=>4|n=>n,fun|n=>n⟩
theorem Gc:Go.Proofs.SlLaysE0.n41 Tryz.prog Gb:={
 mixed:=by kernel_rfl
 f41:=⟨Tryz.f166.name,by decide,Tryz.func166.trans (congrArg some (by kernel_rfl))⟩
 t4:=Tryz.underlying4
 a4:=Tryz.isAgg4
 z4:=Tryz.sizeOf4
 v4:=Tryz.zeroValue4
 t22:=Tryz.underlying36
 a22:=Tryz.isAgg36
 z22:=Tryz.sizeOf36
 v22:=Tryz.zeroValue36 }
def F8:Go.Shelf.Ren:=⟨fun|41=>167|n=>n,fun|22=>37|23=>129|4=>4|n=>n,fun|n=>n⟩
theorem F9:Go.Proofs.SlLaysE0.n41 Tryz.prog F8:={
 mixed:=by kernel_rfl
 f41:=⟨Tryz.f167.name,by decide,Tryz.func167.trans (congrArg some (by kernel_rfl))⟩
 t4:=Tryz.underlying4
 a4:=Tryz.isAgg4
 z4:=Tryz.sizeOf4
 v4:=Tryz.zeroValue4
 t22:=Tryz.underlying37
 a22:=Tryz.isAgg37
 z22:=Tryz.sizeOf37
 v22:=Tryz.zeroValue37 }
def F5:Go.Shelf.Ren:=⟨fun|41=>225|n=>n,fun|22=>139|23=>52|4=>4|n=>n,fun|n=>n⟩
theorem F6:Go.Proofs.SlLaysE0.n41 Tryz.prog F5:={
 mixed:=by kernel_rfl
 f41:=⟨Tryz.f225.name,by decide,Tryz.func225.trans (congrArg some (by kernel_rfl))⟩
 t4:=Tryz.underlying4
 a4:=Tryz.isAgg4
 z4:=Tryz.sizeOf4
 v4:=Tryz.zeroValue4
 t22:=Tryz.underlying139
 a22:=Tryz.isAgg139
 z22:=Tryz.sizeOf139
 v22:=Tryz.zeroValue139 }
theorem ji(w:World)(v:Value)(n:Nat)(cs:List Value)(h:SliceAt w v 1 n cs)(hbig:n≤100000000):Calls Tryz.prog 155 #[v] w fun r w'=>∃ v',r=.returned v'∧w'.ownsRow w.heap.size 9 1 v' n cs∧(v=.slice none 0 0↔v'=.slice none 0 0)∧aui w.heap.size w w':=
 dL GR 1 16 (by kernel_rfl) (by decide) (fun w=>Tryz.sizeOf9 w) w v n cs h (auv (auz _ hbig) (by decide))
theorem GP(w:World)(v:Value)(n:Nat)(cs:List Value)(h:SliceAt w v 5 n cs)(hbig:n≤100000000):Calls Tryz.prog 157 #[v] w fun r w'=>∃ v',r=.returned v'∧w'.ownsRow w.heap.size 184 5 v' n cs∧(v=.slice none 0 0↔v'=.slice none 0 0)∧aui w.heap.size w w':=
 dL GL 5 48 (by kernel_rfl) (by decide) (fun w=>Tryz.sizeOf184 w) w v n cs h (auv (auz _ hbig) (by decide))
theorem GJ(w:World)(v:Value)(n:Nat)(cs:List Value)(h:SliceAt w v 9 n cs)(hbig:n≤100000000):Calls Tryz.prog 158 #[v] w fun r w'=>∃ v',r=.returned v'∧w'.ownsRow w.heap.size 188 9 v' n cs∧(v=.slice none 0 0↔v'=.slice none 0 0)∧aui w.heap.size w w':=
 dL GI 9 80 (by kernel_rfl) (by decide) (fun w=>Tryz.sizeOf188 w) w v n cs h (auv (auz _ hbig) (by decide))
theorem GF(w:World)(v:Value)(n:Nat)(cs:List Value)(h:SliceAt w v 11 n cs)(hbig:n≤100000000):Calls Tryz.prog 159 #[v] w fun r w'=>∃ v',r=.returned v'∧w'.ownsRow w.heap.size 192 11 v' n cs∧(v=.slice none 0 0↔v'=.slice none 0 0)∧aui w.heap.size w w':=
 dL GD 11 96 (by kernel_rfl) (by decide) (fun w=>Tryz.sizeOf192 w) w v n cs h (auv (auz _ hbig) (by decide))
theorem Gz(w:World)(v:Value)(n:Nat)(cs:List Value)(h:SliceAt w v 2 n cs)(hbig:n≤100000000):Calls Tryz.prog 160 #[v] w fun r w'=>∃ v',r=.returned v'∧w'.ownsRow w.heap.size 197 2 v' n cs∧(v=.slice none 0 0↔v'=.slice none 0 0)∧aui w.heap.size w w':=
 dL Gy 2 24 (by kernel_rfl) (by decide) (fun w=>Tryz.sizeOf197 w) w v n cs h (auv (auz _ hbig) (by decide))
theorem Gw(w:World)(v:Value)(n:Nat)(cs:List Value)(h:SliceAt w v 13 n cs)(hbig:n≤100000000):Calls Tryz.prog 161 #[v] w fun r w'=>∃ v',r=.returned v'∧w'.ownsRow w.heap.size 56 13 v' n cs∧(v=.slice none 0 0↔v'=.slice none 0 0)∧aui w.heap.size w w':=
 dL Gu 13 104 (by kernel_rfl) (by decide) (fun w=>Tryz.sizeOf56 w) w v n cs h (auv (auz _ hbig) (by decide))
theorem Gs(w:World)(v:Value)(n:Nat)(cs:List Value)(h:SliceAt w v 13 n cs)(hbig:n≤100000000):Calls Tryz.prog 162 #[v] w fun r w'=>∃ v',r=.returned v'∧w'.ownsRow w.heap.size 84 13 v' n cs∧(v=.slice none 0 0↔v'=.slice none 0 0)∧aui w.heap.size w w':=
 dL Gr 13 112 (by kernel_rfl) (by decide) (fun w=>Tryz.sizeOf84 w) w v n cs h (auv (auz _ hbig) (by decide))
theorem Gp(w:World)(v:Value)(n:Nat)(cs:List Value)(h:SliceAt w v 10 n cs)(hbig:n≤100000000):Calls Tryz.prog 163 #[v] w fun r w'=>∃ v',r=.returned v'∧w'.ownsRow w.heap.size 203 10 v' n cs∧(v=.slice none 0 0↔v'=.slice none 0 0)∧aui w.heap.size w w':=
 dL Gn 10 80 (by kernel_rfl) (by decide) (fun w=>Tryz.sizeOf203 w) w v n cs h (auv (auz _ hbig) (by decide))
theorem Gl(w:World)(v:Value)(n:Nat)(cs:List Value)(h:SliceAt w v 13 n cs)(hbig:n≤100000000):Calls Tryz.prog 164 #[v] w fun r w'=>∃ v',r=.returned v'∧w'.ownsRow w.heap.size 205 13 v' n cs∧(v=.slice none 0 0↔v'=.slice none 0 0)∧aui w.heap.size w w':=
 dL Gj 13 104 (by kernel_rfl) (by decide) (fun w=>Tryz.sizeOf205 w) w v n cs h (auv (auz _ hbig) (by decide))
theorem Gh(w:World)(v:Value)(n:Nat)(cs:List Value)(h:SliceAt w v 8 n cs)(hbig:n≤100000000):Calls Tryz.prog 165 #[v] w fun r w'=>∃ v',r=.returned v'∧w'.ownsRow w.heap.size 125 8 v' n cs∧(v=.slice none 0 0↔v'=.slice none 0 0)∧aui w.heap.size w w':=
 dL Gg 8 72 (by kernel_rfl) (by decide) (fun w=>Tryz.sizeOf125 w) w v n cs h (auv (auz _ hbig) (by decide))
theorem Ge(w:World)(v:Value)(n:Nat)(cs:List Value)(h:SliceAt w v 9 n cs)(hbig:n≤100000000):Calls Tryz.prog 166 #[v] w fun r w'=>∃ v',r=.returned v'∧w'.ownsRow w.heap.size 127 9 v' n cs∧(v=.slice none 0 0↔v'=.slice none 0 0)∧aui w.heap.size w w':=
 dL Gc 9 80 (by kernel_rfl) (by decide) (fun w=>Tryz.sizeOf127 w) w v n cs h (auv (auz _ hbig) (by decide))
theorem Ga(w:World)(v:Value)(n:Nat)(cs:List Value)(h:SliceAt w v 10 n cs)(hbig:n≤100000000):Calls Tryz.prog 167 #[v] w fun r w'=>∃ v',r=.returned v'∧w'.ownsRow w.heap.size 129 10 v' n cs∧(v=.slice none 0 0↔v'=.slice none 0 0)∧aui w.heap.size w w':=
 dL F9 10 88 (by kernel_rfl) (by decide) (fun w=>Tryz.sizeOf129 w) w v n cs h (auv (auz _ hbig) (by decide))
theorem F7(w:World)(v:Value)(n:Nat)(cs:List Value)(h:SliceAt w v 1 n cs)(hbig:n≤100000000):Calls Tryz.prog 225 #[v] w fun r w'=>∃ v',r=.returned v'∧w'.ownsRow w.heap.size 52 1 v' n cs∧(v=.slice none 0 0↔v'=.slice none 0 0)∧aui w.heap.size w w':=
 dL F6 1 8 (by kernel_rfl) (by decide) (fun w=>Tryz.sizeOf52 w) w v n cs h (auv (auz _ hbig) (by decide))
end Go.Proofs.YtdcofoaihmongaaGreat
namespace Go.Proofs.YtdcofoaihmongaaGreat
open Go Go.RowKit
def YT(w:World)(base:Nat)(cs:List Value)(x:aj×Int):Prop:=∃ v,cs=x.1.cells++[v]∧bT w base v x.2
def gL(w:World)(base:Nat)(v:Value)(l:List (aj×Int)):Prop:=au 14 (YT w base) w v l
theorem YT.keep{w w':World}{base:Nat}{cs:List Value}{x:aj×Int}(h:YT w base cs x)(hb:aui w.heap.size w w'):YT w' base cs x:=by
 obtain⟨v,e,hs⟩:=h;exact⟨v,e,hs.keep hb⟩
theorem gL.keep{w w':World}{base:Nat}{v:Value}{l:List (aj×Int)}(h:gL w base v l)(hb:aui w.heap.size w w'):gL w' base v l:=au.mono h hb fun _ _ h=>h.keep hb
theorem AO{w:World}{b o:Nat}{r:aj}{v:Value}(h:∀ j u,(r.cells++[v])[j]?=some u→w.cell? ⟨b,o+j,none⟩=some u):
 ∀ j uu,[.int .i64 r.kind,.int .u64 r.src.a,.int .u64 r.src.b,.int .u64 r.src.c,.int .u64 r.src.d,.int .u64 r.tgt.a,.int .u64 r.tgt.b,.int .u64 r.tgt.c,.int .u64 r.tgt.d,.bool r.self,.int .i64 r.cls,.int .u32 r.perms,.int .i64 r.cond,v][j]?=some uu→w.cell? ⟨b,o+j,none⟩=some uu:=h
theorem OQ{w:World}{base e g c:Nat}{x:Value}(h:w.ownsRow base e 1 (.slice (some ⟨g,0,none⟩) 1 c) 1 [x]):w.cell? ⟨g,0,none⟩=some x:=by
 have:=h.cells (g:=g) rfl 0 x rfl;simpa[Addr.add] using this
def Vz(r:aj)(s t:Int):Bool:=r.src.mem s&&(r.tgt.mem t||(r.self&&decide (s=t)))
def Ip(s t bit acc:Int)(y:aj×Int):Int:=if (decide (bits .and .u32 y.1.perms bit=0)||!(Vz y.1 s t))=true then acc else bits .andNot .u64 acc y.2
def aaz(x:Int)(l:List (aj×Int))(s t bit:Int):Bool:=decide (l.foldl (Ip s t bit) x=0)
theorem Xm{s t bit acc x:Int}{l:List (aj×Int)}{m:Nat}{y:aj×Int}(hy:l[m]?=some y)(h:acc=(l.take m).foldl (Ip s t bit) x)(hq:(decide (bits .and .u32 y.1.perms bit=0)||!(Vz y.1 s t))=true):acc=(l.take (m+1)).foldl (Ip s t bit) x:=by
 rw[bw hy,List.foldl_append,← h];exact(if_pos hq).symm
theorem aay{s t bit acc x:Int}{l:List (aj×Int)}{m:Nat}{y:aj×Int}(hy:l[m]?=some y)(h:acc=(l.take m).foldl (Ip s t bit) x)(hq:(decide (bits .and .u32 y.1.perms bit=0)||!(Vz y.1 s t))=false):bits .andNot .u64 acc y.2=(l.take (m+1)).foldl (Ip s t bit) x:=by
 rw[bw hy,List.foldl_append,← h];exact(if_neg (by rw[hq];decide)).symm
theorem Xn{s t bit acc x:Int}{l:List (aj×Int)}{m:Nat}(hm:m=l.length)(h:acc=(l.take m).foldl (Ip s t bit) x):decide (acc=0)=aaz x l s t bit:=by
 subst hm;rw[aur] at h;rw[h];rfl
def sA(x y:aj):Bool:=(decide (y.kind=x.kind)&&decide (y.cls=x.cls))&&!decide (bits .and .u32 y.perms x.perms=0)
def Dl(k:Nat):Int:=if k<32 then 2^k else 0
def RQ(x:aj×Int)(near:List (aj×Int))(s t:Int)(k:Nat):Bool:=!(decide (bits .and .u32 x.1.perms (Dl k)=0))&&!aaz x.2 near s t (Dl k)
def jD(x:aj×Int)(l:List (aj×Int)):Bool:=
 decide (x.2=0)||x.1.pairs.all fun p=>(List.range 32).all fun k=>!RQ x (l.filter fun y=>sA x.1 y.1) p.1 p.2 k
def Jq(a b:List (aj×Int)):Bool:=a.all fun x=>jD x b
theorem vZ{w:World}{g c:Nat}{x:Value}(hs:w.cell? ⟨g,0,none⟩=some x)(h1:x.oneCell'=true:=by rfl)(hc:1≤c:=by decide):SliceAt w (.slice (some ⟨g,0,none⟩) 1 c) 1 1 [x]:=
 ⟨rfl,by decide,fun u hu=>by rw[aun.1 hu];exact h1,.inr ⟨_,_,rfl,hc,fun j u hu=>by
  match j with
  | 0=>
   obtain rfl:x=u:=by simpa using hu
   exact hs
  | j+1=>simp at hu⟩⟩
theorem Dk(w:World)(v:Value)(n:Nat)(cs:List Value)(h:SliceAt w v 1 n cs)(hbig:n≤100000000):Calls Tryz.prog 225 #[v] w fun r w'=>∃ v',r=.returned v'∧((w'.ownsRow w.heap.size 52 1 v' n cs∧(v=.slice none 0 0↔v'=.slice none 0 0))∧aui w.heap.size w w'):=
 (F7 w v n cs h hbig).mono fun _ _ ⟨v',e,h1,h2,h3⟩=>⟨v',e,⟨h1,h2⟩,h3⟩
theorem Rf(w0:World)(q:aj)(hq:q.Ok)(s t:Int):Calls Tryz.prog 226 #[.agg #[.int .i64 q.kind,.int .u64 q.src.a,.int .u64 q.src.b,.int .u64 q.src.c,.int .u64 q.src.d,.int .u64 q.tgt.a,.int .u64 q.tgt.b,.int .u64 q.tgt.c,.int .u64 q.tgt.d,.bool q.self,.int .i64 q.cls,.int .u32 q.perms,.int .i64 q.cond],.int .i64 s,.int .i64 t] w0 (fun(r:Ending) (w':World)=>r=.returned (.bool (Vz q s t))∧aui w0.heap.size w0 w'):=by
 refine cL [] (fn:=Tryz.f226) Tryz.func226 rfl Tryz.ntmps226 rfl<|fun g1 w1 M1=>lb 0<|an rfl<|cl<|an (zS _ q.src hq.src s) fun w2 M2=>lb 0<|an (fun _=>rfl)<|cl<|an (fun _=>zS _ q.tgt hq.tgt t) fun w3 M3=>lb 0<|an (fun _=>rfl)<|?_
 exact fun M=>⟨rfl,M.below⟩
theorem ER(w0:World)(x:aj×Int)(gx:Nat)(hxc:w0.cell? ⟨gx,0,none⟩=some (.int .u64 x.2))(base:Nat)(lv:Value)(l:List (aj×Int))(hL:gL w0 base lv l)(hcl:l.length≤1000)(hok:∀ y∈l,y.1.Ok)(s t bit:Int):Calls Tryz.prog 154 #[.agg #[.int .i64 x.1.kind,.int .u64 x.1.src.a,.int .u64 x.1.src.b,.int .u64 x.1.src.c,.int .u64 x.1.src.d,.int .u64 x.1.tgt.a,.int .u64 x.1.tgt.b,.int .u64 x.1.tgt.c,.int .u64 x.1.tgt.d,.bool x.1.self,.int .i64 x.1.cls,.int .u32 x.1.perms,.int .i64 x.1.cond,.slice (some ⟨gx,0,none⟩) 1 1],lv,.int .i64 s,.int .i64 t,.int .u32 bit] w0 (fun(r:Ending) (w':World)=>r=.returned (.bool (aaz x.2 l s t bit))∧aui w0.heap.size w0 w'):=by
 obtain⟨_,_,rfl,-⟩:=au.form hL (by decide);refine cL [] (fn:=Tryz.f154) Tryz.func154 rfl Tryz.ntmps154 rfl<|fun g1 w1 M1=>lb 0<|an rfl<|cg<|an (Dk _ _ 1 [.int .u64 x.2] (vZ (auy M1.below hxc)) (by decide)) fun lv w2 ⟨⟨ho,_⟩,hb⟩=>⟨_,_,M1.BG (r:=⟨lv,52,1,1,[.int .u64 x.2]⟩) hb ho,?_⟩
 obtain⟨lg,cp,_,rfl,-,-,hlc,-⟩:=uF ho (Nat.zero_lt_one);refine lq (ι:=Nat×Int) (fun(m,acc)=>[(20,.int .i64 (m:Int))]) (fun(m,acc)=>[⟨.slice (some ⟨lg,0,none⟩) 1 cp,52,1,1,[.int .u64 acc]⟩]) (fun(m,acc) _=>m≤l.length∧acc=(l.take m).foldl (Ip s t bit) x.2) (fun(m,acc)=>l.length-m) (0,x.2) (an ⟨⟨rfl,trivial⟩,fun M=>⟨M,auj _,rfl⟩⟩ ?_);rintro⟨m,acc⟩ w M ⟨hm,hacc⟩;refine an (fun h=>?_) fun h=>cl<|an (Ba _ lg cp _ (OQ (M.r 0 rfl))) fun w7 M7=>fun M=>⟨rb (Xn (by simp at h;omega) hacc).symm,M.below⟩
 have hlt:m<l.length:=by simp at h;omega
 obtain⟨y,hy⟩:∃ y,l[m]?=some y:=⟨_,auk hlt⟩;obtain⟨b,o,_,e1,⟨_,rfl,gy,rfl,hwy,U_⟩,hc⟩:=au.elt hL (by decide) hy;refine ia<|an ⟨e1,rfl,hlt⟩<|lc (x:=_)<|an (cF M.below (AO hc))<|ei<|an xT fun g2 w3 M3=>lb 0<|an ⟨rfl,rfl⟩ fun w4 M4=>lb 0<|an rfl<|ei (x:=bits .and .u32 y.1.perms bit)<|an rfl<|lb 0<|an (fun _=>rfl)<|cl<|an (fun _=>Rf _ y.1 (hok y (aul hy)) s t) fun w5 M5=>?_
 refine an (fun hq=>an (by omega)<|bk (m+1,acc) ⟨rfl,trivial⟩ (fun M=>⟨M.only (.cons _ (.refl _)) (.refl _),by omega,Xm hy hacc hq⟩) (by dsimp only;omega)) fun hq=>?_
 refine lq (ι:=Nat×Int) (fun(k,z)=>[(40,.int .i64 (k:Int))]) (fun(k,z)=>[⟨.slice (some ⟨lg,0,none⟩) 1 cp,52,1,1,[.int .u64 z]⟩]) (fun(k,z) _=>k≤1∧(k=0→z=acc)∧(k=1→z=(l.take (m+1)).foldl (Ip s t bit) x.2)) (fun(k,z)=>1-k) (0,acc) (an ⟨⟨rfl,trivial⟩,fun M=>⟨M,auj _,fun _=>rfl,fun h=>by cases h⟩⟩ ?_);rintro⟨k,z⟩ w M ⟨hk,hz0,hz1⟩;refine an (fun h2=>?_) fun h2=>an (by omega)<|bk (m+1,z) ⟨rfl,trivial⟩ (fun M=>⟨M.only (.cons _ (.refl _)) (.refl _),by omega,hz1 (by simp at h2;omega)⟩) (by dsimp only;omega)
 obtain rfl:k=0:=by simp at h2;omega
 obtain rfl:=hz0 rfl;refine dr (by kernel_rfl)<|ia (i:=0)<|an ⟨rfl,rfl,by decide⟩<|lc (x:=.int .u64 z)<|an (OQ (M.r 0 rfl))<|lb 0<|an rfl<|ia (i:=0)<|an ⟨rfl,rfl,by decide⟩<|lc (x:=.int .u64 y.2)<|an (auy M.below ((Whole.cell hwy) 0))<|ei (x:=bits .andNot .u64 z y.2)<|an rfl<|ia (i:=0)<|an ⟨rfl,rfl,by decide⟩<|fun w hb M=>sr 0 0 ⟨rfl,rfl,by decide⟩ rfl fun w M=>an (by omega)<|bk (1,bits .andNot .u64 z y.2) ⟨rfl,trivial⟩ (fun M=>⟨M,by omega,(fun h=>by cases h),fun _=>aay hy hacc hq⟩) (by dsimp only;omega)
def mP(z:(aj×Int)×Nat):List Value:=z.1.1.cells++[.slice (some ⟨z.2,0,none⟩) 1 1]
theorem wP(z:(aj×Int)×Nat):(mP z).length=14:=rfl
def cH{α:Type}(w:World)(base:Nat)(N:List ((α×Int)×Nat)):Prop:=∀ z∈N,Whole w z.2 52 #[.int .u64 z.1.2]∧base≤z.2
theorem cH.snoc{α:Type}{w:World}{base g:Nat}{N:List ((α×Int)×Nat)}{y:α×Int}(h:cH w base N)(hw:Whole w g 52 #[.int .u64 y.2])(hg:base≤g):cH w base (N++[(y,g)]):=fun z hz=>by
 rcases auA.1 hz with h1|h1
 ·exact h z h1
 ·rw[aun.1 h1];exact⟨hw,hg⟩
theorem cH.keep{α:Type}{w w':World}{base:Nat}{N:List ((α×Int)×Nat)}(h:cH w base N)(hb:aui w.heap.size w w'):cH w' base N:=fun z hz=>⟨Whole.under hb (h z hz).1 (h z hz).1.lt,(h z hz).2⟩
theorem DX(N:List ((aj×Int)×Nat)):∀ u∈N.flatMap mP,u.oneCell'=true:=fun u hu=>by
 obtain⟨z,-,hz⟩:=List.mem_flatMap.1 hu;simp only[mP,aj.cells,auA,auB,List.not_mem_nil,or_false] at hz;rcases hz with(rfl|rfl|rfl|rfl|rfl|rfl|rfl|rfl|rfl|rfl|rfl|rfl|rfl)|rfl<;>rfl
theorem Mw{w:World}{base b n:Nat}{v:Value}{N:List ((aj×Int)×Nat)}(ho:w.ownsRow b 146 14 v n (N.flatMap mP))(hn:n=N.length)(hN:cH w base N):gL w base v (N.map (·.1)):=by
 subst hn;refine⟨N.map mP,by simp,fun x hx=>?_,?_,fun i x y hx hy=>?_⟩
 ·obtain⟨z,-,rfl⟩:=List.mem_map.1 hx;exact wP z
 ·rw[← List.flatMap_def,auC];exact SliceAt.bF ho (DX N)
 ·rw[List.getElem?_map] at hx hy
  cases hz:N[i]? with
  | none=>rw[hz] at hx;simp at hx
  | some z=>
   rw[hz] at hx hy;simp only[Option.map_some,Option.some.injEq] at hx hy;subst hx hy;obtain⟨h1,h2⟩:=hN z (aul hz);exact⟨_,rfl,z.2,rfl,h1,h2⟩
theorem gF{w:World}{base e k n:Nat}{v:Value}{xs:List Value}(h:w.ownsRow base e k v n xs):∃ a c,v=.slice a n c∧n≤c∧n≤9223372036854775807:=by
 rcases h.2 with⟨rfl,rfl⟩|⟨g,cap,cur,rfl,-,-,h1,h2,-⟩
 ·exact⟨none,0,rfl,Nat.le_refl _,by decide⟩
 ·exact⟨_,_,rfl,h1,auv h1 h2⟩
theorem OI{α:Type}{w:World}{base e k n c:Nat}{a:Option Addr}{f:α→List Value}{l:List α}(h:w.ownsRow base e k (.slice a n c) n (l.flatMap f))(hf:∀ x,(f x).length=k){m:Nat}{y:α}(hy:l[m]?=some y)(_:0<k)(hn:n=l.length):
 ∃ g,a=some ⟨g,0,none⟩∧∀ j uu,(f y)[j]?=some uu→w.cell? ⟨g,0+m*k+j,none⟩=some uu:=by
 have hm:=(aum.1 hy).1;obtain⟨g,cap,cur,hv,-,-,-⟩:=uF h (by omega);injection hv with e1 e2 e3;refine⟨g,e1,fun j u hu=>?_⟩;have hj:j<k:=by rw[← hf y];exact(aum.1 hu).1
 have:=h.cells (g:=g) (by rw[e1];rfl) (m*k+j) u (by rw[kM hf hy j hj];exact hu);rw[Addr.add_lit] at this;simpa using this
theorem RP:∀ k:Nat,k<32→IntKind.u32.wrap (Dl k*2^((1:Int)).toNat)=Dl (k+1):=by decide
theorem YI:∀ k:Nat,k<32→decide (Dl k=0)=false:=by decide
theorem Wo:Dl 32=0:=by decide
theorem Wt{α:Type}{p:α→Bool}{l:List α}{m:Nat}{y:α}(hy:l[m]?=some y)(h:(l.take m).all p=true)(hp:p y=true):(l.take (m+1)).all p=true:=by
 rw[bw hy,List.all_append,h];simp[hp]
theorem Ws{α:Type}{p:α→Bool}{l:List α}{m:Nat}{y:α}(hy:l[m]?=some y)(hp:p y=false):l.all p=false:=by
 rw[Bool.eq_false_iff];intro h;have:=auo.1 h y (aul hy);rw[hp] at this;cases this
theorem L_{p:Nat→Bool}{k:Nat}(h:(List.range k).all p=true)(hp:p k=true):(List.range (k+1)).all p=true:=by
 rw[List.range_succ,List.all_append,h];simp[hp]
theorem L7{p:Nat→Bool}{k n:Nat}(hk:k<n)(hp:p k=false):(List.range n).all p=false:=by
 rw[Bool.eq_false_iff];intro h;have:=auo.1 h k (List.mem_range.2 hk);rw[hp] at this;cases this
theorem YB{x:aj×Int}{l near:List (aj×Int)}{m:Nat}(hn:near=l.filter fun y=>sA x.1 y.1)(hm:m=x.1.pairs.length)(h:((x.1.pairs.take m).all fun p=>(List.range 32).all fun k=>!RQ x near p.1 p.2 k)=true):true=jD x l:=by
 subst hm hn;rw[aur] at h;unfold jD;rw[h,Bool.or_true]
theorem acp{x:aj×Int}{l near:List (aj×Int)}{m k:Nat}{p:Nat×Nat}(hn:near=l.filter fun y=>sA x.1 y.1)(hp:x.1.pairs[m]?=some p)(hk:k<32)(hx:decide (x.2=0)=false)(hb:RQ x near p.1 p.2 k=true):false=jD x l:=by
 subst hn;unfold jD;rw[hx,Bool.false_or];refine(Ws hp ?_).symm;exact L7 hk (by rw[hb];rfl)
theorem Ur{x:aj}{l:List (aj×Int)}{N:List ((aj×Int)×Nat)}{m g:Nat}{y:aj×Int}(hy:l[m]?=some y)(h:N.map (·.1)=(l.take m).filter fun y=>sA x y.1)(hq:sA x y.1=true):(N++[(y,g)]).map (·.1)=(l.take (m+1)).filter fun y=>sA x y.1:=by
 rw[bw hy,List.filter_append,← h,auD];simp[hq]
theorem XV{x:aj}{l:List (aj×Int)}{N:List ((aj×Int)×Nat)}{m:Nat}{y:aj×Int}(hy:l[m]?=some y)(h:N.map (·.1)=(l.take m).filter fun y=>sA x y.1)(hq:sA x y.1=false):N.map (·.1)=(l.take (m+1)).filter fun y=>sA x y.1:=by
 rw[bw hy,List.filter_append,← h];simp[hq]
theorem QW(l:List Nat):ints l=l.flatMap fun x:Nat=>[Value.int .i64 (x:Int)]:=by unfold ints;induction l<;>simp_all
theorem UN{w:World}{base n c:Nat}{a:Option Addr}{l:List Nat}(h:w.ownsRow base 3 1 (.slice a n c) n (ints l)){m y:Nat}(hy:l[m]?=some y)(hn:n=l.length):∃ g,a=some ⟨g,0,none⟩∧w.cell? ⟨g,0+m*1,none⟩=some (.int .i64 (y:Int)):=by
 obtain⟨g,e,hc⟩:=OI (k:=1) (f:=fun x:Nat=>[Value.int .i64 (x:Int)]) (l:=l) (by rw[← QW];exact h) (fun _=>rfl) hy (by decide) hn;exact⟨g,e,hc 0 _ rfl⟩
theorem Qn(w0:World)(r:aj)(hr:r.Ok):Calls Tryz.prog 59 #[.agg #[.int .i64 r.kind,.int .u64 r.src.a,.int .u64 r.src.b,.int .u64 r.src.c,.int .u64 r.src.d,.int .u64 r.tgt.a,.int .u64 r.tgt.b,.int .u64 r.tgt.c,.int .u64 r.tgt.d,.bool r.self,.int .i64 r.cls,.int .u32 r.perms,.int .i64 r.cond]] w0 fun e w'=>∃ v,e=.returned v∧(w'.ownsRow w0.heap.size 111 2 v r.pairs.length (f_ r.pairs)∧aui w0.heap.size w0 w'):=by
 refine cL [] (fn:=Tryz.f59) Tryz.func59 rfl Tryz.ntmps59 rfl<|fun g1 w1 M1=>lb 0<|an rfl<|cw M1 (Bl _ r.src hr.src) fun u1 w2 M2=>?_
 obtain⟨a1,c1,rfl,-,-⟩:=gF (v:=u1) (n:=(elems r.src).length) (M2.r 0 rfl);have hn1:(elems r.src).length≤256:=iQ _ _;refine lq (ι:=Nat×Value) (fun(k,u)=>[(3,u),(13,.int .i64 (k:Int))]) (fun(k,u)=>⟨u,111,2,(r.dg ((elems r.src).take k)).length,f_ (r.dg ((elems r.src).take k))⟩::_) (fun(k,u) _=>k≤(elems r.src).length) (fun(k,u)=>(elems r.src).length-k) (0,.slice none 0 0) (an ⟨⟨rfl,rfl,trivial⟩,fun M=>⟨M.bC 111 2,auj _⟩⟩ ?_);rintro⟨k,u⟩ w M hk;refine an (fun h=>?_) fun h=>?_
 ·have hlt:k<(elems r.src).length:=by simp at h;omega
  obtain⟨s,hs⟩:∃ s,(elems r.src)[k]?=some s:=⟨_,auk hlt⟩;obtain⟨g,e,hc⟩:=UN (M.r 1 rfl) hs rfl;have hP:=yq r ((elems r.src).take k);have hP2:=List.length_take_le k (elems r.src);have zR:=bw hs;refine ia<|an ⟨e,rfl,hlt⟩<|lc (x:=.int .i64 (s:Int))<|an hc<|lb 0<|an rfl<|ei<|an KO fun g2 w3 M3=>lb 0<|an ⟨rfl,rfl⟩ fun w4 M4=>lb 1<|an rfl<|?_
  have hT:elems (r.tgts s)=if r.self=true then elems (r.tgt.with s) else elems r.tgt:=by unfold aj.tgts;split<;>rfl
  refine an (fun hf=>?_) fun hf=>?_
  rw[if_pos hf] at hT;refine lb 0<|an rfl<|cl<|an (S_ _ r.tgt hr.tgt s) fun w5 M5=>lb 0<|an ⟨rfl,rfl⟩ fun w6 M6=>lb 0<|an rfl<|cw M6 (Bl _ (r.tgt.with s) (ay.EJ hr.tgt s)) fun u2 w7 M7=>?_
  obtain⟨a2,c2,rfl,-,-⟩:=gF (v:=u2) (n:=(elems (r.tgt.with s)).length) (M7.r 0 rfl);generalize elems (r.tgt.with s)=l2 at *
  rotate_left
  rw[if_neg (by rw[hf];decide)] at hT;refine lb 0<|an rfl<|cw M4 (Bl _ r.tgt hr.tgt) fun u2 w7 M7=>?_
  obtain⟨a2,c2,rfl,-,-⟩:=gF (v:=u2) (n:=(elems r.tgt).length) (M7.r 0 rfl);generalize elems r.tgt=l2 at *
  all_goals
   subst hT;have hn2:(elems (r.tgts s)).length≤256:=iQ _ _;refine lq (ι:=Nat×Value) (fun(q,u)=>[(3,u),(27,.int .i64 (q:Int))]) (fun(q,u)=>[_,⟨u,111,2,(r.dg ((elems r.src).take k)).length+q,f_ (r.dg ((elems r.src).take k))++f_ (((elems (r.tgts s)).take q).map fun t=>(s,t))⟩,_]) (fun(q,u) _=>q≤(elems (r.tgts s)).length) (fun(q,u)=>(elems (r.tgts s)).length-q) (0,u) (an ⟨⟨rfl,rfl,trivial⟩,fun M=>⟨M.cast rfl (by dsimp only;rw[List.take_zero,List.map_nil,show f_ []=[] from rfl,List.append_nil,Nat.add_zero]),auj _⟩⟩ ?_);rintro⟨q,u⟩ w M hq;refine an (fun h=>?_) fun h=>?_
   ·have hlt:q<(elems (r.tgts s)).length:=by simp at h;omega
    obtain⟨y,hy⟩:∃ y,(elems (r.tgts s))[q]?=some y:=⟨_,auk hlt⟩;obtain⟨g,e,hc⟩:=UN (M.r 0 rfl) hy rfl;refine ia<|an ⟨e,rfl,hlt⟩<|lc (x:=.int .i64 (y:Int))<|an hc<|ei (x:=.agg #[.int .i64 (s:Int),.int .i64 (y:Int)])<|an (bd (by kernel_rfl))<|fun g3 w8 M8=>ap 1 id rfl (M8.slice 0 rfl (k:=2) (n:=1) rfl rfl (by simp[maxLen])) ⟨by unfold maxLen;omega,by omega⟩ fun v4 w9 M9=>an (by omega)<|bk (q+1,v4) ⟨rfl,rfl,trivial⟩ (fun M=>⟨(M.only (.cons _ (.refl _)) (.refl _)).cast rfl (by dsimp only;rw[bw hy,auD,lD,← List.append_assoc];rfl),by dsimp only;omega⟩) (by dsimp only;omega)
   obtain rfl:q=(elems (r.tgts s)).length:=by simp at h;omega
   exact an (by omega)<|bk (k+1,u) ⟨rfl,rfl,trivial⟩ (fun M=>⟨(M.only (.cons _ (.refl _)) (.cons _ (.refl _))).cast rfl (by dsimp only;rw[aur,zR,uE,lD,auE,auC]),by dsimp only;omega⟩) (by dsimp only;omega)
 obtain rfl:k=(elems r.src).length:=by simp at h;omega
 exact fun M=>⟨_,rfl,by have h:=M.r 0 rfl;rw[aur] at h;exact h,M.below⟩
theorem yG(w0:World)(x:aj×Int)(hxo:x.1.Ok)(gx:Nat)(hxc:w0.cell? ⟨gx,0,none⟩=some (.int .u64 x.2))(base:Nat)(lv:Value)(l:List (aj×Int))(hL:gL w0 base lv l)(hcl:l.length≤1000)(hok:∀ y∈l,y.1.Ok):Calls Tryz.prog 80 #[.agg #[.int .i64 x.1.kind,.int .u64 x.1.src.a,.int .u64 x.1.src.b,.int .u64 x.1.src.c,.int .u64 x.1.src.d,.int .u64 x.1.tgt.a,.int .u64 x.1.tgt.b,.int .u64 x.1.tgt.c,.int .u64 x.1.tgt.d,.bool x.1.self,.int .i64 x.1.cls,.int .u32 x.1.perms,.int .i64 x.1.cond,.slice (some ⟨gx,0,none⟩) 1 1],lv] w0 (fun(r:Ending) (w':World)=>r=.returned (.bool (jD x l))∧aui w0.heap.size w0 w'):=by
 obtain⟨_,_,rfl,-⟩:=au.form hL (by decide);refine cL [] (fn:=Tryz.f80) Tryz.func80 rfl Tryz.ntmps80 rfl<|fun g1 w1 M1=>lb 0<|an rfl<|cl<|an (Ba _ gx 1 _ (auy M1.below hxc)) fun w2 M2=>an (fun h=>fun M=>⟨rb (by unfold jD;rw[h];rfl),M.below⟩) fun h0=>lq (ι:=Nat×Value×List ((aj×Int)×Nat)) (fun(m,v,N)=>[(5,v),(16,.int .i64 (m:Int))]) (fun(m,v,N)=>[⟨v,146,14,N.length,N.flatMap mP⟩]) (fun(m,v,N) _=>m≤l.length∧N.map (·.1)=((l.take m).filter fun y=>sA x.1 y.1)∧cH w0 base N) (fun(m,v,N)=>l.length-m) (0,.slice none 0 0,[]) (an ⟨⟨rfl,rfl,trivial⟩,fun M=>⟨M.bC 146 14,auj _,rfl,(fun _ h=>by cases h)⟩⟩ ?_)
 rintro⟨m,v,N⟩ w M ⟨hm,Da,hN⟩;refine an (fun h=>?_) fun h=>?_
 ·have hlt:m<l.length:=by simp at h;omega
  obtain⟨y,hy⟩:∃ y,l[m]?=some y:=⟨_,auk hlt⟩;obtain⟨b,o,_,e1,⟨_,rfl,gy,rfl,hwy,U_⟩,hc⟩:=au.elt hL (by decide) hy
  have hlN:N.length≤1000:=by
   have h:=congrArg List.length Da;rw[auC] at h;rw[h];exact auv (List.length_filter_le _ _) (by rw[List.length_take];omega)
  exact ia<|an ⟨e1,rfl,hlt⟩<|lc<|an (cF M.below (AO hc))<|ei<|an xT fun g2 w3 M3=>lb 0<|an ⟨rfl,rfl⟩ fun w4 M4=>lb 0<|an rfl<|lb 1<|an rfl<|lb 0<|an (fun _=>rfl)<|lb 1<|an (fun _=>rfl)<|lb 0<|an (fun _=>rfl)<|lb 1<|an (fun _=>rfl)<|ei (x:=bits .and .u32 y.1.perms x.1.perms)<|an (fun _=>rfl)<|an (fun hq=>lb 0<|an rfl<|fun g3 w5 M5=>ap 0 id rfl (M5.slice 0 rfl (k:=14) (n:=1) rfl rfl (by simp[maxLen])) ⟨by unfold maxLen;omega,by omega⟩ fun v4 w6 M6=>an (by omega)<|bk (m+1,v4,N++[(y,gy)]) ⟨rfl,rfl,trivial⟩ (fun M=>⟨(M.only (.cons _ (.cons _ (.refl _))) (.refl _)).cast rfl (by dsimp only;rw[auE,auF];rfl),by omega,Ur hy Da hq,hN.snoc hwy U_⟩) (by dsimp only;omega)) fun hq=>an (by omega)<|bk (m+1,v,N) ⟨rfl,rfl,trivial⟩ (fun M=>⟨M.only (.cons _ (.refl _)) (.refl _),by omega,XV hy Da hq,hN⟩) (by dsimp only;omega)
 obtain rfl:m=l.length:=by simp at h;omega
 rw[aur] at Da;refine lb 0<|an rfl<|cw M (Qn _ x.1 hxo) fun u w7 M7=>?_
 obtain⟨pa,pc,rfl,-,hpl⟩:=gF (v:=u) (n:=x.1.pairs.length) (M7.r 0 rfl);refine lr (ι:=Nat) (fun m=>[(55,.int .i64 (m:Int))]) (fun m _=>m≤x.1.pairs.length∧((x.1.pairs.take m).all fun p=>(List.range 32).all fun k=>!RQ x (N.map (·.1)) p.1 p.2 k)=true) (fun m=>x.1.pairs.length-m) 0 (an ⟨⟨rfl,trivial⟩,fun M=>⟨M,auj _,rfl⟩⟩ ?_);intro m w8 M8 ⟨hm,hall⟩;refine an (fun h2=>?_) fun h2 M=>⟨rb (YB Da (by simp at h2;omega) hall).symm,M.below⟩
 have hlt:m<x.1.pairs.length:=by simp at h2;omega
 obtain⟨p,hp⟩:∃ p,x.1.pairs[m]?=some p:=⟨_,auk hlt⟩;obtain⟨pg,e1,hc⟩:=OI (k:=2) (f:=IQ) (M8.r 0 rfl) (fun _=>rfl) hp (by decide) rfl;refine ia<|an ⟨e1,rfl,hlt⟩<|lc<|an hc<|ei<|an adj fun g5 w9 M9=>lb 0<|an ⟨rfl,rfl⟩ fun tS nr=>lr (ι:=Nat) (fun k=>[(10,.int .u32 (Dl k))]) (fun k _=>k≤32∧((List.range k).all fun k=>!RQ x (N.map (·.1)) p.1 p.2 k)=true) (fun k=>32-k) 0 (an ⟨⟨rfl,trivial⟩,fun M=>⟨M,by decide,rfl⟩⟩ ?_)
 intro k Dw M11 ⟨hk,Zu⟩;refine an (fun h3=>?_) fun h3=>?_
 ·have Yf:k<32:=by
   rcases Nat.lt_or_ge k 32 with h|h
   ·exact h
   ·rw[show k=32 by omega,Wo] at h3;cases h3
  refine lb 1<|an rfl<|ei (x:=bits .and .u32 x.1.perms (Dl k))<|an rfl<|lb 1<|an (fun _=>rfl)<|ei (x:=0)<|an (fun _=>⟨rfl,by decide⟩)<|lb 0<|an (fun _=>rfl)<|ei (x:=1)<|an (fun _=>⟨rfl,by decide⟩)<|lb 0<|an (fun _=>rfl)<|cl<|an (fun _=>ER _ x gx (auy M11.below hxc) base v (N.map (·.1)) (Mw (M11.r 1 rfl) rfl (hN.keep M11.below)) (by rw[Da];exact auv (List.length_filter_le _ _) hcl) (by rw[Da];exact fun z hz=>hok z (List.mem_filter.1 hz).1) p.1 p.2 (Dl k)) fun He Dr=>?_
  refine an (fun hb M=>⟨rb (acp Da hp Yf h0 hb).symm,M.below⟩) fun hb=>?_
  refine ei (x:=.int .u32 (Dl (k+1)))<|an (fun a w o ho hv=>?_)<|bk (k+1) ⟨rfl,trivial⟩ (fun M=>⟨M,by omega,L_ Zu (by rw[show RQ x (N.map (·.1)) p.1 p.2 k=false from hb];rfl)⟩) (by dsimp only;omega);exact(j5 ho (kB hv) (qX hv) (by decide) (by decide)).trans (by rw[RP k Yf])
 have Yf:k=32:=by
  rcases Nat.lt_or_ge k 32 with h|h
  ·rw[YI k h] at h3;cases h3
  ·omega
 exact an (by omega)<|bk (m+1) ⟨rfl,trivial⟩ (fun M=>⟨M.only (.cons _ (.refl _)) (.refl _),by omega,Wt hp hall (by rw[← Yf];exact Zu)⟩) (by dsimp only;omega)
theorem Yw{P:Program}{a:Act}{w:World}{o:Oper}{f:FuncId}{cs:Array Operand}{cap:Array Value}(ho:o.op=.makeFunc (.func f) #[] cs)(hc:cs.map a.eval=cap):(execOp a.eval o).run P w=.ok (.value (.func (.func f) #[] cap)) w:=by
 unfold execOp;simp[ho,hc,Instr.makeFunc]
def firstAt{α:Type}(p:α→Bool):List α→Nat→Int
 | [],_=>-1
 | x::l,k=>if p x=true then (k:Int) else firstAt p l (k+1)
theorem BN{α:Type}{p:α→Bool}:∀ {l:List α} {k:Nat},decide (0≤firstAt p l k)=l.any p
 | [],_=>rfl
 | x::l,k=>by
  rw[firstAt,List.any_cons]
  cases h:p x with
  | true=>rw[if_pos rfl];simp
  | false=>rw[if_neg (by decide),BN];rfl
theorem Nl{α:Type}{p:α→Bool}{l:List α}{m:Nat}{y:α}(hy:l[m]?=some y)(h:firstAt p l 0=firstAt p (l.drop m) m)(hp:p y=true):(m:Int)=firstAt p l 0:=by
 rw[h,List.drop_eq_getElem_cons (aum.1 hy).1,(aum.1 hy).2,firstAt,if_pos hp]
theorem Nk{α:Type}{p:α→Bool}{l:List α}{m:Nat}{y:α}(hy:l[m]?=some y)(h:firstAt p l 0=firstAt p (l.drop m) m)(hp:p y=false):firstAt p l 0=firstAt p (l.drop (m+1)) (m+1):=by
 rw[h,List.drop_eq_getElem_cons (aum.1 hy).1,(aum.1 hy).2,firstAt,if_neg (by rw[hp];decide)]
theorem JL{α:Type}{p:α→Bool}{l:List α}{m:Nat}(hm:m=l.length)(h:firstAt p l 0=firstAt p (l.drop m) m):-1=firstAt p l 0:=by
 subst hm;rw[h,List.drop_length];rfl
theorem X2(a b:List (aj×Int)):(!(a.any fun x=>!jD x b))=Jq a b:=by
 unfold Jq;rw[List.not_any_eq_all_not];simp
theorem UY(w0:World)(x:aj×Int)(hxo:x.1.Ok)(gx:Nat)(hxc:w0.cell? ⟨gx,0,none⟩=some (.int .u64 x.2))(bx base:Nat)(lv:Value)(l:List (aj×Int))(Yl:Whole w0 bx 141 #[lv])(hL:gL w0 base lv l)(hcl:l.length≤1000)(hok:∀ y∈l,y.1.Ok):Calls Tryz.prog 153 #[.agg #[.int .i64 x.1.kind,.int .u64 x.1.src.a,.int .u64 x.1.src.b,.int .u64 x.1.src.c,.int .u64 x.1.src.d,.int .u64 x.1.tgt.a,.int .u64 x.1.tgt.b,.int .u64 x.1.tgt.c,.int .u64 x.1.tgt.d,.bool x.1.self,.int .i64 x.1.cls,.int .u32 x.1.perms,.int .i64 x.1.cond,.slice (some ⟨gx,0,none⟩) 1 1],.pointer (some ⟨bx,0,none⟩)] w0 (fun(r:Ending) (w':World)=>r=.returned (.bool (!jD x l))∧aui w0.heap.size w0 w'):=by
 have bL:=hr1 Tryz.prog Tryz.f153 (fun(r:Ending) (w':World)=>r=.returned (.bool (!jD x l))∧aui w0.heap.size w0 w') 8 3 rfl;refine en Tryz.func153 rfl Tryz.ntmps153 rfl (vs:=[.agg #[.int .i64 x.1.kind,.int .u64 x.1.src.a,.int .u64 x.1.src.b,.int .u64 x.1.src.c,.int .u64 x.1.src.d,.int .u64 x.1.tgt.a,.int .u64 x.1.tgt.b,.int .u64 x.1.tgt.c,.int .u64 x.1.tgt.d,.bool x.1.self,.int .i64 x.1.cls,.int .u32 x.1.perms,.int .i64 x.1.cond,.slice (some ⟨gx,0,none⟩) 1 1],.pointer (some ⟨bx,0,none⟩)]) rfl fun _ F=>?_
 have M:=Mm.start w0;refine aus fun K1 gV=>ah<|Hf (on rfl) rfl (F.u rf) rfl F rfl M fun g1 _ _ F M=>xA (v:=.bool false) F rf rf rf fun _ F=>aut<|gV _ _ ?_
 refine aus fun K2 h_=>ah<|xW F (M.b 0 rfl) rf rf rf Ig rf jQ rf fun _ F=>kz F rf (bW rf (F.u rf) yV rfl ((cF M.below (Du Yl)) 0 _ rfl)) fun _ F=>xC F M rf rf q80 (args2 (F.u rf) (F.u rf)) (yG _ x hxo gx (auy M.below hxc) base lv l (hL.keep M.below) hcl hok) fun _ _ F M=>kz F rf (pq rfl (F.u rf)) fun _ F=>xA F rf rf rf fun _ F=>aut<|h_ _ _ ?_
 refine wp_ret<|bL _ _ _ _ F rfl ?_;exact⟨rfl,M.below⟩
theorem UU(w0:World)(bx base:Nat)(lv:Value)(l:List (aj×Int))(Yl:Whole w0 bx 141 #[lv])(hL:gL w0 base lv l)(hcl:l.length≤1000)(hok:∀ y∈l,y.1.Ok)(av:Value)(a1:List (aj×Int))(hA:gL w0 base av a1)(hca:a1.length≤1000)(U9:∀ y∈a1,y.1.Ok):Calls Tryz.prog 224 #[av,.func (.func 153) #[] #[.pointer (some ⟨bx,0,none⟩)]] w0 (fun(r:Ending) (w':World)=>r=.returned (.int .i64 (firstAt (fun x=>!jD x l) a1 0))∧aui w0.heap.size w0 w'):=by
 obtain⟨la6,lk6,rfl,hk6,hm6,aby⟩:=au.form hA (by decide);have bL:=hr1 Tryz.prog Tryz.f224 (fun(r:Ending) (w':World)=>r=.returned (.int .i64 (firstAt (fun x=>!jD x l) a1 0))∧aui w0.heap.size w0 w') 19 4 rfl;refine en Tryz.func224 rfl Tryz.ntmps224 rfl (vs:=[.slice la6 a1.length lk6,.func (.func 153) #[] #[.pointer (some ⟨bx,0,none⟩)]]) rfl fun _ F=>?_
 have M:=Mm.start w0;refine aus fun K1 gV=>ah<|xA (v:=.int .i64 0) F rf rf rf fun _ F=>aut<|gV _ _ ?_
 refine aus fun K2 h_=>aus fun K3 nh=>ah<|xM F rf rf rf fun _ F=>kz F rf (fQ rfl (F.u rf) yV) fun _ F=>xM (v:=.int .i64 0) F rf rf rf fun _ F=>aut<|nh _ _ ?_
 refine auw<|?_;refine eH (ι:=Nat) (fun m a w=>Fs a 19 [(0,.slice la6 a1.length lk6),(1,.func (.func 153) #[] #[.pointer (some ⟨bx,0,none⟩)]),(7,.int .i64 (a1.length:Int)),(8,.int .i64 (m:Int))]∧Mm w0 w [] []∧m≤a1.length∧firstAt (fun x=>!jD x l) a1 0=firstAt (fun x=>!jD x l) (a1.drop m) m) (fun m=>a1.length-m) 0 ⟨F.sub ⟨rfl,rfl,rfl,rfl,trivial⟩,M,auj _,rfl⟩ ?_
 (repeat clear F);(repeat clear M)
 rintro m _ _ ⟨F,M,hm,hI⟩;refine aus fun K4 n_=>ah<|kz F rf (jf rfl (F.u rf) (F.u rf)) fun _ F=>aut<|n_ _ _ ?_
 refine aus fun K5 nZ=>?_
 refine auu (F.e 9 rfl) (fun hc1=>?_) (fun hc1=>?_)
 ·have hd2:=of_decide_eq_true hc1;refine wp_skip<|nZ _ _ ?_;refine aus fun K6 pN=>auw<|aus fun K7 rR=>ah<|xM F rf rf rf fun _ F=>xA F rf rf rf fun _ F=>aut<|rR _ _ ?_
  refine aus fun K8 wX=>?_
  have ahZ:m<a1.length:=by omega
  obtain⟨x,hx⟩:∃ x,a1[m]?=some x:=⟨_,auk ahZ⟩;obtain⟨b6,o6,cs6,rfl,⟨_,rfl,gx,rfl,hwx,hlx⟩,-,hr6⟩:=aby m x hx;have hr6:=AO hr6
  refine ah<|xM F rf rf rf fun _ F=>xM F rf rf rf fun _ F=>xM F rf rf rf fun _ F=>
   kz F rf (bE (i:=m) rfl (F.u rf) (F.u rf) (by omega) yV jQ) fun _ F=>
   kz F rf (gW [.int .i64 x.1.kind,.int .u64 x.1.src.a,.int .u64 x.1.src.b,.int .u64 x.1.src.c,.int .u64 x.1.src.d,.int .u64 x.1.tgt.a,.int .u64 x.1.tgt.b,.int .u64 x.1.tgt.c,.int .u64 x.1.tgt.d,.bool x.1.self,.int .i64 x.1.cls,.int .u32 x.1.perms,.int .i64 x.1.cond,.slice (some ⟨gx,0,none⟩) 1 1] rfl (F.u rf) Ig rfl jQ (cF M.below hr6)) fun _ F=>
   kc (on rfl) (FV rfl (F.u rf) Tryz.func153 (by kernel_rfl) rfl (args:=#[.agg #[.int .i64 x.1.kind,.int .u64 x.1.src.a,.int .u64 x.1.src.b,.int .u64 x.1.src.c,.int .u64 x.1.src.d,.int .u64 x.1.tgt.a,.int .u64 x.1.tgt.b,.int .u64 x.1.tgt.c,.int .u64 x.1.tgt.d,.bool x.1.self,.int .i64 x.1.cls,.int .u32 x.1.perms,.int .i64 x.1.cond,.slice (some ⟨gx,0,none⟩) 1 1],.pointer (some ⟨bx,0,none⟩)]) (by simp[(F.e 15 rfl)])) (UY _ x (U9 x (aul hx)) gx (auy M.below (by simpa using hwx.cell 0)) bx base lv l (Whole.under M.below Yl Yl.lt) (hL.keep M.below) hcl hok) rfl F rfl M fun _ _ F M=>
   aut<|
   wX _ _ ?_
  refine auu (F.e 16 rfl) (fun hc3=>?_) (fun hc3=>?_)
  ·have Vf:(jD x l)=false:=by simpa using hc3
   have Ya:(!jD x l)=true:=hc3;refine aus fun K9 yD=>ah<|xM F rf rf rf fun _ F=>xA F rf rf rf fun _ F=>aut<|yD _ _ ?_
   refine wp_ret<|bL _ _ _ _ F rfl ?_;exact⟨dQ (Nl hx hI Ya),M.below⟩
  ·have Sq:(jD x l)=true:=by simpa using hc3
   have Ya:(!jD x l)=false:=hc3;refine wp_skip<|pN _ _ ?_
   refine ah<|
    ke (on rfl) (eV rfl (F.u rf) rfl) rfl F rfl (congrArg (Value.int .i64) (wrap_i64 (by omega))) fun _ F=>
    xM F rf rf rf fun _ F=>
    aut<|?_
   exact⟨m+1,⟨F.sub ⟨rfl,rfl,rfl,rfl,trivial⟩,M,by omega,Nk hx hI Ya⟩,by show a1.length-(m+1)<a1.length-m;omega⟩
 ·have hd6:=of_decide_eq_false hc1;refine wp_exit<|h_ _ _ ?_;refine aus fun WG lS=>ah<|xA (v:=.int .i64 (-1)) F rf rf rf fun _ F=>aut<|lS _ _ ?_
  refine wp_ret<|bL _ _ _ _ F rfl ?_;exact⟨dQ (JL (by omega) hI),M.below⟩
theorem UW(w0:World)(bx base:Nat)(lv:Value)(l:List (aj×Int))(Yl:Whole w0 bx 141 #[lv])(hL:gL w0 base lv l)(hcl:l.length≤1000)(hok:∀ y∈l,y.1.Ok)(av:Value)(a1:List (aj×Int))(hA:gL w0 base av a1)(hca:a1.length≤1000)(U9:∀ y∈a1,y.1.Ok):Calls Tryz.prog 152 #[av,.func (.func 153) #[] #[.pointer (some ⟨bx,0,none⟩)]] w0 (fun(r:Ending) (w':World)=>r=.returned (.bool (a1.any fun x=>!jD x l))∧aui w0.heap.size w0 w'):=by
 have bL:=hr1 Tryz.prog Tryz.f152 (fun(r:Ending) (w':World)=>r=.returned (.bool (a1.any fun x=>!jD x l))∧aui w0.heap.size w0 w') 9 4 rfl;refine en Tryz.func152 rfl Tryz.ntmps152 rfl (vs:=[av,.func (.func 153) #[] #[.pointer (some ⟨bx,0,none⟩)]]) rfl fun _ F=>?_
 have M:=Mm.start w0;refine aus fun K1 gV=>ah<|xA (v:=.bool false) F rf rf rf fun _ F=>aut<|gV _ _ ?_
 refine aus fun K2 h_=>ah<|xM F rf rf rf fun _ F=>xM F rf rf rf fun _ F=>xC F M rf rf ag0 (args2 (F.u rf) (F.u rf)) (UU _ bx base lv l (Whole.under M.below Yl Yl.lt) (hL.keep M.below) hcl hok av a1 (hA.keep M.below) hca U9) fun _ _ F M=>kz F rf (JW rfl (F.u rf) rfl) fun _ F=>xA F rf rf rf fun _ F=>aut<|h_ _ _ ?_
 refine wp_ret<|bL _ _ _ _ F rfl ?_;exact⟨aD BN,M.below⟩
theorem uJ(w0:World)(base:Nat)(lv:Value)(l:List (aj×Int))(hL:gL w0 base lv l)(hcl:l.length≤1000)(hok:∀ y∈l,y.1.Ok)(av:Value)(a1:List (aj×Int))(hA:gL w0 base av a1)(hca:a1.length≤1000)(U9:∀ y∈a1,y.1.Ok):Calls Tryz.prog 79 #[av,lv] w0 (fun(r:Ending) (w':World)=>r=.returned (.bool (Jq a1 l))∧aui w0.heap.size w0 w'):=by
 obtain⟨g_,gZ,rfl,hk5,hm5,Na⟩:=au.form hL (by decide);have bL:=hr1 Tryz.prog Tryz.f79 (fun(r:Ending) (w':World)=>r=.returned (.bool (Jq a1 l))∧aui w0.heap.size w0 w') 9 4 rfl;refine en Tryz.func79 rfl Tryz.ntmps79 rfl (vs:=[av,.slice g_ l.length gZ]) rfl fun _ F=>?_
 have M:=Mm.start w0;refine aus fun K1 gV=>ah<|kb1 (on rfl) rfl (F.u rf) rfl rfl F rfl M fun g1 _ _ F M=>xA (v:=.bool false) F rf rf rf fun _ F=>aut<|gV _ _ ?_
 refine aus fun K2 h_=>ah<|xM F rf rf rf fun _ F=>
  kz F rf (Yw (cap:=#[.pointer (some ⟨g1,0,none⟩)]) rfl (by simp[(F.e 3 rfl)])) fun _ F=>
  xC F M rf rf ag3 (args2 (F.u rf) (F.u rf)) (UW _ g1 base _ l (M.b 0 rfl) (hL.keep M.below) hcl hok av a1 (hA.keep M.below) hca U9) fun _ _ F M=>
  kz F rf (pq rfl (F.u rf)) fun _ F=>
  xA F rf rf rf fun _ F=>
  aut<|
  h_ _ _ ?_
 refine wp_ret<|bL _ _ _ _ F rfl ?_;exact⟨aD (X2 a1 l),M.below⟩
theorem St.abR{w w':World}{mb:Nat}(h:St [mb] w w'):w.grownBy w' (some mb):=⟨h.os,h.tape,h.output,h.size,fun k hk hne=>h.block k hk fun e=>hne (congrArg some (aun.1 e))⟩
theorem aY.Ih{B:Nat}{w0 w w':World}{bs:List Bx}{rs:List Rw}(M:aY B w0 w bs rs)(i:Nat){mb:Nat}{L L':List (Int×Value)}(hi:bs[i]?=some (mb,9003,eE L))(h:St [mb] w w')(hM:aX w' Tryz.prog 3 mb (L'.map ival)):aY B w0 w' (bs.set i (mb,9003,eE L')) rs:=
 M.turn i hi rfl h.abR (mO hM) fun _ _ h2=>gP h2 (M.map i hi)
def CH(w:World)(base:Nat)(L:List (Int×Value))(act:Int→Int):Prop:=∀ k v,jI L k=some v→bT w base v (act k)
theorem CH.old{w w':World}{base:Nat}{L:List (Int×Value)}{act:Int→Int}(h:CH w base L act)(ho:∀ g cs,Whole w g 52 cs→Whole w' g 52 cs):CH w' base L act:=fun k v hv=>by
 obtain⟨g,e,h1,h2⟩:=h k v hv;exact⟨g,e,ho _ _ h1,h2⟩
theorem CH.nil(w:World)(base:Nat)(act:Int→Int):CH w base [] act:=fun k v hv=>by cases hv
theorem cH.old{α:Type}{w w':World}{base:Nat}{N:List ((α×Int)×Nat)}(h:cH w base N)(ho:∀ g cs,Whole w g 52 cs→Whole w' g 52 cs):cH w' base N:=fun z hz=>⟨ho _ _ (h z hz).1,(h z hz).2⟩
theorem cH.nil{α:Type}(w:World)(base:Nat):cH w base ([]:List ((α×Int)×Nat)):=fun z hz=>by cases hz
def DH(z:(bM×Int)×Nat):List Value:=z.1.1.cells
def r_{α:Type}(z:(α×Int)×Nat):List Value:=[.slice (some ⟨z.2,0,none⟩) 1 1]
def C4(u:Int)(n:Nat)(conds:List aq)(y:bM):Option (bM×Int):=if eW u n conds y.cond=0 then none else some ({ y with cond:=0 },eW u n conds y.cond)
theorem aau{u:Int}{n m:Nat}{conds:List aq}{l:List bM}{N:List ((bM×Int)×Nat)}{y:bM}(hy:l[m]?=some y)(h:N.map (·.1)=(l.take m).filterMap (C4 u n conds))(hq:decide (eW u n conds y.cond=0)=true):N.map (·.1)=(l.take (m+1)).filterMap (C4 u n conds):=by
 rw[bw hy,auG,← h];simp[C4,of_decide_eq_true hq]
theorem Xk{u:Int}{n m g:Nat}{conds:List aq}{l:List bM}{N:List ((bM×Int)×Nat)}{y:bM}(hy:l[m]?=some y)(h:N.map (·.1)=(l.take m).filterMap (C4 u n conds))(hq:decide (eW u n conds y.cond=0)=false):(N++[((({ y with cond:=0 }:bM),eW u n conds y.cond),g)]).map (fun z:(bM×Int)×Nat=>z.1)=(l.take (m+1)).filterMap (C4 u n conds):=by
 rw[bw hy,auG,auD,← h];simp[C4,of_decide_eq_false hq]
theorem o_(w0:World)(c0 c1 c2 c3 c4 c5 c6 c7 c8 c9 aV aP aO aU aT aS aR:Value)(p:aC)(hp:aM w0 c0 c1 c2 c3 c4 c5 c6 c7 c8 c9 aV aP aO aU aT aS aR p)(hok:p.Ok)(hn:p.bools.length≤5)(hcl:p.conds.length≤1000)(ah7:p.trans.length≤4096):Calls Tryz.prog 73 #[.agg #[c0,c1,c2,c3,c4,c5,c6,c7,c8,c9,aV,aP,aO,aU,aT,aS,aR]] w0 (fun(r:Ending) (w':World)=>∃ v,r=.returned v∧((∃ v1 v2,∃ N:List ((bM×Int)×Nat),v=.tuple #[v1,v2]∧N.map (·.1)=p.trans.filterMap (C4 (aK p.bools.length) p.bools.length p.conds)∧w'.ownsRow w0.heap.size 84 13 v1 N.length (N.flatMap DH)∧w'.ownsRow w0.heap.size 139 1 v2 N.length (N.flatMap r_)∧cH w' w0.heap.size N)∧aui w0.heap.size w0 w')):=by
 obtain⟨g_,gZ,rfl,hk5,hm5,Na⟩:=SliceAt.form hp.bools (by decide);obtain⟨QT,QK,rfl,aor,aeA,Yi⟩:=SliceAt.form hp.trans (by decide);have bL:=MZ Tryz.prog Tryz.f73 (fun(r:Ending) (w':World)=>∃ v,r=.returned v∧((∃ v1 v2,∃ N:List ((bM×Int)×Nat),v=.tuple #[v1,v2]∧N.map (·.1)=p.trans.filterMap (C4 (aK p.bools.length) p.bools.length p.conds)∧w'.ownsRow w0.heap.size 84 13 v1 N.length (N.flatMap DH)∧w'.ownsRow w0.heap.size 139 1 v2 N.length (N.flatMap r_)∧cH w' w0.heap.size N)∧aui w0.heap.size w0 w')) 37 2 3 rfl;refine en Tryz.func73 rfl Tryz.ntmps73 rfl (vs:=[.agg #[c0,c1,c2,c3,c4,.slice g_ p.bools.length gZ,c6,c7,c8,c9,.slice QT p.trans.length QK,aP,aO,aU,aT,aS,aR]]) rfl fun _ F=>?_
 have M:=Mm.start w0;refine aus fun K1 gV=>ah<|Hf (on rfl) rfl (F.u rf) rfl F rfl M fun g1 _ _ F M=>xA (v:=.slice none 0 0) F rf rf rf fun _ F=>xA (v:=.slice none 0 0) F rf rf rf fun _ F=>aut<|gV _ _ ?_
 refine aus fun K2 h_=>ah<|xW F (M.b 0 rfl) rf rf rf Oj rf Aw rf fun _ F=>kx (on rfl) (fS rfl Tryz.func148 Zf rfl (args1 (F.u rf))) (m_ _ _ _ _ _ _ _ _ _ _ _ _ _ _ _ _ _ g_ p.bools.length gZ hn) rfl F rfl M fun tv _ _ hR hB F _=>?_
 obtain⟨tp,mb,rfl,CS,hMb,abm,abo⟩:=hR;have M:=M.Fg hB (b1:=(tp,304,#[c0,c1,c2,c3,c4,.slice g_ p.bools.length gZ,c6,c7,c8,c9,.slice QT p.trans.length QK,aP,aO,aU,aT,aS,aR,.int .i64 1,.int .u64 (aK p.bools.length),(.map (some mb))])) (.inl ⟨rfl,CS⟩) abm (b2:=(mb,9003,eE [])) (mO hMb) abo (gP CS hMb);refine xA F rf rf rf fun _ F=>aut<|h_ _ _ ?_
 refine aus fun K3 nh=>?_
 have M:=M.bC 84 13;refine ah<|xA (v:=.slice none 0 0) F rf rf rf fun _ F=>aut<|nh _ _ ?_
 refine aus fun K4 n_=>?_
 have M:=M.bC 139 1;refine ah<|xA (v:=.slice none 0 0) F rf rf rf fun _ F=>aut<|n_ _ _ ?_
 refine aus fun K5 nZ=>aus fun K6 pN=>ah<|xF 10 F rf rf rf Oj rf agO rf fun _ F=>xL F (M.b 2 rfl) rf rf rf u31 rf rf fun _ F=>kz F rf (fQ rfl (F.u rf) u31) fun _ F=>xM (v:=.int .i64 0) F rf rf rf fun _ F=>aut<|pN _ _ ?_
 refine auw<|?_;refine eH (ι:=Nat×Value×Value×List ((bM×Int)×Nat)×List (Int×Value)) (fun|(m,v,v2,N,L),a,w=>Fs a 37 [(4,.pointer (some ⟨tp,0,none⟩)),(5,v),(6,v2),(13,.slice QT p.trans.length QK),(14,.int .i64 (p.trans.length:Int)),(15,.int .i64 (m:Int))]∧Mm w0 w [(tp,304,#[c0,c1,c2,c3,c4,.slice g_ p.bools.length gZ,c6,c7,c8,c9,.slice QT p.trans.length QK,aP,aO,aU,aT,aS,aR,.int .i64 1,.int .u64 (aK p.bools.length),(.map (some mb))]),(mb,9003,eE L)] [⟨v2,139,1,N.length,N.flatMap r_⟩,⟨v,84,13,N.length,N.flatMap DH⟩]∧m≤p.trans.length∧N.map (·.1)=(p.trans.take m).filterMap (C4 (aK p.bools.length) p.bools.length p.conds)∧cH w w0.heap.size N∧CH w w0.heap.size L (eW (aK p.bools.length) p.bools.length p.conds)) (fun|(m,v,v2,N,L)=>p.trans.length-m) (0,.slice none 0 0,.slice none 0 0,[],[]) ⟨F.sub ⟨rfl,rfl,rfl,rfl,rfl,rfl,trivial⟩,M.only (.cons_cons _ (.cons_cons _ (.cons _ .slnil))) (.cons_cons _ (.cons_cons _ .slnil)),auj _,rfl,cH.nil _ _,CH.nil _ _ _⟩ ?_
 (repeat clear F);(repeat clear M)
 rintro⟨m,v,v2,N,L⟩ _ _ ⟨F,M,hm,Da,hN,hL⟩;have MR:=M;have M:=M.E4;refine aus fun K7 rR=>ah<|kz F rf (jf rfl (F.u rf) (F.u rf)) fun _ F=>aut<|rR _ _ ?_
 refine aus fun K8 wX=>?_
 refine auu (F.e 16 rfl) (fun hc2=>?_) (fun hc2=>?_)
 ·have hd3:=of_decide_eq_true hc2;refine wp_skip<|wX _ _ ?_;refine aus fun K9 yD=>auw<|aus fun WG lS=>?_
  have hlt:m<p.trans.length:=by omega
  obtain⟨y,hy⟩:∃ y,p.trans[m]?=some y:=⟨_,auk hlt⟩;obtain⟨b10,ag9,rfl,Zt⟩:=Yi m hlt
  have aep:∀ j uu,[.int .i64 y.kind,.int .u64 y.src.a,.int .u64 y.src.b,.int .u64 y.src.c,.int .u64 y.src.d,.int .u64 y.tgt.a,.int .u64 y.tgt.b,.int .u64 y.tgt.c,.int .u64 y.tgt.d,.int .i64 y.cls,.string y.name,.int .i64 y.res,.int .i64 y.cond][j]?=some uu→w0.cell? ⟨b10,ag9+m*13+j,none⟩=some uu:=fun j u hu=>Zt j u (by
   rw[kM bM.eG hy j (aum.1 hu).1];exact hu)
  clear Zt;have qu:=hok.trans y (aul hy);have hct:p.trans.length≤4096:=ah7
  refine ah<|
   kz F rf (bE (i:=m) rfl (F.u rf) (F.u rf) (by omega) u31 Tx) fun _ F=>
   kz F rf (gW [.int .i64 y.kind,.int .u64 y.src.a,.int .u64 y.src.b,.int .u64 y.src.c,.int .u64 y.src.d,.int .u64 y.tgt.a,.int .u64 y.tgt.b,.int .u64 y.tgt.c,.int .u64 y.tgt.d,.int .i64 y.cls,.string y.name,.int .i64 y.res,.int .i64 y.cond] rfl (F.u rf) u84 rfl Tx (cF (MR.below.trans M.below) aep)) fun _ F=>
   Jh (on rfl) rfl KN rfl F rfl M fun g4 _ _ F M=>
   KG (on rfl) rfl (F.u rf) (F.u rf) F M 0 rfl Tx rfl rfl rfl fun _ M=>
   aut<|
   lS _ _ ?_
  refine aus fun Z7 qE=>ah<|xM F rf rf rf fun _ F=>xF 12 F rf rf rf u84 rf Tz rf fun _ F=>xL F (M.b 0 rfl) rf rf rf u3 rf rf fun _ F=>kt (on rfl) (fS rfl Tryz.func149 Uo rfl (args2 (F.u rf) (F.u rf))) (tP _ w0.heap.size tp mb _ _ _ _ _ _ _ _ _ _ _ _ _ _ _ _ g_ p.bools.length gZ (aK p.bools.length) p.conds hn (hp.conds.keep (MR.below.trans M.below)) hcl y.cond (hok.trans y (aul hy)).cond ⟨M.b 1 rfl,⟨_,M.map 2 rfl,hL.old M.old⟩,⟨M.lo _ (aul (i:=1) rfl),M.lo _ (aul (i:=2) rfl)⟩⟩) rfl F rfl fun v9 _ w9 hR F=>?_
  obtain⟨⟨gs,rfl,hws,hls⟩,⟨aik,⟨L9,O4,hL9⟩,-⟩,Ss⟩:=hR;have M:=M.Ih 2 rfl Ss O4;have hN:=hN.old M.old;have MR:=MR.comp M;have M:=M.E4;have hL:CH _ _ _ _:=hL9;refine xA F rf rf rf fun _ F=>aut<|qE _ _ ?_
  refine aus fun Z6 pI=>aus fun Z5 pH=>ah<|xM F rf rf rf fun _ F=>
   xC F M rf rf ag4 (args1 (F.u rf)) (Ba _ gs 1 _ (by simpa using(M.old _ _ hws).cell 0)) fun _ _ F M=>
   aut<|
   pH _ _ ?_
  refine auu (F.e 24 rfl) (fun hc5=>?_) (fun hc5=>?_)
  ·have hd6:=of_decide_eq_true hc5;have Ya:decide (eW (aK p.bools.length) p.bools.length p.conds y.cond=0)=true:=hc5;refine wp_exit<|yD _ _ ?_
   refine ah<|
    ke (on rfl) (eV rfl (F.u rf) rfl) rfl F rfl (congrArg (Value.int .i64) (wrap_i64 (by omega))) fun _ F=>
    xM F rf rf rf fun _ F=>
    aut<|?_
   exact⟨(m+1,v,v2,N,L9),⟨F.sub ⟨rfl,rfl,rfl,rfl,rfl,rfl,trivial⟩,MR.comp (M.only (.cons _ (.cons_cons _ (.cons_cons _ .slnil))) (.cons_cons _ (.cons_cons _ .slnil))),by omega,aau hy Da Ya,hN.old M.old,hL.old M.old⟩,by show p.trans.length-(m+1)<p.trans.length-m;omega⟩
  ·have hd7:=of_decide_eq_false hc5;have Ya:decide (eW (aK p.bools.length) p.bools.length p.conds y.cond=0)=false:=hc5;refine wp_skip<|pI _ _ ?_;refine aus fun K14 tC=>ah<|xF 12 F rf rf rf u84 rf Tz rf fun _ F=>ks (on rfl) rfl (F.u rf) rfl F M 0 (cs':=#[.int .i64 y.kind,.int .u64 y.src.a,.int .u64 y.src.b,.int .u64 y.src.c,.int .u64 y.src.d,.int .u64 y.tgt.a,.int .u64 y.tgt.b,.int .u64 y.tgt.c,.int .u64 y.tgt.d,.int .i64 y.cls,.string y.name,.int .i64 y.res,.int .i64 0]) rfl rfl rfl Tz rfl rfl rfl rfl fun _ M=>aut<|tC _ _ ?_
   have hlN:N.length≤4096:=by
    have h:=congrArg List.length Da;rw[auC] at h;rw[h];exact auv (List.length_filterMap_le _ _) (auv (List.length_take_le _ _) (auv (Nat.le_of_lt hlt) hct))
   refine ah<|xM F rf rf rf fun _ F=>xW F (M.b 0 rfl) rf rf rf u84 rf Tx rf fun _ F=>
    kl (on rfl) rfl u31 Tx KN rfl (pv:=#[(0,.agg #[.int .i64 y.kind,.int .u64 y.src.a,.int .u64 y.src.b,.int .u64 y.src.c,.int .u64 y.src.d,.int .u64 y.tgt.a,.int .u64 y.tgt.b,.int .u64 y.tgt.c,.int .u64 y.tgt.d,.int .i64 y.cls,.string y.name,.int .i64 y.res,.int .i64 0])]) (by simp[(F.e 27 rfl)]) (cells:=#[.int .i64 y.kind,.int .u64 y.src.a,.int .u64 y.src.b,.int .u64 y.src.c,.int .u64 y.src.d,.int .u64 y.tgt.a,.int .u64 y.tgt.b,.int .u64 y.tgt.c,.int .u64 y.tgt.d,.int .i64 y.cls,.string y.name,.int .i64 y.res,.int .i64 0]) (by kernel_rfl) rfl F rfl M fun g8 _ _ F M=>
    kp (on rfl) rfl u31 ad9 rfl M 1 rfl (F.u rf) (F.u rf) (M.slice 0 rfl rfl rfl (by simp[maxLen])) ⟨by unfold maxLen;omega,by omega⟩ rfl F rfl fun v9 _ _ F M=>
    xM F rf rf rf fun _ F=>
    xM F rf rf rf fun _ F=>
    xS F M rf rf rf adv ady adg rf rf fun g10 _ _ F M=>
    kp (on rfl) rfl adv aa4 rfl M 0 rfl (F.u rf) (F.u rf) (M.slice 0 rfl rfl rfl (by simp[maxLen])) ⟨by unfold maxLen;omega,by omega⟩ rfl F rfl fun v11 _ _ F M=>
    xA F rf rf rf fun _ F=>
    xA F rf rf rf fun _ F=>
    aut<|
    yD _ _ ?_
   refine ah<|
    ke (on rfl) (eV rfl (F.u rf) rfl) rfl F rfl (congrArg (Value.int .i64) (wrap_i64 (by omega))) fun _ F=>
    xM F rf rf rf fun _ F=>
    aut<|?_
   exact⟨(m+1,v9,v11,N++[(({ y with cond:=0 },eW (aK p.bools.length) p.bools.length p.conds y.cond),gs)],L9),⟨F.sub ⟨rfl,rfl,rfl,rfl,rfl,rfl,trivial⟩,(MR.comp (M.only (.cons _ (.cons _ (.cons _ (.cons_cons _ (.cons_cons _ .slnil))))) (.cons_cons _ (.cons_cons _ .slnil)))).cast rfl (by rw[auE,auF,auF];rfl),by omega,Xk hy Da Ya,(hN.old M.old).snoc (M.old _ _ hws) hls,hL.old M.old⟩,by show p.trans.length-(m+1)<p.trans.length-m;omega⟩
 ·have aoB:=of_decide_eq_false hc2;refine wp_exit<|nZ _ _ ?_;refine aus fun K15 rS=>ah<|xM F rf rf rf fun _ F=>xM F rf rf rf fun _ F=>xA F rf rf rf fun _ F=>xA F rf rf rf fun _ F=>aut<|rS _ _ ?_
  refine wp_ret<|bL _ _ _ _ _ F rfl rfl ?_;exact⟨_,rfl,⟨_,_,N,rfl,(by rw[Da,List.take_of_length_le (by omega)]),M.r 1 rfl,M.r 0 rfl,hN⟩,(MR.below.trans M.below)⟩
section
variable {P:Program} {ops:Array Oper} {Q':Exit→Act→World→Prop} {a:Act} {w:World} {o:Oper} {d N:Nat} {g:Good}
theorem dxS{S:World→World→Prop}(hw:Region.wanted o (yielded ops a.tmps)=true){f:FuncId}{args:Array Value}(hr:(execOp a.eval o).run P w=.ok (.enter f args) w)
 (hc:Calls P f args w fun e w'=>∃ v,e=.returned v∧(g v w'∧S w w')) (hd:o.dst=some d) (hf:Fr a N) (hN:Nat.blt d N=true)
 (hE:∀ v a' w',S w w'→g v w'→Put a (o.dst.getD 0) v a'→Q' .normal a' w'):wpList P ops Q' [o] a w:=
 kI hw hr hc hd hf (by simpa using hN) fun u a' w' h p=>aut (hE u a' w' h.2 h.1 (by rw[hd];exact p))
end
def G3(base tp mb:Nat)(c0 c1 c2 c3 c4 c5 c6 c7 c8 c9 aV aP aO aU aT aS aR:Value)(u:Int)(act:Int→Int)(w w':World):Prop:=St [mb] w w'∧(gh w base tp mb c0 c1 c2 c3 c4 c5 c6 c7 c8 c9 aV aP aO aU aT aS aR u act→gh w' base tp mb c0 c1 c2 c3 c4 c5 c6 c7 c8 c9 aV aP aO aU aT aS aR u act)
section
variable {base tp mb:Nat} {c0 c1 c2 c3 c4 c5 c6 c7 c8 c9 aV aP aO aU aT aS aR:Value} {u:Int} {act:Int→Int}
theorem LG(w w':World)(h:aui w.heap.size w w'):G3 base tp mb c0 c1 c2 c3 c4 c5 c6 c7 c8 c9 aV aP aO aU aT aS aR u act w w':=⟨iy _ _ _ h,fun hT=>hT.keep h⟩
theorem LD(a b c:World)(h:G3 base tp mb c0 c1 c2 c3 c4 c5 c6 c7 c8 c9 aV aP aO aU aT aS aR u act a b)(k:G3 base tp mb c0 c1 c2 c3 c4 c5 c6 c7 c8 c9 aV aP aO aU aT aS aR u act b c):G3 base tp mb c0 c1 c2 c3 c4 c5 c6 c7 c8 c9 aV aP aO aU aT aS aR u act a c:=⟨gB _ _ _ _ h.1 k.1,fun hT=>k.2 (h.2 hT)⟩
def PE(base mb:Nat)(x:Int):Good:=fun v u=>∃ g,v=.slice (some ⟨g,0,none⟩) 1 1∧Whole u g 52 #[.int .u64 x]∧base≤g∧g≠mb
def afC(base mb:Nat)(y:aj)(x:Int):Good:=fun v u=>∃ g,v=.agg #[.int .i64 y.kind,.int .u64 y.src.a,.int .u64 y.src.b,.int .u64 y.src.c,.int .u64 y.src.d,.int .u64 y.tgt.a,.int .u64 y.tgt.b,.int .u64 y.tgt.c,.int .u64 y.tgt.d,.bool y.self,.int .i64 y.cls,.int .u32 y.perms,.int .i64 y.cond,.slice (some ⟨g,0,none⟩) 1 1]∧Whole u g 52 #[.int .u64 x]∧base≤g∧g≠mb
def SlG(ws:World)(base mb:Nat)(y:aj)(x:Int):Good:=fun v u=>∃ b g,v=.slice (some ⟨b,0,none⟩) 1 1∧Whole u b 146 #[.int .i64 y.kind,.int .u64 y.src.a,.int .u64 y.src.b,.int .u64 y.src.c,.int .u64 y.src.d,.int .u64 y.tgt.a,.int .u64 y.tgt.b,.int .u64 y.tgt.c,.int .u64 y.tgt.d,.bool y.self,.int .i64 y.cls,.int .u32 y.perms,.int .i64 y.cond,.slice (some ⟨g,0,none⟩) 1 1]∧ws.heap.size≤b∧b≠mb∧Whole u g 52 #[.int .u64 x]∧base≤g∧g≠mb
theorem Rp{g mb:Nat}(h:g≠mb):g∉[mb]:=fun e=>h (aun.1 e)
theorem MF{base':Nat}{x:Int}:xK (G3 base tp mb c0 c1 c2 c3 c4 c5 c6 c7 c8 c9 aV aP aO aU aT aS aR u act) (PE base' mb x):=fun _ _ _ ⟨g,e,h,k,n⟩ hS=>⟨g,e,hS.1.whole h (Rp n),k,n⟩
theorem QS{base':Nat}{x:Int}{y:aj}:xK (G3 base tp mb c0 c1 c2 c3 c4 c5 c6 c7 c8 c9 aV aP aO aU aT aS aR u act) (afC base' mb y x):=fun _ _ _ ⟨g,e,h,k,n⟩ hS=>⟨g,e,hS.1.whole h (Rp n),k,n⟩
theorem UC{ws:World}{base':Nat}{x:Int}{y:aj}:xK (G3 base tp mb c0 c1 c2 c3 c4 c5 c6 c7 c8 c9 aV aP aO aU aT aS aR u act) (SlG ws base' mb y x):=fun _ _ _ ⟨b,g,e,h1,k1,n1,h,k,n⟩ hS=>⟨b,g,e,hS.1.whole h1 (Rp n1),k1,n1,hS.1.whole h (Rp n),k,n⟩
theorem W4{w:World}{v:Value}{x:Int}(h:bT w base v x)(hT:gh w base tp mb c0 c1 c2 c3 c4 c5 c6 c7 c8 c9 aV aP aO aU aT aS aR u act):PE base mb x v w:=by
 obtain⟨g,e,hw,hl⟩:=h;obtain⟨-,⟨L,hM,-⟩,-⟩:=hT;exact⟨g,e,hw,hl,gP hw hM⟩
end
theorem aY.acB{B:Nat}{w0 w:World}{bs:List Bx}{rs:List Rw}(M:aY B w0 w bs rs){g:Nat}{t:TypeId}{cs:Array Value}(h:Whole w g t cs)(hB:B≤g)(hf:∀ b∈bs,b.1≠g)(hr:∀ r∈rs,r.v.ownBlock≠some g)(ht:Nat.blt t 9000=true:=by rfl):aY B w0 w ((g,t,cs)::bs) rs:=by
 refine⟨M.below,M.le,M.old,?_,?_,?_,M.row,?_,M.wv⟩
 ·intro b hb;rcases auB.1 hb with rfl|hb
  ·exact .inl ⟨ht,h⟩
  ·exact M.box b hb
 ·intro b hb;rcases auB.1 hb with rfl|hb
  ·exact hB
  ·exact M.lo b hb
 ·rw[List.map_cons,List.nodup_cons];refine⟨fun h=>?_,M.nd⟩;obtain⟨b,hb,e⟩:=List.mem_map.1 h;exact hf b hb e
 ·intro r hr' b hb;rcases auB.1 hb with rfl|hb
  ·exact hr r hr'
  ·exact M.far r hr' b hb
theorem aY.Xj{B:Nat}{w0 w w':World}{bs:List Bx}{rs:List Rw}(M:aY B w0 w bs rs)(i:Nat){mb:Nat}{L L':List (Int×Value)}(hi:bs[i]?=some (mb,9003,eE L))(h:St [mb] w w')(hM:aX w' Tryz.prog 3 mb (L'.map ival))
 {g:Nat} {t:TypeId} {cs:Array Value} (hg:Whole w' g t cs) (hs:w.heap.size≤g) (ht:Nat.blt t 9000=true:=by rfl):aY B w0 w' ((g,t,cs)::bs.set i (mb,9003,eE L')) rs:=by
 refine(M.Ih i hi h hM).acB hg (auv M.big hs) (fun b hb=>?_) (fun r hr e=>?_) ht
 ·rcases List.mem_or_eq_of_mem_set hb with hb|rfl
  ·have:=(M.box b hb).lt;omega
  ·have:=(M.box _ (aul hi)).lt;simp only at this ⊢;omega
 ·have:=((M.row r hr).lt g e).2;omega
theorem LY{u:Int}{n m g:Nat}{conds:List aq}{l:List aj}{N:List ((aj×Int)×Nat)}{y:aj}(hy:l[m]?=some y)(h:N.map (·.1)=(l.take m).map fun y=>(y,eW u n conds (KI y))):(N++[((y,eW u n conds (KI y)),g)]).map (fun z:(aj×Int)×Nat=>z.1)=(l.take (m+1)).map fun y=>(y,eW u n conds (KI y)):=by
 rw[bw hy,auD,auD,← h];simp
theorem Rg(w0:World)(base tp mb:Nat)(c0 c1 c2 c3 c4 c6 c7 c8 c9 aV aP aO aU aT aS aR:Value)(g_:Option Addr)(nB gZ:Nat)(u:Int)(conds:List aq)(hn:nB≤5)(hE:mq w0 c8 conds)(hcl:conds.length≤1000)(q:aj)(hk:iR q.cond)(hTT:gh w0 base tp mb c0 c1 c2 c3 c4 (.slice g_ nB gZ) c6 c7 c8 c9 aV aP aO aU aT aS aR u (eW u nB conds)):Calls Tryz.prog 151 #[.pointer (some ⟨tp,0,none⟩),.agg #[.int .i64 q.kind,.int .u64 q.src.a,.int .u64 q.src.b,.int .u64 q.src.c,.int .u64 q.src.d,.int .u64 q.tgt.a,.int .u64 q.tgt.b,.int .u64 q.tgt.c,.int .u64 q.tgt.d,.bool q.self,.int .i64 q.cls,.int .u32 q.perms,.int .i64 q.cond]] w0 (fun(r:Ending) (w':World)=>∃ v,r=.returned v∧(PE base mb (eW u nB conds (KI q)) v w'∧G3 base tp mb c0 c1 c2 c3 c4 (.slice g_ nB gZ) c6 c7 c8 c9 aV aP aO aU aT aS aR u (eW u nB conds) w0 w')):=
 (Rh w0 base tp mb _ _ _ _ _ _ _ _ _ _ _ _ _ _ _ _ g_ nB gZ u conds hn hE hcl q hk hTT).mono fun _ _ ⟨v,e,h1,h2,h3⟩=>⟨v,e,W4 h1 h2,h3,fun _=>h2⟩
theorem Bg(w0:World)(c0 c1 c2 c3 c4 c5 c6 c7 c8 c9 aV aP aO aU aT aS aR:Value)(p:aC)(hp:aM w0 c0 c1 c2 c3 c4 c5 c6 c7 c8 c9 aV aP aO aU aT aS aR p)(hok:p.Ok)(hn:p.bools.length≤5)(hcl:p.conds.length≤1000)(hcr:p.rules.length≤4096):Calls Tryz.prog 78 #[.agg #[c0,c1,c2,c3,c4,c5,c6,c7,c8,c9,aV,aP,aO,aU,aT,aS,aR]] w0 (fun(r:Ending) (w':World)=>∃ v,r=.returned v∧((∃ N:List ((aj×Int)×Nat),N.map (·.1)=(p.rules.map fun y=>(y,(eW (aK p.bools.length) p.bools.length p.conds (KI y))))∧w'.ownsRow w0.heap.size 146 14 v N.length (N.flatMap mP)∧cH w' w0.heap.size N)∧aui w0.heap.size w0 w')):=by
 obtain⟨g_,gZ,rfl,hk5,hm5,Na⟩:=SliceAt.form hp.bools (by decide);obtain⟨XZ,Uy,rfl,hk9,hm9,Vh⟩:=SliceAt.form hp.rules (by decide);have bL:=hr1 Tryz.prog Tryz.f78 (fun(r:Ending) (w':World)=>∃ v,r=.returned v∧((∃ N:List ((aj×Int)×Nat),N.map (·.1)=(p.rules.map fun y=>(y,(eW (aK p.bools.length) p.bools.length p.conds (KI y))))∧w'.ownsRow w0.heap.size 146 14 v N.length (N.flatMap mP)∧cH w' w0.heap.size N)∧aui w0.heap.size w0 w')) 26 2 rfl;refine en Tryz.func78 rfl Tryz.ntmps78 rfl (vs:=[.agg #[c0,c1,c2,c3,c4,.slice g_ p.bools.length gZ,c6,c7,c8,.slice XZ p.rules.length Uy,aV,aP,aO,aU,aT,aS,aR]]) rfl fun _ F=>?_
 have M:=Mm.start w0;refine aus fun K1 gV=>ah<|Hf (on rfl) rfl (F.u rf) rfl F rfl M fun g1 _ _ F M=>xA (v:=.slice none 0 0) F rf rf rf fun _ F=>aut<|gV _ _ ?_
 refine aus fun K2 h_=>ah<|xW F (M.b 0 rfl) rf rf rf Oj rf Aw rf fun _ F=>kx (on rfl) (fS rfl Tryz.func148 Zf rfl (args1 (F.u rf))) (m_ _ _ _ _ _ _ _ _ _ _ _ _ _ _ _ _ _ g_ p.bools.length gZ hn) rfl F rfl M fun tv _ _ hR hB F _=>?_
 obtain⟨tp,mb,rfl,CS,hMb,abm,abo⟩:=hR;have M:=M.Fg hB (b1:=(tp,304,#[c0,c1,c2,c3,c4,.slice g_ p.bools.length gZ,c6,c7,c8,.slice XZ p.rules.length Uy,aV,aP,aO,aU,aT,aS,aR,.int .i64 1,.int .u64 (aK p.bools.length),(.map (some mb))])) (.inl ⟨rfl,CS⟩) abm (b2:=(mb,9003,eE [])) (mO hMb) abo (gP CS hMb);refine xA F rf rf rf fun _ F=>aut<|h_ _ _ ?_
 refine aus fun K3 nh=>?_
 have M:=M.bC 146 14;refine ah<|xA (v:=.slice none 0 0) F rf rf rf fun _ F=>aut<|nh _ _ ?_
 refine aus fun K4 n_=>aus fun K5 nZ=>ah<|xF 9 F rf rf rf Oj rf agP rf fun _ F=>xL F (M.b 2 rfl) rf rf rf u30 rf rf fun _ F=>kz F rf (fQ rfl (F.u rf) u30) fun _ F=>xM (v:=.int .i64 0) F rf rf rf fun _ F=>aut<|nZ _ _ ?_
 refine auw<|?_;refine eH (ι:=Nat×Value×List ((aj×Int)×Nat)×List (Int×Value)) (fun|(m,v,N,L),a,w=>Fs a 26 [(3,.pointer (some ⟨tp,0,none⟩)),(4,v),(10,.slice XZ p.rules.length Uy),(11,.int .i64 (p.rules.length:Int)),(12,.int .i64 (m:Int))]∧Mm w0 w [(tp,304,#[c0,c1,c2,c3,c4,.slice g_ p.bools.length gZ,c6,c7,c8,.slice XZ p.rules.length Uy,aV,aP,aO,aU,aT,aS,aR,.int .i64 1,.int .u64 (aK p.bools.length),(.map (some mb))]),(mb,9003,eE L)] [⟨v,146,14,N.length,N.flatMap mP⟩]∧m≤p.rules.length∧N.map (·.1)=((p.rules.take m).map fun y=>(y,(eW (aK p.bools.length) p.bools.length p.conds (KI y))))∧cH w w0.heap.size N∧CH w w0.heap.size L (eW (aK p.bools.length) p.bools.length p.conds)) (fun|(m,v,N,L)=>p.rules.length-m) (0,.slice none 0 0,[],[]) ⟨F.sub ⟨rfl,rfl,rfl,rfl,rfl,trivial⟩,M.only (.cons_cons _ (.cons_cons _ (.cons _ .slnil))) (.cons_cons _ .slnil),auj _,rfl,cH.nil _ _,CH.nil _ _ _⟩ ?_
 (repeat clear F);(repeat clear M)
 rintro⟨m,v,N,L⟩ _ _ ⟨F,M,hm,Da,hN,hL⟩;have MR:=M;have M:=M.E4;refine aus fun K6 pN=>ah<|kz F rf (jf rfl (F.u rf) (F.u rf)) fun _ F=>aut<|pN _ _ ?_
 refine aus fun K7 rR=>?_
 refine auu (F.e 13 rfl) (fun hc2=>?_) (fun hc2=>?_)
 ·have hd3:=of_decide_eq_true hc2;refine wp_skip<|rR _ _ ?_;refine aus fun K8 wX=>auw<|aus fun K9 yD=>?_
  have hlt:m<p.rules.length:=by omega
  obtain⟨y,hy⟩:∃ y,p.rules[m]?=some y:=⟨_,auk hlt⟩;obtain⟨b9,ob9,rfl,aeQ⟩:=Vh m hlt
  have ahG:∀ j uu,[.int .i64 y.kind,.int .u64 y.src.a,.int .u64 y.src.b,.int .u64 y.src.c,.int .u64 y.src.d,.int .u64 y.tgt.a,.int .u64 y.tgt.b,.int .u64 y.tgt.c,.int .u64 y.tgt.d,.bool y.self,.int .i64 y.cls,.int .u32 y.perms,.int .i64 y.cond][j]?=some uu→w0.cell? ⟨b9,ob9+m*13+j,none⟩=some uu:=fun j u hu=>aeQ j u (by
   rw[kM aj.eG hy j (aum.1 hu).1];exact hu)
  clear aeQ;have qu:=hok.rules y (aul hy)
  have hlN:N.length≤4096:=by
   have h:=congrArg List.length Da;rw[auC,auC] at h;rw[h];exact auv (List.length_take_le _ _) (auv (Nat.le_of_lt hlt) hcr)
  refine ah<|
   kz F rf (bE (i:=m) rfl (F.u rf) (F.u rf) (by omega) u30 sM) fun _ F=>
   kz F rf (gW [.int .i64 y.kind,.int .u64 y.src.a,.int .u64 y.src.b,.int .u64 y.src.c,.int .u64 y.src.d,.int .u64 y.tgt.a,.int .u64 y.tgt.b,.int .u64 y.tgt.c,.int .u64 y.tgt.d,.bool y.self,.int .i64 y.cls,.int .u32 y.perms,.int .i64 y.cond] rfl (F.u rf) Xf rfl sM (cF (MR.below.trans M.below) ahG)) fun _ F=>
   Jh (on rfl) rfl oy rfl F rfl M fun g4 _ _ F M=>
   KG (on rfl) rfl (F.u rf) (F.u rf) F M 0 rfl sM rfl rfl rfl fun _ M=>
   aut<|
   yD _ _ ?_
  have hT8:gh _ w0.heap.size tp mb c0 c1 c2 c3 c4 (.slice g_ p.bools.length gZ) c6 c7 c8 (.slice (some ⟨b9,ob9,none⟩) p.rules.length Uy) aV aP aO aU aT aS aR (aK p.bools.length) (eW (aK p.bools.length) p.bools.length p.conds):=⟨M.b 1 rfl,⟨_,M.map 2 rfl,hL.old M.old⟩,⟨M.lo _ (aul (i:=1) rfl),M.lo _ (aul (i:=2) rfl)⟩⟩;have ahU:∀ k∈[mb],w0.heap.size≤k:=fun k hk=>by rw[aun.1 hk];exact hT8.lo.2
  refine rdS (G3 w0.heap.size tp mb c0 c1 c2 c3 c4 (.slice g_ p.bools.length gZ) c6 c7 c8 (.slice (some ⟨b9,ob9,none⟩) p.rules.length Uy) aV aP aO aU aT aS aR (aK p.bools.length) (eW (aK p.bools.length) p.bools.length p.conds)) LG LD 7 [16,17,18,19,20,21,22] [bZ (v),bZ (.agg #[.int .i64 y.kind,.int .u64 y.src.a,.int .u64 y.src.b,.int .u64 y.src.c,.int .u64 y.src.d,.int .u64 y.tgt.a,.int .u64 y.tgt.b,.int .u64 y.tgt.c,.int .u64 y.tgt.d,.bool y.self,.int .i64 y.cls,.int .u32 y.perms,.int .i64 y.cond]),bZ (.pointer (some ⟨tp,0,none⟩)),bZ (.agg #[.int .i64 y.kind,.int .u64 y.src.a,.int .u64 y.src.b,.int .u64 y.src.c,.int .u64 y.src.d,.int .u64 y.tgt.a,.int .u64 y.tgt.b,.int .u64 y.tgt.c,.int .u64 y.tgt.d,.bool y.self,.int .i64 y.cls,.int .u32 y.perms,.int .i64 y.cond]),(PE w0.heap.size mb (eW (aK p.bools.length) p.bools.length p.conds (KI y))),(afC w0.heap.size mb y (eW (aK p.bools.length) p.bools.length p.conds (KI y))),(SlG M.wd w0.heap.size mb y (eW (aK p.bools.length) p.bools.length p.conds (KI y)))] (by kernel_rfl) (by kernel_rfl) (by kernel_rfl) rfl (by decide) rfl rfl F ⟨rG _ _,rG _ _,rG _ _,rG _ _,MF,QS,UC,trivial⟩ ⟨?_,?_,?_,?_,?_,?_,?_,trivial⟩ ?_
  ·exact fun a w Q' hf hi H G hK hE=>dv (on rfl) (cQ rfl (G 4 _ rfl (F.g 4 rfl)).ev) rfl hf rfl hK rfl
  ·exact fun a w Q' hf hi H G hK hE=>dv (on rfl) (zV rfl (G 6 _ rfl (F.g 6 rfl)).ev Xf rfl (hi.1.whole (M.b 0 rfl) (Rp (gP (M.b 0 rfl) (M.map 2 rfl)))) sM rfl) rfl hf rfl hK rfl
  ·exact fun a w Q' hf hi H G hK hE=>dv (on rfl) (cQ rfl (G 3 _ rfl (F.g 3 rfl)).ev) rfl hf rfl hK rfl
  ·exact fun a w Q' hf hi H G hK hE=>dv (on rfl) (zV rfl (G 6 _ rfl (F.g 6 rfl)).ev Xf rfl (hi.1.whole (M.b 0 rfl) (Rp (gP (M.b 0 rfl) (M.map 2 rfl)))) sM rfl) rfl hf rfl hK rfl
  ·exact fun a w Q' hf hi H G hK hE=>dxS (on rfl) (fS rfl Tryz.func151 adS rfl (args2 (iA (H 2 ⟨.data,by simp,rfl⟩ _ _ rfl rfl)).ev (iA (H 3 ⟨.data,by simp,rfl⟩ _ _ rfl rfl)).ev)) (Rg _ w0.heap.size tp mb _ _ _ _ _ _ _ _ _ _ _ _ _ _ _ _ g_ p.bools.length gZ (aK p.bools.length) p.conds hn (hp.conds.keep ((MR.below.trans M.below).trans (hi.1.below M.big ahU))) hcl y (hok.rules y (aul hy)).cond (hi.2 hT8)) rfl hf rfl hE
  ·intro a w Q' hf hi H G hK hE;obtain⟨_,h20,Yr,rfl,hg8,Ye,hn8⟩:=H 4 ⟨.data,by simp,rfl⟩ _ _ rfl rfl;exact dv (on rfl) (uS rfl (pv:=#[(0,.agg #[.int .i64 y.kind,.int .u64 y.src.a,.int .u64 y.src.b,.int .u64 y.src.c,.int .u64 y.src.d,.int .u64 y.tgt.a,.int .u64 y.tgt.b,.int .u64 y.tgt.c,.int .u64 y.tgt.d,.bool y.self,.int .i64 y.cls,.int .u32 y.perms,.int .i64 y.cond]),(1,.slice (some ⟨Yr,0,none⟩) 1 1)]) (by simp[(iA (H 1 ⟨.data,by simp,rfl⟩ _ _ rfl rfl)).ev,h20.ev]) (cells:=#[.int .i64 y.kind,.int .u64 y.src.a,.int .u64 y.src.b,.int .u64 y.src.c,.int .u64 y.src.d,.int .u64 y.tgt.a,.int .u64 y.tgt.b,.int .u64 y.tgt.c,.int .u64 y.tgt.d,.bool y.self,.int .i64 y.cls,.int .u32 y.perms,.int .i64 y.cond,.slice (some ⟨Yr,0,none⟩) 1 1]) (by kernel_rfl)) rfl hf rfl hK ⟨Yr,rfl,hg8,Ye,hn8⟩
  ·intro a w Q' hf hi H G hK hE;obtain⟨_,h21,Yr,rfl,hg8,Ye,hn8⟩:=H 5 ⟨.data,by simp,rfl⟩ _ _ rfl rfl;exact dn (f:=fun n=>.slice (some ⟨n,0,none⟩) 1 1) (on rfl) (oP rfl yV jQ xT (by decide) (by decide) (pv:=#[(0,.agg #[.int .i64 y.kind,.int .u64 y.src.a,.int .u64 y.src.b,.int .u64 y.src.c,.int .u64 y.src.d,.int .u64 y.tgt.a,.int .u64 y.tgt.b,.int .u64 y.tgt.c,.int .u64 y.tgt.d,.bool y.self,.int .i64 y.cls,.int .u32 y.perms,.int .i64 y.cond,.slice (some ⟨Yr,0,none⟩) 1 1])]) (by simp[h21.ev]) (cells:=#[.int .i64 y.kind,.int .u64 y.src.a,.int .u64 y.src.b,.int .u64 y.src.c,.int .u64 y.src.d,.int .u64 y.tgt.a,.int .u64 y.tgt.b,.int .u64 y.tgt.c,.int .u64 y.tgt.d,.bool y.self,.int .i64 y.cls,.int .u32 y.perms,.int .i64 y.cond,.slice (some ⟨Yr,0,none⟩) 1 1]) (by kernel_rfl)) rfl hf rfl hK (fun b w' n=>⟨b,Yr,rfl,n.whole,n.at_▸hi.1.size,by have:=n.at_;have:=(M.map 2 rfl).lt;have:=hi.1.size;omega,Whole.under n.below hg8 hg8.lt,Ye,hn8⟩)
  (repeat clear F);intro _ _ CQ F D
  obtain⟨_,h,rfl⟩:=D 0 _ _ rfl rfl;have F:=F.add h;obtain⟨_,h,b8,Yr,rfl,hb8,aif,-,hg8,Ye,-⟩:=D 6 _ _ rfl rfl;have F:=F.add h;obtain⟨aik,⟨L9,O4,hL9⟩,-⟩:=CQ.2 hT8;have M:=M.Xj 2 rfl CQ.1 O4 hb8 aif;have hN:=hN.old M.old;have MR:=MR.comp M;have M:=M.E4;have hL:CH _ _ _ _:=hL9;clear D CQ;intro Qt Vm;refine kp (on rfl) rfl yV UR rfl M 0 rfl (F.u rf) (F.u rf) (M.slice 0 rfl rfl rfl (by simp[maxLen])) ⟨by unfold maxLen;omega,by omega⟩ rfl F rfl fun v5 _ _ F M=>aut (Vm _ _ ?_)
  intro Qt Vm;refine xA F rf rf rf fun _ F=>aut (Vm _ _ ?_)
  refine wX _ _ ?_
  refine ah<|
   ke (on rfl) (eV rfl (F.u rf) rfl) rfl F rfl (congrArg (Value.int .i64) (wrap_i64 (by omega))) fun _ F=>
   xM F rf rf rf fun _ F=>
   aut<|?_
  exact⟨(m+1,v5,N++[((y,(eW (aK p.bools.length) p.bools.length p.conds (KI y))),Yr)],L9),⟨F.sub ⟨rfl,rfl,rfl,rfl,rfl,trivial⟩,(MR.comp (M.only (.cons _ (.cons _ (.cons_cons _ (.cons_cons _ .slnil)))) (.cons_cons _ .slnil))).cast rfl (by rw[auE,auF];rfl),by omega,LY hy Da,(hN.old M.old).snoc (M.old _ _ hg8) Ye,hL.old M.old⟩,by show p.rules.length-(m+1)<p.rules.length-m;omega⟩
 ·have hd6:=of_decide_eq_false hc2;refine wp_exit<|n_ _ _ ?_;refine aus fun WG lS=>ah<|xM F rf rf rf fun _ F=>xA F rf rf rf fun _ F=>aut<|lS _ _ ?_
  refine wp_ret<|bL _ _ _ _ F rfl ?_;exact⟨_,rfl,⟨N,(by rw[Da,List.take_of_length_le (by omega)]),M.r 0 rfl,hN⟩,(MR.below.trans M.below)⟩
def su{α:Type}(x y:(α×Int)×Nat):Bool:=decide ([x.1.2]=[y.1.2])
theorem Dv{α:Type}(N:List ((α×Int)×Nat)):∀ u∈N.flatMap r_,u.oneCell'=true:=fun u hu=>by
 obtain⟨z,-,hz⟩:=List.mem_flatMap.1 hu;rw[aun.1 hz];rfl
theorem Qi(w0:World)(g1 g2:Nat)(x y:Int)(hx:w0.cell? ⟨g1,0,none⟩=some (.int .u64 x))(hy:w0.cell? ⟨g2,0,none⟩=some (.int .u64 y)):Calls Tryz.prog 76 #[.slice (some ⟨g1,0,none⟩) 1 1,.slice (some ⟨g2,0,none⟩) 1 1] w0 (fun(r:Ending) (w':World)=>r=.returned (.bool (decide ([x]=[y])))∧aui w0.heap.size w0 w'):=by
 exact cL [] (fn:=Tryz.f76) Tryz.func76 rfl Tryz.ntmps76 rfl<|cl<|an (qK _ _ _ [x] [y] (vZ hx) (vZ hy)) fun w1 M1=>fun M=>⟨rfl,M.below⟩
theorem FE{α:Type}(w0:World)(base:Nat)(v1 v2:Value)(l1 l2:List ((α×Int)×Nat))(h1:SliceAt w0 v1 1 l1.length (l1.flatMap r_))(h2:SliceAt w0 v2 1 l2.length (l2.flatMap r_))(hN1:cH w0 base l1)(hN2:cH w0 base l2):Calls Tryz.prog 75 #[v1,v2,.func (.func 76) #[] #[]] w0 (fun(r:Ending) (w':World)=>r=.returned (.bool (aA su l1 l2))∧aui w0.heap.size w0 w'):=by
 obtain⟨_,_,rfl,-,hm1,-⟩:=h1.form (by decide);obtain⟨_,_,rfl,-⟩:=h2.form (by decide);refine cL [] (fn:=Tryz.f75) Tryz.func75 rfl Tryz.ntmps75 rfl<|an (fun h M=>⟨rb (tO (by simp at h;omega)).symm,M.below⟩) fun h=>?_
 have hl:l1.length=l2.length:=by simp at h;omega
 refine lr (ι:=Nat) (fun m=>[(17,.int .i64 (m:Int))]) (fun m _=>m≤l1.length∧aA su l1 l2=aA su (l1.drop m) (l2.drop m)) (fun m=>l1.length-m) 0 (an ⟨⟨rfl,trivial⟩,fun M=>⟨M,auj _,rfl⟩⟩ ?_);intro m w M ⟨hm,hI⟩;refine an (fun h3=>?_) fun h3 M=>⟨rb (Cy (by simp at h3;omega) hl hI).symm,M.below⟩
 have hlt:m<l1.length:=by simp at h3;omega
 have hlt2:m<l2.length:=by omega
 obtain⟨x,hx⟩:∃ x,l1[m]?=some x:=⟨_,auk hlt⟩;obtain⟨y,hy⟩:∃ y,l2[m]?=some y:=⟨_,auk hlt2⟩;obtain⟨b1,o1,e1,hc1⟩:=SliceAt.elt h1 (fun _=>rfl) (by decide) hx hlt;obtain⟨b2,o2,e2,hc2⟩:=SliceAt.elt h2 (fun _=>rfl) (by decide) hy hlt2;have hwx:=auy M.below ((Whole.cell (hN1 x (aul hx)).1) 0);have hwy:=auy M.below ((Whole.cell (hN2 y (aul hy)).1) 0);exact ia<|an ⟨e1,rfl,hlt⟩<|lc (x:=.slice (some ⟨x.2,0,none⟩) 1 1)<|an (cF M.below hc1 0 _ rfl)<|ia<|an ⟨e2,rfl,hlt2⟩<|lc (x:=.slice (some ⟨y.2,0,none⟩) 1 1)<|an (cF M.below hc2 0 _ rfl)<|cl<|an (Qi _ x.2 y.2 x.1.2 y.1.2 hwx hwy) fun w5 M5=>an (fun hq M=>⟨rb (Ks hx hy hI (by simpa[su] using hq)).symm,M.below⟩) fun hq=>an (by omega)<|bk (m+1) ⟨rfl,trivial⟩ (fun M=>⟨M,by omega,Kr hx hy hI (by simpa[su] using hq)⟩) (by dsimp only;omega)
def lZ(p:aC):aC:={ p with rules:=[],conds:=[],trans:=[] }
def nH(N:List ((bM×Int)×Nat)):List bM:=N.map fun z=>z.1.1
theorem Ii{w:World}{v:Value}{N:List ((bM×Int)×Nat)}(h:SliceAt w v 13 N.length (N.flatMap DH)):SliceAt w v 13 (nH N).length ((nH N).flatMap bM.cells):=by
 unfold nH;rw[auC,List.flatMap_map];exact h
theorem cH.low{α:Type}{w:World}{b:Nat}{N:List ((α×Int)×Nat)}(h:cH w b N):cH w 0 N:=fun z hz=>⟨(h z hz).1,auj _⟩
theorem DG(N:List ((bM×Int)×Nat)):∀ u∈N.flatMap DH,u.oneCell'=true:=fun u hu=>by
 obtain⟨z,-,hz⟩:=List.mem_flatMap.1 hu;simp only[DH,bM.cells,auB,List.not_mem_nil,or_false] at hz;rcases hz with rfl|rfl|rfl|rfl|rfl|rfl|rfl|rfl|rfl|rfl|rfl|rfl|rfl<;>rfl
def lC(p:aC):List (aj×Int):=p.rules.map fun y=>(y,eW (aK p.bools.length) p.bools.length p.conds (KI y))
theorem gL.low{w:World}{b:Nat}{v:Value}{l:List (aj×Int)}(h:gL w b v l):gL w 0 v l:=by
 obtain⟨es,h1,h2,h3,h4⟩:=h
 exact⟨es,h1,h2,h3,fun i x y hx hy=>by
  obtain⟨v,e,hs⟩:=h4 i x y hx hy;exact⟨v,e,hs.low (auj _)⟩⟩
theorem E2{p:aC}(h:p.rules.length≤1000):(lC p).length≤1000:=by unfold lC;rw[auC];exact h
theorem OB{p:aC}(h:p.Ok):∀ y∈lC p,y.1.Ok:=fun y hy=>by
 obtain⟨r,hr,rfl⟩:=List.mem_map.1 hy;exact⟨(h.rules r hr).src,(h.rules r hr).tgt⟩
theorem DW(w0:World)(c0 c1 c2 c3 c4 c5 c6 c7 c8 c9 aV aP aO aU aT aS aR:Value)(p:aC)(hp:aM w0 c0 c1 c2 c3 c4 c5 c6 c7 c8 c9 aV aP aO aU aT aS aR p)(hok:p.Ok)(hn:p.bools.length≤5)(hcl:p.conds.length≤1000)(hcr:p.rules.length≤1000):Calls Tryz.prog 78 #[.agg #[c0,c1,c2,c3,c4,c5,c6,c7,c8,c9,aV,aP,aO,aU,aT,aS,aR]] w0 fun e w'=>∃ v,e=.returned v∧(gL w' 0 v (lC p)∧aui w0.heap.size w0 w'):=
 (Bg w0 c0 c1 c2 c3 c4 c5 c6 c7 c8 c9 aV aP aO aU aT aS aR p hp hok hn hcl (by omega)).mono fun _ _ ⟨v,e,⟨N,hN,ho,hs⟩,hb⟩=>⟨v,e,(by have h:=(Mw ho rfl hs).low;rw[hN] at h;exact h),hb⟩
def Om(p:aC):List (bM×Int):=p.trans.filterMap (C4 (aK p.bools.length) p.bools.length p.conds)
def Oy{α:Type}(x y:α×Int):Bool:=decide ([x.2]=[y.2])
def yh(p q:aC):Bool:=gM (lZ p) (lZ q)&&((decide ((Om p).map (·.1)=(Om q).map (·.1))&&aA Oy (Om p) (Om q))&&(Jq (lC p) (lC q)&&Jq (lC q) (lC p)))
theorem yM{α β:Type}{f:α→β}{P:β→β→Bool}{P':α→α→Bool}(h:∀ x y,P' x y=P (f x) (f y)):∀ l m:List α,aA P' l m=aA P (l.map f) (m.map f)
 | [],[]=>rfl
 | [],_::_=>rfl
 | _::_,[]=>rfl
 | x::l,y::m=>by
  show(P' x y&&aA P' l m)=(P (f x) (f y)&&aA P (l.map f) (m.map f));rw[h,yM h l m]
section
variable {p q:aC} {Np Nq:List ((bM×Int)×Nat)}
theorem aaH(h:gM (lZ p) (lZ q)=false):false=yh p q:=by unfold yh;rw[h];rfl
theorem TF(hp:Np.map (·.1)=Om p)(hq:Nq.map (·.1)=Om q):(decide (nH Np=nH Nq)&&aA su Np Nq)=(decide ((Om p).map (·.1)=(Om q).map (·.1))&&aA Oy (Om p) (Om q)):=by
 rw[show aA su Np Nq=aA Oy (Np.map (·.1)) (Nq.map (·.1)) from yM (f:=fun z:(bM×Int)×Nat=>z.1) (P:=Oy) (P':=su) (fun x y=>rfl) Np Nq,hp,hq];have e:∀ N:List ((bM×Int)×Nat),nH N=(N.map (·.1)).map (·.1):=fun N=>by unfold nH;rw[List.map_map];rfl
 rw[e,e,hp,hq]
theorem aaG(hp:Np.map (·.1)=Om p)(hq:Nq.map (·.1)=Om q)(h:((!(decide (nH Np=nH Nq)))||(!(aA su Np Nq)))=true):false=yh p q:=by
 rw[← Bool.not_and,Bool.not_eq_true',TF hp hq] at h;unfold yh;rw[h,Bool.false_and,Bool.and_false]
theorem aaF(hp:Np.map (·.1)=Om p)(hq:Nq.map (·.1)=Om q)(h1:gM (lZ p) (lZ q)=true)(h:((!(decide (nH Np=nH Nq)))||(!(aA su Np Nq)))=false):(Jq (lC p) (lC q)&&Jq (lC q) (lC p))=yh p q:=by
 rw[← Bool.not_and,Bool.not_eq_false',TF hp hq] at h;unfold yh;rw[h,h1,Bool.true_and,Bool.true_and]
end
theorem zY{w:World}{c0 c1 c2 c3 c4 c5 c6 c7 c8 c9 aV aP aO aU aT aS aR:Value}{p:aC}(h:aM w c0 c1 c2 c3 c4 c5 c6 c7 c8 c9 aV aP aO aU aT aS aR p):aM w c0 c1 c2 c3 c4 c5 c6 c7 (.slice none 0 0) (.slice none 0 0) (.slice none 0 0) aP aO aU aT aS aR (lZ p):=
 { h with conds:=⟨[],rfl,by simp,SliceAt.nil _ _,by simp⟩,rules:=SliceAt.nil _ _,trans:=SliceAt.nil _ _ }
theorem TG(w0:World)(c0 c1 c2 c3 c4 c5 c6 c7 c8 c9 aV aP aO aU aT aS aR d0 d1 d2 d3 d4 d5 d6 d7 d8 d9 Ch Cg Ce Cd Cc Cb Ca:Value)(p q:aC)(hp:aM w0 c0 c1 c2 c3 c4 c5 c6 c7 c8 c9 aV aP aO aU aT aS aR p)(hq:aM w0 d0 d1 d2 d3 d4 d5 d6 d7 d8 d9 Ch Cg Ce Cd Cc Cb Ca q)(Yc:p.Ok)(Yb:q.Ok)(hnp:p.bools.length≤5)(aeP:p.conds.length≤1000)(ah9:p.trans.length≤4096)(hnq:q.bools.length≤5)(aeO:q.conds.length≤1000)(ah8:q.trans.length≤4096)(abx:p.rules.length≤1000)(abw:q.rules.length≤1000):Calls Tryz.prog 26 #[.agg #[c0,c1,c2,c3,c4,c5,c6,c7,c8,c9,aV,aP,aO,aU,aT,aS,aR],.agg #[d0,d1,d2,d3,d4,d5,d6,d7,d8,d9,Ch,Cg,Ce,Cd,Cc,Cb,Ca]] w0 (fun(r:Ending) (w':World)=>r=.returned (.bool (yh p q))∧aui w0.heap.size w0 w'):=by
 obtain⟨_,_,_,_,_,_,_,_,_,_,_,_,_,_,_,_,_,_,_,_,_,_,_,_,_,_,_,_,_,_,_,_,_,_,rfl,rfl,rfl,rfl,rfl,rfl,rfl,rfl,rfl,rfl,rfl,rfl,rfl,rfl,rfl,rfl,rfl⟩:=hp.open;obtain⟨_,_,_,_,_,_,_,_,_,_,_,_,_,_,_,_,_,_,_,_,_,_,_,_,_,_,_,_,_,_,_,_,_,_,rfl,rfl,rfl,rfl,rfl,rfl,rfl,rfl,rfl,rfl,rfl,rfl,rfl,rfl,rfl,rfl,rfl⟩:=hq.open;refine cL [] (fn:=Tryz.f26) Tryz.func26 rfl Tryz.ntmps26 rfl<|fun g1 w1 M1=>fun g2 w2 M2=>dp (by kernel_rfl)<|lb 1<|an rfl<|lb 0<|an rfl<|ei<|ei<|an ⟨nu,nu⟩<|an ⟨rfl,rfl⟩ fun g3 g4 w3 vG M3=>?_
 refine lb 0<|an ⟨rfl,rfl⟩ fun w4 M4=>lb 0<|an ⟨rfl,rfl⟩ fun w5 M5=>lb 0<|an ⟨rfl,rfl⟩ fun w6 M6=>lb 1<|an ⟨rfl,rfl⟩ fun w7 M7=>lb 1<|an ⟨rfl,rfl⟩ fun w8 M8=>lb 1<|an ⟨rfl,rfl⟩ fun w9 M9=>lb 0<|an rfl<|lb 1<|an rfl<|cl<|an (FD _ _ _ _ _ _ _ _ _ _ _ _ _ _ _ _ _ _ _ _ _ _ _ _ _ _ _ _ _ _ _ _ _ _ _ (lZ p) (lZ q) (zY (hp.keep M9.below)) (zY (hq.keep M9.below))) fun tS nr=>an (fun h1 M=>⟨rb (aaH (by simpa using h1)).symm,M.below⟩) fun h1=>?_
 refine lb 3<|an rfl<|cf nr (o_ _ _ _ _ _ _ _ _ _ _ _ _ _ _ _ _ _ _ p (hp.keep nr.below) Yc hnp aeP ah9) fun _ Dw ⟨tp,up,Np,hv,ae6,hop,hwp,hNp⟩ C_ M11=>?_
 subst hv;refine lb 2<|an rfl<|cf M11 (o_ _ _ _ _ _ _ _ _ _ _ _ _ _ _ _ _ _ _ q (hq.keep M11.below) Yb hnq aeO ah8) fun _ He ⟨tq,uq,Nq,hv,ae5,hoq,hwq,hNq⟩ JA Dr=>?_
 subst hv;refine cb Dr (yE _ _ _ (nH Np) (nH Nq) (Ii ((SliceAt.bF hop (DG Np)).keep JA)) (Ii (SliceAt.bF hoq (DG Nq)))) fun KE Ym vI=>cl<|an (fun _=>FE _ 0 _ _ Np Nq ((SliceAt.bF hwp (Dv Np)).keep (JA.trans (Ym.mono JA.size))) ((SliceAt.bF hwq (Dv Nq)).keep Ym) (hNp.keep (JA.trans (Ym.mono JA.size))).low (hNq.keep Ym).low) fun Te Hl=>an (fun h2 M=>⟨rb (aaG ae6 ae5 h2).symm,M.below⟩) fun h2=>?_
 refine dr (by kernel_rfl)<|lb 3<|an rfl<|cr (fun u w=>gL w 0 u (lC p))<|an (fun _ _ _ h hb=>h.keep hb)<|an (fun w' hb' M'=>DW _ _ _ _ _ _ _ _ _ _ _ _ _ _ _ _ _ _ p (hp.keep M'.below) Yc hnp aeP abx)<|lb 2<|an rfl<|cr (fun u w=>gL w 0 u (lC q))<|an (fun _ _ _ h hb=>h.keep hb)<|an (fun w' hb' M'=>DW _ _ _ _ _ _ _ _ _ _ _ _ _ _ _ _ _ _ q (hq.keep M'.below) Yb hnq aeO abw)<|mva (R:=fun u w=>gL w 0 u (lC p)) (fun _ _ _ h hb=>h.keep hb)<|mva (R:=fun u w=>gL w 0 u (lC q)) (fun _ _ _ h hb=>h.keep hb)<|fun u1 u2 Ob hR aoL Eu=>?_
 have hLp:gL Ob 0 u2 (lC p):=hR.1;have hLq:gL Ob 0 u1 (lC q):=hR.2;exact cb Eu (uJ _ 0 _ (lC q) hLq (E2 abw) (OB Yb) _ (lC p) hLp (E2 abx) (OB Yc)) fun W_ abA KL=>cl<|an (fun _=>uJ _ 0 _ (lC p) (hLp.keep abA) (E2 abx) (OB Yc) _ (lC q) (hLq.keep abA) (E2 abw) (OB Yb)) fun W9 WE M=>⟨rb (aaF ae6 ae5 (by simpa using h1) h2).symm,M.below⟩
end Go.Proofs.YtdcofoaihmongaaGreat
namespace Go.Proofs.YtdcofoaihmongaaGreat
section
variable {α:Type} (J:α→α→Option α)
def jx(a:α):List α→Option (α×List α)
 | []=>none
 | b::r=>match J a b with
  | some c=>some (c,r)
  | none=>(jx a r).map fun z=>(z.1,b::z.2)
def iB:List α→Option (List α)
 | []=>none
 | a::r=>match jx J a r with
  | some z=>some (z.1::z.2)
  | none=>(iB r).map (a::·)
def nfN:Nat→List α→List α
 | 0,l=>l
 | n+1,l=>match iB J l with
  | some l'=>nfN n l'
  | none=>l
def I5(l:List α):List α:=nfN J l.length l
theorem BM{a:α}:∀ {l:List α} {z:α×List α},jx J a l=some z→z.2.length+1=l.length
 | [],_,h=>by cases h
 | b::r,z,h=>by
  unfold jx at h
  cases e:J a b with
  | some c=>rw[e] at h;obtain rfl:=auq h;rfl
  | none=>
   rw[e] at h
   cases e2:jx J a r with
   | none=>rw[e2] at h;cases h
   | some y=>rw[e2] at h;obtain rfl:=auq h;have:=BM e2;simp;omega
theorem rB:∀ {l l':List α},iB J l=some l'→l'.length+1=l.length
 | [],_,h=>by cases h
 | a::r,l',h=>by
  unfold iB at h
  cases e:jx J a r with
  | some z=>rw[e] at h;obtain rfl:=auq h;have:=BM J e;simp;omega
  | none=>
   rw[e] at h
   cases e2:iB J r with
   | none=>rw[e2] at h;cases h
   | some y=>rw[e2] at h;obtain rfl:=auq h;have:=rB e2;simp;omega
theorem I4{l l':List α}(h:iB J l=some l'):I5 J l=I5 J l':=by
 unfold I5;have:=rB J h;rw[← this,nfN,h]
theorem Uq{l:List α}(h:iB J l=none):I5 J l=l:=by
 unfold I5
 cases l with
 | nil=>rfl
 | cons a r=>rw[List.length_cons,nfN,h]
def Hh:List α→List α→Prop
 | [],_=>True
 | x::p,r=>(∀ y∈p++r,J x y=none)∧Hh p r
theorem qG{a:α}:∀ {l:List α},(∀ y∈l,J a y=none)→jx J a l=none
 | [],_=>rfl
 | b::r,h=>by unfold jx;rw[h b (by simp),qG fun y hy=>h y (by simp[hy])];rfl
theorem Ec{a b c:α}:∀ {l r:List α},(∀ y∈l,J a y=none)→J a b=some c→jx J a (l++b::r)=some (c,l++r)
 | [],r,_,h=>by show jx J a (b::r)=_;unfold jx;rw[h];rfl
 | x::l,r,hl,h=>by
  show jx J a (x::(l++b::r))=_;unfold jx;rw[hl x (by simp),Ec (fun y hy=>hl y (by simp[hy])) h];rfl
theorem DS:∀ {p r:List α},Hh J p r→iB J (p++r)=(iB J r).map (p++·)
 | [],r,_=>by cases h:iB J r<;>simp[h]
 | x::p,r,h=>by
  show iB J (x::(p++r))=_
  have e:iB J (x::(p++r))=(iB J (p++r)).map (x::·):=by
   rw[iB,qG J h.1]
  rw[e,DS h.2];cases iB J r<;>rfl
theorem I3:∀ {p:List α},Hh J p []→iB J p=none
 | [],_=>rfl
 | x::p,h=>by unfold iB;rw[qG J (by simpa using h.1),I3 h.2];rfl
theorem Uf{p m r:List α}{a b c:α}(hp:Hh J p (a::(m++b::r)))(hm:∀ y∈m,J a y=none)(h:J a b=some c):iB J (p++a::(m++b::r))=some (p++c::(m++r)):=by
 rw[DS J hp];unfold iB;rw[Ec J hm h];rfl
theorem Hh.append{p q r:List α}(h1:Hh J p (q++r))(h2:Hh J q r):Hh J (p++q) r:=by
 induction p with
 | nil=>exact h2
 | cons x p ih=>exact⟨fun y hy=>h1.1 y (by simpa using hy),ih h1.2⟩
theorem Hh.left{p q r:List α}(h:Hh J (p++q) r):Hh J p (q++r):=by
 induction p with
 | nil=>trivial
 | cons x p ih=>exact⟨fun y hy=>h.1 y (by simpa using hy),ih h.2⟩
theorem Hh.right{p q r:List α}(h:Hh J (p++q) r):Hh J q r:=by
 induction p with
 | nil=>exact h
 | cons x p ih=>exact ih h.2
theorem Hh.mono{p r r':List α}(h:Hh J p r)(hr:∀ y∈r',y∈r):Hh J p r':=by
 induction p with
 | nil=>trivial
 | cons x p ih=>exact⟨fun y hy=>h.1 y (by
  rcases auA.1 hy with hy|hy
  ·exact auA.2 (.inl hy)
  ·exact auA.2 (.inr (hr y hy))),ih h.2⟩
def seg(f:Nat→Option α)(i n:Nat):List α:=(List.range' i (n-i)).filterMap f
theorem zC(f:Nat→Option α){i n:Nat}(h:n≤i):seg f i n=[]:=by unfold seg;rw[Nat.sub_eq_zero_of_le h];rfl
theorem iY(f:Nat→Option α){i n:Nat}(h:i<n):seg f i n=(f i).toList++seg f (i+1) n:=by
 unfold seg;rw[show n-i=(n-(i+1))+1 by omega,List.range'_succ,List.filterMap_cons];cases f i<;>rfl
theorem iO(f:Nat→Option α){i j n:Nat}(h1:i≤j)(h2:j≤n):seg f i n=seg f i j++seg f j n:=by
 unfold seg;have h:=List.range'_append_1 (s:=i) (m:=j-i) (n:=n-j);rw[show i+(j-i)=j by omega,show j-i+(n-j)=n-i by omega] at h;rw[← auG,h]
theorem wg{f g:Nat→Option α}{i n:Nat}(h:∀ k,i≤k→k<n→f k=g k):seg f i n=seg g i n:=by
 unfold seg
 have key:∀ l:List Nat,(∀ k∈l,f k=g k)→l.filterMap f=l.filterMap g:=by
  intro l
  induction l with
  | nil=>intro _;rfl
  | cons x l ih=>intro h;rw[List.filterMap_cons,List.filterMap_cons,h x (by simp),ih fun k hk=>h k (by simp[hk])]
 refine key _ fun k hk=>?_
 rw[List.mem_range'_1] at hk;exact h k hk.1 (by omega)
theorem OW{f:Nat→Option α}{i n:Nat}{y:α}:y∈seg f i n↔∃ k,i≤k∧k<n∧f k=some y:=by
 unfold seg;rw[List.mem_filterMap];constructor
 ·rintro⟨k,hk,e⟩;rw[List.mem_range'_1] at hk;exact⟨k,hk.1,by omega,e⟩
 ·rintro⟨k,h1,h2,e⟩;exact⟨k,List.mem_range'_1.2 ⟨h1,by omega⟩,e⟩
def NP(f:Nat→Option α)(n i e:Nat):Prop:=∀ h x k y,h<i→f h=some x→h<k→k<n→k≠e→f k=some y→J x y=none
theorem Un{f:Nat→Option α}{n:Nat}:∀ {i s:Nat},s≤i→i≤n→(∀ h x k y,s≤h→h<i→f h=some x→h<k→k<n→f k=some y→J x y=none)→Hh J (seg f s i) (seg f i n):=by
 intro i s hsi hin H;obtain⟨d,hd⟩:∃ d,d=i-s:=⟨_,rfl⟩
 induction d generalizing s with
 | zero=>rw[zC f (by omega)];trivial
 | succ d ih=>
  have hlt:s<i:=by omega
  have h2:=ih (s:=s+1) (by omega) (fun h x k y h1=>H h x k y (by omega)) (by omega);rw[iY f hlt]
  cases e:f s with
  | none=>exact h2
  | some x=>
   refine⟨fun y hy=>?_,h2⟩
   change y∈seg f (s+1) i++seg f i n at hy
   rw[← iO f (by omega) hin] at hy;obtain⟨k,k1,k2,k3⟩:=OW.1 hy;exact H s x k y (Nat.le_refl _) hlt e (by omega) k2 k3
def kg(f:Nat→Option α)(i:Nat)(v:Option α):Nat→Option α:=fun k=>if k=i then v else f k
theorem q6(f:Nat→Option α)(i:Nat)(v:Option α):kg f i v i=v:=if_pos rfl
theorem fN(f:Nat→Option α){i k:Nat}(v:Option α)(h:k≠i):kg f i v k=f k:=if_neg h
theorem IB{f:Nat→Option α}{n i k:Nat}{a b c:α}(hi:i<k)(hk:k<n)(ha:f i=some a)(hb:f k=some b)(hc:J a b=some c)
 (hp:NP J f n i n) (hm:∀ j y,i<j→j<k→f j=some y→J a y=none):iB J (seg f 0 n)=some (seg (kg (kg f i (some c)) k none) 0 n):=by
 have e1:seg f 0 n=seg f 0 i++a::(seg f (i+1) k++b::seg f (k+1) n):=by
  rw[iO f (auj i) (by omega:i≤n),iY f (by omega:i<n),ha,iO f (by omega:i+1≤k) (by omega:k≤n),iY f hk,hb];rfl
 have e2:seg (kg (kg f i (some c)) k none) 0 n=seg f 0 i++c::(seg f (i+1) k++seg f (k+1) n):=by
  rw[iO _ (auj i) (by omega:i≤n),iY _ (by omega:i<n),iO _ (by omega:i+1≤k) (by omega:k≤n),iY _ hk,q6,fN _ _ (by omega:i≠k),q6,
   wg (g:=f) (i:=0) (n:=i) (fun j h1 h2=>by rw[fN _ _ (by omega),fN _ _ (by omega)]),
   wg (g:=f) (i:=i+1) (n:=k) (fun j h1 h2=>by rw[fN _ _ (by omega),fN _ _ (by omega)]),
   wg (g:=f) (i:=k+1) (n:=n) (fun j h1 h2=>by rw[fN _ _ (by omega),fN _ _ (by omega)])];rfl
 rw[e1,e2];refine Uf J ?_ (fun y hy=>?_) hc
 ·have h:=Un J (f:=f) (n:=n) (auj i) (by omega) (fun h x k y _ h1 h2 h3 h4 h5=>hp h x k y h1 h2 h3 h4 (by omega) h5);rw[iY f (by omega:i<n),ha,iO f (by omega:i+1≤k) (by omega:k≤n),iY f hk,hb] at h;exact h
 ·obtain⟨j,j1,j2,j3⟩:=OW.1 hy;exact hm j y (by omega) j2 j3
theorem NP.joined{f:Nat→Option α}{n i k:Nat}{c:α}(hp:NP J f n i n):NP J (kg (kg f i (some c)) k none) n i i:=by
 intro h x j y h1 h2 h3 h4 h5 h6;have hj:j≠k:=fun e=>by subst e;rw[q6] at h6;cases h6
 rw[fN _ _ hj,fN _ _ h5] at h6;have hh:h≠k:=fun e=>by subst e;rw[q6] at h2;cases h2
 rw[fN _ _ hh,fN _ _ (by omega)] at h2;exact hp h x j y h1 h2 h3 h4 (by omega) h6
end
end Go.Proofs.YtdcofoaihmongaaGreat
namespace Go.Proofs.YtdcofoaihmongaaGreat
open Go Go.RowKit
def ay.or(x y:ay):ay:=⟨x.a|||y.a,x.b|||y.b,x.c|||y.c,x.d|||y.d⟩
def orW(m:Nat)(x y:ay)(i:Nat):Nat:=if i<m then x.word i|||y.word i else x.word i
def aL(a b:aj):Option aj:=
 if (((!decide (a.kind=b.kind)||!decide (a.cls=b.cls))||!decide (a.cond=b.cond))||!(a.self == b.self))=true then none
 else if (decide (a.src=b.src)&&decide (a.tgt=b.tgt))=true then some { a with perms:=bits .or .u32 a.perms b.perms }
 else if (decide (a.perms=b.perms)&&decide (a.src=b.src))=true then some { a with tgt:=a.tgt.or b.tgt }
 else if (decide (a.perms=b.perms)&&decide (a.tgt=b.tgt))=true then some { a with src:=a.src.or b.src }
 else none
theorem join_none{a b:aj}(h:aL a b=none):Ending.returned (.tuple #[.agg #[.int .i64 a.kind,.int .u64 a.src.a,.int .u64 a.src.b,.int .u64 a.src.c,.int .u64 a.src.d,.int .u64 a.tgt.a,.int .u64 a.tgt.b,.int .u64 a.tgt.c,.int .u64 a.tgt.d,.bool a.self,.int .i64 a.cls,.int .u32 a.perms,.int .i64 a.cond],.bool false])=.returned (.tuple #[.agg #[.int .i64 (((aL a b).getD a).kind),.int .u64 (((aL a b).getD a).src.a),.int .u64 (((aL a b).getD a).src.b),.int .u64 (((aL a b).getD a).src.c),.int .u64 (((aL a b).getD a).src.d),.int .u64 (((aL a b).getD a).tgt.a),.int .u64 (((aL a b).getD a).tgt.b),.int .u64 (((aL a b).getD a).tgt.c),.int .u64 (((aL a b).getD a).tgt.d),.bool (((aL a b).getD a).self),.int .i64 (((aL a b).getD a).cls),.int .u32 (((aL a b).getD a).perms),.int .i64 (((aL a b).getD a).cond)],.bool (aL a b).isSome]):=by rw[h];rfl
theorem join_some{a b c:aj}(h:aL a b=some c):Ending.returned (.tuple #[.agg #[.int .i64 c.kind,.int .u64 c.src.a,.int .u64 c.src.b,.int .u64 c.src.c,.int .u64 c.src.d,.int .u64 c.tgt.a,.int .u64 c.tgt.b,.int .u64 c.tgt.c,.int .u64 c.tgt.d,.bool c.self,.int .i64 c.cls,.int .u32 c.perms,.int .i64 c.cond],.bool true])=.returned (.tuple #[.agg #[.int .i64 (((aL a b).getD a).kind),.int .u64 (((aL a b).getD a).src.a),.int .u64 (((aL a b).getD a).src.b),.int .u64 (((aL a b).getD a).src.c),.int .u64 (((aL a b).getD a).src.d),.int .u64 (((aL a b).getD a).tgt.a),.int .u64 (((aL a b).getD a).tgt.b),.int .u64 (((aL a b).getD a).tgt.c),.int .u64 (((aL a b).getD a).tgt.d),.bool (((aL a b).getD a).self),.int .i64 (((aL a b).getD a).cls),.int .u32 (((aL a b).getD a).perms),.int .i64 (((aL a b).getD a).cond)],.bool (aL a b).isSome]):=by rw[h];rfl
theorem DC(w0:World)(x y:ay)(hx:x.Ok)(hy:y.Ok):Calls Tryz.prog 227 #[.agg #[.int .u64 x.a,.int .u64 x.b,.int .u64 x.c,.int .u64 x.d],.agg #[.int .u64 y.a,.int .u64 y.b,.int .u64 y.c,.int .u64 y.d]] w0 (fun(r:Ending) (w':World)=>r=.returned (.agg #[.int .u64 ((x.or y).a),.int .u64 ((x.or y).b),.int .u64 ((x.or y).c),.int .u64 ((x.or y).d)])∧aui w0.heap.size w0 w'):=by
 refine cL [] (fn:=Tryz.f227) Tryz.func227 rfl Tryz.ntmps227 rfl<|fun gx w1 M1=>fun gy w2 M2=>ei<|an KO fun go w3 M3=>lp (ι:=Nat) (fun m=>[(6,.int .i64 (m:Int))]) (fun m=>[(go,54,#[.int .u64 0,.int .u64 0,.int .u64 0,.int .u64 0]),(gy,54,#[.int .u64 y.a,.int .u64 y.b,.int .u64 y.c,.int .u64 y.d]),(gx,54,#[.int .u64 ((orW m x y 0:Nat):Int),.int .u64 ((orW m x y 1:Nat):Int),.int .u64 ((orW m x y 2:Nat):Int),.int .u64 ((orW m x y 3:Nat):Int)])]) (fun _=>[]) (fun m _=>m≤4) (fun m=>4-m) 0 (an ⟨⟨rfl,trivial⟩,fun M=>⟨M,auj _⟩⟩ ?_)
 intro m w M hm;refine an (fun h=>?_) fun h=>?_
 ·have hlt:m<4:=by simp at h;omega
  obtain rfl|rfl|rfl|rfl:m=0∨m=1∨m=2∨m=3:=by omega
  all_goals
   refine dr (by kernel_rfl)<|ei<|an ⟨rfl,by decide⟩<|lb 2<|an rfl<|ei<|an ⟨rfl,by decide⟩<|lb 1<|an rfl<|ei<|an rfl<|ei<|an ⟨rfl,by decide⟩<|fun w hb M=>lb 2<|an ⟨rfl,rfl⟩ fun w M=>an (by omega)<|bk _ ⟨rfl,trivial⟩ (fun M=>⟨M.cast ?_ rfl,by decide⟩) (by decide)
  ·exact congrArg (fun v:Int=>[(_:Bx),_,(gx,54,(#[Value.int .u64 v,_,_,_]:Array Value))]) (bits_or_u64_nat _ _ hx.a hy.a)
  ·exact congrArg (fun v:Int=>[(_:Bx),_,(gx,54,(#[_,Value.int .u64 v,_,_]:Array Value))]) (bits_or_u64_nat _ _ hx.b hy.b)
  ·exact congrArg (fun v:Int=>[(_:Bx),_,(gx,54,(#[_,_,Value.int .u64 v,_]:Array Value))]) (bits_or_u64_nat _ _ hx.c hy.c)
  ·exact congrArg (fun v:Int=>[(_:Bx),_,(gx,54,(#[_,_,_,Value.int .u64 v]:Array Value))]) (bits_or_u64_nat _ _ hx.d hy.d)
 obtain rfl:m=4:=by simp at h;omega
 exact lb 2<|an rfl<|lb 0<|an ⟨rfl,rfl⟩ fun w M=>ei (x:=0)<|an rfl fun M=>⟨rfl,M.below⟩
theorem Ji(w0:World)(a b:aj)(ha:a.Ok)(hb:b.Ok):Calls Tryz.prog 169 #[.agg #[.int .i64 a.kind,.int .u64 a.src.a,.int .u64 a.src.b,.int .u64 a.src.c,.int .u64 a.src.d,.int .u64 a.tgt.a,.int .u64 a.tgt.b,.int .u64 a.tgt.c,.int .u64 a.tgt.d,.bool a.self,.int .i64 a.cls,.int .u32 a.perms,.int .i64 a.cond],.agg #[.int .i64 b.kind,.int .u64 b.src.a,.int .u64 b.src.b,.int .u64 b.src.c,.int .u64 b.src.d,.int .u64 b.tgt.a,.int .u64 b.tgt.b,.int .u64 b.tgt.c,.int .u64 b.tgt.d,.bool b.self,.int .i64 b.cls,.int .u32 b.perms,.int .i64 b.cond]] w0 (fun(r:Ending) (w':World)=>r=.returned (.tuple #[.agg #[.int .i64 (((aL a b).getD a).kind),.int .u64 (((aL a b).getD a).src.a),.int .u64 (((aL a b).getD a).src.b),.int .u64 (((aL a b).getD a).src.c),.int .u64 (((aL a b).getD a).src.d),.int .u64 (((aL a b).getD a).tgt.a),.int .u64 (((aL a b).getD a).tgt.b),.int .u64 (((aL a b).getD a).tgt.c),.int .u64 (((aL a b).getD a).tgt.d),.bool (((aL a b).getD a).self),.int .i64 (((aL a b).getD a).cls),.int .u32 (((aL a b).getD a).perms),.int .i64 (((aL a b).getD a).cond)],.bool (aL a b).isSome])∧aui w0.heap.size w0 w'):=by
 refine cL [] (fn:=Tryz.f169) Tryz.func169 rfl Tryz.ntmps169 rfl<|fun g1 w1 M1=>fun g2 w2 M2=>ei<|an oy fun g3 w3 M3=>lb 2<|an rfl<|lb 1<|an rfl<|lb 2<|an (fun _=>rfl)<|lb 1<|an (fun _=>rfl)<|lb 2<|an (fun _=>rfl)<|lb 1<|an (fun _=>rfl)<|lb 2<|an (fun _=>rfl)<|lb 1<|an (fun _=>rfl)<|an (fun h1=>?_) fun h1=>?_
 ·exact lb 2<|an rfl<|lb 0<|an ⟨rfl,rfl⟩ fun w4 M4=>ei (x:=0)<|an rfl fun M=>⟨join_none (by unfold aL;rw[if_pos h1]),M.below⟩
 refine lb 2<|an rfl<|lb 1<|an rfl<|ei (x:=decide (a.src=b.src))<|an ⟨xg,fun w=>uQ a.src b.src w⟩<|lb 2<|an (fun _=>rfl)<|lb 1<|an (fun _=>rfl)<|ei (x:=decide (a.tgt=b.tgt))<|an (fun _=>⟨xg,fun w=>uQ a.tgt b.tgt w⟩)<|an (fun h2=>?_) fun h2=>?_
 ·exact lb 2<|an rfl<|lb 1<|an rfl<|ei (x:=bits .or .u32 a.perms b.perms)<|an rfl<|lb 2<|an ⟨rfl,rfl⟩ fun w5 M5=>lb 2<|an rfl<|lb 0<|an ⟨rfl,rfl⟩ fun w6 M6=>ei (x:=0)<|an rfl fun M=>⟨join_some (by unfold aL;rw[if_neg (by rw[h1];decide),if_pos h2]),M.below⟩
 refine lb 2<|an rfl<|lb 1<|an rfl<|lb 2<|an (fun _=>rfl)<|lb 1<|an (fun _=>rfl)<|ei (x:=decide (a.src=b.src))<|an (fun _=>⟨xg,fun w=>uQ a.src b.src w⟩)<|an (fun h3=>?_) fun h3=>?_
 ·exact lb 2<|an rfl<|lb 1<|an rfl<|cl<|an (DC _ a.tgt b.tgt ha.tgt hb.tgt) fun w7 M7=>lb 2<|an ⟨rfl,rfl⟩ fun w8 M8=>lb 2<|an rfl<|lb 0<|an ⟨rfl,rfl⟩ fun w9 M9=>ei (x:=0)<|an rfl fun M=>⟨join_some (by unfold aL;rw[if_neg (by rw[h1];decide),if_neg (by rw[h2];decide),if_pos h3]),M.below⟩
 refine lb 2<|an rfl<|lb 1<|an rfl<|lb 2<|an (fun _=>rfl)<|lb 1<|an (fun _=>rfl)<|ei (x:=decide (a.tgt=b.tgt))<|an (fun _=>⟨xg,fun w=>uQ a.tgt b.tgt w⟩)<|an (fun h4=>?_) fun h4=>?_
 ·exact lb 2<|an rfl<|lb 1<|an rfl<|cl<|an (DC _ a.src b.src ha.src hb.src) fun tS nr=>lb 2<|an ⟨rfl,rfl⟩ fun Dw M11=>lb 2<|an rfl<|lb 0<|an ⟨rfl,rfl⟩ fun He Dr=>ei (x:=0)<|an rfl fun M=>⟨join_some (by unfold aL;rw[if_neg (by rw[h1];decide),if_neg (by rw[h2];decide),if_neg (by rw[h3];decide),if_pos h4]),M.below⟩
 exact lb 2<|an rfl<|lb 0<|an ⟨rfl,rfl⟩ fun KE vI=>ei (x:=0)<|an rfl fun M=>⟨join_none (by unfold aL;rw[if_neg (by rw[h1];decide),if_neg (by rw[h2];decide),if_neg (by rw[h3];decide),if_neg (by rw[h4];decide)]),M.below⟩
end Go.Proofs.YtdcofoaihmongaaGreat

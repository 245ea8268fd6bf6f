import Derived.JoinedOf
import Derived.ProofKit
import Derived.Shelf.SlSortCmp.NoneTotal
import Derived.Test.YtdcofoaihmongaaGreatChecked
import Derived.Test.YtdcofoaihmongaaGreatRows
import Derived.Test.YtdcofoaihmongaaGreatS5
open Bool renaming and_eq_true→avE
open Go.RowKit renaming Below→avy
open List renaming mem_map→avx,all_eq_true→avz,mem_cons_of_mem→avA,mem_cons→avD,getElem?_eq_some_iff→avF,mem_append→avH,mem_singleton→avI,length_append→avJ,take_length→avK,mem_of_getElem?→avL,getElem?_eq_getElem→avM,mem_cons_self→avN,length_map→avO,getElem?_map→avP,getElem?_append_left→avQ,getElem?_append_right→avR,flatMap_append→avS,map_append→avT
open Nat renaming zero_le→avB,le_trans→avG
open Option.some renaming inj→avC
set_option maxRecDepth 100000
set_option maxHeartbeats 8000000
namespace Go.Proofs.YtdcofoaihmongaaGreat
open Go Go.RowKit
theorem xG(l:List Int):∀ u∈l.map j7,u.oneCell'=true:=fun u hu=>by
 obtain⟨y,-,rfl⟩:=avx.1 hu;rfl
theorem Y_{w0 w:World}{B:Nat}{bs:List Bx}{rs:List Rw}(M:aY B w0 w bs rs)(i:Nat){l:List Int}{s:ay}{g:Nat}{t:TypeId}(hb:bs[i]?=some (g,t,(l.map j7).toArray))(hx:ofs l=s)(hn:l.length≤100:=by decide)(ht:Nat.blt t 9000=true:=by rfl):
 Calls Tryz.prog 66 #[.slice (some ⟨g,0,none⟩) l.length l.length] w fun r w'=>r=.returned (.agg #[.int .u64 s.a,.int .u64 s.b,.int .u64 s.c,.int .u64 s.d])∧avy w.heap.size w w':=by
 subst hx;exact Ug w _ l (M.slice i hb (by simp) (by rw[avz];exact fun u hu=>xG l u (by simpa using hu)) (by unfold maxLen;omega) ht)
theorem ofK{w w':World}{u:Value}{l:List Int}{s:ay}(h:Ds w 3 l.length (l.map j7) u w')(hx:ofs l=s)(hn:l.length≤100:=by decide):
 Calls Tryz.prog 66 #[u] w' fun r w''=>r=.returned (.agg #[.int .u64 s.a,.int .u64 s.b,.int .u64 s.c,.int .u64 s.d])∧avy w'.heap.size w' w'':=by
 subst hx;obtain⟨g,rfl,hW,-⟩:=h;exact Ug w' _ l (SliceAt.A8 hW (by simp) (by rw[avz];exact fun u hu=>xG l u (by simpa using hu)) (by unfold maxLen;omega))
theorem YG{w w':World}{u:Value}{l:List Int}(h:Ds w 3 l.length (l.map j7) u w')(hn:l.length≤100:=by decide):SliceAt w' u 1 l.length (l.flatMap anyI):=by
 obtain⟨g,rfl,hW,-⟩:=h
 have e:l.flatMap anyI=l.map j7:=by
  clear hW hn
  induction l with
  | nil=>rfl
  | cons x r ih=>rw[List.flatMap_cons,ih];rfl
 rw[e];exact SliceAt.A8 hW (by simp) (by rw[avz];exact fun u hu=>xG l u (by simpa using hu)) (by unfold maxLen;omega)
theorem RowsIn.tail{B:Nat}{w:World}{r:Rw}{T:List Rw}(h:RowsIn B w (r::T)):RowsIn B w T:=⟨fun x hx=>h.1 x (avA _ hx),(List.pairwise_cons.1 h.2).2⟩
theorem MO(w0:World)(v v':Value)(a b:List Int)(ha:SliceAt w0 v 1 a.length (a.flatMap anyI))(hb:SliceAt w0 v' 1 b.length (b.flatMap anyI)):Calls Tryz.prog 28 #[v,v'] w0 fun r w'=>r=.returned (.bool (decide (a=b)))∧avy w0.heap.size w0 w':=by
 obtain⟨la,ka,rfl,-,hm,-⟩:=SliceAt.form ha (by decide);obtain⟨lb',kb,rfl,-⟩:=SliceAt.form hb (by decide);have no:a≠b→Ending.returned (mE [Value.bool false])=.returned (.bool (decide (a=b))):=fun h=>by rw[decide_eq_false h];rfl
 refine cL [] (fn:=Tryz.f28) Tryz.func28 rfl Tryz.ntmps28 rfl<|an (fun h M=>⟨no fun e=>by rw[e]at h;simp at h,M.below⟩) fun h=>lr (ι:=Nat) (fun m=>[(5,.int .i64 (m:Int))]) (fun m _=>m≤a.length∧a.take m=b.take m) (fun m=>a.length-m) 0 (an ⟨⟨rfl,trivial⟩,fun M=>⟨M,avB _,rfl⟩⟩ ?_)
 have hll:a.length=b.length:=Int.ofNat_inj.1 (by simpa using h);intro m w M ⟨hmm,ht⟩;refine an (fun h2=>?_) fun h2 M=>⟨?_,M.below⟩
 ·simp only[decide_eq_true_eq]at h2;obtain⟨x,y,b1,o1,b2,o2,hx,hy,⟨rfl,hc⟩,rfl,hc'⟩:=dU (f:=anyI) (fun _=>rfl) (by decide) ha hb rfl rfl (m:=m) (by omega) hll M.below;refine dr (by kernel_rfl)<|ia<|an ⟨rfl,rfl,by omega⟩<|lc<|an (hc 0 _ rfl)<|ia<|an ⟨rfl,rfl,by omega⟩<|lc<|an (hc' 0 _ rfl) fun w2 hb2 M2=>an (fun h3 M=>⟨no fun e=>?_,M.below⟩) fun h3=>an (by omega)<|bk (m+1) ⟨rfl,trivial⟩ (fun M=>⟨M,by omega,iX ht hx hy (by simpa using h3)⟩) (by dsimp only;omega)
  subst e;rw[hx]at hy;obtain rfl:=avC hy;simp at h3
 ·simp only[decide_eq_false_iff_not]at h2;rw[decide_eq_true (p9 ht hll (by omega))];rfl
theorem xI{B:Nat}{w0 w:World}{rs:List Rw}{rg h2 h3 h4 h5 h6 h9 h12 Ea D_ Sw Sv h37 h42 h46:Nat}(M:aY B w0 w ((rg,56,(ez.rules.flatMap aj.cells).toArray)::SB h2 h3 h4 h5 h6 h9 h12 Ea D_ Sw Sv h37 h42 h46) rs):aM w (.slice (some ⟨h5,0,none⟩) 3 3) (.slice (some ⟨h6,0,none⟩) 4 4) (.slice (some ⟨h9,0,none⟩) 1 1) (.slice (some ⟨h12,0,none⟩) 2 2) (.slice (some ⟨Ea,0,none⟩) 1 1) (.slice (some ⟨D_,0,none⟩) 1 1) (.slice (some ⟨Sw,0,none⟩) 1 1) (.slice none 0 0) (.slice (some ⟨Sv,0,none⟩) 1 1) (.slice (some ⟨rg,0,none⟩) 4 4) (.slice (some ⟨h42,0,none⟩) 1 1) (.slice none 0 0) (.slice none 0 0) (.slice none 0 0) (.slice (some ⟨h46,0,none⟩) 3 3) (.slice none 0 0) (.slice none 0 0) ez:=
 have h:=LO (M.only (.cons _ (.refl _)) (.refl _))
 ⟨h.classes,h.types,h.attrs,h.roles,h.users,h.bools,h.aZ,h.cats,h.conds,M.slice 0 rfl rfl rfl (by simp[maxLen]),h.trans,h.aN,h.ranges,h.cons,h.bO,h.files,h.asserts⟩
theorem Ww:RdH (aQ ez):=by rw[YO];exact⟨vg,Kv,by decide,by decide,by decide⟩
theorem Wv:RuH (Sn (aQ ez) (wz (aQ ez))):=by rw[PB];exact⟨RT,RS,by decide⟩
theorem Wx:YV (wk (Sn (aQ ez) (wz (aQ ez)))):=by rw[PB,YN];exact RY
theorem Er(w0:World):Calls Tryz.prog 21 #[] w0 fun r w'=>r=.returned (.bool true)∧avy w0.heap.size w0 w':=by
 refine cL [] (fn:=Tryz.f21) Tryz.func21 rfl Tryz.ntmps21 rfl<|cg<|an ((LP w0).mono fun _ _ h=>h) fun v w1 hS=>?_
 obtain⟨h2,h3,h4,h5,h6,h9,h12,Ea,D_,Sw,Sv,h37,h42,h46,rfl,hS⟩:=hS
 refine⟨_,_,hS,ei<|an nu fun q w2 M2=>lb 0<|an ⟨rfl,rfl⟩ fun w3 M3=>fun g4 w4 M4=>cl<|an (Y_ M4 0 (l:=[0]) (s:=⟨1,0,0,0⟩) rfl rfl) fun w5 M5=>fun g6 w6 M6=>cl<|an (Y_ M6 0 (l:=[1]) (s:=⟨2,0,0,0⟩) rfl rfl) fun w7 M7=>
  ei (x:=.agg #[.int .i64 1,.int .u64 1,.int .u64 0,.int .u64 0,.int .u64 0,.int .u64 2,.int .u64 0,.int .u64 0,.int .u64 0,.bool false,.int .i64 1,.int .u32 1,.int .i64 0])<|an (bd (by kernel_rfl))<|
  fun g8 w8 M8=>
  cl<|an (Y_ M8 0 (l:=[0]) (s:=⟨1,0,0,0⟩) rfl rfl) fun w9 M9=>
  fun g10 tS nr=>
  cl<|an (Y_ nr 0 (l:=[1]) (s:=⟨2,0,0,0⟩) rfl rfl) fun Dw M11=>
  ei (x:=.agg #[.int .i64 1,.int .u64 1,.int .u64 0,.int .u64 0,.int .u64 0,.int .u64 2,.int .u64 0,.int .u64 0,.int .u64 0,.bool false,.int .i64 1,.int .u32 2,.int .i64 0])<|an (bd (by kernel_rfl))<|
  fun g12 He Dr=>
  cl<|an (Y_ Dr 0 (l:=[0]) (s:=⟨1,0,0,0⟩) rfl rfl) fun KE vI=>
  fun g14 Te Hl=>
  cl<|an (Y_ Hl 0 (l:=[2]) (s:=⟨4,0,0,0⟩) rfl rfl) fun Ob Eu=>
  ei (x:=.agg #[.int .i64 1,.int .u64 1,.int .u64 0,.int .u64 0,.int .u64 0,.int .u64 4,.int .u64 0,.int .u64 0,.int .u64 0,.bool false,.int .i64 1,.int .u32 3,.int .i64 0])<|an (bd (by kernel_rfl))<|
  fun g16 W_ KL=>
  cl<|an (Y_ KL 0 (l:=[0]) (s:=⟨1,0,0,0⟩) rfl rfl) fun W9 WE=>
  fun g18 w18 WD=>
  cl<|an (Y_ WD 0 (l:=[2]) (s:=⟨4,0,0,0⟩) rfl rfl) fun w19 YS=>
  ei (x:=.agg #[.int .i64 1,.int .u64 1,.int .u64 0,.int .u64 0,.int .u64 0,.int .u64 4,.int .u64 0,.int .u64 0,.int .u64 0,.bool false,.int .i64 1,.int .u32 1,.int .i64 1])<|an (bd (by kernel_rfl))<|
  fun g20 w20 M20=>
  lb 9<|an ⟨rfl,rfl⟩ fun w M=>?_⟩
 have hP:=xI (M.only (.cons_cons _<|.cons _<|.cons _<|.cons _<|.cons _<|.cons _<|.cons _<|.cons _<|.cons _<|.cons _<|.refl _) (.refl _));refine lb 9<|an rfl<|cg<|an (E7 _ _ _ _ _ _ _ _ _ _ _ _ _ _ _ _ _ _ ez hP Wy Ww Wv Wx) fun v2 w4 hO=>?_
 obtain⟨hG,hb⟩:=hO;rw[YM]at hG;obtain⟨x0,n0,x1,n1,x2,n2,x3,n3,x4,n4,x5,n5,x6,n6,x7,n7,x8,n8,x9,n9,x10,n10,pK,n11,pJ,n12,Ll,n13,Lk,n14,Lj,n15,Li,n16,T,rfl,hT,hPO⟩:=hG;refine⟨_,T,M.dS hb hT,ei<|an nu fun q2 w5 M5=>lb 0<|an ⟨rfl,rfl⟩ fun w6 M6=>?_⟩;have aeo:=sy w6 _ _ _ _ _ _ _ _ _ _ _ _ _ _ _ _ _ ez (xI (M6.only (.cons _ (.cons_cons _<|.cons _<|.cons _<|.cons _<|.cons _<|.cons _<|.cons _<|.cons _<|.cons _<|.cons _<|.refl _)) (.refl _))) vg (by decide) (by decide) (by decide);rw[RR]at aeo;refine lb 10<|an rfl<|cw M6 aeo fun u w7 M7=>?_
 obtain⟨ua,uc,rfl,-⟩:=M7.shape 0 rfl;have hO7:=hPO _ _ (RowsIn.tail M7.dV);obtain⟨ob,oo,rfl,hoc⟩:=SliceAt.elt hO7.rules (fun _=>rfl) (by decide) (i:=0) rfl (by decide)
 refine dr (by kernel_rfl)<|lb 0<|an rfl<|lb 0<|an (fun _=>rfl)<|ia (i:=0)<|an (fun _=>⟨rfl,rfl,by decide⟩)<|lc<|an (fun _=>hoc)<|
  br (Ds w7 3 1 [j7 0])<|an lM<|an (fun _ w1 a o' hb M' hop ou=>bK (p:=fun _=>True) (kk:=1) (b:=8) (by kernel_rfl) rfl rfl (by decide) (by decide) (by simp[Value.cells]) rfl w1 a o' hb trivial hop ou)<|
  cu<|an (fun u h w' hb' M' hR=>ofK (l:=[0]) (s:=⟨1,0,0,0⟩) (hR h) rfl)<|
  br (Ds w7 3 2 [j7 1,j7 2])<|an lM<|an (fun _ w1 a o' hb M' hop ou=>bK (p:=fun _=>True) (kk:=1) (b:=8) (by kernel_rfl) rfl rfl (by decide) (by decide) (by simp[Value.cells]) rfl w1 a o' hb trivial hop ou)<|
  cu<|an (fun u h w' hb' M' hR=>ofK (l:=[1,2]) (s:=⟨6,0,0,0⟩) (hR h) rfl)<|
  ei (x:=.agg #[.int .i64 1,.int .u64 1,.int .u64 0,.int .u64 0,.int .u64 0,.int .u64 6,.int .u64 0,.int .u64 0,.int .u64 0,.bool false,.int .i64 1,.int .u32 3,.int .i64 0])<|an (fun _=>bd (by kernel_rfl))<|
  ei<|an (fun _=>⟨ace,fun w=>VN ⟨1,⟨1,0,0,0⟩,⟨6,0,0,0⟩,false,1,3,0⟩ ⟨1,⟨1,0,0,0⟩,⟨6,0,0,0⟩,false,1,3,0⟩ w⟩)<|
  lb 0<|an (fun _=>rfl)<|
  br (Ds w7 3 1 [j7 3])<|an lM<|an (fun _ w1 a o' hb M' hop ou=>bK (p:=fun _=>True) (kk:=1) (b:=8) (by kernel_rfl) rfl rfl (by decide) (by decide) (by simp[Value.cells]) rfl w1 a o' hb trivial hop ou)<|
  cu<|an (fun u h w' hb' M' hR=>MO w' _ _ [3] [3] (by have h2:=SliceAt.bF (M'.r 0 rfl) (Jk [3]);exact h2) (YG (l:=[3]) (hR h)))<|
  lb 10<|an (fun _=>rfl)<|lb 0<|an (fun _=>rfl)<|cl<|an (fun _ w' hb' M'=>TG w' _ _ _ _ _ _ _ _ _ _ _ _ _ _ _ _ _ _ _ _ _ _ _ _ _ _ _ _ _ _ _ _ _ _ ez G0 (xI (M'.only (.cons _ (.cons_cons _<|.cons _<|.cons _<|.cons _<|.cons _<|.cons _<|.cons _<|.cons _<|.cons _<|.cons _<|.refl _)) (.refl _))) (hPO _ _ (RowsIn.tail M'.dV)) vg RU (by decide) (by decide) (by decide) (by decide) (by decide) (by decide) (by decide) (by decide)) fun tS zh nr=>?_
 exact fun M=>⟨by rw[YL];rfl,M.below⟩
theorem mg{α:Type}{P:α→α→Bool}(h:∀ x,P x x=true):∀ l:List α,aA P l l=true
 | []=>rfl
 | x::l=>by show(P x x&&aA P l l)=true;rw[h,mg h l];rfl
mutual
theorem sQ:∀ e:aq,eU e e=true
 | .node op a rel b names set kids=>by rw[eU];simp[aq.op,aq.a,aq.rel,aq.b,aq.set,aq.names,aq.kids,yj kids]
theorem yj:∀ l:List aq,mY l l=true
 | []=>by rw[mY]
 | x::l=>by rw[mY,sQ x,yj l];rfl
end
theorem uh(p:aC):gM p p=true:=by
 unfold gM kq;rw[mg (P:=mK) (fun x=>by simp[mK]),mg (P:=nL) (fun x=>by simp[nL]),mg (P:=eU) sQ,mg (P:=sw) (fun x=>by simp[sw,sQ])];simp
theorem Jf(o:Int):nY o≤2:=by
 unfold nY
 repeat' split
 all_goals decide
theorem Cp{n:Nat}:∀ {l:List aq},lV n l=0→∀ k∈l,kG n k=0
 | [],_,_,hk=>by cases hk
 | x::l,h,k,hk=>by
  unfold lV at h;split at h
  ·rename_i hx;rcases avD.1 hk with rfl|hk
   ·exact hx
   ·exact Cp h k hk
  ·rename_i hx;exact absurd h hx
theorem BW{a b c n:Nat}:∀ {l:List aq},qJ a b c n l=0→∀ k∈l,kF a b c n k=0
 | [],_,_,hk=>by cases hk
 | x::l,h,k,hk=>by
  unfold qJ at h;split at h
  ·rename_i hx;rcases avD.1 hk with rfl|hk
   ·exact hx
   ·exact BW h k hk
  ·rename_i hx;exact absurd h hx
theorem AB{n:Nat}:∀ e:aq,kG n e=0→mw e
 | .node op a rel b names set kids,h=>by
  have ih:∀ k∈kids,kG n k=0→mw k:=fun k hk=>AB k
  rw[qP]at h
  cases hb:kO (.node op a rel b names set kids) with
  | true=>rw[hb]at h;simp at h
  | false=>
   rw[hb,if_neg (by decide)]at h;split at h
   ·cases h
   unfold kO at hb;simp only[Bool.or_eq_false_iff,Bool.not_eq_false',decide_eq_true_eq,aq.op,aq.kids,aq.names]at hb;have hk:nY op=(kids.length:Int):=of_decide_eq_true hb.1.1.1.1.1.2;have hn:¬ (0<(names.length:Int)):=of_decide_eq_false hb.1.1.2;have:=Jf op;exact .node (by omega) (by omega) fun k hkm=>ih k hkm (Cp h k hkm)
 termination_by e=>SizeOf.sizeOf e
 decreasing_by
  have:=List.sizeOf_lt_of_mem hk;simp only[aq.node.sizeOf_spec];omega
theorem Rn{e:aq}(h:jM e=true):e.names.length=0∧e.kids.length≤2∧(e.op=8→e.kids=[]):=by
 unfold jM at h;have:=Jf e.op;split at h
 ·rename_i ho;simp only[avE,decide_eq_true_eq]at h;obtain⟨⟨⟨⟨⟨h1,-⟩,-⟩,-⟩,h2⟩,-⟩:=h;exact⟨by omega,by omega,fun h8=>by omega⟩
 ·split at h
  ·simp only[avE,decide_eq_true_eq]at h;obtain⟨⟨h1,h2⟩,-⟩:=h;exact⟨by omega,by omega,fun _=>List.eq_nil_of_length_eq_zero (by omega)⟩
  ·split at h
   ·simp only[avE,decide_eq_true_eq]at h;obtain⟨⟨⟨h1,-⟩,-⟩,h2⟩:=h;exact⟨by omega,by omega,fun _=>List.eq_nil_of_length_eq_zero (by omega)⟩
   ·cases h
theorem sP{nU nR nT N:Nat}:∀ e:aq,kF nU nR nT N e=0→mw e
 | .node op a rel b names set kids,h=>by
  have ih:∀ k∈kids,kF nU nR nT N k=0→mw k:=fun k hk=>sP k
  have hf:jM (.node op a rel b names set kids)=true:=by
   cases hf:jM (.node op a rel b names set kids) with
   | true=>rfl
   | false=>
    rw[tE (r:=2) (by unfold jd;rw[if_pos hf])]at h;cases h
  obtain⟨hn,hk,h8⟩:=Rn hf;replace hn:names.length=0:=hn;replace hk:kids.length≤2:=hk;refine .node (by omega) (by omega) fun k hkm=>?_
  have n8:op≠8:=fun e=>by
   have:kids=[]:=h8 e;rw[this]at hkm;cases hkm
  cases hs:jd nU nR nT N (.node op a rel b names set kids) with
  | none=>
   rw[BU hs]at h;exact ih k hkm (BW h k hkm)
  | some r=>
   rw[tE hs]at h;subst h;unfold jd at hs;rw[if_neg (by rw[hf];decide),if_neg (show ¬ (aq.node op a rel b names set kids).op=8 from n8)]at hs
   repeat' (split at hs)
   all_goals cases hs
 termination_by e=>SizeOf.sizeOf e
 decreasing_by
  have:=List.sizeOf_lt_of_mem hk;simp only[aq.node.sizeOf_spec];omega
theorem abU{p:aC}(h:Ky p):pF p:=by
 have hc:=h.check;unfold nk at hc;split at hc
 case isFalse hne=>exact absurd hc hne
 rename_i hc3;rw[j4]at hc hc3;have hcl:j6 p=0:=hc3 _ (by simp);have WO:yH p=0:=hc _ (by simp);have hr:iu p=0:=hc _ (by simp);unfold j6 at hcl;split at hcl
 ·cases hcl
 unfold yH at WO;split at WO
 ·cases WO
 unfold iu at hr;split at hr
 ·cases hr
 split at hr
 case isFalse _ hne=>exact absurd hr hne
 rename_i _ qB;rw[fJ]at hcl WO qB;have z:=h.small.sizes
 have C:∀ x∈p.classes,x.perms.length≤1000000:=fun x hx=>by
  obtain⟨i,hi⟩:=List.getElem?_of_mem hx;have h1:=hcl i (avB _) (by have:=(avF.1 hi).1;omega);unfold qQ at h1;rw[hi]at h1;replace h1:xB ((p.classes.take i).map (·.name)) x=0:=h1;unfold xB at h1;split at h1
  ·split at h1
   ·cases h1
   ·omega
  ·rename_i hne;exact absurd h1 hne
 have E:∀ e∈p.conds,mw e:=fun e he=>by
  obtain⟨i,hi⟩:=List.getElem?_of_mem he;have h1:=qB i (avB _) (by have:=(avF.1 hi).1;omega);unfold lW at h1;rw[hi]at h1;replace h1:dB p.bools.length e=0:=h1;unfold dB at h1;split at h1
  ·cases h1
  ·exact AB e h1
 have K:∀ x∈p.cons,mw x.expr:=fun x hx=>by
  obtain⟨i,hi⟩:=List.getElem?_of_mem hx;have h1:=WO i (avB _) (by have:=(avF.1 hi).1;omega);unfold J_ at h1;rw[hi]at h1;replace h1:RH p.users.length p.roles.length p.types.length p.classes x=0:=h1;unfold RH at h1;split at h1
  ·cases h1
  split at h1
  ·cases h1
  unfold gH at h1;split at h1
  ·cases h1
  split at h1
  ·exact sP _ h1
  ·exact sP _ h1
 exact⟨avG z.classes (by decide),C,avG z.types (by decide),fun x hx=>avG (h.small.oT x hx) (by decide),avG z.attrs (by decide),avG z.roles (by decide),avG z.users (by decide),avG z.bools (by decide),avG z.aZ (by decide),avG z.cats (by decide),avG z.conds (by decide),E,avG z.rules (by decide),avG z.trans (by decide),avG z.aN (by decide),avG z.ranges (by decide),avG z.cons (by decide),K,avG z.bO (by decide),avG z.files (by decide),avG z.asserts (by decide)⟩
end Go.Proofs.YtdcofoaihmongaaGreat
namespace Go.Proofs.YtdcofoaihmongaaGreat
open Go Go.RowKit Go.Sort
theorem Nv(p:aC)(i:Nat)(e:aq)(s:ox):∀ x∈(ct p i e s).kids,x∈s.kids∨x=e:=by
 intro x hx;unfold ct at hx;split at hx
 ·exact .inl hx
 ·split at hx
  ·exact .inl hx
  ·dsimp only at hx;split at hx
   ·rcases avH.1 hx with h|h
    ·exact .inl h
    ·exact .inr (avI.1 h)
   ·exact .inl hx
theorem yF(p:aC):∀ (l:List aq) (i:Nat) (s:ox),∀ x∈(jC p i l s).kids,x∈s.kids∨x∈l
 | [],_,_,x,hx=>.inl hx
 | e::l,i,s,x,hx=>by
  rcases yF p l (i+1) _ x hx with h|h
  ·rcases Nv p i e s x h with h|h
   ·exact .inl h
   ·exact .inr (avD.2 (.inl h))
  ·exact .inr (avA _ h)
theorem rJ{p:aC}{m:Nat}:∀ x∈(bn p m).kids,x∈p.conds:=fun x hx=>by
 rcases yF p _ 0 cs0 x hx with h|h
 ·cases h
 ·exact List.mem_of_mem_take h
def CBd(n:Nat)(s:ox):Prop:=(∀ k v,s.pE k=some v→-(n:Int)≤v∧v≤n)∧s.seen.length≤n
theorem Oe{f:Int→Option Int}{n n':Nat}(hn:n≤n')(h:∀ k v,f k=some v→-(n:Int)≤v∧v≤n){k0 v0:Int}(h0:-(n':Int)≤v0∧v0≤n'):∀ k v,eB f k0 v0 k=some v→-(n':Int)≤v∧v≤n':=fun k v hk=>by
 unfold eB at hk;split at hk
 ·cases hk;exact h0
 ·have:=h k v hk;constructor<;>omega
theorem Kl{n n' i:Nat}{k:Int}{s:ox}(hn:n≤n')(h:∀ k v,s.pE k=some v→-(n:Int)≤v∧v≤n)(hk:-(n':Int)≤k∧k≤n'):∀ j v,(cW i k s).pE j=some v→-(n':Int)≤v∧v≤n':=
 Oe (Nat.le_refl _) (Oe hn h hk) (by constructor<;>omega)
theorem Wa(p:aC)(i:Nat)(e:aq){n:Nat}{s:ox}(h:CBd n s):CBd (n+1) (ct p i e s):=by
 have hw:CBd (n+1) s:=⟨fun k v hk=>by have:=h.1 k v hk;constructor<;>omega,by have:=h.2;omega⟩;unfold ct;split
 ·exact hw
 ·split
  ·exact hw
  ·dsimp only;split
   ·refine⟨Kl (s:={ s with seen:=_,kids:=_ }) (Nat.le_succ n) h.1 (by have:=h.2;constructor<;>omega),?_⟩;show(s.seen++[_]).length≤n+1;rw[avJ];have:=h.2;simp;omega
   ·refine⟨Kl (Nat.le_succ n) h.1 ?_,hw.2⟩;have hb:=wY (bN (aK p.bools.length) p.bools.length e) (notM (aK p.bools.length) (bN (aK p.bools.length) p.bools.length e)) s.seen 0;have:=h.2;constructor<;>omega
theorem Ei(p:aC):∀ (l:List aq) (i n:Nat) (s:ox),CBd n s→CBd (n+l.length) (jC p i l s)
 | [],_,_,_,h=>h
 | e::l,i,n,s,h=>by
  have:=Ei p l (i+1) (n+1) _ (Wa p i e h);rw[List.length_cons,Nat.add_comm l.length 1,← Nat.add_assoc];exact this
theorem acu{p:aC}{k:Int}(hc:p.conds.length≤900):-900≤(bH (bn p p.conds.length) k).1∧(bH (bn p p.conds.length) k).1≤900:=by
 have h:=(Ei p (p.conds.take p.conds.length) 0 0 cs0 ⟨fun _ _ h=>(by cases h),Nat.le_refl _⟩).1;unfold bH;split
 ·exact⟨by decide,by decide⟩
 ·dsimp only
  cases hb:(bn p p.conds.length).pE k with
  | none=>exact⟨by decide,by decide⟩
  | some v=>
   have h2:=h k v hb;rw[avK]at h2;show -900≤v∧v≤900;constructor<;>omega
theorem Qd(l:List (List UInt8)):(l.mergeSort fun x y=>decide (x≤y)).Pairwise fun x y=>x≤y:=by
 have h:=List.pairwise_mergeSort (le:=fun x y:List UInt8=>decide (x≤y)) (fun a b c h1 h2=>by
  simp only[decide_eq_true_eq]at *
  exact List.le_trans h1 h2) (fun a b=>by
  simp only[Bool.or_eq_true,decide_eq_true_eq];exact List.le_total a b) l
 exact h.imp fun h=>of_decide_eq_true h
theorem Dj{l:List (List UInt8)}(hs:l.Pairwise fun x y=>x≤y):(Lib.compact l).Nodup:=by
 have hget:∀ i j (hi:i<l.length) (hj:j<l.length),i<j→l[i]≤l[j]:=fun i j hi hj h=>List.pairwise_iff_getElem.1 hs i j hi hj h
 have key:∀ m,m≤l.length→(Lib.compactUpTo l.toArray m).Nodup:=by
  intro m
  induction m with
  | zero=>intro _;exact List.nodup_nil
  | succ m ih=>
   intro hm;rw[Lib.compactUpTo_succ];by_cases hk:Lib.keeps l.toArray m=true
   ·rw[if_pos hk];refine List.nodup_append.2 ⟨ih (by omega),List.nodup_cons.2 ⟨by simp,List.nodup_nil⟩,?_⟩;intro x hx y hy e;rw[avI]at hy;subst hy;obtain⟨j,hj,hjx⟩:=(ku _ _ m).1 hx;have hk2:m=0∨l.toArray[m]!≠l.toArray[m-1]!:=of_decide_eq_true hk;rcases hk2 with h0|hne
    ·omega
    ·have g:∀ i (h:i<l.length),l.toArray[i]! = l[i]:=fun i h=>by rw[getElem!_pos l.toArray i (by simpa using h)];simp
     rw[g m (by omega)]at e hne;rw[g (m-1) (by omega)]at hne;rw[g j (by omega)]at hjx;refine hne (List.le_antisymm ?_ (hget (m-1) m (by omega) (by omega) (by omega)));rw[← e,← hjx];by_cases hjm:j=m-1
     ·subst hjm;exact List.le_refl _
     ·exact hget j (m-1) (by omega) (by omega) (by omega)
   ·rw[if_neg hk,List.append_nil];exact ih (by omega)
 exact key _ (Nat.le_refl _)
theorem Fj(e:aq):(dh e).Nodup:=by
 unfold dh lY;refine List.Pairwise.map Xe ?_ (Dj ?_)
 ·intro a b hne h;have h2:=congrArg dM h;exact hne (by simpa[dM,Xe] using h2)
 ·unfold t_;rw[List.map_map]
  have:((l:List (List UInt8))→l.map (dM∘Xe)=l):=fun l=>by
   induction l with
   | nil=>rfl
   | cons a l ih=>rw[List.map_cons,ih];rfl
  rw[this];exact Qd _
theorem DU{e:aq}{l:List ByteArray}(h:∀ s∈bh e,s∈l):(dh e).length≤l.length:=by
 have hs:dh e ⊆ l:=fun s hs=>h s ((oI e s).1 hs)
 exact List.Nodup.length_le_of_subset (Fj e) hs
end Go.Proofs.YtdcofoaihmongaaGreat
namespace Go.Proofs.YtdcofoaihmongaaGreat
open Go Go.RowKit
theorem EG{p:aC}{o:List Int}:∀ r∈(Sn p o).rules,r∈p.rules:=fun r hr=>by
 unfold Sn rN at hr;obtain⟨k,-,h⟩:=List.mem_filterMap.1 hr;split at h
 ·cases h
 ·exact avL h
theorem mU.wo{p:aC}(h:mU p)(o:List Int):mU (Sn p o):=⟨h.bools,fun r hr=>h.rv r (EG r hr),fun r hr=>h.four r (EG r hr),h.conds,fun r hr=>h.om r (EG r hr),h.pz⟩
theorem DV(f:Nat→Int):∀ n i,i<n→f i≤lJ f n
 | n+1,i,h=>by
  by_cases e:i=n
  ·subst e;exact Int.le_max_right _ _
  ·exact Int.le_trans (DV f n i (by omega)) (Int.le_max_left _ _)
theorem QL(m:Nat)(e:aq):1≤bA (m+1) e:=by
 show 1≤lJ (fun i=>match e.kids[i]? with|some k=>bA m k|none=>0) e.kids.length+1;have:=jH (fun i=>match e.kids[i]? with|some k=>bA m k|none=>0) e.kids.length;omega
theorem wL{m:Nat}{e k:aq}(hk:k∈e.kids):bA m k+1≤bA (m+1) e:=by
 obtain⟨i,hi⟩:=List.getElem?_of_mem hk;have hlt:=(avF.1 hi).1;have h:=DV (fun i=>match e.kids[i]? with|some k=>bA m k|none=>0) e.kids.length i hlt;show bA m k+1≤lJ (fun i=>match e.kids[i]? with|some k=>bA m k|none=>0) e.kids.length+1;simp only[hi]at h;omega
theorem nO{bl:List dP}(hn:∀ b∈bl,iK b.name=true∧dF b.name){e:aq}(h:eD bl.length e):∀ (d:Nat),bA (d+1) e≤d→eX d (aI bl e)∧∀ s∈bh (aI bl e),s∈bl.map (·.name):=by
 induction h with
 | @bool a rel b ns s h0 h1=>
  intro d hd
  have hp:0<d:=by
   have:=QL d (.node 1 a rel b ns s []);omega
  obtain⟨d,rfl⟩:∃ k,d=k+1:=⟨d-1,by omega⟩;obtain⟨x,hx⟩:∃ x,bl[a.toNat]?=some x:=⟨_,avM (by omega)⟩;have hm:=avL hx
  have e:aI bl (.node 1 a rel b ns s [])=.node 1 0 0 0 [x.name] ay.zero []:=by
   rw[aI,if_pos (by unfold isNum;simp[h0,h1]),hx];rfl
  rw[e];refine⟨.name (hn x hm).1 (hn x hm).2,fun s hs=>?_⟩;rw[dR]at hs;simp only[aq.names,aq.kids,bG,List.append_nil,avI]at hs;subst hs;exact avx.2 ⟨x,hm,rfl⟩
 | @not a rel b ns s k hk ih=>
  intro d hd;have h1:=wL (m:=d) (e:=.node 2 a rel b ns s [k]) (k:=k) (avI.2 rfl);have h0:=(jJ d k).1;obtain⟨d,rfl⟩:∃ k,d=k+1:=⟨d-1,by omega⟩;obtain⟨i1,i2⟩:=ih d (by omega)
  have e:aI bl (.node 2 a rel b ns s [k])=.node 2 0 0 0 [] ay.zero [aI bl k]:=by
   rw[aI,if_neg (by unfold isNum;simp),jV];rfl
  rw[e];refine⟨.not i1,fun s hs=>i2 s ?_⟩;rw[dR]at hs;simpa[aq.names,aq.kids,bG] using hs
 | @bin op a rel b ns s k l h3 h7 hk hl ihk ihl=>
  intro d hd;have h1:=wL (m:=d) (e:=.node op a rel b ns s [k,l]) (k:=k) (avN ..);have h2:=wL (m:=d) (e:=.node op a rel b ns s [k,l]) (k:=l) (by simp[aq.kids]);have h0:=(jJ d k).1;obtain⟨d,rfl⟩:∃ k,d=k+1:=⟨d-1,by omega⟩;obtain⟨i1,i2⟩:=ihk d (by omega);obtain⟨j1,j2⟩:=ihl d (by omega)
  have e:aI bl (.node op a rel b ns s [k,l])=.node op 0 0 0 [] ay.zero [aI bl k,aI bl l]:=by
   rw[aI,if_neg (by unfold isNum;simp;omega),jV];rfl
  rw[e];refine⟨.bin h3 h7 i1 j1,fun s hs=>?_⟩;rw[dR]at hs;simp only[aq.names,aq.kids,bG,List.append_nil,List.nil_append,avH]at hs;exact hs.elim (i2 s) (j2 s)
theorem wZ{p:aC}(h:Ky p)(hok:p.Ok):∀ b∈p.bools,iK b.name=true∧dF b.name:=by
 have hc:=h.check;unfold nk at hc;split at hc
 case isFalse hne=>exact absurd hc hne
 rw[j4]at hc;have ho:kK p=0:=hc _ (by simp);unfold kK at ho;split at ho
 ·cases ho
 split at ho
 ·rename_i hne;exact absurd ho hne
 rename_i hz;have hz:=Decidable.not_not.1 hz;unfold bP at hz;rw[fJ]at hz;intro b hb;obtain⟨i,hi⟩:=List.getElem?_of_mem hb;have h1:=hz i (avB _) (by rw[avO];have:=(avF.1 hi).1;omega);rw[wI (s:=b.name) (by rw[avP,hi];rfl)]at h1;refine⟨?_,(hok.bools b hb).name⟩;split at h1
 ·assumption
 ·cases h1
theorem abW{p:aC}(h:Ky p)(hok:p.Ok):YV p:=by
 obtain⟨tp,-⟩:=BQ h hok;have z:=h.small.sizes;have zc:=z.conds;refine⟨hok,abU h,avG h.bools (by decide),avG zc (by decide),fun y hy=>?_,fun y hy=>?_,fun e he=>?_,avG z.rules (by decide),avG z.trans (by decide)⟩
 ·have:=tp.om y hy;omega
 ·have:=tp.pz y hy;omega
 ·have hl:=h.small.conds e he;obtain⟨h1,h2⟩:=nO (wZ h hok) (tp.conds e he) 12 (by show bA 13 e≤12;omega);exact⟨12,Nat.le_refl _,h1,avG (DU h2) (by rw[avO];exact avG h.bools (by decide))⟩
theorem Kk{sc:ox}{l:List aj}{y:aj}(hy:y∈l.filterMap (cR sc)):∃ x∈l,y={ x with cond:=(bH sc x.cond).1 }:=by
 obtain⟨x,hx,e⟩:=List.mem_filterMap.1 hy;unfold cR at e;split at e
 ·exact⟨x,hx,(avC e).symm⟩
 ·cases e
theorem Wk{sc:ox}{l:List bM}{y:bM}(hy:y∈l.filterMap (cT sc)):∃ x∈l,y={ x with cond:=(bH sc x.cond).1 }:=by
 obtain⟨x,hx,e⟩:=List.mem_filterMap.1 hy;unfold cT at e;split at e
 ·exact⟨x,hx,(avC e).symm⟩
 ·cases e
theorem Wj{p:aC}(h:YV p):YV (aQ p):=by
 have hb:∀ k,-900≤(bH (bn p p.conds.length) k).1∧(bH (bn p p.conds.length) k).1≤900:=fun k=>acu h.conds
 have kl:(aQ p).conds.length≤p.conds.length:=by
  have:=Wb p p.conds.length;show(bn p p.conds.length).kids.length≤_;omega
 have rl:(aQ p).rules.length≤p.rules.length:=List.length_filterMap_le _ _;have tl:(aQ p).trans.length≤p.trans.length:=List.length_filterMap_le _ _
 have i64:∀ k,iR (bH (bn p p.conds.length) k).1:=fun k=>by
  have:=hb k;constructor<;>omega
 refine⟨{ h.ok with conds:=fun e he=>h.ok.conds e (rJ e he),Wd:=avG kl h.ok.Wd,rules:=fun y hy=>?_,TM:=avG rl h.ok.TM,trans:=fun y hy=>?_,Tp:=avG tl h.ok.Tp },{ h.sm with conds:=avG kl h.sm.conds,Pp:=fun e he=>h.sm.Pp e (rJ e he),rules:=avG rl h.sm.rules,trans:=avG tl h.sm.trans },h.bools,avG kl h.conds,fun y hy=>?_,fun y hy=>?_,fun e he=>h.be e (rJ e he),avG rl h.rules,avG tl h.trans⟩
 ·obtain⟨x,hx,rfl⟩:=Kk hy;exact { h.ok.rules x hx with cond:=i64 _ }
 ·obtain⟨x,hx,rfl⟩:=Wk hy;exact { h.ok.trans x hx with cond:=i64 _ }
 ·obtain⟨x,hx,rfl⟩:=Kk hy;have:=hb x.cond;exact⟨by dsimp only;omega,by dsimp only;omega⟩
 ·obtain⟨x,hx,rfl⟩:=Wk hy;have:=hb x.cond;exact⟨by dsimp only;omega,by dsimp only;omega⟩
theorem qy{l:List ByteArray}{x:ByteArray}(hx:x∈l):l[mF l x]?=some x:=by
 have h:=mQ hx;rw[avM h];have h2:=List.findIdx_getElem (xs:=l) (p:=fun y=>decide (x=y)) (w:=h);exact congrArg some (of_decide_eq_true h2).symm
theorem Bu{l:List ByteArray}(hd:l.Nodup){a:Nat}{x:ByteArray}(h:l[a]?=some x):mF l x=a:=by
 have hx:=avL h;exact(List.getElem?_inj (mQ hx) hd).1 ((qy hx).trans h.symm)
theorem vf:∀ (m:Nat) (f:Nat→Bool),∃ r,r<2^m∧∀ j,j<m→r.testBit j=f j
 | 0,_=>⟨0,by decide,fun j h=>absurd h (Nat.not_lt_zero j)⟩
 | m+1,f=>by
  obtain⟨r,h1,h2⟩:=vf m fun j=>f (j+1)
  refine⟨2*r+(f 0).toNat,?_,fun j hj=>?_⟩
  ·have:(f 0).toNat≤1:=Bool.toNat_le _;rw[Nat.pow_succ];omega
  ·cases j with
   | zero=>
    rw[Nat.testBit_zero];cases f 0<;>simp[Nat.add_mod]
   | succ j=>
    rw[Nat.testBit_succ,← h2 j (by omega)];congr 1;have:(f 0).toNat≤1:=Bool.toNat_le _;omega
theorem Lz{bl:List dP}{ns:List ByteArray}{n r:Nat}(hm:∀ a x,bl[a]?=some x→x.name∈ns→r.testBit (mF ns x.name)=n.testBit a)(hr:r<64){c:aq}(h:eD bl.length c)(hs:∀ s∈bh (aI bl c),s∈ns):z7 (fZ ns (aI bl c))∧ib (fZ ns (aI bl c)) r=jN bl.length n c:=by
 induction h with
 | @bool a rel b nm s h0 h1=>
  obtain⟨x,hx⟩:∃ x,bl[a.toNat]?=some x:=⟨_,avM (by omega)⟩
  have e:aI bl (.node 1 a rel b nm s [])=.node 1 0 0 0 [x.name] ay.zero []:=by
   rw[aI,if_pos (by unfold isNum;simp[h0,h1]),hx];rfl
  rw[e]at hs ⊢;have hin:x.name∈ns:=hs _ (by rw[dR];simp[aq.names]);rw[Io rfl rfl];refine⟨rK _ _,?_⟩;rw[wU _ (fun k hk=>Cv hk) 64 (Nat.le_refl _),decide_eq_true hr,Bool.true_and,Int.toNat_natCast,hm _ _ hx hin,ni];show _=Db bl.length n 1 a []
  have hb:dG bl.length 1 a 0=false:=by
   have:¬ a<0:=by omega
   have h2:¬ (bl.length:Int)≤a:=by omega
   simp[dG,qp,this,h2]
  unfold Db;rw[List.length_nil,hb,if_neg (by decide),if_pos rfl]
 | @not a rel b nm s k hk ih=>
  have e:aI bl (.node 2 a rel b nm s [k])=.node 2 0 0 0 [] ay.zero [aI bl k]:=by
   rw[aI,if_neg (by unfold isNum;simp),jV];rfl
  rw[e]at hs ⊢;obtain⟨w1,i1⟩:=ih fun s h=>hs s (fC (by simp[aq.kids]) h)
  rw[Oq (e:=.node 2 0 0 0 [] ay.zero [aI bl k]) (y:=aI bl k) (show(2:Int)≠1 by decide) rfl rfl];refine⟨dN _ _ _,?_⟩;rw[ni];show _=Db bl.length n 2 a [jN bl.length n k];rw[lQ .xor Ai w1,Ft,i1,decide_eq_true hr];have hb:dG bl.length 2 a 1=false:=by simp[dG,qp]
  unfold Db;simp[hb]
 | @bin op a rel b nm s k l h3 h7 hk hl ihk ihl=>
  have e:aI bl (.node op a rel b nm s [k,l])=.node op 0 0 0 [] ay.zero [aI bl k,aI bl l]:=by
   rw[aI,if_neg (by unfold isNum;simp;omega),jV];rfl
  rw[e]at hs ⊢;obtain⟨w1,i1⟩:=ihk fun s h=>hs s (fC (by simp[aq.kids]) h)
  obtain⟨w2,i2⟩:=ihl fun s h=>hs s (fC (k:=aI bl l) (by simp[aq.kids]) h)
  have n1:op≠1:=by omega
  have n2:op≠2:=by omega
  rw[Ot (e:=.node op 0 0 0 [] ay.zero [aI bl k,aI bl l]) (y:=aI bl k) (z:=aI bl l) n1 n2 rfl rfl,ni];show z7 (KF op _ _)∧ib (KF op _ _) r=Db bl.length n op a [jN bl.length n k,jN bl.length n l];have hb:dG bl.length op a 2=false:=by simp[dG,qp,n1,n2]
  unfold Db;rw[List.length_cons,List.length_cons,List.length_nil,hb,if_neg (show ¬ (false=true) by decide),if_neg n1,if_neg n2];unfold KF;by_cases e3:op=3
  ·rw[if_pos e3,if_pos e3];exact⟨dN _ _ _,by rw[lQ .and w1 w2,i1,i2];rfl⟩
  rw[if_neg e3,if_neg e3];by_cases e4:op=4
  ·rw[if_pos e4,if_pos e4];exact⟨dN _ _ _,by rw[lQ .or w1 w2,i1,i2];rfl⟩
  rw[if_neg e4,if_neg e4];by_cases e6:op=6
  ·rw[if_pos e6,if_pos e6];exact⟨dN _ _ _,by rw[lQ .xor Ai (dN _ _ _),lQ .xor w1 w2,Ft,i1,i2,decide_eq_true hr];simp⟩
  rw[if_neg e6,if_neg e6];exact⟨dN _ _ _,by rw[lQ .xor w1 w2,i1,i2];rfl⟩
theorem F3{bl:List dP}(hI:∀ b∈bl,iK b.name=true∧dF b.name)(hd:(bl.map (·.name)).Nodup)(h5:bl.length≤5){c:aq}(hc:eD bl.length c)(hlv:bA 13 c≤12):
 (fG (aI bl c)=true↔∀ n,n<2^bl.length→jN bl.length n c=true)∧(lX (aI bl c)=true↔∀ n,n<2^bl.length→jN bl.length n c=false):=by
 have hsub:=(nO hI hc 12 hlv).2;have hle:=DU hsub;rw[avO]at hle;have hmem:∀ s∈bh (aI bl c),s∈dh (aI bl c):=fun s hs=>(oI _ s).2 hs
 unfold fG lX;generalize hns:dh (aI bl c)=ns at *;have hl5:ns.length≤5:=by omega
 have h64:∀ r,r<2^ns.length→r<64:=fun r hr=>by
  have:2^ns.length≤2^5:=Nat.pow_le_pow_right (by decide) hl5;omega
 have fwd:∀ n,n<2^bl.length→∃ r,r<2^ns.length∧ib (fZ ns (aI bl c)) r=jN bl.length n c:=fun n hn=>by
  obtain⟨r,h1,h2⟩:=vf ns.length fun j=>match ns[j]? with|some s=>n.testBit (mF (bl.map (·.name)) s)|none=>false
  refine⟨r,h1,(Lz (fun a x hx hin=>?_) (h64 r h1) hc hmem).2⟩;rw[h2 _ (mQ hin),qy hin];dsimp only;rw[Bu hd (a:=a) (by rw[avP,hx];rfl)]
 have bwd:∀ r,r<2^ns.length→∃ n,n<2^bl.length∧ib (fZ ns (aI bl c)) r=jN bl.length n c:=fun r hr=>by
  obtain⟨n,h1,h2⟩:=vf bl.length fun a=>match bl[a]? with|some x=>r.testBit (mF ns x.name)|none=>false
  refine⟨n,h1,(Lz (fun a x hx hin=>?_) (h64 r hr) hc hmem).2⟩;rw[h2 a (avF.1 hx).1,hx]
 have hw:z7 (fZ ns (aI bl c)):=(Lz (n:=0) (r:=0) (fun a x hx hin=>by simp) (by decide) hc hmem).1
 have hib:∀ r,ib (bits .and .u64 (fZ ns (aI bl c)) (aK ns.length)) r=(ib (fZ ns (aI bl c)) r&&decide (r<2^ns.length)):=fun r=>by
  rw[lQ .and hw (zo hl5),uM]
 constructor
 ·rw[decide_eq_true_eq];constructor
  ·intro e n hn;obtain⟨r,h1,h2⟩:=fwd n hn;have:=hib r;rw[e,uM,decide_eq_true h1,Bool.and_true,h2]at this;exact this.symm
  ·intro H;refine Fu (dN _ _ _).1 (zo hl5).1 fun r=>?_
   rw[hib,uM];by_cases hr:r<2^ns.length
   ·obtain⟨n,h1,h2⟩:=bwd r hr;rw[h2,H n h1,Bool.true_and]
   ·rw[decide_eq_false hr,Bool.and_false]
 ·rw[decide_eq_true_eq,X8 (dN _ _ _).1];constructor
  ·intro e n hn;obtain⟨r,h1,h2⟩:=fwd n hn;have:=hib r;rw[e,decide_eq_true h1,Bool.and_true,h2]at this;exact this.symm
  ·intro H r;rw[hib];by_cases hr:r<2^ns.length
   ·obtain⟨n,h1,h2⟩:=bwd r hr;rw[h2,H n h1,Bool.false_and]
   ·rw[decide_eq_false hr,Bool.and_false]
theorem Wn:∀ x:List UInt8,Op.bytesLess x x=false
 | []=>rfl
 | a::x=>by
  rw[Op.bytesLess,Wn x];simp
theorem Ko:∀ x y z:List UInt8,Op.bytesLess x y=true→Op.bytesLess y z=true→Op.bytesLess x z=true
 | [],[],_,h,_=>by cases h
 | [],_::_,[],_,h=>by cases h
 | [],_::_,_::_,_,_=>rfl
 | _::_,[],_,h,_=>by cases h
 | _::_,_::_,[],_,h=>by cases h
 | a::x,b::y,c::z,h1,h2=>by
  have ih:=Ko x y z;rw[Op.bytesLess]at h1 h2 ⊢;simp only[Bool.or_eq_true,avE,decide_eq_true_eq,beq_iff_eq,UInt8.lt_iff_toNat_lt,← UInt8.toNat_inj]at h1 h2 ⊢;rcases h1 with h1|⟨h1,h3⟩<;>rcases h2 with h2|⟨h2,h4⟩
  ·exact .inl (by omega)
  ·exact .inl (by omega)
  ·exact .inl (by omega)
  ·exact .inr ⟨by omega,ih h3 h4⟩
theorem Wm:∀ x y:List UInt8,Op.bytesLess x y=false→(x == y)=false→Op.bytesLess y x=true
 | [],[],_,h=>by cases h
 | [],_::_,h,_=>by cases h
 | _::_,[],_,_=>rfl
 | a::x,b::y,h1,h2=>by
  have ih:=Wm x y;rw[Op.bytesLess]at h1 ⊢;simp only[Bool.or_eq_false_iff,Bool.and_eq_false_iff,decide_eq_false_iff_not,beq_eq_false_iff_ne,ne_eq,List.cons.injEq,not_and,Bool.or_eq_true,avE,decide_eq_true_eq,beq_iff_eq,UInt8.lt_iff_toNat_lt,← UInt8.toNat_inj]at h1 h2 ih ⊢;by_cases e:a.toNat=b.toNat
  ·exact .inr ⟨e.symm,ih (h1.2.resolve_left fun h=>h e) (h2 e)⟩
  ·exact .inl (by omega)
def lK(s x:ByteArray):Bool:=Op.bytesLess s.toList x.toList
def oK(s:ByteArray):Bool→List ByteArray→List ByteArray
 | done,[]=>if done=true then [] else [s]
 | done,x::l=>(if (!done&&lK s x)=true then [s] else [])++x::oK s (done||(lK s x||s.toList == x.toList)) l
abbrev YX (l:List ByteArray):Prop:=l.Pairwise fun x y=>lK x y=true
theorem YX.nodup{l:List ByteArray}(h:YX l):l.Nodup:=h.imp fun {a b} hab e=>by
 subst e;unfold lK at hab;rw[Wn]at hab;cases hab
theorem rH(s:ByteArray):∀ l,oK s true l=l
 | []=>rfl
 | x::l=>by
  rw[oK,Bool.true_or,rH s l];rfl
theorem Ar{x y:ByteArray}(h:(x.toList == y.toList)=true):x=y:=by
 have h:x.toList=y.toList:=by simpa using h
 rw[ByteArray.toList_eq,ByteArray.toList_eq]at h;exact ByteArray.ext (Array.toList_inj.1 h)
theorem Jl(s:ByteArray):∀ {l:List ByteArray},YX l→YX (oK s false l)∧∀ t,t∈oK s false l↔t=s∨t∈l
 | [],_=>⟨List.pairwise_singleton ..,fun t=>by rw[oK];simp⟩
 | x::l,h=>by
  obtain⟨h1,h2⟩:=List.pairwise_cons.1 h;rw[oK]
  cases hl:lK s x with
  | true=>
   simp only[Bool.not_false,Bool.true_and,if_true,Bool.false_or,Bool.true_or,rH];refine⟨List.pairwise_cons.2 ⟨fun y hy=>?_,h⟩,fun t=>by simp⟩;rcases avD.1 hy with rfl|hy
   ·exact hl
   ·exact Ko _ _ _ hl (h1 y hy)
  | false=>
   cases he:(s.toList == x.toList) with
   | true=>
    obtain rfl:=Ar he;simp only[Bool.not_false,Bool.true_and,Bool.or_true,rH];exact⟨h,fun t=>by simp⟩
   | false=>
    obtain⟨i1,i2⟩:=Jl s h2;simp only[Bool.not_false,Bool.true_and,Bool.or_false];refine⟨List.pairwise_cons.2 ⟨fun y hy=>?_,i1⟩,fun t=>?_⟩
    ·rcases(i2 y).1 hy with rfl|hy
     ·exact Wm _ _ hl he
     ·exact h1 y hy
    ·show t∈x::oK s false l↔_;rw[avD,i2,avD];exact⟨fun h=>by rcases h with h|h|h<;>simp[h],fun h=>by rcases h with h|h|h<;>simp[h]⟩
theorem Jo(s:ByteArray):∀ (d:Bool) (l:List ByteArray),(oK s d l).length≤l.length+1
 | d,[]=>by rw[oK];split<;>simp
 | d,x::l=>by
  have h1:=Jo s (d||(lK s x||s.toList == x.toList)) l;rw[oK,avJ,List.length_cons,List.length_cons];by_cases hc:(!d&&lK s x)=true
  ·rw[if_pos hc]
   have:(d||(lK s x||s.toList == x.toList))=true:=by
    rw[avE]at hc;rw[hc.2];simp
   rw[this,rH];simp;omega
  ·rw[if_neg hc];simp;omega
def lP(s:ByteArray)(l:List ByteArray):Nat→List ByteArray×Bool
 | 0=>([],false)
 | m+1=>match l[m]? with
  | some x=>((lP s l m).1++(if (!(lP s l m).2&&lK s x)=true then [s] else [])++[x],(lP s l m).2||(lK s x||s.toList == x.toList))
  | none=>lP s l m
theorem MQ(s:ByteArray){l:List ByteArray}:∀ m,m≤l.length→oK s false l=(lP s l m).1++oK s (lP s l m).2 (l.drop m)
 | 0,_=>rfl
 | m+1,hm=>by
  have hx:=avM (l:=l) (i:=m) (by omega);rw[MQ s m (by omega),List.drop_eq_getElem_cons (by omega:m<l.length),oK,lP,hx];simp only[List.append_assoc,List.cons_append,List.nil_append]
theorem UO(s:ByteArray)(l:List ByteArray)(m:Nat)(hm:m≤l.length):(lP s l m).1.length≤l.length+1:=by
 have h:=congrArg List.length (MQ s m hm);rw[avJ]at h;have:=Jo s false l;omega
mutual
def b_:aq→List ByteArray→List ByteArray
 | .node op _ _ _ names _ kids,l=>if op=1 then oK (names.headD ⟨#[]⟩) false l else og kids l
def og:List aq→List ByteArray→List ByteArray
 | [],l=>l
 | k::r,l=>og r (b_ k l)
end
theorem O5(e:aq)(l:List ByteArray):b_ e l=if e.op=1 then oK (e.names.headD ⟨#[]⟩) false l else og e.kids l:=by cases e;rw[b_];rfl
theorem Eb:∀ (ks:List aq) (k:aq) (l:List ByteArray),og (ks++[k]) l=b_ k (og ks l)
 | [],k,l=>by rw[List.nil_append,og,og,og]
 | a::ks,k,l=>by rw[List.cons_append,og,og,Eb ks k]
theorem BJ{ks:List aq}{m:Nat}{k:aq}(h:ks[m]?=some k)(l:List ByteArray):og (ks.take (m+1)) l=b_ k (og (ks.take m) l):=by
 rw[bw h,Eb]
theorem jc{d:Nat}{e:aq}(h:eX d e):∀ {l:List ByteArray},YX l→YX (b_ e l)∧∀ t,t∈b_ e l↔t∈bh e∨t∈l:=by
 induction h with
 | @name d s hi hs=>
  intro l hl;rw[b_,if_pos rfl];obtain⟨h1,h2⟩:=Jl s hl;exact⟨h1,fun t=>by rw[show([s]:List ByteArray).headD ⟨#[]⟩=s from rfl,h2,dR];simp[aq.names,aq.kids,bG]⟩
 | @not d k hk ih=>
  intro l hl;rw[b_,if_neg (by decide),og,og];obtain⟨h1,h2⟩:=ih hl;exact⟨h1,fun t=>by rw[h2,dR (.node 2 0 0 0 [] ay.zero [k])];simp[aq.names,aq.kids,bG]⟩
 | @bin d op k r h3 h7 hk hr ihk ihr=>
  intro l hl;rw[b_,if_neg (by omega),og,og,og];obtain⟨h1,h2⟩:=ihk hl;obtain⟨h3',h4⟩:=ihr h1
  exact⟨h3',fun t=>by
   rw[h4,h2,dR (.node op 0 0 0 [] ay.zero [k,r])];simp only[aq.names,aq.kids,bG,List.nil_append,List.append_nil,avH];exact⟨fun h=>by rcases h with h|h|h<;>simp[h],fun h=>by rcases h with(h|h)|h<;>simp[h]⟩⟩
def lu(bl:List dP)(op:Int)(names:List ByteArray)(vs:List Bool):Bool:=
 if op=1 then ((bl[mF (bl.map (·.name)) (names.headD ⟨#[]⟩)]?).map (·.val)).getD false else if op=2 then !(vs.getD 0 false) else if op=3 then vs.getD 0 false&&vs.getD 1 false else if op=4 then vs.getD 0 false||vs.getD 1 false else if op=6 then vs.getD 0 false == vs.getD 1 false else vs.getD 0 false != vs.getD 1 false
mutual
def cB(bl:List dP):aq→Bool
 | .node op _ _ _ names _ kids=>lu bl op names (vT bl kids)
def vT(bl:List dP):List aq→List Bool
 | []=>[]
 | k::l=>cB bl k::vT bl l
end
theorem nE(bl:List dP)(e:aq):cB bl e=lu bl e.op e.names (vT bl e.kids):=by cases e;rw[cB];rfl
theorem sJ(bl:List dP):∀ (l:List aq) (i:Nat) {y:aq},l[i]?=some y→(vT bl l).getD i false=cB bl y
 | [],_,_,h=>by simp at h
 | k::l,0,y,h=>by
  obtain rfl:k=y:=by simpa using h
  rw[vT];rfl
 | k::l,i+1,y,h=>by
  rw[vT];exact sJ bl l i (by simpa using h)
def IZ(ns:List ByteArray)(r m:Nat):List dP:=(List.range m).filterMap fun i=>(ns[i]?).map fun s=>(⟨s,r.testBit i⟩:dP)
def iJ(ns:List ByteArray)(r:Nat):List dP:=IZ ns r ns.length
theorem wH{ns:List ByteArray}{r m:Nat}{s:ByteArray}(h:ns[m]?=some s):IZ ns r (m+1)=IZ ns r m++[⟨s,r.testBit m⟩]:=by
 unfold IZ;rw[List.range_succ,List.filterMap_append,List.filterMap_cons,h];rfl
theorem nP{ns:List ByteArray}{r:Nat}:∀ m,m≤ns.length→(IZ ns r m).length=m
 | 0,_=>rfl
 | m+1,h=>by
  rw[wH (avM (by omega)),avJ,nP m (by omega)];rfl
theorem Fe{ns:List ByteArray}{r i:Nat}{s:ByteArray}(hi:ns[i]?=some s):∀ m,m≤ns.length→i<m→(IZ ns r m)[i]?=some ⟨s,r.testBit i⟩
 | m+1,h,hlt=>by
  rw[wH (avM (by omega))];by_cases e:i<m
  ·rw[avQ (by rw[nP m (by omega)];exact e)];exact Fe hi m (by omega) e
  ·obtain rfl:i=m:=by omega
   rw[avR (by rw[nP i (by omega)];exact Nat.le_refl _),nP i (by omega),Nat.sub_self];have:=(avM (by omega:i<ns.length)).symm.trans hi;rw[avC this];rfl
theorem lH(ns:List ByteArray)(r:Nat):(iJ ns r).map (·.name)=ns:=by
 refine List.ext_getElem? fun i=>?_
 rw[avP];by_cases hi:i<ns.length
 ·rw[avM hi,iJ,Fe (avM hi) _ (Nat.le_refl _) hi];rfl
 ·have h1:(iJ ns r)[i]?=none:=List.getElem?_eq_none (by
   have:=nP (ns:=ns) (r:=r) ns.length (Nat.le_refl _);show(IZ ns r ns.length).length≤i;omega)
  have h2:ns[i]?=none:=List.getElem?_eq_none (by omega);rw[h1,h2];rfl
theorem Ib{bl:List dP}{ns:List ByteArray}{n r:Nat}(hm:∀ a x,bl[a]?=some x→x.name∈ns→r.testBit (mF ns x.name)=n.testBit a){c:aq}(h:eD bl.length c)(hs:∀ s∈bh (aI bl c),s∈ns):cB (iJ ns r) (aI bl c)=jN bl.length n c:=by
 induction h with
 | @bool a rel b nm s h0 h1=>
  obtain⟨x,hx⟩:∃ x,bl[a.toNat]?=some x:=⟨_,avM (by omega)⟩
  have e:aI bl (.node 1 a rel b nm s [])=.node 1 0 0 0 [x.name] ay.zero []:=by
   rw[aI,if_pos (by unfold isNum;simp[h0,h1]),hx];rfl
  rw[e]at hs ⊢;have hin:x.name∈ns:=hs _ (by rw[dR];simp[aq.names]);rw[ni];show _=Db bl.length n 1 a []
  have hb:dG bl.length 1 a 0=false:=by
   have:¬ a<0:=by omega
   have h2:¬ (bl.length:Int)≤a:=by omega
   simp[dG,qp,this,h2]
  unfold Db;rw[List.length_nil,hb,if_neg (by decide),if_pos rfl,nE];show lu _ 1 [x.name] _=_;unfold lu;rw[if_pos rfl,lH,show([x.name]:List ByteArray).headD ⟨#[]⟩=x.name from rfl,iJ,Fe (qy hin) _ (Nat.le_refl _) (mQ hin),hm _ _ hx hin];rfl
 | @not a rel b nm s k hk ih=>
  have e:aI bl (.node 2 a rel b nm s [k])=.node 2 0 0 0 [] ay.zero [aI bl k]:=by
   rw[aI,if_neg (by unfold isNum;simp),jV];rfl
  rw[e]at hs ⊢;have i1:=ih fun s h=>hs s (fC (by simp[aq.kids]) h)
  rw[ni,nE];show lu _ 2 [] [cB _ (aI bl k)]=Db bl.length n 2 a [jN bl.length n k];have hb:dG bl.length 2 a 1=false:=by simp[dG,qp]
  rw[i1];unfold Db lu;simp[hb]
 | @bin op a rel b nm s k l h3 h7 hk hl ihk ihl=>
  have e:aI bl (.node op a rel b nm s [k,l])=.node op 0 0 0 [] ay.zero [aI bl k,aI bl l]:=by
   rw[aI,if_neg (by unfold isNum;simp;omega),jV];rfl
  rw[e]at hs ⊢;have i1:=ihk fun s h=>hs s (fC (by simp[aq.kids]) h)
  have i2:=ihl fun s h=>hs s (fC (k:=aI bl l) (by simp[aq.kids]) h)
  have n1:op≠1:=by omega
  have n2:op≠2:=by omega
  rw[ni,nE];show lu _ op [] [cB _ (aI bl k),cB _ (aI bl l)]=Db bl.length n op a [jN bl.length n k,jN bl.length n l];have hb:dG bl.length op a 2=false:=by simp[dG,qp,n1,n2]
  rw[i1,i2];generalize jN bl.length n k=x;generalize jN bl.length n l=y;unfold Db lu;have e5:op=3∨op=4∨op=5∨op=6∨op=7:=by omega
  rcases e5 with rfl|rfl|rfl|rfl|rfl<;>simp[hb]<;>cases x<;>cases y<;>rfl
theorem QX{s:ByteArray}{l:List ByteArray}{m:Nat}{x:ByteArray}(h:l[m]?=some x):lP s l (m+1)=((lP s l m).1++(if (!(lP s l m).2&&lK s x)=true then [s] else [])++[x],(lP s l m).2||(lK s x||s.toList == x.toList)):=by
 rw[lP,h]
theorem UQ(s:ByteArray)(l:List ByteArray):oK s false l=(lP s l l.length).1++(if (lP s l l.length).2=true then [] else [s]):=by
 rw[MQ s l.length (Nat.le_refl _),List.drop_length,oK]
theorem MP(w0:World)(v:Value)(l:List ByteArray)(s:ByteArray)(h0:aF w0 v l)(hl:l.length≤100000):Calls Tryz.prog 274 #[v,.string s] w0 fun r w'=>∃ u,r=.returned u∧(aF w' u (oK s false l)∧avy w0.heap.size w0 w'):=by
 obtain⟨la,lk,rfl,hk,hm,hcell⟩:=aF.open h0;refine cL [] (fn:=Tryz.f274) Tryz.func274 rfl Tryz.ntmps274 rfl<|lq (ι:=Nat×Value) (fun(m,u)=>[(5,u),(6,.bool (lP s l m).2),(7,.int .i64 (m:Int))]) (fun(m,u)=>[⟨u,9,1,(lP s l m).1.length,(lP s l m).1.flatMap aW⟩]) (fun(m,u) _=>m≤l.length) (fun(m,u)=>l.length-m) (0,.slice none 0 0) (an ⟨⟨rfl,rfl,rfl,trivial⟩,fun M=>⟨M.bC 9 1,avB _⟩⟩ ?_);rintro⟨m,u⟩ w M hm;have hb:=UO s l m hm;refine an (fun h=>?_) fun h=>?_
 ·have hlt:m<l.length:=by simp at h;omega
  obtain⟨x,hx⟩:∃ x,l[m]?=some x:=⟨_,avM hlt⟩;obtain⟨b,o,e,hc⟩:=SliceAt.elt h0 (fun _=>rfl) (by decide) hx hlt;have hn:=QX (s:=s) hx;refine ia<|an (fun _=>⟨e,rfl,hlt⟩)<|lc (x:=.string x)<|an (fun _=>cF M.below hc 0 _ rfl)<|an (fun h2=>?_) fun h2=>?_
  ·have h2:(!(lP s l m).2&&lK s x)=true:=h2;rw[if_pos h2]at hn;exact fun g w1 M1=>ap 0 id rfl (M1.slice 0 rfl rfl rfl (by simp[maxLen])) ⟨by unfold maxLen;omega,by omega⟩ fun v2 w2 M2=>ia<|an (fun _=>⟨e,rfl,hlt⟩)<|lc (x:=.string x)<|an (fun _=>cF M2.below hc 0 _ rfl)<|ia<|an ⟨e,rfl,hlt⟩<|lc (x:=.string x)<|an (cF M2.below hc 0 _ rfl)<|fun g3 w3 M3=>ap 0 id rfl (M3.slice 0 rfl rfl rfl (by simp[maxLen])) ⟨by unfold maxLen;omega,by omega⟩ fun v4 w4 M4=>an (by omega)<|bk (m+1,v4) ⟨rfl,by dsimp only;rw[hn];rfl,rfl,trivial⟩ (fun M=>⟨(M.only (.cons _ (.cons _ (.refl _))) (.refl _)).cast rfl (by dsimp only;rw[hn];simp[aW]),by omega⟩) (by dsimp only;omega)
  ·have h2:¬ (!(lP s l m).2&&lK s x)=true:=by
    have h3:(!(lP s l m).2&&lK s x)=false:=h2;rw[h3];decide
   rw[if_neg h2]at hn;exact ia<|an (fun _=>⟨e,rfl,hlt⟩)<|lc (x:=.string x)<|an (fun _=>cF M.below hc 0 _ rfl)<|ia<|an ⟨e,rfl,hlt⟩<|lc (x:=.string x)<|an (cF M.below hc 0 _ rfl)<|fun g3 w3 M3=>ap 0 id rfl (M3.slice 0 rfl rfl rfl (by simp[maxLen])) ⟨by unfold maxLen;omega,by omega⟩ fun v4 w4 M4=>an (by omega)<|bk (m+1,v4) ⟨rfl,by dsimp only;rw[hn];rfl,rfl,trivial⟩ (fun M=>⟨(M.only (.cons _ (.refl _)) (.refl _)).cast rfl (by dsimp only;rw[hn];simp[aW]),by omega⟩) (by dsimp only;omega)
 ·obtain rfl:m=l.length:=by simp at h;omega
  have he:=UQ s l;refine an (fun h2=>?_) fun h2=>?_
  ·have h2:(lP s l l.length).2=false:=by simpa using h2
   rw[h2,if_neg (by decide)]at he;exact fun g w1 M1=>ap 0 id rfl (M1.slice 0 rfl rfl rfl (by simp[maxLen])) ⟨by unfold maxLen;omega,by omega⟩ fun v2 w2 M2 M=>⟨_,rfl,gA (M2.r 0 rfl) (by rw[he,avJ];rfl) (by rw[he];simp[aW]),M.below⟩
  ·have h2:(lP s l l.length).2=true:=by simpa using h2
   rw[h2,if_pos rfl,List.append_nil]at he;exact fun M'=>⟨_,rfl,gA (M.r 0 rfl) (by rw[he]) (by rw[he]),M.below⟩
theorem GW{l NS:List ByteArray}(h:YX l)(hs:∀ t∈l,t∈NS):l.length≤NS.length:=List.Nodup.length_le_of_subset h.nodup hs
theorem lT{NS:List ByteArray}(Ra:NS.length≤1000):∀ (e:aq) (w0:World) (cs:List Value) (d:Nat) (v:Value) (l:List ByteArray),bf w0 cs e→eX d e→aF w0 v l→YX l→(∀ t∈l,t∈NS)→(∀ t∈bh e,t∈NS)→Calls Tryz.prog 234 #[.agg cs.toArray,v] w0 fun r w'=>∃ u,r=.returned u∧(aF w' u (b_ e l)∧avy w0.heap.size w0 w'):=by
 refine aq.ind fun e ih=>?_
 intro w0 cs d v l hE hB hS hA hl hn;have hb:=hB.facts;have hE0:=hE;obtain⟨_,_,rfl,hnn,hkk⟩:=hE0.open;obtain⟨_,_,rfl,-,hng⟩:=aF.get hnn;obtain⟨_,_,rfl,-,hkm,-⟩:=au.form hkk (by decide);refine cL [] (fn:=Tryz.f234) Tryz.func234 rfl Tryz.ntmps234 rfl<|fun g1 w1 M1=>lb 0<|an rfl<|an (fun h=>?_) fun h=>?_
 ·have h1:e.op=1:=by simpa using h
  obtain⟨sn,zR,-⟩:=hb.nm (hb.op1.2 h1);obtain⟨b,o,e1,hc⟩:=hng 0 sn (by rw[zR];rfl);have hle:=GW hA hl;refine lb 0<|an rfl<|ia (i:=0)<|an ⟨e1,rfl,by rw[zR];exact Nat.zero_lt_one⟩<|lc (x:=.string sn)<|an (cell_later M1.below hc)<|cg<|an (MP _ v l sn (hS.keep M1.below) (by omega)) fun u w2 ⟨hS2,hb2⟩=>⟨_,_,M1.keep hb2,fun M=>⟨_,rfl,?_,M.below⟩⟩
  rw[O5,if_pos h1,zR];exact hS2
 ·have h1:e.op≠1:=by simpa using h
  refine lr (ι:=Nat×Value) (fun(m,u)=>[(1,u),(5,.int .i64 (m:Int))]) (fun(m,u) w=>m≤e.kids.length∧aF w u (og (e.kids.take m) l)∧YX (og (e.kids.take m) l)∧∀ t∈og (e.kids.take m) l,t∈NS) (fun(m,u)=>e.kids.length-m) (0,v) (an ⟨⟨rfl,rfl,trivial⟩,fun M=>⟨M,avB _,hS.keep M.below,hA,hl⟩⟩ ?_);rintro⟨m,u⟩ w M ⟨hm,hS1,hA1,hl1⟩;refine lb 0<|an rfl<|an (fun h=>?_) fun h=>?_
  ·have hlt:m<e.kids.length:=by simp at h;omega
   obtain⟨y,hy⟩:∃ y,e.kids[m]?=some y:=⟨_,avM hlt⟩;have qz:=avL hy;obtain⟨b,o,_,e1,qF,hc⟩:=au.elt hkk (by decide) hy;obtain⟨_,_,rfl,-⟩:=qF.open;obtain⟨c,-,ZG⟩:=hb.Zk y qz;have hny:∀ t∈bh y,t∈NS:=fun t ht=>hn t (fC qz ht)
   have hg:=jc ZG hA1;refine lb 0<|an rfl<|ia<|an ⟨e1,rfl,hlt⟩<|lc<|an (cF M.below hc)<|cg<|an (ih y qz _ _ c u _ (qF.keep M.below) ZG hS1 hA1 hl1 hny) fun u2 w2 ⟨hS2,hb2⟩=>⟨_,_,M.keep hb2,an (by omega)<|bk (m+1,u2) ⟨rfl,rfl,trivial⟩ (fun M=>⟨M.only (.refl _) (.refl _),by omega,by rw[BJ hy];exact hS2,by rw[BJ hy];exact hg.1,by rw[BJ hy];exact fun t ht=>((hg.2 t).1 ht).elim (hny t) (hl1 t)⟩) (by dsimp only;omega)⟩
  ·obtain rfl:m=e.kids.length:=by simp at h;omega
   rw[avK]at hS1;exact fun M'=>⟨_,rfl,by rw[O5,if_neg h1];exact hS1,M.below⟩
theorem AY(w0:World)(op:Int):Calls Tryz.prog 275 #[.int .i64 op] w0 (fun(r:Ending) (w':World)=>r=.returned (.int .i64 (tT op))∧avy w0.heap.size w0 w'):=by
 refine cL [] (fn:=Tryz.f275) Tryz.func275 rfl Tryz.ntmps275 rfl<|an (fun a1=>fun M=>⟨ri ?_,M.below⟩) fun a1=>an (fun a2=>fun M=>⟨ri ?_,M.below⟩) fun a2=>an (fun a3=>fun M=>⟨ri ?_,M.below⟩) fun a3=>fun M=>⟨ri ?_,M.below⟩
 ·have:op=1:=by simpa using a1
  subst this;rfl
 ·have:op=2:=by simpa using a2
  subst this;rfl
 ·have:op=3∨op=4∨op=5∨op=6∨op=7:=by
   simp only[Bool.or_eq_true,decide_eq_true_eq]at a3;omega
  rcases this with rfl|rfl|rfl|rfl|rfl<;>rfl
 ·have:op≠1∧op≠2∧op≠3∧op≠4∧op≠5∧op≠6∧op≠7:=by
   simp only[Bool.or_eq_false_iff,decide_eq_false_iff_not]at a1 a2 a3;omega
  unfold tT;simp[this]
theorem Kf:∀ (e:aq) (w0:World) (cs:List Value) (d lv:Nat),bf w0 cs e→eX d e→lv+d≤13→Calls Tryz.prog 235 #[.agg cs.toArray,.int .i64 (lv:Int)] w0 (fun(r:Ending) (w':World)=>r=.returned (.int .i64 0)∧avy w0.heap.size w0 w'):=by
 refine aq.ind fun e ih=>?_
 intro w0 cs d lv hE hB hlv;have hb:=hB.facts;have hko:=hb.kids;have hpos:=hb.pos;have hE0:=hE;obtain⟨_,_,rfl,hnn,hkk⟩:=hE0.open;obtain⟨_,_,rfl,-,hng⟩:=aF.get hnn;obtain⟨_,_,rfl,-,hkm,-⟩:=au.form hkk (by decide);refine cL [] (fn:=Tryz.f235) Tryz.func235 rfl Tryz.ntmps235 rfl<|fun g1 w1 M1=>an (fun h=>absurd h (by simp;omega)) fun h=>lb 0<|an rfl<|cl<|an (AY _ e.op) fun w2 M2=>?_
 refine lb 0<|an (fun _=>rfl)<|lb 0<|an (fun _=>rfl)<|lb 0<|an (fun _=>rfl)<|lb 0<|an (fun _=>rfl)<|ei (x:=.agg #[.int .u64 0,.int .u64 0,.int .u64 0,.int .u64 0])<|an (fun _=>bd (by kernel_rfl))<|ei (x:=decide (e.set=ay.zero))<|an (fun _=>⟨xg,fun w=>uQ e.set ay.zero w⟩)<|lb 0<|an (fun _=>rfl)<|?_;have hnl:tT e.op=0→e.names.length=1:=fun hz=>by obtain⟨sn,zR,-⟩:=hb.nm hz;rw[zR];rfl
 have hnz:tT e.op≠0→e.names.length=0:=fun hz=>by rw[hb.nn hz];rfl
 refine an (fun h=>?_) fun h=>?_
 ·exfalso;simp[hb.a,hb.b,hb.rel,hb.set]at h;omega
 refine lb 0<|an (fun _=>rfl)<|lb 0<|an (fun _=>rfl)<|an (fun h=>?_) fun h=>?_
 ·exfalso;by_cases hz:tT e.op=0
  ·simp[hz,hnl hz]at h
  ·simp[hz,hnz hz]at h
 have hd:∀ {q:Prop} [Decidable q],decide q=true→q:=fun h=>of_decide_eq_true h
 obtain⟨sn,zR⟩:∃ sn,tT e.op=0→e.names=[sn]∧iK sn=true∧dF sn:=by
  by_cases hz:tT e.op=0
  ·obtain⟨sn,h3⟩:=hb.nm hz;exact⟨sn,fun _=>h3⟩
  ·exact⟨ByteArray.empty,fun h=>absurd h hz⟩
 obtain⟨b,o,hc⟩:∃ (b o:Nat),tT e.op=0→_=some (⟨b,o,none⟩:Addr)∧w0.cell? ⟨b,o+0,none⟩=some (.string sn):=by
  by_cases hz:tT e.op=0
  ·obtain⟨b,o,h3⟩:=hng 0 sn (by rw[(zR hz).1];rfl);exact⟨b,o,fun _=>h3⟩
  ·exact⟨0,0,fun h=>absurd h hz⟩
 refine lb 0<|an (fun _=>rfl)<|ia (i:=0)<|an (fun h3=>⟨(hc (hd h3)).1,rfl,by rw[hnl (hd h3)];exact Nat.zero_lt_one⟩)<|lc (x:=.string sn)<|an (fun h3=>cell_later M2.below (hc (hd h3)).2)<|cl (v:=.bool true)<|an (fun h3=>(D5 _ sn (zR (hd h3)).2.2).mono fun _ _ ⟨x1,x2⟩=>⟨by rw[x1,(zR (hd h3)).2.1],x2▸.refl _ _⟩) fun w3 M3=>?_
 refine an (fun h=>by simp at h) fun h=>lr (ι:=Nat) (fun m=>[(6,.int .i64 (m:Int))]) (fun m _=>m≤e.kids.length) (fun m=>e.kids.length-m) 0 (an ⟨⟨rfl,trivial⟩,fun M=>⟨M,avB _⟩⟩ ?_)
 intro m w M hm;refine lb 0<|an rfl<|an (fun h=>?_) fun h M=>⟨rfl,M.below⟩
 have hlt:m<e.kids.length:=by simp at h;omega
 obtain⟨y,hy⟩:∃ y,e.kids[m]?=some y:=⟨_,avM hlt⟩;have qz:=avL hy;obtain⟨b,o,_,e1,qF,hc⟩:=au.elt hkk (by decide) hy;obtain⟨_,_,rfl,-⟩:=qF.open;obtain⟨c,rfl,ZG⟩:=hb.Zk y qz;refine lb 0<|an rfl<|ia<|an ⟨e1,rfl,hlt⟩<|lc<|an (cF M.below hc)<|an (by omega)<|cl<|an (ih y qz _ _ c (lv+1) (qF.keep M.below) ZG (by omega)) fun w5 M5=>?_
 exact an (fun h=>by simp at h) fun _=>an (by omega)<|bk (m+1) ⟨rfl,trivial⟩ (fun M=>⟨M.only (.refl _) (.refl _),by omega⟩) (by dsimp only;omega)
theorem mW(e:aq)(w0:World)(cs:List Value)(d:Nat)(hE:bf w0 cs e)(hB:eX d e)(hd:d≤12):Calls Tryz.prog 177 #[.agg cs.toArray] w0 (fun(r:Ending) (w':World)=>r=.returned (.int .i64 0)∧avy w0.heap.size w0 w'):=by
 have hE0:=hE;obtain⟨_,_,rfl,hnn,hkk⟩:=hE0.open;exact cL [] (fn:=Tryz.f177) Tryz.func177 rfl Tryz.ntmps177 rfl<|fun g1 w1 M1=>lb 0<|an rfl<|cl<|an (Kf e _ _ d 1 (hE.keep M1.below) hB (by omega)) fun w2 M2=>fun M=>⟨rfl,M.below⟩
theorem I7{NS:List ByteArray}(Ra:NS.length≤1000)(e:aq)(w0:World)(cs:List Value)(d:Nat)(hE:bf w0 cs e)(hB:eX d e)(hd:d≤12)(hn:∀ t∈bh e,t∈NS):Calls Tryz.prog 176 #[.agg cs.toArray] w0 (fun(r:Ending) (w':World)=>∃ u,r=.returned u∧(aF w' u (b_ e [])∧avy w0.heap.size w0 w')):=by
 have hE0:=hE;obtain⟨_,_,rfl,hnn,hkk⟩:=hE0.open;refine cL [] (fn:=Tryz.f176) Tryz.func176 rfl Tryz.ntmps176 rfl<|fun g1 w1 M1=>lb 0<|an rfl<|cl<|an (mW e _ _ d (hE.keep M1.below) hB hd) fun w2 M2=>?_
 exact an (fun h=>by simp at h) fun _=>lb 0<|an rfl<|cg<|an (lT Ra e _ _ d _ [] (hE.keep M2.below) hB (SliceAt.nil _ _) List.Pairwise.nil (fun t ht=>by cases ht) hn) fun u w3 ⟨hS,hb⟩=>⟨_,_,M2.keep hb,fun M=>⟨_,rfl,hS,M.below⟩⟩
abbrev xP (w:World) (v:Value) (bl:List dP):Prop:=SliceAt w v 2 bl.length (bl.flatMap dP.cells)
theorem Nn(w0:World)(v:Value)(bl:List dP)(s:ByteArray)(h0:xP w0 v bl)(hs:s∈bl.map (·.name)):Calls Tryz.prog 236 #[v,.string s] w0 (fun(r:Ending) (w':World)=>r=.returned (.int .i64 (mF (bl.map (·.name)) s:Int))∧avy w0.heap.size w0 w'):=by
 have hi:=mQ hs;have hg:=qy hs;rw[avO]at hi;obtain⟨_,_,rfl,-,hmm,-⟩:=SliceAt.form h0 (by decide);refine cL [] (fn:=Tryz.f236) Tryz.func236 rfl Tryz.ntmps236 rfl<|lr (ι:=Nat) (fun m=>[(5,.int .i64 (m:Int))]) (fun m _=>m≤mF (bl.map (·.name)) s) (fun m=>bl.length-m) 0 (an ⟨⟨rfl,trivial⟩,fun M=>⟨M,avB _⟩⟩ ?_);intro m w M hm;have hlt:m<bl.length:=by omega
 refine an (fun h=>?_) fun h=>absurd h (by simp;omega)
 obtain⟨y,hy⟩:∃ y,bl[m]?=some y:=⟨_,avM hlt⟩;obtain⟨b,o,e1,hc⟩:=SliceAt.elt h0 (fun _=>rfl) (by decide) hy hlt;refine ia<|an ⟨e1,rfl,hlt⟩<|lc (x:=.string y.name)<|an (cF M.below hc 0 _ rfl)<|an (fun h2=>fun M=>⟨ri ?_,M.below⟩) fun h2=>an (by omega)<|bk (m+1) ⟨rfl,trivial⟩ (fun M=>⟨M,?_⟩) (by dsimp only;omega)
 ·have h2:y.name=s:=Ar (by simpa using h2);rcases Nat.lt_or_eq_of_le hm with h3|h3
  ·exfalso;unfold mF at h3;have:=List.not_of_lt_findIdx h3;have hq:(bl.map (·.name))[m]?=some y.name:=by rw[avP,hy];rfl
   obtain⟨_,hq⟩:=avF.1 hq;rw[hq,h2]at this;simp at this
  ·rw[h3]
 ·have h2:y.name≠s:=fun e=>by rw[e]at h2;simp at h2
  have:m≠mF (bl.map (·.name)) s:=fun e=>by
   rw[← e,avP,hy]at hg;exact h2 (avC hg)
  show m+1≤_;omega
theorem mI(bl:List dP):∀ (e:aq) (w0:World) (cs:List Value) (d:Nat),bf w0 cs e→eX d e→∀ v:Value,xP w0 v bl→(∀ s∈bh e,s∈bl.map (·.name))→Calls Tryz.prog 178 #[.agg cs.toArray,v] w0 (fun(r:Ending) (w':World)=>r=.returned (.bool (cB bl e))∧avy w0.heap.size w0 w'):=by
 refine aq.ind fun e ih=>?_
 intro w0 cs d hE hB v hL hns;have hb:=hB.facts;have hE0:=hE;obtain⟨_,_,rfl,hnn,hkk⟩:=hE0.open;obtain⟨_,_,rfl,-,hng⟩:=aF.get hnn;obtain⟨_,_,rfl,-,hkm,-⟩:=au.form hkk (by decide);obtain⟨_,_,rfl,-⟩:=SliceAt.form hL (by decide);refine cL [] (fn:=Tryz.f178) Tryz.func178 rfl Tryz.ntmps178 rfl<|fun g1 w1 M1=>lb 0<|an rfl<|an (fun h=>?_) fun h=>?_
 ·have h1:e.op=1:=by simpa using h
  obtain⟨sn,zR,-⟩:=hb.nm (hb.op1.2 h1);have iT:sn∈bl.map (·.name):=hns sn (by rw[dR,zR];exact List.mem_append_left _ (avI.2 rfl));have WM:=mQ iT;rw[avO]at WM;obtain⟨b,o,e1,hc⟩:=hng 0 sn (by rw[zR];rfl);obtain⟨y,hy⟩:∃ y,bl[mF (bl.map (·.name)) sn]?=some y:=⟨_,avM WM⟩;obtain⟨b2,o2,e2,hc2⟩:=SliceAt.elt hL (fun _=>rfl) (by decide) hy WM;refine lb 0<|an rfl<|ia (i:=0)<|an ⟨e1,rfl,by rw[zR];exact Nat.zero_lt_one⟩<|lc (x:=.string sn)<|an (cell_later M1.below hc)<|cl<|an (Nn _ _ bl sn (SliceAt.keep hL M1.below) iT) fun w2 M2=>ia<|an ⟨e2,rfl,WM⟩<|lc (x:=.bool y.val)<|an (cF M2.below hc2 1 _ rfl)<|fun M=>⟨?_,M.below⟩
  have:cB bl e=y.val:=by
   rw[nE,lu,if_pos h1,zR];show((bl[mF (bl.map (·.name)) sn]?).map (·.val)).getD false=_;rw[hy];rfl
  rw[this];rfl
 have h1:e.op≠1:=by simpa using h
 have U_:=hb.Zj h1;obtain⟨y,hy⟩:∃ y,e.kids[0]?=some y:=⟨_,avM U_⟩;have qz:=avL hy;obtain⟨b,o,_,e1,qF,hc⟩:=au.elt hkk (by decide) hy;obtain⟨nv',kv',rfl,-⟩:=qF.open;obtain⟨dy,-,hBy⟩:=hb.Zk y qz;have hv0:=sJ bl e.kids 0 hy;refine lb 0<|an rfl<|ia (i:=0)<|an ⟨e1,rfl,U_⟩<|lc<|an (cF M1.below hc)<|cl<|an (ih y qz _ _ dy (qF.keep M1.below) hBy _ (SliceAt.keep hL M1.below) (fun t ht=>hns t (fC qz ht))) fun w3 M3=>lb 0<|an rfl<|an (fun h2=>fun M=>⟨?_,M.below⟩) fun h2=>?_
 ·have h2:e.op=2:=by simpa using h2
  have hV:cB bl e=!cB bl y:=by rw[nE bl e,lu,if_neg h1,if_pos h2,hv0]
  rw[hV];rfl
 have h2:e.op≠2:=by simpa using h2
 have hlz:=xQ.Zi hB h1 h2;obtain⟨z,hz⟩:∃ z,e.kids[1]?=some z:=⟨_,avM hlz⟩;have hzm:=avL hz;obtain⟨bz,oz,_,e2,ZF,hcz⟩:=au.elt hkk (by decide) hz;obtain⟨nvz,kvz,rfl,-⟩:=ZF.open;obtain⟨dz,-,hBz⟩:=hb.Zk z hzm;have hv1:=sJ bl e.kids 1 hz
 have hV:cB bl e=if e.op=3 then cB bl y&&cB bl z else if e.op=4 then cB bl y||cB bl z else if e.op=6 then cB bl y == cB bl z else cB bl y != cB bl z:=by
  rw[nE,lu,if_neg h1,if_neg h2,hv0,hv1]
 rw[hV];clear hV hv0 hv1;refine lb 0<|an rfl<|ia (i:=1)<|an ⟨e2,rfl,hlz⟩<|lc<|an (cF M3.below hcz)<|cl<|an (ih z hzm _ _ dz (ZF.keep M3.below) hBz _ (SliceAt.keep hL M3.below) (fun t ht=>hns t (fC hzm ht))) fun w5 M5=>?_
 generalize cB bl y=p;generalize cB bl z=q;refine lb 0<|an rfl<|an (fun h3 M=>⟨?_,M.below⟩) fun h3=>lb 0<|an rfl<|an (fun h4 M=>⟨?_,M.below⟩) fun h4=>lb 0<|an rfl<|an (fun h6 M=>⟨?_,M.below⟩) fun h6 M=>⟨?_,M.below⟩
 all_goals simp only[decide_eq_true_eq,decide_eq_false_iff_not]at *
 ·rw[if_pos h3];rfl
 ·rw[if_neg h3,if_pos h4];rfl
 ·rw[if_neg h3,if_neg h4,if_pos h6];cases p<;>cases q<;>rfl
 ·rw[if_neg h3,if_neg h4,if_neg h6];cases p<;>cases q<;>rfl
theorem acq(r m:Nat):decide ((((r/2^m)%2:Nat):Int)=1)=r.testBit m:=by
 rw[Nat.testBit_eq_decide_div_mod_eq];exact decide_eq_decide.2 (by omega)
theorem lG(w0:World)(v:Value)(ns:List ByteArray)(r:Nat)(h0:aF w0 v ns)(hl:ns.length≤60):Calls Tryz.prog 179 #[v,.int .i64 (r:Int)] w0 (fun(x:Ending) (w':World)=>∃ u,x=.returned u∧(xP w' u (iJ ns r)∧avy w0.heap.size w0 w')):=by
 obtain⟨_,_,rfl,-⟩:=aF.open h0;refine cL [] (fn:=Tryz.f179) Tryz.func179 rfl Tryz.ntmps179 rfl<|lq (ι:=Nat×Value) (fun(m,u)=>[(5,u),(6,.int .i64 (m:Int))]) (fun(m,u)=>[⟨u,197,2,m,(IZ ns r m).flatMap dP.cells⟩]) (fun(m,u) _=>m≤ns.length) (fun(m,u)=>ns.length-m) (0,.slice none 0 0) (an ⟨⟨rfl,rfl,trivial⟩,fun M=>⟨M.bC 197 2,avB _⟩⟩ ?_);rintro⟨m,u⟩ w M hm;refine an (fun h=>?_) fun h M=>?_
 ·have hlt:m<ns.length:=by simp at h;omega
  obtain⟨x,hx⟩:∃ x,ns[m]?=some x:=⟨_,avM hlt⟩;obtain⟨b,o,e,hc⟩:=SliceAt.elt h0 (fun _=>rfl) (by decide) hx hlt;have hq:((r:Int)/2^m)=((r/2^m:Nat):Int):=by simp
  refine ia<|an ⟨e,rfl,hlt⟩<|lc (x:=.string x)<|an (cF M.below hc 0 _ rfl)<|ei<|an (fun a w o ho hv=>FU ho (kB hv) u3 Xh (by omega))<|ei (x:=.int .i64 ((r/2^m:Nat):Int))<|an (fun a w o ho hv=>?_)<|ei<|an (Pz _)<|ei (x:=.agg #[.string x,.bool (decide ((((r/2^m)%2:Nat):Int)=1))])<|an (bd (by kernel_rfl)) fun g2 w3 M=>ap 0 id rfl (M.slice 0 rfl (k:=2) (n:=1) rfl rfl (by simp[maxLen])) ⟨by unfold maxLen;omega,by omega⟩ fun v2 w4 M=>an (by omega) (bk (m+1,v2) ⟨rfl,rfl,trivial⟩ (fun M=>⟨(M.only (.cons _ (.refl _)) (.refl _)).cast rfl (by dsimp only;rw[wH hx,avS,acq];rfl),by omega⟩) (by dsimp only;omega))
  have:=Pg (P:=Tryz.prog) (w:=w) ho (kB hv) (qX hv) (by omega) (by simp[IntKind.bits];omega);rw[this,← hq];rfl
 ·obtain rfl:m=ns.length:=by simp at h;omega
  refine⟨_,rfl,?_,M.below⟩;have hR:=M.r 0 rfl;have hlen:(iJ ns r).length=ns.length:=nP _ (Nat.le_refl _);show SliceAt _ _ 2 (iJ ns r).length _;rw[hlen]
  exact SliceAt.bF hR fun u hu=>by
   obtain⟨x,-,hx⟩:=List.mem_flatMap.1 hu;simp[dP.cells]at hx;rcases hx with rfl|rfl<;>rfl
theorem J5{bl:List dP}(hd:(bl.map (·.name)).Nodup)(ns:List ByteArray)(n:Nat):∃ r,r<2^ns.length∧∀ c,eD bl.length c→(∀ s∈bh (aI bl c),s∈ns)→cB (iJ ns r) (aI bl c)=jN bl.length n c:=by
 obtain⟨r,h1,h2⟩:=vf ns.length fun j=>match ns[j]? with|some s=>n.testBit (mF (bl.map (·.name)) s)|none=>false
 refine⟨r,h1,fun c hc hs=>Ib (fun a x hx hin=>?_) hc hs⟩;rw[h2 _ (mQ hin),qy hin];dsimp only;rw[Bu hd (a:=a) (by rw[avP,hx];rfl)]
theorem Cl{bl:List dP}(ns:List ByteArray)(r:Nat):∃ n,n<2^bl.length∧∀ c,eD bl.length c→(∀ s∈bh (aI bl c),s∈ns)→cB (iJ ns r) (aI bl c)=jN bl.length n c:=by
 obtain⟨n,h1,h2⟩:=vf bl.length fun a=>match bl[a]? with|some x=>r.testBit (mF ns x.name)|none=>false
 refine⟨n,h1,fun c hc hs=>Ib (fun a x hx hin=>?_) hc hs⟩;rw[h2 a (avF.1 hx).1,hx]
def Rv(a b:aq):Bool:=decide (∀ r,r<2^(b_ b (b_ a [])).length→cB (iJ (b_ b (b_ a [])) r) a=cB (iJ (b_ b (b_ a [])) r) b)
def El(e:aq):Bool:=decide (∀ r,r<2^(b_ e []).length→cB (iJ (b_ e []) r) e=cB (iJ (b_ e []) 0) e)
theorem VZ{bl:List dP}(hI:∀ b∈bl,iK b.name=true∧dF b.name)(hd:(bl.map (·.name)).Nodup){c c':aq}(hc:eD bl.length c)(hc':eD bl.length c')(hl:bA 13 c≤12)(hl':bA 13 c'≤12):Rv (aI bl c) (aI bl c')=true↔∀ n,n<2^bl.length→jN bl.length n c=jN bl.length n c':=by
 have b1:=(nO hI hc 12 hl).1;have b2:=(nO hI hc' 12 hl').1;obtain⟨a1,m1⟩:=jc b1 (l:=[]) List.Pairwise.nil;obtain⟨-,m2⟩:=jc b2 a1;have s1:∀ s∈bh (aI bl c),s∈b_ (aI bl c') (b_ (aI bl c) []):=fun s hs=>(m2 s).2 (.inr ((m1 s).2 (.inl hs)))
 have s2:∀ s∈bh (aI bl c'),s∈b_ (aI bl c') (b_ (aI bl c) []):=fun s hs=>(m2 s).2 (.inl hs)
 unfold Rv;rw[decide_eq_true_eq];generalize b_ (aI bl c') (b_ (aI bl c) [])=ns at *;constructor
 ·intro H n hn;obtain⟨r,h1,h2⟩:=J5 hd ns n;rw[← h2 c hc s1,← h2 c' hc' s2];exact H r h1
 ·intro H r hr;obtain⟨n,h1,h2⟩:=Cl (bl:=bl) ns r;rw[h2 c hc s1,h2 c' hc' s2];exact H n h1
theorem Wh{bl:List dP}(hI:∀ b∈bl,iK b.name=true∧dF b.name)(hd:(bl.map (·.name)).Nodup)(h5:bl.length≤5){c:aq}(hc:eD bl.length c)(hl:bA 13 c≤12):El (aI bl c)=(fG (aI bl c)||lX (aI bl c))∧(El (aI bl c)&&cB (iJ (b_ (aI bl c) []) 0) (aI bl c))=fG (aI bl c):=by
 obtain⟨hA,hN⟩:=F3 hI hd h5 hc hl;have b1:=(nO hI hc 12 hl).1;obtain⟨-,m1⟩:=jc b1 (l:=[]) List.Pairwise.nil;have s1:∀ s∈bh (aI bl c),s∈b_ (aI bl c) []:=fun s hs=>(m1 s).2 (.inl hs)
 unfold El;generalize b_ (aI bl c) []=ns at *;obtain⟨n0,hn0,e0⟩:=Cl (bl:=bl) ns 0;have e0:=e0 c hc s1
 have key:(∀ r,r<2^ns.length→cB (iJ ns r) (aI bl c)=cB (iJ ns 0) (aI bl c))↔∀ n,n<2^bl.length→jN bl.length n c=cB (iJ ns 0) (aI bl c):=by
  constructor
  ·intro H n hn;obtain⟨r,h1,h2⟩:=J5 hd ns n;rw[← h2 c hc s1];exact H r h1
  ·intro H r hr;obtain⟨n,h1,h2⟩:=Cl (bl:=bl) ns r;rw[h2 c hc s1];exact H n h1
 generalize cB (iJ ns 0) (aI bl c)=v at *
 cases hk:decide (∀ r,r<2^ns.length→cB (iJ ns r) (aI bl c)=v) with
 | true=>
  have H:=key.1 (of_decide_eq_true hk)
  cases v with
  | true=>
   rw[hA.2 H];exact⟨rfl,rfl⟩
  | false=>
   rw[hN.2 H,Bool.or_true];refine⟨rfl,?_⟩
   cases h:fG (aI bl c) with
   | false=>rfl
   | true=>have:=hA.1 h n0 hn0;rw[← e0]at this;cases this
 | false=>
  have H:=fun h=>of_decide_eq_false hk (key.2 h)
  have n1:fG (aI bl c)=false:=by
   cases h:fG (aI bl c) with
   | false=>rfl
   | true=>
    have h2:=hA.1 h;obtain rfl:v=true:=e0.trans (h2 n0 hn0);exact absurd h2 H
  have n2:lX (aI bl c)=false:=by
   cases h:lX (aI bl c) with
   | false=>rfl
   | true=>
    have h2:=hN.1 h;obtain rfl:v=false:=e0.trans (h2 n0 hn0);exact absurd h2 H
  rw[n1,n2];exact⟨rfl,rfl⟩
theorem tj(l:List ByteArray):eN (fun u w=>aF w u l):=fun _ _ _ h hb=>h.keep hb
theorem Bn(l:List dP):eN (fun u w=>xP w u l):=fun _ _ _ h hb=>SliceAt.keep h hb
theorem EW{n:Nat}(hn:n≤10):IntKind.i64.wrap (1*2^(n:Int).toNat)=((2^n:Nat):Int):=by
 have Q7:=P7 n hn;rw[Int.toNat_natCast,Int.one_mul,wrap_i64]
 ·simp
 ·have e:(2:Int)^n=((2^n:Nat):Int):=by simp
  rw[e];have h0:(0:Int)≤((2^n:Nat):Int):=Int.natCast_nonneg _;generalize 2^n=q at *;constructor<;>omega
theorem JO{NS:List ByteArray}(Ra:NS.length≤5)(x y:aq)(w0:World)(cs cs':List Value){d d':Nat}(hE:bf w0 cs x)(hE':bf w0 cs' y)(hB:eX d x)(hB':eX d' y)(hn:∀ t∈bh x,t∈NS)(hn':∀ t∈bh y,t∈NS):Calls Tryz.prog 238 #[.agg cs.toArray,.agg cs'.toArray] w0 (fun(r:Ending) (w':World)=>r=.returned (.bool (Rv x y))∧avy w0.heap.size w0 w'):=by
 obtain⟨a1,m1⟩:=jc hB (l:=[]) List.Pairwise.nil;obtain⟨a2,m2⟩:=jc hB' a1;have Bz:∀ t∈b_ x [],t∈NS:=fun t ht=>((m1 t).1 ht).elim (hn t) (fun h=>by cases h)
 have U4:∀ t∈b_ y (b_ x []),t∈NS:=fun t ht=>((m2 t).1 ht).elim (hn' t) (Bz t)
 have hl5:(b_ y (b_ x [])).length≤5:=avG (GW a2 U4) Ra;have s1:∀ s∈bh x,s∈b_ y (b_ x []):=fun s hs=>(m2 s).2 (.inr ((m1 s).2 (.inl hs)))
 have s2:∀ s∈bh y,s∈b_ y (b_ x []):=fun s hs=>(m2 s).2 (.inl hs)
 have hE0:=hE;obtain⟨_,_,rfl,-⟩:=hE0.open;have hE0:=hE';obtain⟨_,_,rfl,-⟩:=hE0.open;have Q7:=P7 _ (show(b_ y (b_ x [])).length≤10 by omega);refine cL [] (fn:=Tryz.f238) Tryz.func238 rfl Tryz.ntmps238 rfl<|fun g1 w1 M1=>fun g2 w2 M2=>dr (by kernel_rfl)<|lb 0<|an rfl<|lb 1<|an rfl<|cr (fun u w=>aF w u (b_ x []))<|an (tj _)<|an (fun w' hb' M'=>lT (NS:=NS) (by omega) x _ _ d _ [] (hE.keep M'.below) hB (SliceAt.nil _ _) List.Pairwise.nil (fun t ht=>by cases ht) hn)<|cv (fun u w=>aF w u (b_ y (b_ x [])))<|an (tj _)<|an (fun u _ w' hb' M' hR=>lT (NS:=NS) (by omega) y _ _ d' u _ (hE'.keep M'.below) hB' hR a1 Bz hn')<|mva (R:=fun u w=>aF w u (b_ y (b_ x []))) (tj _)<|fun s w3 hS vG M3=>?_
 obtain⟨sa,sc,rfl,-⟩:=aF.open hS;have he:Rv x y=decide (∀ r,r<2^(b_ y (b_ x [])).length→cB (iJ (b_ y (b_ x [])) r) x=cB (iJ (b_ y (b_ x [])) r) y):=rfl;generalize b_ y (b_ x [])=ns at *;refine lr (ι:=Nat) (fun m=>[(6,.int .i64 (m:Int))]) (fun m w=>m≤2^ns.length∧aF w (.slice sa ns.length sc) ns∧∀ r,r<m→cB (iJ ns r) x=cB (iJ ns r) y) (fun m=>2^ns.length-m) 0 (an ⟨⟨rfl,trivial⟩,fun M=>⟨M,avB _,hS,fun r h=>absurd h (Nat.not_lt_zero r)⟩⟩ ?_);intro m w M ⟨hm,hSw,hI⟩;refine ei<|an (fun a w o ho hv=>FU ho (kB hv) u3 Xh (by omega))<|ei (x:=.int .i64 ((2^ns.length:Nat):Int))<|an (fun a w o ho hv=>?_)<|an (fun h=>?_) fun h M=>⟨?_,M.below⟩
 ·have:=j5 (P:=Tryz.prog) (w:=w) ho (kB hv) (qX hv) (by omega) (by simp[IntKind.bits];omega);rw[this,EW (by omega)]
 ·have hlt:m<2^ns.length:=by simp only[decide_eq_true_eq]at h;omega
  refine cg<|an (lG _ _ ns m hSw (by omega)) fun u w4 ⟨hB4,hb4⟩=>⟨_,_,M.keep hb4,?_⟩
  refine dr (by kernel_rfl)<|lb 1<|an rfl<|cl<|an (fun w' hb' M'=>mI _ x _ _ d (hE.keep M'.below) hB _ (SliceAt.keep hB4 hb') (by rw[lH];exact s1))<|lb 0<|an rfl<|cl<|an (fun w' hb' M'=>mI _ y _ _ d' (hE'.keep M'.below) hB' _ (SliceAt.keep hB4 hb') (by rw[lH];exact s2))<|fun w5 CR M5=>?_
  refine an (fun h2 M=>⟨?_,M.below⟩) fun h2=>an (by omega)<|bk (m+1) ⟨rfl,trivial⟩ (fun M=>⟨M,by omega,(hSw.keep hb4).keep CR,fun r hr=>?_⟩) (by dsimp only;omega)
  ·rw[he,decide_eq_false (fun H=>by have:=H m hlt;rw[this]at h2;simp at h2)];rfl
  ·by_cases e:r=m
   ·subst e;simpa using h2
   ·exact hI r (by omega)
 ·rw[he,decide_eq_true (fun r hr=>hI r (by simp only[decide_eq_false_iff_not]at h;omega))];rfl
theorem Kz{NS:List ByteArray}(Ra:NS.length≤5)(x y:aq)(w0:World)(cs cs':List Value){d d':Nat}(hE:bf w0 cs x)(hE':bf w0 cs' y)(hB:eX d x)(hB':eX d' y)(hd:d≤12)(hd':d'≤12)(hn:∀ t∈bh x,t∈NS)(hn':∀ t∈bh y,t∈NS):Calls Tryz.prog 181 #[.agg cs.toArray,.agg cs'.toArray] w0 (fun(r:Ending) (w':World)=>r=.returned (.tuple #[.bool (Rv x y),.int .i64 0])∧avy w0.heap.size w0 w'):=by
 obtain⟨a1,m1⟩:=jc hB (l:=[]) List.Pairwise.nil;obtain⟨a2,m2⟩:=jc hB' a1;have Bz:∀ t∈b_ x [],t∈NS:=fun t ht=>((m1 t).1 ht).elim (hn t) (fun h=>by cases h)
 have U4:∀ t∈b_ y (b_ x []),t∈NS:=fun t ht=>((m2 t).1 ht).elim (hn' t) (Bz t)
 have hl5:(b_ y (b_ x [])).length≤5:=avG (GW a2 U4) Ra;have hE0:=hE;obtain⟨_,_,rfl,-⟩:=hE0.open;have hE0:=hE';obtain⟨_,_,rfl,-⟩:=hE0.open;refine cL [] (fn:=Tryz.f181) Tryz.func181 rfl Tryz.ntmps181 rfl<|fun g1 w1 M1=>fun g2 w2 M2=>lb 1<|an rfl<|cl<|an (mW x _ _ d (hE.keep M2.below) hB hd) fun w3 M3=>an (fun h=>by simp at h) fun _=>lb 0<|an rfl<|cl<|an (mW y _ _ d' (hE'.keep M3.below) hB' hd') fun w4 M4=>an (fun h=>by simp at h) fun _=>?_
 refine sp [0,1] (.step 2 (.step 3 (.step 4 (.step 5 .done)))) [0,1] (by kernel_rfl)<|lb 1<|an rfl<|lb 0<|an rfl<|fun w5 CR M5=>cg<|an (lT (NS:=NS) (by omega) x _ _ d _ [] (hE.keep M5.below) hB (SliceAt.nil _ _) List.Pairwise.nil (fun t ht=>by cases ht) hn) fun u w6 ⟨hS6,Nb⟩=>⟨_,_,M5.keep Nb,an rfl<|cg<|an (lT (NS:=NS) (by omega) y _ _ d' u _ (hE'.keep (M5.keep Nb).below) hB' hS6 a1 Bz hn') fun u2 w7 ⟨hS7,hb7⟩=>⟨_,_,(M5.keep Nb).keep hb7,?_⟩⟩
 obtain⟨sa,sc,rfl,-⟩:=aF.open hS7;have M7:=(M5.keep Nb).keep hb7;refine an rfl<|an rfl<|an rfl<|an (fun h=>?_) fun h=>?_
 ·exfalso;simp only[decide_eq_true_eq]at h;omega
 ·exact lb 1<|an rfl<|lb 0<|an rfl<|cl<|an (JO Ra x y _ _ _ (hE.keep M7.below) (hE'.keep M7.below) hB hB' hn hn') fun w8 M8=>fun M=>⟨rfl,M.below⟩
theorem CM{NS:List ByteArray}(Ra:NS.length≤5)(x:aq)(w0:World)(cs:List Value){d:Nat}(hE:bf w0 cs x)(hB:eX d x)(hd:d≤12)(hn:∀ t∈bh x,t∈NS):Calls Tryz.prog 89 #[.agg cs.toArray] w0 (fun(r:Ending) (w':World)=>r=.returned (.tuple #[.bool (El x&&cB (iJ (b_ x []) 0) x),.bool (El x)])∧avy w0.heap.size w0 w'):=by
 obtain⟨a1,m1⟩:=jc hB (l:=[]) List.Pairwise.nil;have Bz:∀ t∈b_ x [],t∈NS:=fun t ht=>((m1 t).1 ht).elim (hn t) (fun h=>by cases h)
 have hl5:(b_ x []).length≤5:=avG (GW a1 Bz) Ra;have s1:∀ s∈bh x,s∈b_ x []:=fun s hs=>(m1 s).2 (.inl hs)
 have hE0:=hE;obtain⟨_,_,rfl,-⟩:=hE0.open;have Q7:=P7 _ (show(b_ x []).length≤10 by omega);refine cL [] (fn:=Tryz.f89) Tryz.func89 rfl Tryz.ntmps89 rfl<|fun g1 w1 M1=>lb 0<|an rfl<|cg<|an (I7 (NS:=NS) (by omega) x _ _ d (hE.keep M1.below) hB hd hn) fun s w2 ⟨hS,hb2⟩=>⟨_,_,M1.keep hb2,?_⟩
 obtain⟨sa,sc,rfl,-⟩:=aF.open hS;have M2:=M1.keep hb2;have he:El x=decide (∀ r,r<2^(b_ x []).length→cB (iJ (b_ x []) r) x=cB (iJ (b_ x []) 0) x):=rfl;generalize b_ x []=ns at *;refine lb 0<|an rfl<|cg (R:=fun v w'=>v=.int .i64 0∧avy w2.heap.size w2 w')<|an ((mW x _ _ d (hE.keep M2.below) hB hd).mono fun _ _ ⟨h1,h2⟩=>⟨_,h1,rfl,h2⟩) fun v w3 ⟨hv,vG⟩=>⟨_,_,M2.keep vG,?_⟩
 subst hv;have M3:=M2.keep vG;have hS3:=hS.keep vG;refine an (fun h=>?_) fun h=>?_
 ·exfalso;simp at h;omega
 refine dr (by kernel_rfl)<|lb 0<|an rfl<|cr (fun u w=>xP w u (iJ ns 0))<|an (Bn _)<|an (fun w' hb' M'=>lG _ _ ns 0 (hS3.keep hb') (by omega))<|cu<|an (fun u _ w' hb' M' hR=>mI _ x _ _ d (hE.keep M'.below) hB _ hR (by rw[lH];exact s1))<|fun w4 hb4 M4=>?_
 have hS4:=hS3.keep hb4;generalize hv0:cB (iJ ns 0) x=v0 at *;refine lr (ι:=Nat) (fun m=>[(6,.int .i64 (m:Int))]) (fun m w=>(1≤m∧(m≤2^ns.length∨m=1))∧aF w (.slice sa ns.length sc) ns∧∀ r,1≤r→r<m→cB (iJ ns r) x=v0) (fun m=>2^ns.length-m) 1 (an ⟨⟨rfl,trivial⟩,fun M=>⟨M,⟨Nat.le_refl _,.inr rfl⟩,hS4,fun r h1 h2=>absurd h1 (by omega)⟩⟩ ?_);intro m w M ⟨hm,hSw,hI⟩;refine ei<|an (fun a w o ho hv=>FU ho (kB hv) u3 Xh (by omega))<|ei (x:=.int .i64 ((2^ns.length:Nat):Int))<|an (fun a w o ho hv=>?_)<|an (fun h=>?_) fun h M=>⟨?_,M.below⟩
 ·have:=j5 (P:=Tryz.prog) (w:=w) ho (kB hv) (qX hv) (by omega) (by simp[IntKind.bits];omega);rw[this,EW (by omega)]
 ·have hlt:m<2^ns.length:=by simp only[decide_eq_true_eq]at h;omega
  refine dr (by kernel_rfl)<|lb 0<|an rfl<|cr (fun u w=>xP w u (iJ ns m))<|an (Bn _)<|an (fun w' hb' M'=>lG _ _ ns m (hSw.keep hb') (by omega))<|cu<|an (fun u _ w' hb' M' hR=>mI _ x _ _ d (hE.keep M'.below) hB _ hR (by rw[lH];exact s1))<|fun w5 CR M5=>?_
  refine an (fun h2 M=>⟨?_,M.below⟩) fun h2=>an (by omega)<|bk (m+1) ⟨rfl,trivial⟩ (fun M=>⟨M,⟨by omega,.inl (by omega)⟩,hSw.keep CR,fun r h1 hr=>?_⟩) (by dsimp only;omega)
  ·rw[he,decide_eq_false (fun H=>by have:=H m hlt;rw[this]at h2;simp at h2)];rfl
  ·by_cases e:r=m
   ·subst e;simpa using h2
   ·exact hI r h1 (by omega)
 ·rw[he,decide_eq_true (fun r hr=>by
   by_cases e:r=0
   ·subst e;exact hv0
   ·exact hI r (by omega) (by simp only[decide_eq_false_iff_not]at h;omega))];rfl
theorem Nd{l:List ByteArray}{s:ByteArray}(h:hasB l s=false):∀ x∈l,x≠s:=fun x hx e=>by
 obtain⟨i,hi⟩:=List.getElem?_of_mem hx
 have:hasB l s=true:=by
  unfold hasB;rw[sO];exact⟨i,avB _,by have:=(avF.1 hi).1;omega,by rw[Fw hi,e];simp⟩
 rw[h]at this;cases this
theorem I6{l:List ByteArray}(h:bP l []=0):l.Nodup:=by
 unfold bP at h;rw[fJ]at h;refine List.pairwise_iff_getElem.2 fun i j hi hj hij=>?_
 have h1:=h j (avB _) (by omega);rw[wI (avM hj)]at h1;split at h1
 ·split at h1
  ·cases h1
  ·rename_i h2;refine Nd (by simpa using h2) _ (avL (i:=i) ?_);rw[List.getElem?_take,if_pos hij,avM hi]
 ·cases h1
theorem Ed{p:aC}(h:Ky p):(p.bools.map (·.name)).Nodup:=by
 have hc:=h.check;unfold nk at hc;split at hc
 case isFalse hne=>exact absurd hc hne
 rw[j4]at hc;have ho:kK p=0:=hc _ (by simp);unfold kK at ho;split at ho
 ·cases ho
 split at ho
 ·rename_i hne;exact absurd ho hne
 rename_i hz;exact I6 (Decidable.not_not.1 hz)
structure j_ (p:aC):Prop where
 b5:p.bools.length≤5
 con:∀ e∈p.conds,(fG (aI p.bools e)=true↔∀ n,n<2^p.bools.length→jN p.bools.length n e=true)∧(lX (aI p.bools e)=true↔∀ n,n<2^p.bools.length→jN p.bools.length n e=false)
theorem Ro{p:aC}(h:Ky p)(hok:p.Ok):j_ p:=by
 obtain⟨tp,-⟩:=BQ h hok;have h5:p.bools.length≤5:=avG h.bools (by decide);refine⟨h5,fun e he=>F3 (wZ h hok) (Ed h) h5 (tp.conds e he) ?_⟩;have:=h.small.conds e he;omega
theorem XM{nB:Nat}{l m:List aq}{k:Int}{n:Nat}(h:-(l.length:Int)≤k∧k≤l.length):E_ nB (l++m) k n=E_ nB l k n:=by
 unfold E_;have e:((l++m).length:Int)=l.length+m.length:=by rw[avJ];omega
 have c1:(0<k∧k≤((l++m).length:Int))↔(0<k∧k≤(l.length:Int)):=by omega
 have c2:(k<0∧0-((l++m).length:Int)≤k)↔(k<0∧0-(l.length:Int)≤k):=by omega
 by_cases h1:0<k∧k≤(l.length:Int)
 ·rw[if_pos h1,if_pos (c1.2 h1),avQ (by omega)]
 ·rw[if_neg h1,if_neg fun h=>h1 (c1.1 h)];by_cases h2:k<0∧0-(l.length:Int)≤k
  ·rw[if_pos h2,if_pos (c2.2 h2),avQ (by omega)]
  ·rw[if_neg h2,if_neg fun h=>h2 (c2.1 h)]
theorem uH(nB:Nat)(l:List aq)(n:Nat):E_ nB l 0 n=true:=by
 unfold E_;rw[if_neg (by omega),if_neg (by omega)]
theorem zH{nB:Nat}{l:List aq}{i:Nat}{e:aq}(h:l[i]?=some e)(n:Nat):E_ nB l ((i:Int)+1) n=jN nB n e:=by
 have:=(avF.1 h).1;unfold E_;rw[if_pos (by omega),show((i:Int)+1-1).toNat=i by omega,h]
theorem zI{nB:Nat}{l:List aq}{i:Nat}{e:aq}(h:l[i]?=some e)(n:Nat):E_ nB l (0-((i:Int)+1)) n=!jN nB n e:=by
 have:=(avF.1 h).1;unfold E_;rw[if_neg (by omega),if_pos (by omega),show(0-(0-((i:Int)+1))-1).toNat=i by omega,h]
theorem iM{s s':ox}{k:Int}(h1:s'.pE k=s.pE k)(h2:s'.ev k=s.ev k)(h3:s'.nv k=s.nv k):bH s' k=bH s k:=by unfold bH;rw[h1,h2,h3]
theorem iV{α:Type}{f:Int→Option α}{k j:Int}{v:α}(h:j≠k):eB f k v j=f j:=if_neg h
theorem eY{α:Type}{f:Int→Option α}{k:Int}{v:α}:eB f k v k=some v:=if_pos rfl
theorem fK{α:Type}{f:Int→Option α}{k1 k2 j:Int}{v1 v2:α}(h1:j≠k1)(h2:j≠k2):eB (eB f k1 v1) k2 v2 j=f j:=by rw[iV h2,iV h1]
structure Kx (p:aC) (s:ox) (k:Int) (f:Nat→Bool):Prop where
 bd:-(s.kids.length:Int)≤(bH s k).1∧(bH s k).1≤s.kids.length
 val:∀ n,n<2^p.bools.length→f n=((bH s k).2&&E_ p.bools.length s.kids (bH s k).1 n)
theorem Kx.more{p:aC}{s s':ox}{k:Int}{f:Nat→Bool}{m:List aq}(h:Kx p s k f)(hb:bH s' k=bH s k)(hk:s'.kids=s.kids++m):Kx p s' k f:=by
 refine⟨?_,fun n hn=>?_⟩
 ·rw[hb,hk,avJ];have:=h.bd;omega
 ·rw[hb,hk,XM h.bd];exact h.val n hn
structure YW (p:aC) (m:Nat) (s:ox):Prop where
 lo:∀ k:Int,k < -(m:Int)∨(m:Int)<k→s.pE k=none∧s.ev k=none∧s.nv k=none
 len:s.kids.length=s.seen.length
 tab:∀ (i:Nat) (x:Int) (e:aq),s.seen[i]?=some x→s.kids[i]?=some e→x=bN (aK p.bools.length) p.bools.length e
 ok:∀ (j:Nat) (e:aq),j<m→p.conds[j]?=some e→(fI p ((j:Int)+1)).getD false=true→Kx p s ((j:Int)+1) (fun n=>jN p.bools.length n e)∧Kx p s (0-((j:Int)+1)) (fun n=>!jN p.bools.length n e)
theorem BK{x y:Int}:∀ {l:List Int} {i:Nat} {k:Int},fF x y i l=k→k≠0→(∃ j:Nat,k=(i:Int)+j+1∧l[j]?=some x)∨(∃ j:Nat,k=0-((i:Int)+j+1)∧l[j]?=some y)
 | [],i,k,h,hk=>by rw[fF]at h;exact absurd h.symm hk
 | z::l,i,k,h,hk=>by
  rw[fF]at h;split at h
  ·rename_i e;exact .inl ⟨0,by omega,by rw[e];rfl⟩
  ·split at h
   ·rename_i e;exact .inr ⟨0,by omega,by rw[e];rfl⟩
   ·rcases BK h hk with⟨j,h1,h2⟩|⟨j,h1,h2⟩
    ·exact .inl ⟨j+1,by omega,h2⟩
    ·exact .inr ⟨j+1,by omega,h2⟩
theorem YW.step{p:aC}(hH:j_ p){m:Nat}{s:ox}{e:aq}(h:YW p m s)(he:p.conds[m]?=some e):YW p (m+1) (ct p m e s):=by
 have hem:=avL he;have Vg:=hH.con e hem;have aev:∀ j:Nat,j<m→(j:Int)+1≠(m:Int)+1∧(j:Int)+1≠0-((m:Int)+1)∧0-((j:Int)+1)≠(m:Int)+1∧0-((j:Int)+1)≠0-((m:Int)+1):=fun j hj=>by omega
 have hmm:(m:Int)+1≠0-((m:Int)+1):=by omega
 have hl1:=h.lo ((m:Int)+1) (by omega);have hl2:=h.lo (0-((m:Int)+1)) (by omega);unfold ct;by_cases hc:(fG (aI p.bools e)||lX (aI p.bools e))=true
 ·rw[if_pos hc];refine⟨fun k hk=>?_,h.len,h.tab,fun j e' hj he' hu=>?_⟩
  ·have h0:=h.lo k (by omega);refine⟨h0.1,?_,?_⟩
   ·dsimp only;rw[fK (by omega) (by omega),h0.2.1]
   ·dsimp only;rw[fK (by omega) (by omega),h0.2.2]
  ·by_cases e0:j=m
   ·subst e0;obtain rfl:e=e':=avC (he.symm.trans he')
    have hv:∀ n,n<2^p.bools.length→jN p.bools.length n e=fG (aI p.bools e):=fun n hn=>by
     cases hA:fG (aI p.bools e) with
     | true=>exact Vg.1.1 hA n hn
     | false=>
      rw[hA,Bool.false_or]at hc;exact Vg.2.1 hc n hn
    generalize fG (aI p.bools e)=A at *;constructor
    ·have eb:bH { s with ev:=eB (eB s.ev ((j:Int)+1) A) (0-((j:Int)+1)) (!A),nv:=eB (eB s.nv ((j:Int)+1) (!A)) (0-((j:Int)+1)) A } ((j:Int)+1)=(0,A):=by
      unfold bH;simp only[iV hmm,eY,hl1.1];cases A<;>rfl
     exact⟨by rw[eb];constructor<;>simp<;>omega,fun n hn=>by rw[eb,uH,Bool.and_true];exact hv n hn⟩
    ·have eb:bH { s with ev:=eB (eB s.ev ((j:Int)+1) A) (0-((j:Int)+1)) (!A),nv:=eB (eB s.nv ((j:Int)+1) (!A)) (0-((j:Int)+1)) A } (0-((j:Int)+1))=(0,!A):=by
      unfold bH;simp only[eY,hl2.1];cases A<;>rfl
     exact⟨by rw[eb];constructor<;>simp<;>omega,fun n hn=>by rw[eb,uH,Bool.and_true,hv n hn]⟩
   ·obtain⟨a1,a2,a3,a4⟩:=aev j (by omega);obtain⟨g1,g2⟩:=h.ok j e' (by omega) he' hu;exact⟨g1.more (m:=[]) (iM rfl (by dsimp only;exact fK a1 a2) (by dsimp only;exact fK a1 a2)) (List.append_nil _).symm,g2.more (m:=[]) (iM rfl (by dsimp only;exact fK a3 a4) (by dsimp only;exact fK a3 a4)) (List.append_nil _).symm⟩
 rw[if_neg hc];by_cases hu0:(fI p ((m:Int)+1)).getD false=false
 ·rw[if_pos hu0];refine⟨fun k hk=>h.lo k (by omega),h.len,h.tab,fun j e' hj he' hu=>?_⟩;by_cases e0:j=m
  ·subst e0;rw[hu0]at hu;cases hu
  ·exact h.ok j e' (by omega) he' hu
 rw[if_neg hu0];dsimp only
 have lo':∀ (k0:Int) (s':ox),s'.pE=s.pE→s'.ev=s.ev→s'.nv=s.nv→∀ k:Int,k < -((m+1:Nat):Int)∨((m+1:Nat):Int)<k→(cW m k0 s').pE k=none∧(cW m k0 s').ev k=none∧(cW m k0 s').nv k=none:=fun k0 s' e1 e2 e3 k hk=>by
  have h0:=h.lo k (by omega);refine⟨?_,by show s'.ev k=none;rw[e2];exact h0.2.1,by show s'.nv k=none;rw[e3];exact h0.2.2⟩;unfold cW;dsimp only;rw[fK (by omega) (by omega),e1,h0.1]
 have old':∀ (k0:Int) (s':ox),s'.pE=s.pE→s'.ev=s.ev→s'.nv=s.nv→∀ j:Nat,j<m→bH (cW m k0 s') ((j:Int)+1)=bH s ((j:Int)+1)∧bH (cW m k0 s') (0-((j:Int)+1))=bH s (0-((j:Int)+1)):=fun k0 s' e1 e2 e3 j hj=>by
  obtain⟨a1,a2,a3,a4⟩:=aev j hj;exact⟨iM (by unfold cW;dsimp only;rw[fK a1 a2,e1]) (congrFun e2 _) (congrFun e3 _),iM (by unfold cW;dsimp only;rw[fK a3 a4,e1]) (congrFun e2 _) (congrFun e3 _)⟩
 have new':∀ (k0:Int) (s':ox),s'.ev=s.ev→s'.nv=s.nv→bH (cW m k0 s') ((m:Int)+1)=(k0,true)∧bH (cW m k0 s') (0-((m:Int)+1))=(0-k0,true):=fun k0 s' e2 e3=>by
  constructor
  ·unfold bH;rw[show(cW m k0 s').ev ((m:Int)+1)=none from(congrFun e2 _).trans hl1.2.1,show(cW m k0 s').nv ((m:Int)+1)=none from(congrFun e3 _).trans hl1.2.2,show(cW m k0 s').pE ((m:Int)+1)=some k0 by unfold cW;dsimp only;rw[iV hmm,eY]];rfl
  ·unfold bH;rw[show(cW m k0 s').ev (0-((m:Int)+1))=none from(congrFun e2 _).trans hl2.2.1,show(cW m k0 s').nv (0-((m:Int)+1))=none from(congrFun e3 _).trans hl2.2.2,show(cW m k0 s').pE (0-((m:Int)+1))=some (0-k0) by unfold cW;dsimp only;rw[eY]];rfl
 by_cases hk:fF (bN (aK p.bools.length) p.bools.length e) (notM (aK p.bools.length) (bN (aK p.bools.length) p.bools.length e)) 0 s.seen=0
 ·rw[if_pos hk];obtain⟨n1,n2⟩:=new' ((s.seen.length:Int)+1) { s with seen:=s.seen++[bN (aK p.bools.length) p.bools.length e],kids:=s.kids++[e] } rfl rfl;have hk1:(s.kids++[e])[s.seen.length]?=some e:=by rw[← h.len];simp
  refine⟨lo' _ _ rfl rfl rfl,by show(s.kids++[e]).length=(s.seen++[_]).length;rw[avJ,avJ,h.len];rfl,fun i x e' hx he'=>?_,fun j e' hj he' hu=>?_⟩
  ·replace hx:(s.seen++[bN (aK p.bools.length) p.bools.length e])[i]?=some x:=hx;replace he':(s.kids++[e])[i]?=some e':=he';by_cases hi:i<s.seen.length
   ·rw[avQ hi]at hx;rw[avQ (by rw[h.len];exact hi)]at he';exact h.tab i x e' hx he'
   ·have hi2:i=s.seen.length:=by
     have:=(avF.1 hx).1;rw[avJ,List.length_singleton]at this;omega
    subst hi2;rw[hk1]at he';obtain rfl:=avC he';rw[avR (Nat.le_refl _),Nat.sub_self]at hx;exact(avC hx).symm
  ·by_cases e0:j=m
   ·subst e0;obtain rfl:e=e':=avC (he.symm.trans he');refine⟨⟨?_,fun n hn=>?_⟩,⟨?_,fun n hn=>?_⟩⟩
    ·rw[n1];show -((s.kids++[e]).length:Int)≤(s.seen.length:Int)+1∧(s.seen.length:Int)+1≤((s.kids++[e]).length:Int);rw[avJ,h.len,List.length_singleton];omega
    ·rw[n1];exact(zH hk1 n).symm
    ·rw[n2];show -((s.kids++[e]).length:Int)≤0-((s.seen.length:Int)+1)∧0-((s.seen.length:Int)+1)≤((s.kids++[e]).length:Int);rw[avJ,h.len,List.length_singleton];omega
    ·rw[n2];exact(zI hk1 n).symm
   ·obtain⟨g1,g2⟩:=h.ok j e' (by omega) he' hu;obtain⟨o1,o2⟩:=old' ((s.seen.length:Int)+1) { s with seen:=s.seen++[bN (aK p.bools.length) p.bools.length e],kids:=s.kids++[e] } rfl rfl rfl j (by omega);exact⟨g1.more o1 rfl,g2.more o2 rfl⟩
 ·rw[if_neg hk];obtain⟨n1,n2⟩:=new' (fF (bN (aK p.bools.length) p.bools.length e) (notM (aK p.bools.length) (bN (aK p.bools.length) p.bools.length e)) 0 s.seen) s rfl rfl;have sp:=BK rfl hk;generalize fF (bN (aK p.bools.length) p.bools.length e) (notM (aK p.bools.length) (bN (aK p.bools.length) p.bools.length e)) 0 s.seen=k at *;obtain⟨w1,i1⟩:=sI hH.b5 e
  have hval:∃ (j:Nat) (e2:aq),s.kids[j]?=some e2∧((k=(j:Int)+1∧∀ n,n<2^p.bools.length→jN p.bools.length n e=jN p.bools.length n e2)∨(k=0-((j:Int)+1)∧∀ n,n<2^p.bools.length→jN p.bools.length n e=!jN p.bools.length n e2)):=by
   rcases sp with⟨j,h1,h2⟩|⟨j,h1,h2⟩
   ·have hj:=(avF.1 h2).1;obtain⟨e2,he2⟩:∃ e2,s.kids[j]?=some e2:=⟨_,avM (by rw[h.len];exact hj)⟩;refine⟨j,e2,he2,.inl ⟨by omega,fun n hn=>?_⟩⟩;have ht:=h.tab j _ e2 h2 he2;have hi:=i1 n;rw[ht,(sI hH.b5 e2).2 n,decide_eq_true hn,Bool.true_and,Bool.true_and]at hi;exact hi.symm
   ·have hj:=(avF.1 h2).1;obtain⟨e2,he2⟩:∃ e2,s.kids[j]?=some e2:=⟨_,avM (by rw[h.len];exact hj)⟩;refine⟨j,e2,he2,.inr ⟨by omega,fun n hn=>?_⟩⟩;have ht:=h.tab j _ e2 h2 he2;have hi:=Fq hH.b5 w1 n;rw[ht,(sI hH.b5 e2).2 n,i1 n,decide_eq_true hn,Bool.true_and,Bool.true_and,Bool.true_and]at hi;rw[hi,Bool.not_not]
  obtain⟨j2,e2,he2,hv⟩:=hval;have hj2:=(avF.1 he2).1;refine⟨lo' _ _ rfl rfl rfl,h.len,h.tab,fun j e' hj he' hu=>?_⟩;by_cases e0:j=m
  ·subst e0;obtain rfl:e=e':=avC (he.symm.trans he');refine⟨⟨?_,fun n hn=>?_⟩,⟨?_,fun n hn=>?_⟩⟩
   ·rw[n1];show -(s.kids.length:Int)≤k∧k≤(s.kids.length:Int);rcases hv with⟨a,-⟩|⟨a,-⟩<;>omega
   ·rw[n1];show _=E_ p.bools.length s.kids k n;rcases hv with⟨rfl,a⟩|⟨rfl,a⟩
    ·rw[zH he2];exact a n hn
    ·rw[zI he2];exact a n hn
   ·rw[n2];show -(s.kids.length:Int)≤0-k∧0-k≤(s.kids.length:Int);rcases hv with⟨a,-⟩|⟨a,-⟩<;>omega
   ·rw[n2];show(!_)=E_ p.bools.length s.kids (0-k) n;rcases hv with⟨rfl,a⟩|⟨rfl,a⟩
    ·rw[zI he2,a n hn]
    ·rw[show(0:Int)-(0-((j2:Int)+1))=(j2:Int)+1 by omega,zH he2,a n hn,Bool.not_not]
  ·obtain⟨g1,g2⟩:=h.ok j e' (by omega) he' hu;obtain⟨o1,o2⟩:=old' k s rfl rfl rfl j (by omega);exact⟨g1.more (m:=[]) o1 (List.append_nil _).symm,g2.more (m:=[]) o2 (List.append_nil _).symm⟩
theorem YE{p:aC}(hH:j_ p):∀ m,m≤p.conds.length→YW p m (bn p m)
 | 0,_=>⟨fun _ _=>⟨rfl,rfl,rfl⟩,rfl,fun i x e h=>(by cases h),fun j e h=>absurd h (Nat.not_lt_zero j)⟩
 | m+1,hm=>by
  obtain⟨e,he⟩:∃ e,p.conds[m]?=some e:=⟨_,avM (by omega)⟩;rw[jg he];exact(YE hH m (by omega)).step hH he
end Go.Proofs.YtdcofoaihmongaaGreat
namespace Go.Proofs.YtdcofoaihmongaaGreat
open Go Go.RowKit Go.Shelf Go.Sort
theorem bY.len(x:bY):x.cells.length=7:=rfl
theorem bY.one(x:bY):∀ v∈x.cells,v.oneCell'=true:=fun v hv=>by simp[bY.cells]at hv;rcases hv with rfl|rfl|rfl|rfl|rfl|rfl|rfl<;>rfl
end Go.Proofs.YtdcofoaihmongaaGreat
namespace Go.Proofs.YtdcofoaihmongaaGreat
open Go Go.RowKit Go.Sort Go.WideMaps
theorem Ua{w w':World}{base:Nat}{e:TypeId}{k n:Nat}{v:Value}{xs:List Value}(h:w.ownsRow base e k v n xs)(hb:∀ g,v.ownBlock=some g→w'.heap[g]?=w.heap[g]?):w'.ownsRow base e k v n xs:=
 ⟨h.1,h.2.imp id fun⟨g,cap,cur,hv,hg,hh,r⟩=>⟨g,cap,cur,hv,hg,(hb g (by rw[hv];rfl)).trans hh,r⟩⟩
theorem Ub{w:World}{base:Nat}{e:TypeId}{k n:Nat}{v:Value}{xs:List Value}(h:w.ownsRow base e k v n xs){g:Nat}(hg:v.ownBlock=some g):base≤g∧∃ cur,w.heap[g]?=some (.cells cur e (0,0)):=by
 rcases h.2 with⟨rfl,_⟩|⟨g',cap,cur,rfl,hb,hh,_⟩
 ·simp[Value.ownBlock]at hg
 ·have e1:g'=g:=by simpa[Value.ownBlock] using hg
  subst e1;exact⟨hb,cur,hh⟩
theorem Below.OT{w w':World}{r B:Nat}(h:w.grownBy w' (some r))(hr:B≤r)(hB:B≤w.heap.size)(hs:w'.heap.size=w.heap.size):Below B w w':=
 ⟨h.os,h.tape,h.output,by omega,fun k hk=>h.block k (by omega) (fun e=>by cases e;omega)⟩
theorem DR(E:List (cI×bB))(p:cI×bB):sW (E++[p])=sW E++(if nz p then [mkE p.1 p.2] else []):=by
 unfold sW;rw[List.filter_append,avT];congr 1;cases h:nz p<;>simp[h]
theorem IV(E:List (cI×bB)):(sW E).length≤E.length:=by unfold sW;rw[avO];exact List.length_filter_le _ _
structure R6 (w wr:World) (mb r:Nat) (D E:List (cI×bB)) (left:List (Value×Value)) (u:Value):Prop where
 perm:(D.map lN).Perm (left++E.map lN)
 row:wr.ownsRow w.heap.size 94 7 u (sW E).length ((sW E).flatMap bY.cells)
 rng:eA wr Tryz.prog 113 mb r (D.map lN) left
 Pu:Below w.heap.size w wr
 mlt:mb<w.heap.size
 rle:w.heap.size≤r
structure G8 (w wr:World) (mb r:Nat) (D E:List (cI×bB)) (p:cI×bB) (left:List (Value×Value)) (u:Value):Prop where
 perm:(D.map lN).Perm (left++(E++[p]).map lN)
 row:wr.ownsRow w.heap.size 94 7 u (sW E).length ((sW E).flatMap bY.cells)
 rng:eA wr Tryz.prog 113 mb r (D.map lN) left
 Pu:Below w.heap.size w wr
 mlt:mb<w.heap.size
 rle:w.heap.size≤r
theorem eA.iter{P:Program}{k:TypeId}{w:World}{b r:Nat}{D left:List (Value×Value)}(h:eA w P k b r D left):∃ x y z t,w.heap[r]?=some (.mapIter x y z t):=by
 obtain⟨es,clock,since,seen,c0,_,_,_,_,hr,_⟩:=h;exact⟨_,_,_,_,hr⟩
theorem R6.small{w wr:World}{mb r:Nat}{D E:List (cI×bB)}{left:List (Value×Value)}{u:Value}(h:R6 w wr mb r D E left u):(sW E).length≤D.length:=by
 have:=h.perm.length_eq;simp at this;have:=IV E;omega
theorem G8.small{w wr:World}{mb r:Nat}{D E:List (cI×bB)}{p:cI×bB}{left:List (Value×Value)}{u:Value}(h:G8 w wr mb r D E p left u):(sW E).length+1≤D.length:=by
 have:=h.perm.length_eq;simp at this;have:=IV E;omega
theorem R6.next{w wr wn:World}{mb r:Nat}{D E:List (cI×bB)}{p:cI×bB}{left left':List (Value×Value)}{u:Value}(h:R6 w wr mb r D E left u)(hp:left.Perm (lN p::left'))
 (hr:eA wn Tryz.prog 113 mb r (D.map lN) left') (hg:wr.grownBy wn (some r)) (hs:wn.heap.size=wr.heap.size):G8 w wn mb r D E p left' u:=by
 refine⟨?_,Ua h.row fun g hg'=>?_,hr,h.Pu.trans (Below.OT hg h.rle h.Pu.size hs),h.mlt,h.rle⟩
 ·refine h.perm.trans ((hp.append_right _).trans ?_);rw[avT,List.map_singleton,← List.append_assoc];exact(List.perm_append_singleton _ _).symm
 ·obtain⟨_,cur,hh⟩:=Ub h.row hg';refine hg.block g (Array.getElem?_eq_some_iff.1 hh).1 (fun e=>?_);cases e;obtain⟨x,y,z,t,hi⟩:=h.rng.iter;rw[hi]at hh;cases hh
theorem G8.own{w wn w6:World}{mb r:Nat}{D E:List (cI×bB)}{p:cI×bB}{left:List (Value×Value)}{u:Value}(h:G8 w wn mb r D E p left u)(hb:Below wn.heap.size wn w6):w6.ownsRow w.heap.size 94 7 u (sW E).length ((sW E).flatMap bY.cells):=gE hb h.row (Nat.le_refl _)
theorem G8.skip{w wn w6:World}{mb r:Nat}{D E:List (cI×bB)}{p:cI×bB}{left:List (Value×Value)}{u:Value}(h:G8 w wn mb r D E p left u)(hz:nz p=false)(hb:Below wn.heap.size wn w6):R6 w w6 mb r D (E++[p]) left u:=
 ⟨h.perm,by rw[DR,hz];simpa using h.own hb,h.rng.kept (hb.block _ h.rng.map.lt) (hb.block _ h.rng.lt),h.Pu.trans (hb.mono h.Pu.size),h.mlt,h.rle⟩
theorem G8.more{w wn w6 w7:World}{mb r:Nat}{D E:List (cI×bB)}{p:cI×bB}{left:List (Value×Value)}{u u':Value}{o:Obj}(h:G8 w wn mb r D E p left u)(hz:nz p=true)(hb:Below wn.heap.size wn w6)
 (hown:w7.ownsRow w.heap.size 94 7 u' ((sW E).length+1) ((sW E).flatMap bY.cells++bY.cells (mkE p.1 p.2))) (hg:(w6.alloc o).grownBy w7 u.ownBlock):R6 w w7 mb r D (E++[p]) left u':=by
 have hrow:=h.own hb;have hb1:=hb.alloc (avG (Nat.le_refl _) hb.size) o;have hR:=h.rng.kept (hb1.block _ h.rng.map.lt) (hb1.block _ h.rng.lt);have hbw:Below w.heap.size w (w6.alloc o):=h.Pu.trans (hb1.mono h.Pu.size)
 have hne:∀ g,u.ownBlock=some g→w.heap.size≤g∧g≠r:=fun g hg'=>by
  obtain⟨h1,cur,hh⟩:=Ub (rz hrow o) hg';refine⟨h1,fun e=>?_⟩;subst e;obtain⟨x,y,z,t,hi⟩:=hR.iter;rw[hi]at hh;cases hh
 refine⟨h.perm,?_,hR.kept (hg.block _ hR.map.lt fun e=>?_) (hg.block _ hR.lt fun e=>(hne _ e.symm).2 rfl),hbw.grown hg (by have:=hb.size;have:=h.Pu.size;simp;omega) (fun q hq=>(hne q hq).1),h.mlt,h.rle⟩
 ·rw[DR,hz];simpa using hown
 ·have:=(hne _ e.symm).1;have:=h.mlt;omega
def kvs(l:List bY):List (cI×bB):=l.map fun e=>(e.key,e.aap)
def afw(l:List bY):cI→bB:=accum (kvs l)
structure PK (w wr:World) (mb i:Nat) (l:List bY):Prop where
 map:mG wr mb i (afw (l.take i))
 Pu:Below w.heap.size w wr
 new:w.heap.size≤mb
theorem PK.start(w w':World)(l:List bY)(mb:Nat)(hm:mG w' mb 0 (fun _=>bB.zero))(hb:Below w.heap.size w w')(h:w.heap.size≤mb):PK w w' mb 0 l:=⟨by simpa[afw,kvs,RZ] using hm,hb,h⟩
structure aj.Wf (r:aj):Prop where
 ok:r.Ok
 kind:iR r.kind
 cls:iR r.cls
 cond:iR r.cond
 perms:PG r.perms
def T2(r:aj)(p:Nat×Nat):cI:=⟨p.1,p.2,r.cls,r.cond⟩
def qj(r:aj)(P:List (Nat×Nat)):List (cI×bB):=P.map fun p=>(T2 r p,Dx r.kind r.perms)
def kvR(l:List aj):List (cI×bB):=l.flatMap fun r=>qj r r.pairs
theorem UF{l:List aj}{i:Nat}{r:aj}(h:l[i]?=some r):kvR (l.take (i+1))=kvR (l.take i)++qj r r.pairs:=by
 unfold kvR;rw[bw h,avS,List.flatMap_singleton]
theorem T6{r:aj}{p:Nat×Nat}(h:p∈r.pairs):p.1<256∧p.2<256:=by
 unfold aj.pairs aj.dg at h;obtain⟨s,hs,hp⟩:=List.mem_flatMap.1 h;obtain⟨t,ht,rfl⟩:=avx.1 hp;simp[elems,cG]at hs ht;exact⟨hs.1,ht.1⟩
theorem aj.Wf.key{r:aj}(h:r.Wf){p:Nat×Nat}(hp:p∈r.pairs):(T2 r p).Ok:=by
 have:=T6 hp;exact⟨⟨by show _≤(p.1:Int);omega,by show(p.1:Int)<_;omega⟩,⟨by show _≤(p.2:Int);omega,by show(p.2:Int)<_;omega⟩,h.cls,h.cond⟩
theorem aj.Wf.vec{r:aj}(h:r.Wf):(Dx r.kind r.perms).Ok:=by
 have h0:PG 0:=⟨by decide,by decide⟩;unfold Dx;split
 ·exact⟨h.perms,h0,h0⟩
 ·split
  ·exact⟨h0,h.perms,h0⟩
  ·split
   ·exact⟨h0,h0,h.perms⟩
   ·exact⟨h0,h0,h0⟩
theorem mG.more{w:World}{mb n m:Nat}{f:cI→bB}(h:mG w mb n f)(hm:n≤m):mG w mb m f:=by
 obtain⟨D,h1,h2,h3,h4⟩:=h.ex;exact⟨D,h1,h2,h3,by omega⟩
theorem NC{L M:List (cI×bB)}(hM:∀ p∈M,p.2=bB.zero)(hL:∀ k,(accum L k).Ok):accum (L++M)=accum L:=by
 induction M generalizing L with
 | nil=>simp
 | cons p M ih=>
  have e:L++p::M=(L++[p])++M:=by simp
  have h1:accum (L++[p])=accum L:=by
   rw[CF]
   funext x
   unfold aas;split
   ·rename_i hx;subst hx;rw[hM p (by simp),bB.or_zero (hL _)]
   ·rfl
  rw[e,ih (fun q hq=>hM q (by simp[hq])) (by rw[h1];exact hL),h1]
theorem ND(L:List (cI×bB))(k:cI)(v:bB):accum (L++[(k,v)])=fun x=>if x=k then (accum L k).or v else accum L x:=by rw[CF];rfl
theorem YC{w:World}{b o:Nat}{u:Value}(h:w.cell? ⟨b,o,none⟩=some u):b<w.heap.size:=by
 obtain⟨c,e,fr,h1,-⟩:=cells_of_cell? h;exact(Array.getElem?_eq_some_iff.1 h1).1
structure Expand (w wr:World) (mb:Nat) (M:List (cI×bB)):Prop where
 map:mG wr mb M.length (accum M)
 Pu:avy w.heap.size w wr
 new:w.heap.size≤mb
theorem Expand.keep{w wr w':World}{mb:Nat}{M:List (cI×bB)}(h:Expand w wr mb M)(hb:avy wr.heap.size wr w'):Expand w w' mb M:=
 ⟨h.map.kept (hb.block _ h.map.lt),h.Pu.trans (hb.mono h.Pu.size),h.new⟩
theorem Expand.skip{w wr w':World}{mb i:Nat}{l:List aj}{r:aj}(h:Expand w wr mb (kvR (l.take i)))(hr:l[i]?=some r)(hz:Dx r.kind r.perms=bB.zero)(hb:avy wr.heap.size wr w'):Expand w w' mb (kvR (l.take (i+1))):=by
 obtain⟨h1,h2,h3⟩:=h.keep hb;refine⟨?_,h2,h3⟩;rw[UF hr,NC (fun p hp=>?_) (fun k=>h1.val k)]
 ·exact h1.more (by simp)
 ·obtain⟨q,-,rfl⟩:=avx.1 hp;exact hz
structure WJ (w wr:World) (mb rb vb:Nat) (r:aj) (V:bB) (pa:Option Addr) (pn pc:Nat) (L:List (cI×bB)) (j:Nat):Prop where
 exp:Expand w wr mb (L++qj r (r.pairs.take j))
 rule:Whole wr rb 56 #[.int .i64 r.kind,.int .u64 r.src.a,.int .u64 r.src.b,.int .u64 r.src.c,.int .u64 r.src.d,.int .u64 r.tgt.a,.int .u64 r.tgt.b,.int .u64 r.tgt.c,.int .u64 r.tgt.d,.bool r.self,.int .i64 r.cls,.int .u32 r.perms,.int .i64 r.cond]
 vec:Whole wr vb 107 #[.int .u32 V.allow,.int .u32 V.kH,.int .u32 V.dont]
 cell:∀ i,i<r.pairs.length→∃ b off,pa=some ⟨b,off,none⟩∧∀ j u,(f_ r.pairs)[i*2+j]?=some u→wr.cell? ⟨b,off+i*2+j,none⟩=some u
 rne:rb≠mb
 vne:vb≠mb
 pne:∀ b off,pa=some ⟨b,off,none⟩→b≠mb
theorem WJ.step{w wq w6 wx w7:World}{mb rb vb m:Nat}{r:aj}{V:bB}{pa:Option Addr}{pn pc:Nat}{L:List (cI×bB)}{j:Nat}{y:Nat×Nat}{f:cI→bB}(h:WJ w wq mb rb vb r V pa pn pc L j)(hf:f=accum (L++qj r (r.pairs.take j))∧V=Dx r.kind r.perms)(hm:m=(L++qj r (r.pairs.take j)).length)
 (hb:avy wq.heap.size wq w6) (hb2:avy w6.heap.size w6 wx) (hM:mG w7 mb (m+1) (fun x=>if x=T2 r y then (f (T2 r y)).or V else f x)) (hg:wx.grownBy w7 (some mb)) (hs:w7.heap.size=wx.heap.size) (hy:r.pairs[j]?=some y):WJ w w7 mb rb vb r V pa pn pc L (j+1):=by
 obtain⟨rfl,rfl⟩:=hf;have vG:avy wq.heap.size wq wx:=hb.trans (hb2.mono hb.size)
 have e:L++qj r (r.pairs.take (j+1))=(L++qj r (r.pairs.take j))++[(T2 r y,Dx r.kind r.perms)]:=by
  unfold qj;rw[bw hy,avT,List.map_singleton,List.append_assoc]
 have k:=h.exp.keep vG;refine⟨⟨?_,?_,k.new⟩,?_,?_,?_,h.rne,h.vne,h.pne⟩
 ·rw[e,ND,avJ,List.length_singleton,← hm];exact hM
 ·exact k.Pu.trans (Below.OT hg k.new k.Pu.size hs)
 ·exact(Whole.under vG h.rule h.rule.lt).grown hg (fun e=>h.rne (by cases e;rfl))
 ·exact(Whole.under vG h.vec h.vec.lt).grown hg (fun e=>h.vne (by cases e;rfl))
 ·intro i hi;obtain⟨b,off,hpa,hc⟩:=h.cell i hi;refine⟨b,off,hpa,fun j u hu=>?_⟩;have h1:=cell_later vG (hc j u hu);have hlt:=YC (hc j u hu);rw[← h1];exact World.cell?_of_block (hg.block b (by have:=vG.size;exact Nat.lt_of_lt_of_le hlt this) (fun e=>h.pne b off hpa (by cases e;rfl)))
end Go.Proofs.YtdcofoaihmongaaGreat
namespace Go.Proofs.YtdcofoaihmongaaGreat
open Go Go.RowKit
theorem aj.yN.wf{r:aj}(h:r.yN):r.Wf:=⟨⟨h.src,h.tgt⟩,h.kind,h.cls,h.cond,h.perms⟩
def GN(l:List aj)(kind cls:Int)(s t b:Nat):Prop:=∃ r∈l,r.kind=kind∧r.cls=cls∧(s,t)∈r.pairs∧ib r.perms b=true
def G4(l l':List aj):Prop:=∀ (kind cls:Int) (s t b:Nat),s<256→t<256→(GN l kind cls s t b↔GN l' kind cls s t b)
theorem G4.trans{a b c:List aj}(h:G4 a b)(k:G4 b c):G4 a c:=fun _ _ _ _ _ hs ht=>(h _ _ _ _ _ hs ht).trans (k _ _ _ _ _ hs ht)
structure CS0 (s:ox):Prop where
 pE:s.pE 0=none
 ev:s.ev 0=none
 nv:s.nv 0=none
theorem adt{α:Type}{f:Int→Option α}{k:Int}{v:α}(h:f 0=none)(hk:k≠0):eB f k v 0=none:=by
 unfold eB;rw[if_neg fun e=>hk e.symm];exact h
theorem Tl{α:Type}{f:Int→Option α}{i:Nat}{a b:α}(h:f 0=none):eB (eB f ((i:Int)+1) a) (0-((i:Int)+1)) b 0=none:=adt (adt h (by omega)) (by omega)
theorem Pr{i:Nat}{k:Int}{s:ox}(h:CS0 s):CS0 (cW i k s):=⟨(by show eB (eB s.pE ((i:Int)+1) k) (0-((i:Int)+1)) (0-k) 0=none;exact Tl h.pE),h.ev,h.nv⟩
theorem YA(p:aC)(i:Nat)(e:aq){s:ox}(h:CS0 s):CS0 (ct p i e s):=by
 unfold ct;split
 ·exact⟨h.pE,(by dsimp only;exact Tl h.ev),(by dsimp only;exact Tl h.nv)⟩
 ·split
  ·exact h
  ·dsimp only;split
   ·exact Pr ⟨h.pE,h.ev,h.nv⟩
   ·exact Pr h
theorem J4(p:aC):∀ (l:List aq) (i:Nat) (s:ox),CS0 s→CS0 (jC p i l s)
 | [],_,_,h=>h
 | e::l,i,_,h=>J4 p l (i+1) _ (YA p i e h)
theorem Pv(p:aC)(n:Nat):bH (bn p n) 0=(0,true):=by
 have h:CS0 (bn p n):=J4 p _ 0 cs0 ⟨rfl,rfl,rfl⟩;unfold bH;rw[h.ev,h.pE,h.nv];rfl
theorem Ao{k:Int}:∀ (l:List aj) (f:Int→Option Bool),f k=some true→mJ l f k=some true
 | [],_,h=>h
 | y::l,f,h=>by
  show mJ l (eB f (eF y.cond) true) k=some true;refine Ao l _ ?_;by_cases e:k=eF y.cond
  ·rw[e];exact eY
  ·rw[iV e];exact h
theorem DB{r:aj}:∀ {l:List aj} (f:Int→Option Bool),r∈l→mJ l f (eF r.cond)=some true
 | y::l,f,h=>by
  show mJ l (eB f (eF y.cond) true) (eF r.cond)=some true;rcases avD.1 h with rfl|h
  ·exact Ao l _ eY
  ·exact DB _ h
theorem sK{k:Int}:∀ (l:List bM) (f:Int→Option Bool),f k=some true→nF l f k=some true
 | [],_,h=>h
 | y::l,f,h=>by
  show nF l (eB f (eF y.cond) true) k=some true;refine sK l _ ?_;by_cases e:k=eF y.cond
  ·rw[e];exact eY
  ·rw[iV e];exact h
theorem DA{r:bM}:∀ {l:List bM} (f:Int→Option Bool),r∈l→nF l f (eF r.cond)=some true
 | y::l,f,h=>by
  show nF l (eB f (eF y.cond) true) (eF r.cond)=some true;rcases avD.1 h with rfl|h
  ·exact sK l _ eY
  ·exact DA _ h
theorem Dz{p:aC}{r:aj}(h:r∈p.rules):(fI p (eF r.cond)).getD false=true:=by
 unfold fI;rw[sK _ _ (DB _ h)];rfl
theorem Dy{p:aC}{r:bM}(h:r∈p.trans):(fI p (eF r.cond)).getD false=true:=by
 unfold fI;rw[DA _ h];rfl
theorem oQ{p:aC}(hH:j_ p){k:Int}(hb:-(p.conds.length:Int)≤k∧k≤p.conds.length)(hu:(fI p (eF k)).getD false=true):
 (-((bn p p.conds.length).kids.length:Int)≤(bH (bn p p.conds.length) k).1∧(bH (bn p p.conds.length) k).1≤(bn p p.conds.length).kids.length) ∧
 ∀ n,n<2^p.bools.length→E_ p.bools.length p.conds k n=((bH (bn p p.conds.length) k).2&&E_ p.bools.length (bn p p.conds.length).kids (bH (bn p p.conds.length) k).1 n):=by
 have hI:=YE hH p.conds.length (Nat.le_refl _);by_cases h0:k=0
 ·subst h0;rw[Pv];exact⟨⟨by simp,by simp⟩,fun n _=>by rw[uH,uH];rfl⟩
 obtain⟨j,hj⟩:∃ j:Nat,k=(j:Int)+1∨k=0-((j:Int)+1):=by
  rcases Int.lt_or_lt_of_ne h0 with h|h
  ·exact⟨(0-k-1).toNat,.inr (by omega)⟩
  ·exact⟨(k-1).toNat,.inl (by omega)⟩
 have hlt:j<p.conds.length:=by omega
 obtain⟨e,he⟩:∃ e,p.conds[j]?=some e:=⟨_,avM hlt⟩;have ha:eF k=(j:Int)+1:=by unfold eF;split<;>omega
 rw[ha]at hu;obtain⟨g1,g2⟩:=hI.ok j e hlt he hu;rcases hj with rfl|rfl
 ·exact⟨g1.bd,fun n hn=>by rw[zH he];exact g1.val n hn⟩
 ·exact⟨g2.bd,fun n hn=>by rw[zI he];exact g2.val n hn⟩
theorem mU.tL{p:aC}(h:mU p)(hH:j_ p):mU (aQ p):=by
 refine⟨h.bools,fun r hr=>?_,fun r hr=>?_,fun e he=>h.conds e (rJ e he),fun r hr=>?_,fun y hy=>?_⟩
 ·obtain⟨x,hx,rfl⟩:=Kk hr;have:=h.rv x hx;exact⟨this.kind,this.cls,this.perms,this.pairs⟩
 ·obtain⟨x,hx,rfl⟩:=Kk hr;intro h4;have hc:=h.four x hx h4;show(bH _ x.cond).1=0;rw[hc,Pv]
 ·obtain⟨x,hx,rfl⟩:=Kk hr;exact(oQ hH (h.om x hx) (Dz hx)).1
 ·obtain⟨x,hx,rfl⟩:=Wk hy;exact(oQ hH (h.pz x hx) (Dy hx)).1
theorem JF{T C:Nat}{on on':aj→Bool}{f:aj→Option aj}:∀ (l:List aj) (out:List Int),(∀ r∈l,(f r=none∧on r=false)∨∃ k,f r=some { r with cond:=k }∧on' { r with cond:=k }=on r)→iw T C on' out (l.filterMap f)=iw T C on out l
 | [],_,_=>rfl
 | r::l,out,h=>by
  have ih:=fun out=>JF (T:=T) (C:=C) l out fun x hx=>h x (avA _ hx)
  rw[List.filterMap_cons];rcases h r (avN ..) with⟨h1,h2⟩|⟨k,h1,h2⟩
  ·rw[h1];show iw T C on' out (l.filterMap f)=iw T C on (if on r=true then _ else out) l;rw[ih,h2,if_neg (by decide)]
  ·rw[h1];show iw T C on' (if on' { r with cond:=k }=true then sS T C { r with cond:=k } out r.pairs else out) (l.filterMap f)=iw T C on (if on r=true then sS T C r out r.pairs else out) l;rw[ih,h2];rfl
theorem Mv{p:aC}(h:mU p)(hH:j_ p):nW (aQ p)=nW p:=by
 have h':=h.tL hH;unfold nW;show(List.range (2^p.bools.length)).map (C8 (aQ p))=_;refine List.map_congr_left fun n hn=>?_
 rw[List.mem_range]at hn;rw[TP h',TP h];refine JF _ _ fun r hr=>?_
 have hv:=(oQ hH (h.om r hr) (Dz hr)).2 n hn;unfold cR
 cases hb:(bH (bn p p.conds.length) r.cond).2 with
 | false=>
  rw[hb,Bool.false_and]at hv;exact .inl ⟨if_neg (by decide),hv⟩
 | true=>
  rw[hb,Bool.true_and]at hv;exact .inr ⟨_,if_pos rfl,hv.symm⟩
theorem H_{p:aC}(h:mU p){k:Int}(hk:-(p.conds.length:Int)≤k∧k≤p.conds.length):iU p k=(List.range (2^p.bools.length)).map fun i=>E_ p.bools.length p.conds k i:=by
 unfold iU;refine List.map_congr_left fun i _=>Y9 h.conds hk
theorem Ik{p:aC}(h:mU p)(hH:j_ p):iI (aQ p)=iI p:=by
 have h':=h.tL hH;unfold iI;show(p.trans.filterMap (cT (bn p p.conds.length))).filterMap (p8 (aQ p))=_;rw[List.filterMap_filterMap];refine JJ _ fun y hy=>?_
 obtain⟨b1,b2⟩:=oQ hH (h.pz y hy) (Dy hy);unfold cT
 have hw:iU p y.cond=(List.range (2^p.bools.length)).map fun i=>((bH (bn p p.conds.length) y.cond).2&&E_ p.bools.length (bn p p.conds.length).kids (bH (bn p p.conds.length) y.cond).1 i):=by
  rw[H_ h (h.pz y hy)];exact List.map_congr_left fun i hi=>b2 i (List.mem_range.1 hi)
 cases hb:(bH (bn p p.conds.length) y.cond).2 with
 | false=>
  rw[if_neg (by decide)];unfold p8;rw[hw,hb,if_neg]
  ·rfl
  ·simp
 | true=>
  rw[if_pos rfl];show p8 (aQ p) _=_
  have hw2:iU (aQ p) (bH (bn p p.conds.length) y.cond).1=iU p y.cond:=by
   rw[hw,hb,H_ h' (p:=aQ p) b1];rfl
  unfold p8;dsimp only;rw[hw2]
theorem IC{p:aC}(h:mU p)(hH:j_ p):TH p (aQ p)=true:=by
 unfold TH;rw[show lZ (aQ p)=lZ p from rfl,Ik h hH,Mv h hH,uh];simp
theorem j_.tL{p:aC}(h:j_ p):j_ (aQ p):=⟨h.b5,fun e he=>h.con e (rJ e he)⟩
structure R7 (p:aC):Prop where
 hI:∀ b∈p.bools,iK b.name=true∧dF b.name
 hd:(p.bools.map (·.name)).Nodup
 b5:p.bools.length≤5
 c0:∀ e∈p.conds,dB p.bools.length e=0
theorem R7.lv{p:aC}(h:R7 p){e:aq}(he:e∈p.conds):bA 13 e≤12:=by
 have:=h.c0 e he;unfold dB at this;split at this
 ·cases this
 ·omega
theorem R7.cond{p:aC}(h:R7 p){e:aq}(he:e∈p.conds):eD p.bools.length e:=by
 have:=h.c0 e he;unfold dB at this;split at this
 ·cases this
 ·exact Cn e this
theorem R7.be{p:aC}(h:R7 p){e:aq}(he:e∈p.conds):eX 12 (aI p.bools e)∧∀ s∈bh (aI p.bools e),s∈p.bools.map (·.name):=nO h.hI (h.cond he) 12 (h.lv he)
theorem R7.ZW{p:aC}(h:R7 p):j_ p:=⟨h.b5,fun _ he=>F3 h.hI h.hd h.b5 (h.cond he) (h.lv he)⟩
theorem abV{p:aC}(h:Ky p)(hok:p.Ok):R7 p:=by
 refine⟨wZ h hok,Ed h,avG h.bools (by decide),fun e he=>?_⟩;have hc:=h.check;unfold nk at hc;split at hc
 case isFalse hne=>exact absurd hc hne
 rw[j4]at hc;have hr:iu p=0:=hc _ (by simp);unfold iu at hr;split at hr
 ·cases hr
 split at hr
 case isFalse _ hne=>exact absurd hr hne
 rename_i _ qB;rw[fJ]at qB;obtain⟨i,hi⟩:=List.getElem?_of_mem he;have:=qB i (avB _) (by have:=(avF.1 hi).1;omega);unfold lW at this;rw[hi]at this;exact this
theorem RE{n:Nat}{e:aq}(h:eD n e):∀ k∈e.kids,eD n k:=by
 cases h with
 | bool _ _=>exact fun _ h=>by cases h
 | not h=>exact fun k hk=>by rw[avI.1 hk];exact h
 | bin _ _ h1 h2=>
  intro k hk;rcases avD.1 hk with rfl|hk
  ·exact h1
  ·rw[avI.1 hk];exact h2
theorem Wg{n:Nat}{e:aq}(h:eD n e):e.op=1→0≤e.a∧e.a<n:=by
 cases h with
 | bool h0 h1=>exact fun _=>⟨h0,h1⟩
 | not h=>exact fun h=>absurd (show(2:Int)=1 from h) (by decide)
 | @bin op _ _ _ _ _ _ _ h1 h2 _ _=>exact fun h=>by have h3:op=1:=h;omega
theorem RB{n:Nat}{e:aq}(h:eD n e):e.kids.length≤2:=by
 cases h with
 | bool _ _=>exact avB _
 | not h=>exact Nat.le_succ _
 | bin _ _ _ _=>exact Nat.le_refl _
theorem Hy(p:aC):∀ (e:aq) (w0:World) (cs:List Value),bf w0 cs e→eD p.bools.length e→∀ (c0 c1 c2 c3 c4 c5 c6 c7 c8 c9 aV aP aO aU aT aS aR:Value),aM w0 c0 c1 c2 c3 c4 c5 c6 c7 c8 c9 aV aP aO aU aT aS aR p→Calls Tryz.prog 237 #[.agg cs.toArray,.agg #[c0,c1,c2,c3,c4,c5,c6,c7,c8,c9,aV,aP,aO,aU,aT,aS,aR]] w0 (fun(r:Ending) (w':World)=>∃ v,r=.returned v∧(vu w0 (aI p.bools e) v w'∧avy w0.heap.size w0 w')):=by
 refine aq.ind fun e ih=>?_
 intro w0 cs hE hC c0 c1 c2 c3 c4 c5 c6 c7 c8 c9 aV aP aO aU aT aS aR hp;have hkl:=RB hC;obtain⟨nv,kv,rfl,C9,hkv⟩:=hE.open;obtain⟨_,_,rfl,-⟩:=aF.get C9;obtain⟨_,_,rfl,-,hkm,-⟩:=au.form hkv (by decide);obtain⟨_,_,_,_,_,_,_,_,_,_,_,_,_,_,_,_,_,_,_,_,_,_,_,_,_,_,_,_,_,_,_,_,_,_,rfl,rfl,rfl,rfl,rfl,rfl,rfl,rfl,rfl,rfl,rfl,rfl,rfl,rfl,rfl,rfl,rfl⟩:=hp.open;refine cL [] (fn:=Tryz.f237) Tryz.func237 rfl Tryz.ntmps237 rfl<|fun g1 w1 M1=>fun g2 w2 M2=>ei<|an rM fun g3 w3 M3=>lb 2<|an rfl<|an (fun h=>?_) fun h=>?_
 ·have h1:e.op=1:=by simpa using h
  obtain⟨h2,h3⟩:=Wg hC h1;obtain⟨y,hy⟩:∃ y,p.bools[e.a.toNat]?=some y:=⟨_,avM (by omega)⟩;obtain⟨b,o,e1,hc⟩:=SliceAt.elt hp.bools (fun _=>rfl) (by decide) hy (by omega);rw[OU h1 (k:=e.a.toNat) (by omega) (by omega) hy];exact sp [0,1,2,3,4,5,6,7,8] (.step 9 (.step 10 (.last 11))) [0,1] (by kernel_rfl)<|lb 0<|an rfl<|lb 1<|an rfl<|lb 0<|an rfl<|ia<|an ⟨e1,(Int.toNat_of_nonneg h2).symm,by omega⟩<|lc (x:=.string y.name)<|an (fun u hu=>cF hu hc 0 _ rfl)<|fun w hb M=>fun g w M=>an rfl<|ei (x:=.agg #[.int .i64 e.op,.int .i64 0,.int .i64 0,.int .i64 0,.slice (some ⟨g,0,none⟩) 1 1,.int .u64 0,.int .u64 0,.int .u64 0,.int .u64 0,.slice none 0 0])<|an (bd (by kernel_rfl))<|an rfl<|lb 1<|an ⟨rfl,rfl⟩ fun w M=>ei (x:=1)<|an rfl fun M=>⟨_,rfl,⟨_,_,_,_,[⟨.slice none 0 0,89,10,0,[]⟩,⟨.slice (some ⟨g,0,none⟩) 1 1,9,1,1,[.string y.name]⟩],rfl,bV.node (es:=[]) rfl rfl (avA _ (avI.2 rfl)) (avN ..) rfl (by simp) (by simp),((M.Ct 1 1 (by simp[maxLen]) rfl).bC 89 10).dV⟩,M.below⟩
 have h1:e.op≠1:=by simpa using h
 rw[Ui (fun h'=>h1 h'.1)];refine lb 2<|an rfl<|ei (x:=.agg #[.int .i64 e.op,.int .i64 0,.int .i64 0,.int .i64 0,.slice none 0 0,.int .u64 0,.int .u64 0,.int .u64 0,.int .u64 0,.slice none 0 0])<|an (bd (by kernel_rfl))<|ei<|an rM fun g5 w5 M5=>lb 0<|an ⟨rfl,rfl⟩ fun w6 M6=>?_
 refine lp (ι:=Nat×Value×List (List Value)×List Rw) (fun(m,u,es,T)=>[(6,.int .i64 (m:Int))]) (fun(m,u,es,T)=>(g5,89,#[.int .i64 e.op,.int .i64 0,.int .i64 0,.int .i64 0,.slice none 0 0,.int .u64 0,.int .u64 0,.int .u64 0,.int .u64 0,u])::_) (fun(m,u,es,T)=>⟨u,89,10,m,es.flatten⟩::⟨.slice none 0 0,9,1,0,[]⟩::T) (fun(m,u,es,T) _=>m≤e.kids.length∧es.length=m∧(∀ x∈es,x.length=10)∧∀ (i:Nat) x y,es[i]?=some x→(e.kids.map (aI p.bools))[i]?=some y→bV T x y) (fun(m,u,es,T)=>e.kids.length-m) (0,.slice none 0 0,[],[]) (an ⟨⟨rfl,trivial⟩,fun M=>⟨(M.bC 9 1).bC 89 10,avB _,rfl,(fun _ h=>by cases h),fun i x y h=>by simp at h⟩⟩ ?_);rintro⟨m,u,es,T⟩ w M ⟨hm,hl,he,hR⟩;refine lb 3<|an rfl<|an (fun h=>?_) fun h=>?_
 ·have hlt:m<e.kids.length:=by simp at h;omega
  obtain⟨y,hy⟩:∃ y,e.kids[m]?=some y:=⟨_,avM hlt⟩;have qz:=avL hy;obtain⟨b,o,_,e1,qF,hc⟩:=au.elt hkv (by decide) hy;obtain⟨_,_,rfl,hn',hk'⟩:=qF.open;obtain⟨_,_,rfl,-⟩:=aF.get hn';obtain⟨_,_,rfl,-⟩:=au.form hk' (by decide);refine sp [0,1,2,3,4,5,6,7,11] (.step 8 (.step 9 (.step 10 (.last 12)))) [0,1,3] (by kernel_rfl)<|lb 2<|an rfl<|lb 0<|an rfl<|ia<|an ⟨e1,rfl,hlt⟩<|lc<|an (fun u hu=>cF hu hc)<|lb 1<|an rfl<|fun w9 Zv M9=>cg<|an (ih y qz _ _ (qF.keep M9.below) (RE hC y qz) _ _ _ _ _ _ _ _ _ _ _ _ _ _ _ _ _ (hp.keep M9.below)) fun v tS ⟨⟨na,nc,ka,kc,T9,hv,D9,Fx⟩,zh⟩=>⟨_,_,M9.dS zh Fx,?_⟩
  subst hv;exact an rfl<|fun g7 Dw M11=>an rfl<|KJ 0 id rfl (M11.slice 0 rfl (k:=10) (n:=1) rfl rfl (by simp[maxLen])) ⟨by unfold maxLen;omega,by omega⟩ fun va vc He Dr=>an rfl<|lb 1<|an ⟨rfl,rfl⟩ fun KE vI=>an (by omega)<|bk (m+1,.slice va (m+1) vc,es++[[.int .i64 (aI p.bools y).op,.int .i64 (aI p.bools y).a,.int .i64 (aI p.bools y).rel,.int .i64 (aI p.bools y).b,.slice na (aI p.bools y).names.length nc,.int .u64 (aI p.bools y).set.a,.int .u64 (aI p.bools y).set.b,.int .u64 (aI p.bools y).set.c,.int .u64 (aI p.bools y).set.d,.slice ka (aI p.bools y).kids.length kc]],T++T9) ⟨rfl,trivial⟩ (fun M=>⟨(M.only (.cons _ (.refl _)) (.refl _)).cast rfl (by dsimp only;rw[← fP];rfl),by omega,by rw[avJ,hl];rfl,i_ he rfl,q_ (R:=bV) (fun _ _ _ _ hs h=>bV.mono hs h) hl hR (Uj hy) (fun r hr=>avH.2 (.inl hr)) (D9.mono fun r hr=>avH.2 (.inr hr))⟩) (by dsimp only;omega)
 obtain rfl:m=e.kids.length:=by simp at h;omega
 obtain⟨x1,y1,rfl⟩:=M.form 0 rfl;refine lb 0<|an rfl<|lb 1<|an ⟨rfl,rfl⟩ fun w M=>ei (x:=1)<|an rfl fun M=>⟨_,rfl,⟨none,0,x1,y1,_,(by rw[show(aq.node e.op 0 0 0 [] ay.zero (e.kids.map (aI p.bools))).kids.length=e.kids.length from avO ..];rfl),?_,M.dV⟩,M.below⟩
 rw[show(aq.node e.op 0 0 0 [] ay.zero (e.kids.map (aI p.bools))).kids.length=e.kids.length from avO ..];exact bV.node (names:=[]) (set:=ay.zero) (es:=es) rfl rfl (avA _ (avN ..)) (by rw[avO];exact avN ..) (by rw[avO];exact hl) he fun i x y h1 h2=>(hR i x y h1 h2).mono fun r hr=>avA _ (avA _ hr)
theorem EU(p:aC)(e:aq)(w0:World)(cs:List Value)(hE:bf w0 cs e)(h0:dB p.bools.length e=0)(hC:eD p.bools.length e)(c0 c1 c2 c3 c4 c5 c6 c7 c8 c9 aV aP aO aU aT aS aR:Value)(hp:aM w0 c0 c1 c2 c3 c4 c5 c6 c7 c8 c9 aV aP aO aU aT aS aR p):Calls Tryz.prog 180 #[.agg cs.toArray,.agg #[c0,c1,c2,c3,c4,c5,c6,c7,c8,c9,aV,aP,aO,aU,aT,aS,aR]] w0 (fun(r:Ending) (w':World)=>∃ v,r=.returned v∧(vu w0 (aI p.bools e) v w'∧avy w0.heap.size w0 w')):=by
 have hE0:=hE;obtain⟨nv,kv,rfl,C9,hkv⟩:=hE0.open;obtain⟨_,_,rfl,-⟩:=aF.get C9;obtain⟨_,_,rfl,-,hkm,-⟩:=au.form hkv (by decide);have wV:=hp;obtain⟨_,_,_,_,_,_,_,_,_,_,_,_,_,_,_,_,_,_,_,_,_,_,_,_,_,_,_,_,_,_,_,_,_,_,rfl,rfl,rfl,rfl,rfl,rfl,rfl,rfl,rfl,rfl,rfl,rfl,rfl,rfl,rfl,rfl,rfl⟩:=hp.open;have hcall:=fun w hb=>sH e w _ _ _ _ _ _ _ _ _ _ _ _ _ _ _ _ _ _ p (wV.keep (w':=w) hb) (hE.keep hb)
 rw[h0]at hcall;refine cL [] (fn:=Tryz.f180) Tryz.func180 rfl Tryz.ntmps180 rfl<|fun g1 w1 M1=>fun g2 w2 M2=>ei<|an rM fun g3 w3 M3=>lb 1<|an rfl<|lb 2<|an rfl<|cl<|an (hcall _ M3.below) fun w4 M4=>an (fun h=>by simp at h) fun _=>lb 2<|an rfl<|lb 1<|an rfl<|cg<|an (Hy p e _ _ (hE.keep M4.below) hC _ _ _ _ _ _ _ _ _ _ _ _ _ _ _ _ _ (wV.keep M4.below)) fun v w5 ⟨⟨na,nc,ka,kc,T9,hv,D9,Fx⟩,CR⟩=>⟨_,_,M4.dS CR Fx,?_⟩
 subst hv;exact lb 0<|an ⟨rfl,rfl⟩ fun w M=>ei (x:=0)<|an rfl fun M=>⟨_,rfl,⟨_,_,_,_,T9,rfl,D9,M.dV⟩,M.below⟩
theorem qw{p:aC}(hk:R7 p){e:aq}(he:e∈p.conds)(w0:World)(cs:List Value)(hE:bf w0 cs e)(c0 c1 c2 c3 c4 c5 c6 c7 c8 c9 aV aP aO aU aT aS aR:Value)(hp:aM w0 c0 c1 c2 c3 c4 c5 c6 c7 c8 c9 aV aP aO aU aT aS aR p):Calls Tryz.prog 90 #[.agg #[c0,c1,c2,c3,c4,c5,c6,c7,c8,c9,aV,aP,aO,aU,aT,aS,aR],.agg cs.toArray] w0 (fun(r:Ending) (w':World)=>∃ v,r=.returned v∧(vu w0 (aI p.bools e) v w'∧avy w0.heap.size w0 w')):=by
 have hE0:=hE;obtain⟨nv,kv,rfl,C9,hkv⟩:=hE0.open;obtain⟨_,_,rfl,-⟩:=aF.get C9;obtain⟨_,_,rfl,-,hkm,-⟩:=au.form hkv (by decide);have wV:=hp;obtain⟨_,_,_,_,_,_,_,_,_,_,_,_,_,_,_,_,_,_,_,_,_,_,_,_,_,_,_,_,_,_,_,_,_,_,rfl,rfl,rfl,rfl,rfl,rfl,rfl,rfl,rfl,rfl,rfl,rfl,rfl,rfl,rfl,rfl,rfl⟩:=hp.open;refine cL [] (fn:=Tryz.f90) Tryz.func90 rfl Tryz.ntmps90 rfl<|fun g1 w1 M1=>fun g2 w2 M2=>ei<|an rM fun g3 w3 M3=>lb 1<|an rfl<|lb 2<|an rfl<|cg<|an (EU p e _ _ (hE.keep M3.below) (hk.c0 e he) (hk.cond he) _ _ _ _ _ _ _ _ _ _ _ _ _ _ _ _ _ (wV.keep M3.below)) fun v w5 ⟨⟨na,nc,ka,kc,T9,hv,D9,Fx⟩,CR⟩=>⟨_,_,M3.dS CR Fx,?_⟩
 subst hv;exact lb 0<|an ⟨rfl,rfl⟩ fun w M=>ei (x:=0)<|an rfl fun M=>⟨_,rfl,⟨_,_,_,_,T9,rfl,D9,M.dV⟩,M.below⟩
theorem S7{B:Nat}(hB:B≤5)(a b:aq):bN (aK B) B a=bN (aK B) B b↔∀ n,n<2^B→jN B n a=jN B n b:=by
 obtain⟨wa,ia⟩:=sI hB a;obtain⟨wb,ib'⟩:=sI hB b;constructor
 ·intro h n hn;have h1:=ia n;rw[h,ib' n,decide_eq_true hn,Bool.true_and,Bool.true_and]at h1;exact h1.symm
 ·intro h;refine Fu wa.1 wb.1 fun r=>?_
  rw[ia,ib'];by_cases hr:r<2^B
  ·rw[h r hr]
  ·rw[decide_eq_false hr,Bool.false_and,Bool.false_and]
theorem SZ{B:Nat}(hB:B≤5)(a b:aq):bN (aK B) B a=notM (aK B) (bN (aK B) B b)↔∀ n,n<2^B→jN B n a=!jN B n b:=by
 obtain⟨wa,ia⟩:=sI hB a;obtain⟨wb,ib'⟩:=sI hB b;have hn:=Fq hB wb;constructor
 ·intro h n hlt;have h1:=ia n;rw[h,hn n,ib' n,decide_eq_true hlt,Bool.true_and,Bool.true_and,Bool.true_and]at h1;exact h1.symm
 ·intro h;refine Fu wa.1 (dN _ _ _).1 fun r=>?_
  rw[ia,hn,ib'];by_cases hr:r<2^B
  ·rw[h r hr,decide_eq_true hr];simp
  ·rw[decide_eq_false hr,Bool.false_and,Bool.false_and]
theorem Yz(B i:Nat):zi B (nQ B i)=nQ B i:=by
 unfold zi
 conv=>rhs;unfold nQ
 refine List.map_congr_left fun k hk=>?_
 have hk:=List.mem_range.1 hk;have h2:=V9 (n:=B) (i:=i) (a:=(k:Int)) (by omega) (by omega);rw[← show(k:Int).toNat=k from Int.toNat_natCast k];unfold WW nQ;rw[avP,List.getElem?_range (by omega)];simp
theorem Oc{n i:Nat}{e:aq}(h:eD n e):gu (nQ n i) e=jN n i e:=by rw[← Tk h,Yz]
theorem AX{p:aC}(hk:R7 p){x y:aq}(hx:x∈p.conds)(hy:y∈p.conds)(w0:World)(cs cs':List Value)(hE:bf w0 cs x)(hE':bf w0 cs' y)(c0 c1 c2 c3 c4 c5 c6 c7 c8 c9 aV aP aO aU aT aS aR:Value)(hp:aM w0 c0 c1 c2 c3 c4 c5 c6 c7 c8 c9 aV aP aO aU aT aS aR p):Calls Tryz.prog 182 #[.agg #[c0,c1,c2,c3,c4,c5,c6,c7,c8,c9,aV,aP,aO,aU,aT,aS,aR],.agg cs.toArray,.agg cs'.toArray] w0 (fun(r:Ending) (w':World)=>r=.returned (.bool (decide (bN (aK p.bools.length) p.bools.length x=notM (aK p.bools.length) (bN (aK p.bools.length) p.bools.length y))))∧avy w0.heap.size w0 w'):=by
 have CR:=hk.b5;rw[decide_eq_decide.2 (SZ CR x y)];have hcx:=hk.cond hx;have hcy:=hk.cond hy;have hE0:=hE;obtain⟨_,_,rfl,-⟩:=hE0.open;have hE0:=hE';obtain⟨_,_,rfl,-⟩:=hE0.open;have wV:=hp;obtain⟨_,_,_,_,_,_,_,_,_,_,_,_,_,_,_,_,_,_,_,_,_,_,_,_,_,_,_,_,_,_,_,_,_,_,rfl,rfl,rfl,rfl,rfl,rfl,rfl,rfl,rfl,rfl,rfl,rfl,rfl,rfl,rfl,rfl,rfl⟩:=hp.open;have Q7:=P7 _ (show p.bools.length≤10 by omega);refine cL [] (fn:=Tryz.f182) Tryz.func182 rfl Tryz.ntmps182 rfl<|fun g1 w1 M1=>fun g2 w2 M2=>fun g3 w3 M3=>lr (ι:=Nat) (fun m=>[(7,.int .i64 (m:Int))]) (fun m _=>m≤2^p.bools.length∧∀ n,n<m→jN p.bools.length n x=!jN p.bools.length n y) (fun m=>2^p.bools.length-m) 0 (an ⟨⟨rfl,trivial⟩,fun M=>⟨M,avB _,fun n h=>absurd h (Nat.not_lt_zero n)⟩⟩ ?_)
 intro m w M ⟨hm,hI⟩;refine lb 2<|an rfl<|ei (x:=.int .i64 ((2^p.bools.length:Nat):Int))<|an (fun a w o ho hv=>?_)<|an (fun h=>?_) fun h M=>⟨?_,M.below⟩
 ·have:=j5 (P:=Tryz.prog) (w:=w) ho (kB hv) (qX hv) (by omega) (by simp[IntKind.bits];omega);rw[this,EW (by omega)]
 ·have hlt:m<2^p.bools.length:=by simp only[decide_eq_true_eq]at h;omega
  refine lb 2<|an rfl<|cg<|an (A_ _ _ _ _ _ _ _ _ _ _ _ _ _ _ _ _ _ _ p m (wV.keep M.below) (by omega)) fun u w4 ⟨hS4,hb4⟩=>⟨_,_,M.keep hb4,?_⟩
  refine dr (by kernel_rfl)<|lb 1<|an rfl<|cl<|an (fun w' hb' M'=>pR x _ _ _ _ (hE.keep M'.below) (hS4.keep hb'))<|lb 0<|an rfl<|cl<|an (fun w' hb' M'=>pR y _ _ _ _ (hE'.keep M'.below) (hS4.keep hb'))<|fun w5 aoI M5=>?_
  rw[Oc hcx,Oc hcy];refine an (fun h2 M=>⟨?_,M.below⟩) fun h2=>an (by omega)<|bk (m+1) ⟨rfl,trivial⟩ (fun M=>⟨M,by omega,fun n hn=>?_⟩) (by dsimp only;omega)
  ·rw[decide_eq_false (fun H=>by have:=H m hlt;rw[this]at h2;cases hv:jN p.bools.length m y<;>simp[hv]at h2)];rfl
  ·by_cases e:n=m
   ·subst e;cases h3:jN p.bools.length n x<;>cases h4:jN p.bools.length n y<;>simp[h3,h4]at h2 ⊢
   ·exact hI n (by omega)
 ·rw[decide_eq_true (fun n hn=>hI n (by simp only[decide_eq_false_iff_not]at h;omega))];rfl
theorem Am{k:Int}:∀ (l:List aj) (f:Int→Option Bool),((mJ l f k).getD false=true↔(f k).getD false=true∨∃ r∈l,eF r.cond=k)
 | [],f=>by simp[mJ]
 | y::l,f=>by
  have ih:=Am (k:=k) l (eB f (eF y.cond) true);rw[show mJ (y::l) f=mJ l (eB f (eF y.cond) true) from rfl,ih];by_cases e:k=eF y.cond
  ·rw[e,eY];simp
  ·rw[iV e];have e':¬ eF y.cond=k:=fun h=>e h.symm
   simp[e']
theorem Al{k:Int}:∀ (l:List bM) (f:Int→Option Bool),((nF l f k).getD false=true↔(f k).getD false=true∨∃ r∈l,eF r.cond=k)
 | [],f=>by simp[nF]
 | y::l,f=>by
  have ih:=Al (k:=k) l (eB f (eF y.cond) true);rw[show nF (y::l) f=nF l (eB f (eF y.cond) true) from rfl,ih];by_cases e:k=eF y.cond
  ·rw[e,eY];simp
  ·rw[iV e];have e':¬ eF y.cond=k:=fun h=>e h.symm
   simp[e']
theorem pU{p:aC}{k:Int}:(fI p k).getD false=true↔(∃ r∈p.rules,eF r.cond=k)∨∃ t∈p.trans,eF t.cond=k:=by
 unfold fI;rw[Al,Am];simp
theorem mo{c:Int}{i:Nat}:eF c=(i:Int)+1↔c=(i:Int)+1∨c=0-((i:Int)+1):=by
 unfold eF;split<;>omega
theorem Ls(w0:World)(c0 c1 c2 c3 c4 c5 c6 c7 c8 c9 aV aP aO aU aT aS aR:Value)(p:aC)(hp:aM w0 c0 c1 c2 c3 c4 c5 c6 c7 c8 c9 aV aP aO aU aT aS aR p)(i:Nat)(hi:i≤100000)(hcR:∀ r∈p.rules,-1000000≤r.cond∧r.cond≤1000000)(hcT:∀ r∈p.trans,-1000000≤r.cond∧r.cond≤1000000):Calls Tryz.prog 91 #[.agg #[c0,c1,c2,c3,c4,c5,c6,c7,c8,c9,aV,aP,aO,aU,aT,aS,aR],.int .i64 (i:Int)] w0 (fun(r:Ending) (w':World)=>r=.returned (.bool ((fI p ((i:Int)+1)).getD false))∧avy w0.heap.size w0 w'):=by
 have wV:=hp;obtain⟨_,_,-,-,hmR,-⟩:=SliceAt.form wV.rules (by decide);obtain⟨_,_,-,-,hmT,-⟩:=SliceAt.form wV.trans (by decide);obtain⟨_,_,_,_,_,_,_,_,_,_,_,_,_,_,_,_,_,_,_,_,_,_,_,_,_,_,_,_,_,_,_,_,_,_,rfl,rfl,rfl,rfl,rfl,rfl,rfl,rfl,rfl,rfl,rfl,rfl,rfl,rfl,rfl,rfl,rfl⟩:=hp.open;refine cL [] (fn:=Tryz.f91) Tryz.func91 rfl Tryz.ntmps91 rfl<|fun g1 w1 M1=>lr (ι:=Nat) (fun m=>[(5,.int .i64 (m:Int))]) (fun m _=>m≤p.rules.length∧∀ j r,j<m→p.rules[j]?=some r→eF r.cond≠(i:Int)+1) (fun m=>p.rules.length-m) 0 (an ⟨⟨rfl,trivial⟩,fun M=>⟨M,avB _,fun j r h=>absurd h (Nat.not_lt_zero j)⟩⟩ ?_)
 intro m w M ⟨hm,hI⟩;refine lb 0<|an rfl<|an (fun h=>?_) fun h=>?_
 ·have hlt:m<p.rules.length:=by simp at h;omega
  obtain⟨y,hy⟩:∃ y,p.rules[m]?=some y:=⟨_,avM hlt⟩;obtain⟨b,o,e,hc⟩:=SliceAt.elt wV.rules (fun _=>rfl) (by decide) hy hlt;have qz:=avL hy;have hcy:=hcR y qz;refine lb 0<|an rfl<|ia<|an ⟨e,rfl,hlt⟩<|lc (x:=.int .i64 y.cond)<|an (cF M.below hc 12 _ rfl)<|an (by omega)<|lb 0<|an (fun _=>rfl)<|ia<|an (fun _=>⟨e,rfl,hlt⟩)<|lc (x:=.int .i64 y.cond)<|an (fun _=>cF M.below hc 12 _ rfl)<|an (fun _=>by omega)<|an (fun _=>by omega)<|an (fun h2 M=>⟨rb ?_,M.below⟩) fun h2=>an (by omega)<|bk (m+1) ⟨rfl,trivial⟩ (fun M=>⟨M,by omega,fun j r h3 h4=>?_⟩) (by dsimp only;omega)
  ·exact pU.2 (.inl ⟨y,qz,(mo (i:=i)).2 (by simp only[Bool.or_eq_true,decide_eq_true_eq]at h2;omega)⟩)
  ·by_cases ej:j=m
   ·subst ej;obtain rfl:y=r:=avC (hy.symm.trans h4);rw[Ne,mo];simp only[Bool.or_eq_false_iff,decide_eq_false_iff_not]at h2;omega
   ·exact hI j r (by omega) h4
 obtain rfl:m=p.rules.length:=by simp at h;omega
 refine lr (ι:=Nat) (fun m=>[(6,.int .i64 (m:Int))]) (fun m _=>m≤p.trans.length∧∀ j r,j<m→p.trans[j]?=some r→eF r.cond≠(i:Int)+1) (fun m=>p.trans.length-m) 0 (an ⟨⟨rfl,trivial⟩,fun M=>⟨M,avB _,fun j r h=>absurd h (Nat.not_lt_zero j)⟩⟩ ?_);intro m w M ⟨hm,hI2⟩;refine lb 0<|an rfl<|an (fun h=>?_) fun h=>?_
 ·have hlt:m<p.trans.length:=by simp at h;omega
  obtain⟨y,hy⟩:∃ y,p.trans[m]?=some y:=⟨_,avM hlt⟩;obtain⟨b,o,e,hc⟩:=SliceAt.elt wV.trans (fun _=>rfl) (by decide) hy hlt;have qz:=avL hy;have hcy:=hcT y qz;refine lb 0<|an rfl<|ia<|an ⟨e,rfl,hlt⟩<|lc (x:=.int .i64 y.cond)<|an (cF M.below hc 12 _ rfl)<|an (by omega)<|lb 0<|an (fun _=>rfl)<|ia<|an (fun _=>⟨e,rfl,hlt⟩)<|lc (x:=.int .i64 y.cond)<|an (fun _=>cF M.below hc 12 _ rfl)<|an (fun _=>by omega)<|an (fun _=>by omega)<|an (fun h2 M=>⟨rb ?_,M.below⟩) fun h2=>an (by omega)<|bk (m+1) ⟨rfl,trivial⟩ (fun M=>⟨M,by omega,fun j r h3 h4=>?_⟩) (by dsimp only;omega)
  ·exact pU.2 (.inr ⟨y,qz,(mo (i:=i)).2 (by simp only[Bool.or_eq_true,decide_eq_true_eq]at h2;omega)⟩)
  ·by_cases ej:j=m
   ·subst ej;obtain rfl:y=r:=avC (hy.symm.trans h4);rw[Ne,mo];simp only[Bool.or_eq_false_iff,decide_eq_false_iff_not]at h2;omega
   ·exact hI2 j r (by omega) h4
 obtain rfl:m=p.trans.length:=by simp at h;omega
 refine fun M=>⟨rb ?_,M.below⟩
 symm
 cases hu:(fI p ((i:Int)+1)).getD false with
 | false=>rfl
 | true=>
  exfalso;rcases pU.1 hu with⟨r,hr,h1⟩|⟨r,hr,h1⟩
  ·obtain⟨j,hj⟩:=List.getElem?_of_mem hr;exact hI j r (avF.1 hj).1 hj h1
  ·obtain⟨j,hj⟩:=List.getElem?_of_mem hr;exact hI2 j r (avF.1 hj).1 hj h1
abbrev G9:=Bool×Bool×Int
def ZJ(f:G9):List Value:=[.bool f.1,.bool f.2.1,.int .i64 f.2.2]
def XG(f:G9):Int×Bool:=if f.1=true then (0,f.2.1) else (f.2.2,true)
def XT(f:G9):Int×Bool:=if f.1=true then (0,!f.2.1) else (0-f.2.2,true)
def WV(L:List G9)(k:Int):Int×Bool:=
 if k=0 then (0,true) else if k<0 then ((L[(0-k-1).toNat]?).map XT).getD (0,true) else ((L[(k-1).toNat]?).map XG).getD (0,true)
abbrev bS (p:aC) (e:aq):Int:=bN (aK p.bools.length) p.bools.length e
def qH(p:aC)(m:Nat)(e:aq)(s:ox):G9:=
 if (fG (aI p.bools e)||lX (aI p.bools e))=true then (true,fG (aI p.bools e),0)
 else if (fI p ((m:Int)+1)).getD false=false then (false,false,0)
 else if fF (bS p e) (notM (aK p.bools.length) (bS p e)) 0 s.seen=0 then (false,false,(s.seen.length:Int)+1) else (false,false,fF (bS p e) (notM (aK p.bools.length) (bS p e)) 0 s.seen)
def jA(p:aC):Nat→List G9
 | 0=>[]
 | m+1=>match p.conds[m]? with
  | some e=>jA p m++[qH p m e (bn p m)]
  | none=>jA p m
theorem jy{p:aC}{m:Nat}{e:aq}(he:p.conds[m]?=some e):jA p (m+1)=jA p m++[qH p m e (bn p m)]:=by rw[jA,he]
theorem rI{p:aC}{m:Nat}{e:aq}{s:ox}{k:Int}(h1:k≠(m:Int)+1)(h2:k≠0-((m:Int)+1)):bH (ct p m e s) k=bH s k:=by
 unfold ct;split
 ·exact iM rfl (by dsimp only;exact fK h1 h2) (by dsimp only;exact fK h1 h2)
 ·split
  ·rfl
  ·dsimp only;split
   ·exact iM (by unfold cW;dsimp only;exact fK h1 h2) rfl rfl
   ·exact iM (by unfold cW;dsimp only;exact fK h1 h2) rfl rfl
theorem Jg{m:Nat}{s:ox}{k0:Int}(hl1:s.ev ((m:Int)+1)=none∧s.nv ((m:Int)+1)=none)(hl2:s.ev (0-((m:Int)+1))=none∧s.nv (0-((m:Int)+1))=none):bH (cW m k0 s) ((m:Int)+1)=(k0,true)∧bH (cW m k0 s) (0-((m:Int)+1))=(0-k0,true):=by
 have hmm:(m:Int)+1≠0-((m:Int)+1):=by omega
 constructor
 ·unfold bH;rw[show(cW m k0 s).ev ((m:Int)+1)=none from hl1.1,show(cW m k0 s).nv ((m:Int)+1)=none from hl1.2,show(cW m k0 s).pE ((m:Int)+1)=some k0 by unfold cW;dsimp only;rw[iV hmm,eY]];rfl
 ·unfold bH;rw[show(cW m k0 s).ev (0-((m:Int)+1))=none from hl2.1,show(cW m k0 s).nv (0-((m:Int)+1))=none from hl2.2,show(cW m k0 s).pE (0-((m:Int)+1))=some (0-k0) by unfold cW;dsimp only;rw[eY]];rfl
theorem Eh{p:aC}{m:Nat}{e:aq}{s:ox}(hl1:s.pE ((m:Int)+1)=none∧s.ev ((m:Int)+1)=none∧s.nv ((m:Int)+1)=none)(hl2:s.pE (0-((m:Int)+1))=none∧s.ev (0-((m:Int)+1))=none∧s.nv (0-((m:Int)+1))=none):bH (ct p m e s) ((m:Int)+1)=XG (qH p m e s)∧bH (ct p m e s) (0-((m:Int)+1))=XT (qH p m e s):=by
 have hmm:(m:Int)+1≠0-((m:Int)+1):=by omega
 unfold ct qH;by_cases hc:(fG (aI p.bools e)||lX (aI p.bools e))=true
 ·rw[if_pos hc,if_pos hc];generalize fG (aI p.bools e)=A;constructor
  ·unfold bH;simp only[iV hmm,eY,hl1.1];cases A<;>rfl
  ·unfold bH;simp only[eY,hl2.1];cases A<;>rfl
 rw[if_neg hc,if_neg hc];by_cases hu:(fI p ((m:Int)+1)).getD false=false
 ·rw[if_pos hu,if_pos hu];constructor
  ·unfold bH;rw[hl1.1,hl1.2.1,hl1.2.2];rfl
  ·unfold bH;rw[hl2.1,hl2.2.1,hl2.2.2];rfl
 rw[if_neg hu,if_neg hu];dsimp only;by_cases hk:fF (bS p e) (notM (aK p.bools.length) (bS p e)) 0 s.seen=0
 ·rw[if_pos hk,if_pos hk];exact Jg (s:={ s with seen:=s.seen++[bS p e],kids:=s.kids++[e] }) hl1.2 hl2.2
 ·rw[if_neg hk,if_neg hk];exact Jg hl1.2 hl2.2
theorem abX{p:aC}(hH:j_ p):∀ m,m≤p.conds.length→(jA p m).length=m∧∀ (j:Nat) (f:G9),(jA p m)[j]?=some f→bH (bn p m) ((j:Int)+1)=XG f∧bH (bn p m) (0-((j:Int)+1))=XT f
 | 0,_=>⟨rfl,fun j f h=>by simp[jA]at h⟩
 | m+1,hm=>by
  obtain⟨e,he⟩:∃ e,p.conds[m]?=some e:=⟨_,avM (by omega)⟩;obtain⟨i1,i2⟩:=abX hH m (by omega);have lo:=(YE hH m (by omega)).lo;refine⟨by rw[jy he,avJ,i1];rfl,fun j f hj=>?_⟩;rw[jy he]at hj;rw[jg he];by_cases hjm:j<m
  ·rw[avQ (by omega)]at hj;obtain⟨b1,b2⟩:=i2 j f hj;rw[rI (by omega) (by omega),rI (by omega) (by omega)];exact⟨b1,b2⟩
  ·have hj2:j=m:=by
    have:=(avF.1 hj).1;rw[avJ,i1,List.length_singleton]at this;omega
   subst hj2;rw[avR (by omega),i1,Nat.sub_self]at hj;obtain rfl:=avC hj;exact Eh (lo _ (by omega)) (lo _ (by omega))
theorem acs{p:aC}(hH:j_ p){k:Int}(hk:-(p.conds.length:Int)≤k∧k≤p.conds.length):WV (jA p p.conds.length) k=bH (bn p p.conds.length) k:=by
 obtain⟨i1,i2⟩:=abX hH p.conds.length (Nat.le_refl _);unfold WV;by_cases h0:k=0
 ·rw[if_pos h0,h0,Pv]
 rw[if_neg h0];by_cases h1:k<0
 ·rw[if_pos h1];obtain⟨f,hf⟩:∃ f,(jA p p.conds.length)[(0-k-1).toNat]?=some f:=⟨_,avM (by omega)⟩;rw[hf];have:=(i2 _ f hf).2;rw[show(0:Int)-(((0-k-1).toNat:Int)+1)=k by omega]at this;exact this.symm
 ·rw[if_neg h1];obtain⟨f,hf⟩:∃ f,(jA p p.conds.length)[(k-1).toNat]?=some f:=⟨_,avM (by omega)⟩;rw[hf];have:=(i2 _ f hf).1;rw[show((k-1).toNat:Int)+1=k by omega]at this;exact this.symm
theorem FZ{p:aC}:∀ m,m≤p.conds.length→(bn p m).seen=(bn p m).kids.map (bS p)
 | 0,_=>rfl
 | m+1,hm=>by
  obtain⟨e,he⟩:∃ e,p.conds[m]?=some e:=⟨_,avM (by omega)⟩;have ih:=FZ (p:=p) m (by omega);rw[jg he];unfold ct;split
  ·exact ih
  ·split
   ·exact ih
   ·dsimp only;split
    ·show(bn p m).seen++[_]=((bn p m).kids++[e]).map (bS p);rw[ih,avT];rfl
    ·exact ih
theorem O_{p:aC}(h:p.conds.length≤1000):∀ m,m≤p.conds.length→(bn p m).kids.length≤m∧∀ f∈jA p m,-2000≤f.2.2∧f.2.2≤2000
 | 0,_=>⟨Nat.le_refl _,fun f hf=>by cases hf⟩
 | m+1,hm=>by
  obtain⟨e,he⟩:∃ e,p.conds[m]?=some e:=⟨_,avM (by omega)⟩;obtain⟨i1,i2⟩:=O_ h m (by omega);have hs:(bn p m).seen.length=(bn p m).kids.length:=by rw[FZ m (by omega),avO]
  constructor
  ·rw[jg he];unfold ct;split
   ·exact Nat.le_succ_of_le i1
   ·split
    ·exact Nat.le_succ_of_le i1
    ·dsimp only;split
     ·show((bn p m).kids++[e]).length≤m+1;rw[avJ];exact Nat.succ_le_succ i1
     ·exact Nat.le_succ_of_le i1
  ·intro f hf;rw[jy he,avH,avI]at hf;rcases hf with hf|rfl
   ·exact i2 f hf
   ·unfold qH;split
    ·exact⟨show(-2000:Int)≤0 by decide,show(0:Int)≤2000 by decide⟩
    ·split
     ·exact⟨show(-2000:Int)≤0 by decide,show(0:Int)≤2000 by decide⟩
     ·split
      ·exact⟨by dsimp only;omega,by dsimp only;omega⟩
      ·rename_i hk;have:=BK (x:=bS p e) (y:=notM (aK p.bools.length) (bS p e)) (l:=(bn p m).seen) (i:=0) rfl hk;rcases this with⟨j,h1,h2⟩|⟨j,h1,h2⟩
       all_goals
        have:=(avF.1 h2).1;exact⟨by dsimp only;omega,by dsimp only;omega⟩
theorem sF(w0:World)(v:Value)(L:List G9)(h0:SliceAt w0 v 3 L.length (L.flatMap ZJ))(hL:∀ f∈L,-2000≤f.2.2∧f.2.2≤2000)(hl:L.length≤1000)(k:Int)(hk:-(L.length:Int)≤k∧k≤L.length):Calls Tryz.prog 93 #[v,.int .i64 k] w0 (fun(r:Ending) (w':World)=>r=.returned (.tuple #[.int .i64 (WV L k).1,.bool (WV L k).2])∧avy w0.heap.size w0 w'):=by
 obtain⟨_,_,rfl,-⟩:=SliceAt.form h0 (by decide);refine cL [] (fn:=Tryz.f93) Tryz.func93 rfl Tryz.ntmps93 rfl<|an (fun h M=>⟨?_,M.below⟩) fun h=>an (fun h1=>?_) fun h1=>?_
 ·have h:k=0:=by simpa using h
  unfold WV;rw[if_pos h];rfl
 all_goals
  simp only[decide_eq_true_eq,decide_eq_false_iff_not]at h h1
 ·obtain⟨f,hf⟩:∃ f,L[(0-k-1).toNat]?=some f:=⟨_,avM (by omega)⟩;have hb:=hL f (avL hf);obtain⟨b,o,e,hc⟩:=SliceAt.elt h0 (fun _=>rfl) (by decide) hf (by omega)
  have hM:WV L k=XT f:=by
   unfold WV;rw[if_neg h,if_pos h1,hf];rfl
  rw[hM];obtain⟨x,y,z⟩:=f;refine an (by omega)<|an (by omega)<|ia (i:=(0-k-1).toNat)<|an ⟨e,by omega,by omega⟩<|lc<|an (cF (avy.refl _ _) hc)<|ei<|an SA fun g1 w1 M1=>lb 0<|an ⟨rfl,rfl⟩ fun w2 M2=>lb 0<|an rfl<|an (fun h2=>?_) fun h2=>?_
  ·have h2:x=true:=h2;subst h2;exact dr (by kernel_rfl)<|lb 0<|an rfl<|fun w hb M=>fun M=>⟨by cases y<;>rfl,M.below⟩
  ·have h2:x=false:=h2;subst h2;exact lb 0<|an rfl<|an (by dsimp only at hb ⊢;omega)<|fun M=>⟨congrArg (fun q:Int=>Ending.returned (.tuple #[.int .i64 q,.bool true])) (show -1*z=0-z by omega),M.below⟩
 ·obtain⟨f,hf⟩:∃ f,L[(k-1).toNat]?=some f:=⟨_,avM (by omega)⟩;have hb:=hL f (avL hf);obtain⟨b,o,e,hc⟩:=SliceAt.elt h0 (fun _=>rfl) (by decide) hf (by omega)
  have hM:WV L k=XG f:=by
   unfold WV;rw[if_neg h,if_neg h1,hf];rfl
  rw[hM];obtain⟨x,y,z⟩:=f;refine an (by omega)<|ia (i:=(k-1).toNat)<|an ⟨e,by omega,by omega⟩<|lc<|an (cF (avy.refl _ _) hc)<|ei<|an SA fun g1 w1 M1=>lb 0<|an ⟨rfl,rfl⟩ fun w2 M2=>lb 0<|an rfl<|an (fun h2=>?_) fun h2=>?_
  ·have h2:x=true:=h2;subst h2;exact dr (by kernel_rfl)<|lb 0<|an rfl<|fun w hb M=>fun M=>⟨by cases y<;>rfl,M.below⟩
  ·have h2:x=false:=h2;subst h2;exact lb 0<|an rfl<|an (by dsimp only at hb ⊢;omega)<|fun M=>⟨congrArg (fun q:Int=>Ending.returned (.tuple #[.int .i64 q,.bool true])) (show 1*z=z by omega),M.below⟩
theorem MN{p:aC}(hk:R7 p){e:aq}(he:e∈p.conds)(w0:World)(cs:List Value)(hE:bf w0 cs e)(c0 c1 c2 c3 c4 c5 c6 c7 c8 c9 aV aP aO aU aT aS aR:Value)(hp:aM w0 c0 c1 c2 c3 c4 c5 c6 c7 c8 c9 aV aP aO aU aT aS aR p)(kids:List aq)(aeC:∀ k∈kids,k∈p.conds)(kv:Value)(hkv:au 10 (bf w0) w0 kv kids)(hkl:kids.length≤1000):Calls Tryz.prog 92 #[.agg #[c0,c1,c2,c3,c4,c5,c6,c7,c8,c9,aV,aP,aO,aU,aT,aS,aR],kv,.agg cs.toArray] w0 (fun(r:Ending) (w':World)=>r=.returned (.int .i64 (fF (bS p e) (notM (aK p.bools.length) (bS p e)) 0 (kids.map (bS p))))∧avy w0.heap.size w0 w'):=by
 have CR:=hk.b5;have Ra:(p.bools.map (·.name)).length≤5:=by rw[avO];exact CR
 obtain⟨hBe,hne⟩:=hk.be he;have hE0:=hE;obtain⟨_,_,rfl,-⟩:=hE0.open;obtain⟨_,_,rfl,-⟩:=au.form hkv (by decide);have wV:=hp;obtain⟨_,_,_,_,_,_,_,_,_,_,_,_,_,_,_,_,_,_,_,_,_,_,_,_,_,_,_,_,_,_,_,_,_,_,rfl,rfl,rfl,rfl,rfl,rfl,rfl,rfl,rfl,rfl,rfl,rfl,rfl,rfl,rfl,rfl,rfl⟩:=hp.open;refine cL [] (fn:=Tryz.f92) Tryz.func92 rfl Tryz.ntmps92 rfl<|fun g1 w1 M1=>fun g2 w2 M2=>lb 1<|an rfl<|lb 0<|an rfl<|cg<|an (qw hk he _ _ (hE.keep M2.below) _ _ _ _ _ _ _ _ _ _ _ _ _ _ _ _ _ (wV.keep M2.below)) fun v w3 ⟨⟨na,nc,ka,kc,T9,hv,D9,Fx⟩,vG⟩=>⟨_,_,M2.dS vG Fx,?_⟩
 subst hv;refine ei<|an rM fun g3 w4 M4=>lb 0<|an ⟨rfl,rfl⟩ fun w5 M5=>lr (ι:=Nat) (fun m=>[(8,.int .i64 (m:Int))]) (fun m _=>m≤kids.length∧fF (bS p e) (notM (aK p.bools.length) (bS p e)) 0 (kids.map (bS p))=fF (bS p e) (notM (aK p.bools.length) (bS p e)) m ((kids.map (bS p)).drop m)) (fun m=>kids.length-m) 0 (an ⟨⟨rfl,trivial⟩,fun M=>⟨M,avB _,rfl⟩⟩ ?_)
 intro m w M ⟨hm,hI⟩;refine an (fun h=>?_) fun h M'=>⟨ri (hI.trans (O7 (by rw[avO];simp at h;omega))),M.below⟩
 have hlt:m<kids.length:=by simp at h;omega
 obtain⟨y,hy⟩:∃ y,kids[m]?=some y:=⟨_,avM hlt⟩;have U1:=aeC y (avL hy);obtain⟨hBy,hny⟩:=hk.be U1;obtain⟨b,o,_,e1,qF,hc⟩:=au.elt hkv (by decide) hy;obtain⟨nvy,kvy,rfl,hn',hk'⟩:=qF.open;obtain⟨_,_,rfl,-⟩:=aF.get hn';obtain⟨_,_,rfl,-⟩:=au.form hk' (by decide);have hw:(kids.map (bS p))[m]?=some (bS p y):=by rw[avP,hy];rfl
 have heq:Rv (aI p.bools y) (aI p.bools e)=decide (bS p y=bS p e):=by
  rw[decide_eq_decide.2 (S7 CR y e),eq_comm,Bool.eq_iff_iff,decide_eq_true_eq];exact(VZ hk.hI hk.hd (hk.cond U1) (hk.cond he) (hk.lv U1) (hk.lv he)).symm
 have hcall:=fun w' cs cs' h1 h2=>Kz Ra (aI p.bools y) (aI p.bools e) w' cs cs' h1 h2 hBy hBe (Nat.le_refl _) (Nat.le_refl _) hny hne
 rw[heq]at hcall;refine spk [(7,28,.tuple #[.bool (decide (bS p y=bS p e)),.int .i64 0])] [0,1,2,3,4,6,8,9,10] (.step 5 (.step 7 (.step 11 (.step 12 .done)))) [0,2] (by rfl) (by kernel_rfl)<|lb 0<|an rfl<|ia<|an ⟨e1,rfl,hlt⟩<|lc<|an (fun u hb=>cF hb hc)<|lb 1<|an rfl<|fun w6 Nb M6=>cg<|an (qw hk U1 _ _ (qF.keep M6.below) _ _ _ _ _ _ _ _ _ _ _ _ _ _ _ _ _ (wV.keep M6.below)) fun v w7 ⟨⟨na2,nc2,ka2,kc2,T7,hv,hT7,hR7⟩,hb7⟩=>⟨_,_,M6.keep hb7,?_⟩
 subst hv;have M7:=M6.keep hb7;refine an rfl<|cl<|an (hcall _ _ _ (bV.at_ hR7 hT7) (bV.at_ M7.dV D9)) fun w8 M8=>an rfl<|an rfl<|an rfl<|an rfl<|?_
 refine an (fun h1=>an (by omega) fun M=>⟨ri (hI.trans (ZH hw (by simpa using h1))),M.below⟩) fun h1=>?_
 have h1:bS p y≠bS p e:=by simpa using h1
 refine dr (by kernel_rfl)<|lb 2<|an rfl<|ia<|an ⟨e1,rfl,hlt⟩<|lc<|an (cF M8.below hc)<|lb 1<|an rfl<|cl<|an (fun w' hb' M'=>AX hk U1 he _ _ _ (qF.keep M'.below) (hE.keep M'.below) _ _ _ _ _ _ _ _ _ _ _ _ _ _ _ _ _ (wV.keep M'.below))<|fun w9 Zv M9=>?_
 refine an (fun h2=>an (by omega)<|an (by omega) fun M=>⟨ri (by rw[hI,ZI hw h1 (by simpa using h2)];omega),M.below⟩) fun h2=>?_
 exact an (by omega)<|bk (m+1) ⟨rfl,trivial⟩ (fun M=>⟨M,by omega,hI.trans (JI hw h1 (by simpa using h2))⟩) (by dsimp only;omega)
theorem Dq.o{wb w:World}{p:aC}{v:Value}(h:Dq wb p v w):Dp p v w:=by
 obtain⟨x0,n0,x1,n1,x2,n2,x3,n3,x4,n4,x5,n5,x6,n6,x7,n7,x8,n8,x9,n9,x10,n10,pK,n11,pJ,n12,Ll,n13,Lk,n14,Lj,n15,Li,n16,T,rfl,hT,hP⟩:=h;exact⟨_,_,_,_,_,_,_,_,_,_,_,_,_,_,_,_,_,rfl,hP _ _ hT⟩
theorem Dp.same{w:World}{p q:aC}{u v:Value}(h:Dp p u w)(k:Dp q v w):Calls Tryz.prog 23 #[u,v] w fun r w'=>r=.returned (.bool (gM p q))∧avy w.heap.size w w':=by
 obtain⟨_,_,_,_,_,_,_,_,_,_,_,_,_,_,_,_,_,rfl,hP⟩:=h;obtain⟨_,_,_,_,_,_,_,_,_,_,_,_,_,_,_,_,_,rfl,hQ⟩:=k;exact nM _ _ _ _ _ _ _ _ _ _ _ _ _ _ _ _ _ _ _ _ _ _ _ _ _ _ _ _ _ _ _ _ _ _ _ p q hP hQ
theorem xJ.wo{p:aC}(h:xJ p)(o:List Int):xJ (Sn p o):={ h with rules:=fun r hr=>h.rules r (EG r hr) }
theorem bf.one{w:World}{cs:List Value}{e:aq}(h:bf w cs e):∀ u∈cs,u.oneCell'=true:=by
 obtain⟨_,_,rfl,hn,hk⟩:=h.open;obtain⟨_,_,rfl,-⟩:=aF.get hn;obtain⟨_,_,rfl,-⟩:=au.form hk (by decide);intro u hu;simp only[avD,List.not_mem_nil,or_false]at hu;rcases hu with rfl|rfl|rfl|rfl|rfl|rfl|rfl|rfl|rfl|rfl<;>rfl
theorem JN{w0 w:World}{B:Nat}{kv:Value}{K:List aq}{es:List (List Value)}(ho:w.ownsRow B 89 10 kv K.length es.flatten)(hb:avy w0.heap.size w0 w)(hl:es.length=K.length)(Ni:∀ x∈es,x.length=10)(hE:∀ (i:Nat) x y,es[i]?=some x→K[i]?=some y→bf w0 x y):au 10 (bf w) w kv K:=
 nN (q8 (R:=bf w0) ho rfl hl Ni hE fun _ _ h=>h.one) fun _ _ h=>h.keep hb
theorem Rq{w0:World}{K:List aq}{es:List (List Value)}{x:List Value}{y:aq}(hl:es.length=K.length)(hE:∀ (i:Nat) x y,es[i]?=some x→K[i]?=some y→bf w0 x y)(h:bf w0 x y):∀ (i:Nat) x' y',(es++[x])[i]?=some x'→(K++[y])[i]?=some y'→bf w0 x' y':=fun i x' y' h1 h2=>by
 by_cases hi:i<es.length
 ·rw[avQ hi]at h1;rw[avQ (by omega)]at h2;exact hE i x' y' h1 h2
 ·have hi2:i=es.length:=by
   have:=(avF.1 h1).1;rw[avJ,List.length_singleton]at this;omega
  subst hi2;rw[avR (Nat.le_refl _),Nat.sub_self]at h1;rw[avR (by omega),hl,Nat.sub_self]at h2;obtain rfl:=avC h1;obtain rfl:=avC h2;exact h
theorem LZ{p:aC}{m:Nat}{e:aq}(he:p.conds[m]?=some e):(bn p (m+1)).kids=if (fG (aI p.bools e)||lX (aI p.bools e))=true then (bn p m).kids else if (fI p ((m:Int)+1)).getD false=false then (bn p m).kids else if fF (bS p e) (notM (aK p.bools.length) (bS p e)) 0 (bn p m).seen=0 then (bn p m).kids++[e] else (bn p m).kids:=by
 rw[jg he];unfold ct;split
 ·rfl
 ·split
  ·rfl
  ·dsimp only;split<;>rfl
theorem J7(w0:World)(c0 c1 c2 c3 c4 c5 c6 c7 c8 c9 aV aP aO aU aT aS aR:Value)(p:aC)(hp:aM w0 c0 c1 c2 c3 c4 c5 c6 c7 c8 c9 aV aP aO aU aT aS aR p)(hk:R7 p)(hcl:p.conds.length≤900)(hrl:p.rules.length≤100000)(X_:p.trans.length≤100000)(hcR:∀ r∈p.rules,-(p.conds.length:Int)≤r.cond∧r.cond≤p.conds.length)(hcT:∀ r∈p.trans,-(p.conds.length:Int)≤r.cond∧r.cond≤p.conds.length):Calls Tryz.prog 35 #[.agg #[c0,c1,c2,c3,c4,c5,c6,c7,c8,c9,aV,aP,aO,aU,aT,aS,aR]] w0 (fun(r:Ending) (w':World)=>∃ v,r=.returned v∧(Dp (aQ p) v w'∧avy w0.heap.size w0 w')):=by
 have CR:=hk.b5;have Ra:(p.bools.map (·.name)).length≤5:=by rw[avO];exact CR
 have aib:∀ r∈p.rules,-1000000≤r.cond∧r.cond≤1000000:=fun r hr=>by have:=hcR r hr;omega
 have aia:∀ r∈p.trans,-1000000≤r.cond∧r.cond≤1000000:=fun r hr=>by have:=hcT r hr;omega
 have wV:=hp;obtain⟨a0,a1,a2,a3,a4,a5,a6,a7,a8,a9,Z1,WC,a12,a13,WB,WA,Wz,k0,k1,k2,k3,k4,k5,k6,k7,k8,k9,k10,k11,k12,k13,k14,k15,k16,rfl,rfl,rfl,rfl,rfl,rfl,rfl,rfl,rfl,rfl,rfl,rfl,rfl,rfl,rfl,rfl,rfl⟩:=hp.open;refine cL [] (fn:=Tryz.f35) Tryz.func35 rfl Tryz.ntmps35 rfl<|fun g1 w1 M1=>ei<|an nu fun g2 w2 M2=>lb 1<|an rfl<|ei<|an nu fun g3 w3 M3=>lb 0<|an ⟨rfl,rfl⟩ fun w4 M4=>lb 0<|an ⟨rfl,rfl⟩ fun w5 M5=>lb 0<|an ⟨rfl,rfl⟩ fun w6 M6=>lb 0<|an ⟨rfl,rfl⟩ fun w7 M7=>?_
 refine lp (ι:=Nat×Value×Value×List aq×List (List Value)×List G9) (fun(m,kv,fv,K,es,F)=>[(4,fv),(5,.int .i64 (m:Int))]) (fun(m,kv,fv,K,es,F)=>(g3,39,#[.slice a0 p.classes.length k0,.slice a1 p.types.length k1,.slice a2 p.attrs.length k2,.slice a3 p.roles.length k3,.slice a4 p.users.length k4,.slice a5 p.bools.length k5,.slice a6 p.aZ.length k6,.slice a7 p.cats.length k7,kv,.slice none 0 0,.slice none 0 0,.slice WC p.aN.length k11,.slice a12 p.ranges.length k12,.slice a13 p.cons.length k13,.slice WB p.bO.length k14,.slice WA p.files.length k15,.slice Wz p.asserts.length k16])::_) (fun(m,kv,fv,K,es,F)=>[⟨kv,89,10,K.length,es.flatten⟩,⟨fv,165,3,F.length,F.flatMap ZJ⟩]) (fun(m,kv,fv,K,es,F) _=>m≤p.conds.length∧K=(bn p m).kids∧F=jA p m∧es.length=K.length∧(∀ x∈es,x.length=10)∧∀ (i:Nat) x y,es[i]?=some x→K[i]?=some y→bf w0 x y) (fun(m,kv,fv,K,es,F)=>p.conds.length-m) (0,.slice none 0 0,.slice none 0 0,[],[],[]) (an ⟨⟨rfl,rfl,trivial⟩,fun M=>⟨(M.bC 165 3).bC 89 10,avB _,rfl,rfl,rfl,(fun _ h=>by cases h),fun i x y h=>by simp at h⟩⟩ ?_);rintro⟨m,kv,fv,K,es,F⟩ w M ⟨hm,hK,hF,Jy,wW,Ve⟩;obtain⟨hKb,hFb⟩:=O_ (p:=p) (by omega) m hm;rw[← hK]at hKb;have hFl:F.length=m:=by rw[hF];exact(abX hk.ZW m hm).1
 refine lb 2<|an rfl<|an (fun h=>?_) fun h=>?_
 ·have hlt:m<p.conds.length:=by simp at h;omega
  obtain⟨y,hy⟩:∃ y,p.conds[m]?=some y:=⟨_,avM hlt⟩;have U1:=avL hy;obtain⟨hBy,hny⟩:=hk.be U1;obtain⟨b,o,_,e1,qF,hc⟩:=au.elt wV.conds (by decide) hy;obtain⟨nvy,kvy,rfl,hn',hk'⟩:=qF.open;obtain⟨_,_,rfl,-⟩:=aF.get hn';obtain⟨_,_,rfl,-⟩:=au.form hk' (by decide);have abq:∀ k∈K,k∈p.conds:=fun k hkk=>rJ k (by rw[hK]at hkk;exact hkk)
  have aek:(bn p m).seen=K.map (bS p):=by rw[hK];exact FZ m hm
  have Q6:=LZ hy;obtain⟨f0,hf0⟩:∃ f,qH p m y (bn p m)=f:=⟨_,rfl⟩;have hfm:=hf0;unfold qH at hfm;rw[aek]at Q6 hfm;rw[avO]at hfm;rw[← hK]at Q6;obtain⟨hcA,hcB⟩:=Wh hk.hI hk.hd CR (hk.cond U1) (hk.lv U1);have hcall:=fun w' cs h1=>CM Ra (aI p.bools y) w' cs h1 hBy (Nat.le_refl _) hny
  rw[hcB,hcA]at hcall;have hcs:fG (aI p.bools y)=true→(fG (aI p.bools y)||lX (aI p.bools y))=true:=fun h=>by rw[h];rfl
  generalize fG (aI p.bools y)=A at *;generalize (A||lX (aI p.bools y))=C at *;have ahy:=fun w' (hb:avy w0.heap.size w0 w')=>Ls w' _ _ _ _ _ _ _ _ _ _ _ _ _ _ _ _ _ p (wV.keep hb) m (by omega) aib aia
  generalize (fI p ((m:Int)+1)).getD false=U at *;refine ei (x:=.agg #[.bool false,.bool false,.int .i64 0])<|an (bd (by kernel_rfl))<|ei<|an SA fun g4 w8 M8=>lb 0<|an ⟨rfl,rfl⟩ fun w9 M9=>?_
  refine spk [(7,35,.tuple #[.bool A,.bool C])] [0,1,2,3,4,5,8,9,10,11,13] (.step 6 (.step 7 (.step 12 (.step 14 .done)))) [0] (by rfl) (by kernel_rfl)<|lb 0<|an rfl<|lb 0<|an rfl<|ia<|an ⟨e1,rfl,hlt⟩<|lc<|an (fun u hb=>cF hb hc)<|fun tS zh nr=>cg<|an (qw hk U1 _ _ (qF.keep nr.below) _ _ _ _ _ _ _ _ _ _ _ _ _ _ _ _ _ (wV.keep nr.below)) fun v Dw ⟨⟨na2,nc2,ka2,kc2,T7,hv,hT7,hR7⟩,C_⟩=>⟨_,_,nr.keep C_,?_⟩
  subst hv;have M11:=nr.keep C_;refine an rfl<|cl<|an (hcall _ _ (bV.at_ hR7 hT7)) fun He Dr=>an rfl<|an rfl<|lb 0<|an ⟨rfl,rfl⟩ fun KE vI=>an rfl<|lb 0<|an ⟨rfl,rfl⟩ fun Te Hl=>an rfl<|?_
  clear M8 M9 nr M11 Dr vI;refine lb 0<|an rfl<|lb 3<|an (fun _=>rfl)<|cl<|an (fun _=>ahy _ Hl.below) fun Ob Eu=>?_
  refine an (fun h2=>?_) fun h2=>?_
  ·obtain⟨hC0,hU0⟩:C=false∧U=true:=by simpa using h2
   subst hC0 hU0;have hA0:A=false:=by cases A with|false=>rfl|true=>exact absurd (hcs rfl) (by decide)
   subst hA0;rw[if_neg (by decide),if_neg (by decide)]at Q6 hfm;refine dr (by kernel_rfl)<|lb 3<|an rfl<|lb 1<|an rfl<|lb 3<|an rfl<|ia<|an ⟨e1,rfl,hlt⟩<|lc<|an (cF Eu.below hc)<|cl<|an (fun w' hb' M'=>MN hk U1 _ _ (qF.keep M'.below) _ _ _ _ _ _ _ _ _ _ _ _ _ _ _ _ _ (wV.keep M'.below) K abq kv (JN (M'.r 0 rfl) M'.below Jy wW Ve) (by omega))<|fun W_ abA KL=>lb 0<|an ⟨rfl,rfl⟩ fun W9 WE=>?_
   generalize fF (bS p y) (notM (aK p.bools.length) (bS p y)) 0 (K.map (bS p))=kn at *;refine lb 0<|an rfl<|an (fun h3=>?_) fun h3=>?_
   ·have h3:kn=0:=by simpa using h3
    subst h3;rw[if_pos rfl]at Q6 hfm;refine dr (by kernel_rfl)<|lb 1<|an rfl<|lb 3<|an rfl<|ia<|an ⟨e1,rfl,hlt⟩<|lc<|an (cF WE.below hc)<|.inl<|fun g5 w18 aeV WD=>KJ 0 id rfl (WD.slice 0 rfl (k:=10) (n:=1) rfl rfl (by simp[maxLen])) ⟨by unfold maxLen;omega,by omega⟩ fun va vc w19 YS=>?_
    exact lb 2<|an ⟨rfl,rfl⟩ fun w20 M20=>lb 2<|an rfl<|lb 1<|an ⟨rfl,rfl⟩ fun w21 M21=>lb 1<|an rfl<|fun g7 w22 Z4=>ap 1 id rfl (Z4.slice 0 rfl (k:=3) (n:=1) rfl rfl (by simp[maxLen])) ⟨by unfold maxLen;omega,by omega⟩ fun vb w23 M23=>an (by omega)<|bk (m+1,.slice va (K.length+1) vc,vb,K++[y],es++[_],F++[(false,false,(K.length:Int)+1)]) ⟨rfl,rfl,trivial⟩ (fun M=>⟨(M.only (.cons _ (.cons _ (.cons _ (.refl _)))) (.refl _)).cast rfl (by dsimp only;rw[← fP,avS,avJ,avJ];rfl),by omega,Q6.symm,by rw[jy hy,hf0,← hfm,hF],by rw[avJ,avJ,Jy];rfl,i_ wW rfl,Rq Jy Ve qF⟩) (by dsimp only;omega)
   ·have h3:kn≠0:=by simpa using h3
    rw[if_neg h3]at Q6 hfm;exact lb 0<|an rfl<|fun g7 w22 Z4=>ap 1 id rfl (Z4.slice 0 rfl (k:=3) (n:=1) rfl rfl (by simp[maxLen])) ⟨by unfold maxLen;omega,by omega⟩ fun vb w23 M23=>an (by omega)<|bk (m+1,kv,vb,K,es,F++[(false,false,kn)]) ⟨rfl,rfl,trivial⟩ (fun M=>⟨(M.only (.cons _ (.cons _ (.refl _))) (.refl _)).cast rfl (by dsimp only;rw[avS,avJ];rfl),by omega,Q6.symm,by rw[jy hy,hf0,← hfm,hF],Jy,wW,Ve⟩) (by dsimp only;omega)
  ·have hf:qH p m y (bn p m)=(C,A,0)∧(bn p (m+1)).kids=K:=by
    cases C with
    | true=>
     rw[if_pos rfl]at Q6 hfm;exact⟨hf0.trans hfm.symm,Q6⟩
    | false=>
     have hU0:U=false:=by simpa using h2
     subst hU0;have hA0:A=false:=by cases A with|false=>rfl|true=>exact absurd (hcs rfl) (by decide)
     subst hA0;rw[if_neg (by decide),if_pos rfl]at Q6 hfm;exact⟨hf0.trans hfm.symm,Q6⟩
   exact lb 0<|an rfl<|fun g7 w22 Z4=>ap 1 id rfl (Z4.slice 0 rfl (k:=3) (n:=1) rfl rfl (by simp[maxLen])) ⟨by unfold maxLen;omega,by omega⟩ fun vb w23 M23=>an (by omega)<|bk (m+1,kv,vb,K,es,F++[(C,A,0)]) ⟨rfl,rfl,trivial⟩ (fun M=>⟨(M.only (.cons _ (.cons _ (.refl _))) (.refl _)).cast rfl (by dsimp only;rw[avS,avJ];rfl),by omega,hf.2.symm,by rw[jy hy,hf.1,hF],Jy,wW,Ve⟩) (by dsimp only;omega)
 obtain rfl:m=p.conds.length:=by simp at h;omega
 have hbf:∀ k:Int,-(p.conds.length:Int)≤k∧k≤p.conds.length→WV F k=bH (bn p p.conds.length) k:=fun k hk2=>by rw[hF];exact acs hk.ZW hk2
 have ae9:∀ f∈F,-2000≤f.2.2∧f.2.2≤2000:=by rw[hF];exact hFb
 have hres:aQ p=J9 p (bn p p.conds.length):=rfl;obtain⟨xa8,xc8,rfl⟩:=M.form 0 rfl;obtain⟨xaf,xcf,rfl⟩:=M.form 1 rfl;rw[hres];clear hF hFb h hres M1 M2 M3 M4 M5 M6 M7;generalize bn p p.conds.length=sc at *;subst hK;refine lp (ι:=Nat×Value×List aj) (fun(m,v,L)=>[(7,.int .i64 (m:Int))]) (fun(m,v,L)=>(g3,39,#[.slice a0 p.classes.length k0,.slice a1 p.types.length k1,.slice a2 p.attrs.length k2,.slice a3 p.roles.length k3,.slice a4 p.users.length k4,.slice a5 p.bools.length k5,.slice a6 p.aZ.length k6,.slice a7 p.cats.length k7,.slice xa8 sc.kids.length xc8,v,.slice none 0 0,.slice WC p.aN.length k11,.slice a12 p.ranges.length k12,.slice a13 p.cons.length k13,.slice WB p.bO.length k14,.slice WA p.files.length k15,.slice Wz p.asserts.length k16])::_) (fun(m,v,L)=>⟨v,56,13,L.length,L.flatMap aj.cells⟩::_) (fun(m,v,L) _=>m≤p.rules.length∧L=(p.rules.take m).filterMap (cR sc)) (fun(m,v,L)=>p.rules.length-m) (0,.slice none 0 0,[]) (an ⟨⟨rfl,trivial⟩,fun M=>⟨M.bC 56 13,avB _,rfl⟩⟩ ?_);clear M;rintro⟨m,v,L⟩ w M ⟨hm,hL⟩;refine lb 2<|an rfl<|an (fun h=>?_) fun h=>?_
 ·have hlt:m<p.rules.length:=by simp at h;omega
  obtain⟨y,hy⟩:∃ y,p.rules[m]?=some y:=⟨_,avM hlt⟩;obtain⟨b,o,e,hc⟩:=SliceAt.elt wV.rules (fun _=>rfl) (by decide) hy hlt;have hcb:=hcR y (avL hy);have hfl:=FA (f:=cR sc) p.rules m;rw[← hL]at hfl;refine lb 2<|an rfl<|ia<|an ⟨e,rfl,hlt⟩<|lc (x:=.int .i64 y.cond)<|an (cF M.below hc 12 _ rfl)<|cl<|an (sF _ _ F (SliceAt.bF (M.r 2 rfl) (dX fun _=>rfl)) ae9 (by omega) y.cond (by rw[hFl];exact hcb)) fun w2 M2=>?_
  rw[hbf _ hcb];exact an (fun hb2=>lb 2<|an rfl<|ia<|an ⟨e,rfl,hlt⟩<|lc<|an (cF M2.below hc)<|ei<|an oy fun g5 w3 M3=>lb 0<|an ⟨rfl,rfl⟩ fun w4 M4=>lb 0<|an ⟨rfl,rfl⟩ fun w5 M5=>lb 1<|an rfl<|lb 0<|an rfl<|fun g6 w6 M6=>KJ 0 id rfl (M6.slice 0 rfl (k:=13) (n:=1) rfl rfl (by simp[maxLen])) ⟨by unfold maxLen;omega,by omega⟩ fun va vc w7 M7=>lb 2<|an ⟨rfl,rfl⟩ fun w8 M8=>an (by omega)<|bk (m+1,.slice va (L.length+1) vc,L++[{ y with cond:=(bH sc y.cond).1 }]) ⟨rfl,trivial⟩ (fun M=>⟨(M.only (.cons _ (.cons _ (.refl _))) (.refl _)).cast rfl (by dsimp only;rw[avJ,avS];rfl),by omega,by rw[Fz hy (show cR sc y=some { y with cond:=(bH sc y.cond).1 } by unfold cR;rw[if_pos hb2]),hL]⟩) (by dsimp only;omega)) fun hb2=>an (by omega)<|bk (m+1,v,L) ⟨rfl,trivial⟩ (fun M=>⟨M.only (.refl _) (.refl _),by omega,by rw[O8 hy (show cR sc y=none by unfold cR;rw[if_neg (by rw[hb2];decide)]),hL]⟩) (by dsimp only;omega)
 obtain rfl:m=p.rules.length:=by simp at h;omega
 rw[avK]at hL;subst hL;obtain⟨xa9,xc9,rfl⟩:=M.form 0 rfl;clear h hm;refine lp (ι:=Nat×Value×List bM) (fun(m,v,L)=>[(11,.int .i64 (m:Int))]) (fun(m,v,L)=>(g3,39,#[.slice a0 p.classes.length k0,.slice a1 p.types.length k1,.slice a2 p.attrs.length k2,.slice a3 p.roles.length k3,.slice a4 p.users.length k4,.slice a5 p.bools.length k5,.slice a6 p.aZ.length k6,.slice a7 p.cats.length k7,.slice xa8 sc.kids.length xc8,.slice xa9 (p.rules.filterMap (cR sc)).length xc9,v,.slice WC p.aN.length k11,.slice a12 p.ranges.length k12,.slice a13 p.cons.length k13,.slice WB p.bO.length k14,.slice WA p.files.length k15,.slice Wz p.asserts.length k16])::_) (fun(m,v,L)=>⟨v,84,13,L.length,L.flatMap bM.cells⟩::_) (fun(m,v,L) _=>m≤p.trans.length∧L=(p.trans.take m).filterMap (cT sc)) (fun(m,v,L)=>p.trans.length-m) (0,.slice none 0 0,[]) (an ⟨⟨rfl,trivial⟩,fun M=>⟨M.bC 84 13,avB _,rfl⟩⟩ ?_);clear M;rintro⟨m,v,L⟩ w M ⟨hm,hL⟩;refine lb 2<|an rfl<|an (fun h=>?_) fun h=>?_
 ·have hlt:m<p.trans.length:=by simp at h;omega
  obtain⟨y,hy⟩:∃ y,p.trans[m]?=some y:=⟨_,avM hlt⟩;obtain⟨b,o,e,hc⟩:=SliceAt.elt wV.trans (fun _=>rfl) (by decide) hy hlt;have hcb:=hcT y (avL hy);have hfl:=FA (f:=cT sc) p.trans m;rw[← hL]at hfl;refine lb 2<|an rfl<|ia<|an ⟨e,rfl,hlt⟩<|lc (x:=.int .i64 y.cond)<|an (cF M.below hc 12 _ rfl)<|cl<|an (sF _ _ F (SliceAt.bF (M.r 3 rfl) (dX fun _=>rfl)) ae9 (by omega) y.cond (by rw[hFl];exact hcb)) fun w2 M2=>?_
  rw[hbf _ hcb];exact an (fun hb2=>lb 2<|an rfl<|ia<|an ⟨e,rfl,hlt⟩<|lc<|an (cF M2.below hc)<|ei<|an KN fun g5 w3 M3=>lb 0<|an ⟨rfl,rfl⟩ fun w4 M4=>lb 0<|an ⟨rfl,rfl⟩ fun w5 M5=>lb 1<|an rfl<|lb 0<|an rfl<|fun g6 w6 M6=>KJ 0 id rfl (M6.slice 0 rfl (k:=13) (n:=1) rfl rfl (by simp[maxLen])) ⟨by unfold maxLen;omega,by omega⟩ fun va vc w7 M7=>lb 2<|an ⟨rfl,rfl⟩ fun w8 M8=>an (by omega)<|bk (m+1,.slice va (L.length+1) vc,L++[{ y with cond:=(bH sc y.cond).1 }]) ⟨rfl,trivial⟩ (fun M=>⟨(M.only (.cons _ (.cons _ (.refl _))) (.refl _)).cast rfl (by dsimp only;rw[avJ,avS];rfl),by omega,by rw[Fz hy (show cT sc y=some { y with cond:=(bH sc y.cond).1 } by unfold cT;rw[if_pos hb2]),hL]⟩) (by dsimp only;omega)) fun hb2=>an (by omega)<|bk (m+1,v,L) ⟨rfl,trivial⟩ (fun M=>⟨M.only (.refl _) (.refl _),by omega,by rw[O8 hy (show cT sc y=none by unfold cT;rw[if_neg (by rw[hb2];decide)]),hL]⟩) (by dsimp only;omega)
 obtain rfl:m=p.trans.length:=by simp at h;omega
 rw[avK]at hL;subst hL;obtain⟨agE,agD,rfl⟩:=M.form 0 rfl;exact lb 0<|an rfl<|lb 1<|an ⟨rfl,rfl⟩ fun w M=>ei (x:=1)<|an rfl fun M=>⟨_,rfl,⟨_,_,_,_,_,_,_,_,_,_,_,_,_,_,_,_,_,rfl,{ wV.keep M.below with conds:=JN (M.r 2 rfl) M.below Jy wW Ve,rules:=SliceAt.bF (M.r 1 rfl) (dX fun _=>rfl),trans:=SliceAt.bF (M.r 0 rfl) (dX fun _=>rfl) }⟩,M.below⟩
structure afD (p:aC) (m:Nat) (s:ox):Prop where
 seen:s.seen=s.kids.map (bS p)
 con:∀ e∈s.kids,(fG (aI p.bools e)||lX (aI p.bools e))=false
 sep:∀ (i:Nat) (e:aq),s.kids[i]?=some e→fF (bS p e) (notM (aK p.bools.length) (bS p e)) 0 ((s.kids.take i).map (bS p))=0
 use:∀ i,i<s.kids.length→∃ j:Nat,j<m∧(fI p ((j:Int)+1)).getD false=true∧bH s ((j:Int)+1)=((i:Int)+1,true)∧bH s (0-((j:Int)+1))=(0-((i:Int)+1),true)
theorem aa1{p:aC}(hH:j_ p):∀ m,m≤p.conds.length→afD p m (bn p m)
 | 0,_=>⟨rfl,fun e h=>(by cases h),fun i e h=>(by cases h),fun i h=>absurd h (Nat.not_lt_zero i)⟩
 | m+1,hm=>by
  obtain⟨e,he⟩:∃ e,p.conds[m]?=some e:=⟨_,avM (by omega)⟩;have ih:=aa1 hH m (by omega);have lo:=(YE hH m (by omega)).lo;have lo1:=lo ((m:Int)+1) (by omega);have lo2:=lo (0-((m:Int)+1)) (by omega);have hn:=Eh (p:=p) (e:=e) lo1 lo2;rw[jg he];generalize bn p m=s at *;have old:∀ j:Nat,j<m→bH (ct p m e s) ((j:Int)+1)=bH s ((j:Int)+1)∧bH (ct p m e s) (0-((j:Int)+1))=bH s (0-((j:Int)+1)):=fun j hj=>⟨rI (by omega) (by omega),rI (by omega) (by omega)⟩
  have same:(ct p m e s).kids=s.kids→(ct p m e s).seen=s.seen→afD p (m+1) (ct p m e s):=fun h1 h2=>by
   refine⟨by rw[h1,h2];exact ih.seen,by rw[h1];exact ih.con,by rw[h1];exact ih.sep,fun i hi=>?_⟩;rw[h1]at hi;obtain⟨j,h3,h4,h5,h6⟩:=ih.use i hi;exact⟨j,by omega,h4,by rw[(old j h3).1];exact h5,by rw[(old j h3).2];exact h6⟩
  by_cases hc:(fG (aI p.bools e)||lX (aI p.bools e))=true
  ·exact same (by unfold ct;rw[if_pos hc]) (by unfold ct;rw[if_pos hc])
  by_cases hu:(fI p ((m:Int)+1)).getD false=false
  ·exact same (by unfold ct;rw[if_neg hc,if_pos hu]) (by unfold ct;rw[if_neg hc,if_pos hu])
  by_cases hk:fF (bS p e) (notM (aK p.bools.length) (bS p e)) 0 s.seen=0
  ·have h1:(ct p m e s).kids=s.kids++[e]:=by unfold ct;rw[if_neg hc,if_neg hu];dsimp only;rw[if_pos hk];rfl
   have h2:(ct p m e s).seen=s.seen++[bS p e]:=by unfold ct;rw[if_neg hc,if_neg hu];dsimp only;rw[if_pos hk];rfl
   have hf:qH p m e s=(false,false,(s.seen.length:Int)+1):=by unfold qH;rw[if_neg hc,if_neg hu,if_pos hk]
   have hls:s.seen.length=s.kids.length:=by rw[ih.seen,avO]
   rw[hf]at hn;refine⟨by rw[h1,h2,ih.seen,avT];rfl,fun e' he'=>?_,fun i e' he'=>?_,fun i hi=>?_⟩
   ·rw[h1,avH,avI]at he';rcases he' with he'|rfl
    ·exact ih.con e' he'
    ·simpa using hc
   ·rw[h1]at he' ⊢;by_cases hi:i<s.kids.length
    ·rw[avQ hi]at he';rw[List.take_append_of_le_length (by omega)];exact ih.sep i e' he'
    ·have hi2:i=s.kids.length:=by
      have:=(avF.1 he').1;rw[avJ,List.length_singleton]at this;omega
     subst hi2;rw[avR (Nat.le_refl _),Nat.sub_self]at he';obtain rfl:=avC he';rw[List.take_left' rfl,← ih.seen];exact hk
   ·rw[h1,avJ,List.length_singleton]at hi;by_cases hi2:i<s.kids.length
    ·obtain⟨j,h3,h4,h5,h6⟩:=ih.use i hi2;exact⟨j,by omega,h4,by rw[(old j h3).1];exact h5,by rw[(old j h3).2];exact h6⟩
    ·obtain rfl:i=s.kids.length:=by omega
     refine⟨m,by omega,by simpa using hu,?_,?_⟩
     ·rw[hn.1,hls];rfl
     ·rw[hn.2,hls];rfl
  ·exact same (by unfold ct;rw[if_neg hc,if_neg hu];dsimp only;rw[if_neg hk];rfl) (by unfold ct;rw[if_neg hc,if_neg hu];dsimp only;rw[if_neg hk];rfl)
theorem P0{p:aC}(hH:j_ p)(_:∀ r∈p.rules,-(p.conds.length:Int)≤r.cond∧r.cond≤p.conds.length){i:Nat}(hi:i<(aQ p).conds.length):(fI (aQ p) ((i:Int)+1)).getD false=true:=by
 obtain⟨j,-,h1,h2,h3⟩:=(aa1 hH p.conds.length (Nat.le_refl _)).use i hi
 have ha:∀ c:Int,eF c=(j:Int)+1→∃ d,bH (bn p p.conds.length) c=(d,true)∧eF d=(i:Int)+1:=fun c hc=>by
  rcases mo.1 hc with rfl|rfl
  ·exact⟨_,h2,mo.2 (.inl rfl)⟩
  ·exact⟨_,h3,mo.2 (.inr rfl)⟩
 refine pU.2 ?_;rcases pU.1 h1 with⟨r,hr,hc⟩|⟨t,ht,hc⟩
 ·obtain⟨d,e1,e2⟩:=ha _ hc;refine .inl ⟨{ r with cond:=d },List.mem_filterMap.2 ⟨r,hr,?_⟩,e2⟩;unfold cR;rw[e1];rfl
 ·obtain⟨d,e1,e2⟩:=ha _ hc;refine .inr ⟨{ t with cond:=d },List.mem_filterMap.2 ⟨t,ht,?_⟩,e2⟩;unfold cT;rw[e1];rfl
theorem ZV{q:aC}(Vg:∀ e∈q.conds,(fG (aI q.bools e)||lX (aI q.bools e))=false)(aef:∀ i,i<q.conds.length→(fI q ((i:Int)+1)).getD false=true)(hsep:∀ (i:Nat) (e:aq),q.conds[i]?=some e→fF (bS q e) (notM (aK q.bools.length) (bS q e)) 0 ((q.conds.take i).map (bS q))=0):∀ m,m≤q.conds.length→(bn q m).kids=q.conds.take m∧(bn q m).seen=(q.conds.take m).map (bS q)∧(∀ k:Int,(bn q m).ev k=none∧(bn q m).nv k=none)∧∀ j:Nat,j<m→(bn q m).pE ((j:Int)+1)=some ((j:Int)+1)∧(bn q m).pE (0-((j:Int)+1))=some (0-((j:Int)+1))
 | 0,_=>⟨rfl,rfl,fun _=>⟨rfl,rfl⟩,fun j h=>absurd h (Nat.not_lt_zero j)⟩
 | m+1,hm=>by
  obtain⟨e,he⟩:∃ e,q.conds[m]?=some e:=⟨_,avM (by omega)⟩;obtain⟨i1,i2,i3,i4⟩:=ZV Vg aef hsep m (by omega);have hc:=Vg e (avL he);have hu:=aef m (by omega);have hk:fF (bS q e) (notM (aK q.bools.length) (bS q e)) 0 (bn q m).seen=0:=by rw[i2];exact hsep m e he
  have hls:(bn q m).seen.length=m:=by rw[i2,avO,List.length_take,Nat.min_eq_left (by omega)]
  have hst:ct q m e (bn q m)=cW m (((bn q m).seen.length:Int)+1) { bn q m with seen:=(bn q m).seen++[bS q e],kids:=(bn q m).kids++[e] }:=by
   unfold ct;rw[if_neg (by rw[hc];decide),if_neg (by rw[hu];decide)];dsimp only;rw[if_pos hk]
  rw[jg he,hst,bw he];refine⟨?_,?_,i3,fun j hj=>?_⟩
  ·show(bn q m).kids++[e]=_;rw[i1]
  ·show(bn q m).seen++[bS q e]=_;rw[i2,avT];rfl
  ·unfold cW;dsimp only;rw[hls];by_cases e0:j=m
   ·subst e0;exact⟨by rw[iV (by omega),eY],by rw[eY]⟩
   ·rw[fK (by omega) (by omega),fK (by omega) (by omega)];exact i4 j (by omega)
theorem VB{α:Type}{f:α→Option α}:∀ (l:List α),(∀ x∈l,f x=some x)→l.filterMap f=l
 | [],_=>rfl
 | x::l,h=>by
  rw[List.filterMap_cons,h x (avN ..),VB l fun y hy=>h y (avA _ hy)]
theorem J6{p:aC}(h:mU p)(hH:j_ p):aQ (aQ p)=aQ p:=by
 have K:=aa1 hH p.conds.length (Nat.le_refl _);have h':=h.tL hH;obtain⟨i1,i2,i3,i4⟩:=ZV (q:=aQ p) K.con (fun i hi=>P0 hH h.om hi) K.sep (aQ p).conds.length (Nat.le_refl _)
 have hb:∀ k:Int,-((aQ p).conds.length:Int)≤k∧k≤(aQ p).conds.length→bH (bn (aQ p) (aQ p).conds.length) k=(k,true):=fun k hk=>by
  by_cases h0:k=0
  ·rw[h0,Pv]
  have hbk:(bn (aQ p) (aQ p).conds.length).pE k=some k:=by
   rcases Int.lt_or_lt_of_ne h0 with h1|h1
   ·have:=(i4 (0-k-1).toNat (by omega)).2
    rwa [show(0:Int)-(((0-k-1).toNat:Int)+1)=k by omega]at this
   ·have:=(i4 (k-1).toNat (by omega)).1
    rwa [show((k-1).toNat:Int)+1=k by omega]at this
  unfold bH;rw[(i3 k).1,(i3 k).2,hbk];rfl
 have e1:(aQ (aQ p)).conds=(aQ p).conds:=by
  show(bn (aQ p) (aQ p).conds.length).kids=_;rw[i1,avK]
 have e2:(aQ (aQ p)).rules=(aQ p).rules:=by
  show(aQ p).rules.filterMap (cR _)=_;refine VB _ fun r hr=>?_
  unfold cR;rw[hb _ (h'.om r hr)];rfl
 have e3:(aQ (aQ p)).trans=(aQ p).trans:=by
  show(aQ p).trans.filterMap (cT _)=_;refine VB _ fun r hr=>?_
  unfold cT;rw[hb _ (h'.pz r hr)];rfl
 show { aQ p with conds:=(aQ (aQ p)).conds,rules:=(aQ (aQ p)).rules,trans:=(aQ (aQ p)).trans }=aQ p;rw[e1,e2,e3]
theorem xJ.tL{p:aC}(h:xJ p)(hT:mU (aQ p))(hc:YV (aQ p)):xJ (aQ p):=⟨h.bools,avG hc.conds (by decide),h.types,h.classes,fun r hr=>⟨hT.rv r hr,hc.ok.rules r hr⟩⟩
theorem Cm(w0:World)(c0 c1 c2 c3 c4 c5 c6 c7 c8 c9 aV aP aO aU aT aS aR:Value)(p:aC)(hp:aM w0 c0 c1 c2 c3 c4 c5 c6 c7 c8 c9 aV aP aO aU aT aS aR p)(hop:p.Ok):Calls Tryz.prog 8 #[.agg #[c0,c1,c2,c3,c4,c5,c6,c7,c8,c9,aV,aP,aO,aU,aT,aS,aR]] w0 fun r w'=>r=.returned (.bool true)∧avy w0.heap.size w0 w':=by
 refine cL [] (fn:=Tryz.f8) Tryz.func8 rfl Tryz.ntmps8 rfl<|fun g1 w1 M1=>lb 0<|an rfl<|cg<|an (Ys _ _ _ _ _ _ _ _ _ _ _ _ _ _ _ _ _ _ p (hp.keep M1.below) hop) fun v w2 hR=>?_
 obtain⟨⟨b,rfl,hb⟩,hB⟩:=hR;have M2:=M1.keep hB;refine⟨_,_,M2,an (fun h=>cl<|an (Er _) fun w M=>fun M=>⟨rfl,M.below⟩) fun h=>?_⟩;have fp:=hb (by cases b<;>simp_all);obtain⟨tp,sp⟩:=BQ fp hop;have zp:=fp.small.sizes;have cd:=abW fp hop;have ck:=abV fp hop;have hH:=Ro fp hop;have tq:=tp.tL hH;have cq:=Wj cd;have sq:=sp.tL tq cq;have hS:=IC tp hH;have hI:=J6 tp hH;have ztr:(aQ p).trans.length≤p.trans.length:=List.length_filterMap_le _ _;refine lb 0<|an rfl<|cg<|an (jh _ _ _ _ _ _ _ _ _ _ _ _ _ _ _ _ _ _ p (hp.keep M2.below) cd.ok cd.sm cd.bools cd.conds cd.om cd.pz cd.be cd.rules cd.trans) fun v w6 hQ=>?_
 obtain⟨⟨x0,n0,x1,n1,x2,n2,x3,n3,x4,n4,x5,n5,x6,n6,x7,n7,x8,n8,x9,n9,x10,n10,pK,n11,pJ,n12,Ll,n13,Lk,n14,Lj,n15,Li,n16,T,rfl,hT,hQ⟩,Nb⟩:=hQ;refine⟨_,_,M2.dS Nb hT,ei<|an nu fun g2 w7 M7=>lb 0<|an ⟨rfl,rfl⟩ fun w8 M8=>?_⟩;refine dr (by kernel_rfl)<|lb 0<|an rfl<|lb 1<|an rfl<|cr (Dp (aQ p))<|an (Bm _)<|an (fun w' hb' M'=>J7 w' _ _ _ _ _ _ _ _ _ _ _ _ _ _ _ _ _ p (hp.keep M'.below) ck cd.conds cd.rules cd.trans tp.om tp.pz)<|cu<|an (fun u _ w' hb' M' hR=>Dp.same ⟨_,_,_,_,_,_,_,_,_,_,_,_,_,_,_,_,_,rfl,hQ _ _ M'.dV⟩ hR)<|lb 1<|an (fun _=>rfl)<|lb 0<|an (fun _=>rfl)<|cl<|an (fun _ w' hb' M'=>LQ w' _ _ _ _ _ _ _ _ _ _ _ _ _ _ _ _ _ _ _ _ _ _ _ _ _ _ _ _ _ _ _ _ _ _ p (aQ p) (hp.keep M'.below) (hQ _ _ M'.dV) sp sq (avG zp.trans (by decide)) (avG ztr (avG zp.trans (by decide))) (fun y hy=>(hop.trans y hy).cond) (fun y hy=>(cq.ok.trans y hy).cond))<|lb 0<|an (fun _=>rfl)<|cr (Dp (aQ p))<|an (Bm _)<|an (fun _ w' hb' M'=>(jh w' _ _ _ _ _ _ _ _ _ _ _ _ _ _ _ _ _ (aQ p) (hQ _ _ M'.dV) cq.ok cq.sm cq.bools cq.conds cq.om cq.pz cq.be cq.rules cq.trans).mono fun _ _ ⟨v,e,h1,h2⟩=>⟨v,e,by rw[hI]at h1;exact h1.o,h2⟩)<|lb 0<|an (fun _=>rfl)<|cu<|an (fun u h w' hb' M' hR=>Dp.same (hR h) ⟨_,_,_,_,_,_,_,_,_,_,_,_,_,_,_,_,_,rfl,hQ _ _ M'.dV⟩)<|cl<|an (fun _ w' hb' M'=>Er _)<|fun w9 Zv M9=>fun M=>⟨?_,M.below⟩
 rw[uh,hS];rfl
end Go.Proofs.YtdcofoaihmongaaGreat
namespace Go.Proofs.YtdcofoaihmongaaGreat
open Go
theorem eu{a b:Bool}(ha:a=true)(hb:b=true):(a&&b)=true:=by rw[ha,hb];rfl
theorem jp2:(mapsRowed Tryz.prog)=true:=by kernel_rfl
theorem jp6:((Tryz.prog.stops == []))=true:=by kernel_rfl
theorem jp8:((Tryz.prog.stopKnobs == []))=true:=by kernel_rfl
theorem ahn:(Tryz.prog.stopsHeard)=true:=by kernel_rfl
theorem ahm:(Tryz.prog.mayEnter)=true:=by kernel_rfl
end Go.Proofs.YtdcofoaihmongaaGreat

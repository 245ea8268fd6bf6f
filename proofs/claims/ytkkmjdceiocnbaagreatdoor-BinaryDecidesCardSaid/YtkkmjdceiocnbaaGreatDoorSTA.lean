import Derived.Test.YtkkmjdceiocnbaaGreatDoorS9
open Bool renaming eq_iff_iff→ak_
open Go renaming wp_cond_split→ak3
open Go.RowKit renaming Below→ak5
open List renaming mem_append→ak4,getElem?_eq_getElem→ak7,mem_of_getElem?→ak8,take_length→ak9
open Nat renaming zero_le→ak6
set_option maxRecDepth 100000
set_option maxHeartbeats 8000000
set_option linter.unusedSectionVars false
set_option linter.unusedSimpArgs false
set_option linter.unusedVariables false
namespace Go.Proofs.YtkkmjdceiocnbaaGreatDoor
open Go Go.RowKit
theorem S1:kwL=[⟨#[109,111,100,117,108,101]⟩,⟨#[99,108,97,115,115]⟩,⟨#[116,121,112,101]⟩,⟨#[97,108,105,97,115]⟩,⟨#[116,121,112,101,97,116,116,114,105,98,117,116,101]⟩,⟨#[97,116,116,114,105,98,117,116,101]⟩,⟨#[114,111,108,101]⟩,⟨#[116,121,112,101,115]⟩,⟨#[114,111,108,101,97,108,108,111,119]⟩,⟨#[114,111,108,101,95,116,114,97,110,115,105,116,105,111,110]⟩,⟨#[117,115,101,114]⟩,⟨#[114,111,108,101,115]⟩,⟨#[108,101,118,101,108]⟩,⟨#[114,97,110,103,101]⟩,⟨#[98,111,111,108]⟩,⟨#[116,114,117,101]⟩,⟨#[102,97,108,115,101]⟩,⟨#[115,101,110,115,105,116,105,118,105,116,121]⟩,⟨#[99,97,116,101,103,111,114,121]⟩,⟨#[97,108,108,111,119]⟩,⟨#[97,117,100,105,116,97,108,108,111,119]⟩,⟨#[100,111,110,116,97,117,100,105,116]⟩,⟨#[110,101,118,101,114,97,108,108,111,119]⟩,⟨#[116,121,112,101,95,116,114,97,110,115,105,116,105,111,110]⟩,⟨#[116,121,112,101,95,99,104,97,110,103,101]⟩,⟨#[116,121,112,101,95,109,101,109,98,101,114]⟩,⟨#[114,97,110,103,101,95,116,114,97,110,115,105,116,105,111,110]⟩,⟨#[99,111,110,115,116,114,97,105,110]⟩,⟨#[118,97,108,105,100,97,116,101,116,114,97,110,115]⟩,⟨#[105,102]⟩,⟨#[101,108,115,101]⟩,⟨#[111,112,116,105,111,110,97,108]⟩,⟨#[114,101,113,117,105,114,101]⟩,⟨#[115,105,100]⟩,⟨#[102,105,108,101,99,111,110]⟩,⟨#[112,101,114,109,105,115,115,105,118,101]⟩,⟨#[97,115,115,101,114,116]⟩,⟨#[115,101,108,102]⟩,⟨#[105,110]⟩]:=by kernel_rfl
def Sm(t id d:Nat)(c:ByteArray)(pos:String):Code:=.region id #[{ dst:=some d,op:=.binOp .eql 9 (.tmp 3) (.const (.string c)) 9,type:=4,pos:=pos,after:=#[],guard:=none },{ dst:=some t,op:=.assign (.tmp d),type:=4,pos:=pos,after:=#[{ on:=0,ground:=.data }],guard:=none }] false
def zE(t:Nat)(pos:String):List (Nat×Nat×ByteArray)→Code
 | []=>.skip
 | (id,d,c)::r=>match r with
  | []=>Sm t id d c pos
  | r=>(Sm t id d c pos).seq (.cond (.tmp t) .skip (zE t pos r))
theorem KU{t id d N:Nat}{c s:ByteArray}{pos:String}{a:Act}{w:World}{Q:Exit→Act→World→Prop}(hf:Fr a N)(h3:At a 3 (.string s))(hd:d<N)(ht:t<N)(hd3:d≠3)(YE:t≠3)(hQ:∀ a',Fr a' N→At a' 3 (.string s)→At a' t (.bool (decide (s=c)))→Q .normal a' w):(Sm t id d c pos).wp Tryz.prog Q a w:=by
 unfold Sm;refine wp_region_list (pS (v:=.bool (decide (s=c))) (w':=w) (gB rfl) ((Q7 rfl h3.ev rfl).trans (by rw[kZ])) rfl hf hd fun a1 p1=>pS (v:=.bool (decide (s=c))) (w':=w) (gB rfl) (Cv rfl p1.now.ev) rfl (p1.fr hf) ht fun a2 p2=>wpList_nil (hQ a2 (p2.fr (p1.fr hf)) (p2.old (by simpa using fun e=>YE e.symm) (p1.old (by simpa using fun e=>hd3 e.symm) h3)) p2.now))
theorem tA{t N:Nat}{s:ByteArray}{pos:String}{w:World}(ht:t<N)(YE:t≠3):∀ (l:List (Nat×Nat×ByteArray)) {a:Act} {Q:Exit→Act→World→Prop},l≠[]→(l.all fun x=>Nat.blt x.2.1 N&&!Nat.beq x.2.1 3)=true→Fr a N→At a 3 (.string s)→(∀ a' b,Fr a' N→At a' 3 (.string s)→At a' t (.bool b)→(b=true↔s∈l.map (·.2.2))→Q .normal a' w)→(zE t pos l).wp Tryz.prog Q a w
 | [],_,_,h,_,_,_,_=>absurd rfl h
 | (id,d,c)::r,a,Q,_,hl,hf,h3,hQ=>by
  simp only[List.all_cons,Bool.and_eq_true,Bool.not_eq_true'] at hl;obtain⟨⟨h1,h2⟩,hr⟩:=hl;have hd:d<N:=by simpa using h1
  have hd3:d≠3:=fun e=>by rw[e] at h2;cases h2
  cases r with
  | nil=>exact KU hf h3 hd ht hd3 YE fun a' f1 f2 f3=>hQ a' _ f1 f2 f3 (by simp)
  | cons x r=>
   refine wp_seq (KU hf h3 hd ht hd3 YE fun a' f1 f2 f3=>?_);by_cases e:s=c
   ·rw[decide_eq_true e] at f3;exact wp_cond_true f3.ev (wp_skip (hQ a' true f1 f2 f3 (by simp[e])))
   ·rw[decide_eq_false e] at f3;refine wp_cond_false f3.ev (tA ht YE (x::r) (by simp) hr f1 f2 fun a'' b g1 g2 g3 g4=>hQ a'' b g1 g2 g3 (g4.trans ?_));simp only[List.map_cons,List.mem_cons];exact⟨.inr,fun h=>h.resolve_left e⟩
def M_:List (Nat×Nat×ByteArray):=[(3,5,⟨#[109,111,100,117,108,101]⟩),(4,6,⟨#[99,108,97,115,115]⟩),(5,7,⟨#[116,121,112,101]⟩),(6,8,⟨#[97,108,105,97,115]⟩),(7,9,⟨#[116,121,112,101,97,116,116,114,105,98,117,116,101]⟩),(8,10,⟨#[97,116,116,114,105,98,117,116,101]⟩),(9,11,⟨#[114,111,108,101]⟩),(10,12,⟨#[116,121,112,101,115]⟩),(11,13,⟨#[114,111,108,101,97,108,108,111,119]⟩),(12,14,⟨#[114,111,108,101,95,116,114,97,110,115,105,116,105,111,110]⟩)]
def MZ:List (Nat×Nat×ByteArray):=[(13,16,⟨#[117,115,101,114]⟩),(14,17,⟨#[114,111,108,101,115]⟩),(15,18,⟨#[108,101,118,101,108]⟩),(16,19,⟨#[114,97,110,103,101]⟩),(17,20,⟨#[98,111,111,108]⟩),(18,21,⟨#[116,114,117,101]⟩),(19,22,⟨#[102,97,108,115,101]⟩),(20,23,⟨#[115,101,110,115,105,116,105,118,105,116,121]⟩),(21,24,⟨#[99,97,116,101,103,111,114,121]⟩)]
def MX:List (Nat×Nat×ByteArray):=[(22,26,⟨#[97,108,108,111,119]⟩),(23,27,⟨#[97,117,100,105,116,97,108,108,111,119]⟩),(24,28,⟨#[100,111,110,116,97,117,100,105,116]⟩),(25,29,⟨#[110,101,118,101,114,97,108,108,111,119]⟩),(26,30,⟨#[116,121,112,101,95,116,114,97,110,115,105,116,105,111,110]⟩),(27,31,⟨#[116,121,112,101,95,99,104,97,110,103,101]⟩),(28,32,⟨#[116,121,112,101,95,109,101,109,98,101,114]⟩),(29,33,⟨#[114,97,110,103,101,95,116,114,97,110,115,105,116,105,111,110]⟩)]
def MW:List (Nat×Nat×ByteArray):=[(30,35,⟨#[99,111,110,115,116,114,97,105,110]⟩),(31,36,⟨#[118,97,108,105,100,97,116,101,116,114,97,110,115]⟩),(32,37,⟨#[105,102]⟩),(33,38,⟨#[101,108,115,101]⟩),(34,39,⟨#[111,112,116,105,111,110,97,108]⟩),(35,40,⟨#[114,101,113,117,105,114,101]⟩),(36,41,⟨#[115,105,100]⟩),(37,42,⟨#[102,105,108,101,99,111,110]⟩),(38,43,⟨#[112,101,114,109,105,115,115,105,118,101]⟩),(39,44,⟨#[97,115,115,101,114,116]⟩),(40,45,⟨#[115,101,108,102]⟩),(41,46,⟨#[105,110]⟩)]
theorem VP:(M_++MZ++MX++MW).map (·.2.2)=kwL:=S1.symm
theorem VN:((M_++MZ++MX++MW).map (·.2.2)).all eV=true:=by kernel_rfl
theorem Yv{s:ByteArray}(h:s∈(M_++MZ++MX++MW).map (·.2.2)):eV s=true:=List.all_eq_true.1 VN s h
def VQ(x:Code):Code:=.block 0 ((zE 4 "token.go:200" M_).seq (.cond (.tmp 4) .skip ((zE 15 "token.go:201" MZ).seq (.cond (.tmp 15) .skip ((zE 25 "token.go:202" MX).seq (.cond (.tmp 25) .skip ((zE 34 "token.go:203" MW).seq (.cond (.tmp 34) .skip x))))))))
theorem Na{N:Nat}{s:ByteArray}{w:World}{x:Code}{a:Act}{Q:Exit→Act→World→Prop}(hN:N=47)(hf:Fr a N)(h3:At a 3 (.string s))(hx:eV s=false→∀ a',Fr a' N→x.wp Tryz.prog (Exit.inBlock 0 Q) a' w)(hQ:eV s=true→∀ a',Fr a' N→Exit.inBlock 0 Q .normal a' w):(VQ x).wp Tryz.prog Q a w:=by
 subst hN
 have yes:∀ {b:Bool} {l:List (Nat×Nat×ByteArray)},(b=true↔s∈l.map (·.2.2))→(∀ z∈l,z∈M_++MZ++MX++MW)→b=true→eV s=true:=fun {b l} hb hl h=>Yv (by
  obtain⟨z,hz,rfl⟩:=List.mem_map.1 (hb.1 h);exact List.mem_map.2 ⟨z,hl z hz,rfl⟩)
 refine wp_block (wp_seq (tA (by decide) (by decide) M_ (by decide) (by decide) hf h3 fun a1 b1 f1 g1 k1 m1=>?_));refine ak3 k1.ev (fun h=>wp_skip (hQ (yes m1 (fun z hz=>by simp only[ak4];exact .inl (.inl (.inl hz))) h) a1 f1)) fun n0=>?_
 refine wp_seq (tA (by decide) (by decide) MZ (by decide) (by decide) f1 g1 fun a2 b2 f2 g2 k2 m2=>?_);refine ak3 k2.ev (fun h=>wp_skip (hQ (yes m2 (fun z hz=>by simp only[ak4];exact .inl (.inl (.inr hz))) h) a2 f2)) fun n1=>?_
 refine wp_seq (tA (by decide) (by decide) MX (by decide) (by decide) f2 g2 fun a3 b3 f3 g3 k3 m3=>?_);refine ak3 k3.ev (fun h=>wp_skip (hQ (yes m3 (fun z hz=>by simp only[ak4];exact .inl (.inr hz)) h) a3 f3)) fun n2=>?_
 refine wp_seq (tA (by decide) (by decide) MW (by decide) (by decide) f3 g3 fun a4 b4 f4 g4 k4 m4=>?_);refine ak3 k4.ev (fun h=>wp_skip (hQ (yes m4 (fun z hz=>by simp only[ak4];exact .inr hz) h) a4 f4)) fun n3=>hx ?_ a4 f4
 cases e:eV s with
 | false=>rfl
 | true=>
  have hm:=VO e;rw[← VP] at hm;simp only[List.map_append,ak4] at hm;rcases hm with((hm|hm)|hm)|hm
  ·exact absurd (n0.symm.trans (m1.2 hm)) (by decide)
  ·exact absurd (n1.symm.trans (m2.2 hm)) (by decide)
  ·exact absurd (n2.symm.trans (m3.2 hm)) (by decide)
  ·exact absurd (n3.symm.trans (m4.2 hm)) (by decide)
theorem MS(w0:World)(s:ByteArray):Calls Tryz.prog 340 #[.string s] w0 (fun r w'=>r=.returned (.bool (eV s))∧ak5 w0.heap.size w0 w'):=by
 have oJ:=hr1 Tryz.prog Tryz.f340 (fun(r:Ending) (w':World)=>r=.returned (.bool (eV s))∧ak5 w0.heap.size w0 w') 47 2 rfl;refine en Tryz.func340 rfl Tryz.ntmps340 rfl (vs:=[.string s]) rfl fun _ F=>?_
 have M:=Mm.start w0;refine wp_seq_k fun K1 G5=>bC<|xA (v:=.bool false) F rf rf rf fun _ F=>wpList_nil<|G5 _ _ ?_
 refine wp_seq_k fun K2 G4=>?_
 refine wp_seq_k fun K3 Nv=>bC<|xM F rf rf rf fun _ F=>wpList_nil<|Nv _ _ ?_
 refine Na rfl F.fr (F.at_ 3 _ rfl) (fun hk a' hf=>?_) (fun hk a' hf=>G4 _ _ ?_)
 ·have F':Fs a' 47 []:=⟨hf,fun q v h=>by cases h⟩;refine wp_seq_k fun K4 JG=>bC<|xA (v:=.bool false) F' rf rf rf fun _ F=>wpList_nil<|JG _ _ ?_
  exact wp_ret<|oJ _ _ _ _ F rfl ⟨by rw[hk],M.below⟩
 ·have F':Fs a' 47 []:=⟨hf,fun q v h=>by cases h⟩;refine wp_seq_k fun K4 JG=>bC<|xA (v:=.bool true) F' rf rf rf fun _ F=>wpList_nil<|JG _ _ ?_
  exact wp_ret<|oJ _ _ _ _ F rfl ⟨by rw[hk],M.below⟩
theorem SW(w0:World)(s:ByteArray)(hs:bW s):Calls Tryz.prog 326 #[.string s] w0 (fun r w'=>r=.returned (.bool (kC s))∧ak5 w0.heap.size w0 w'):=by
 refine bM [] (fn:=Tryz.f326) Tryz.func326 rfl Tryz.ntmps326 rfl<|cl<|an (SS _ s hs) fun w1 M1=>cl<|an (fun _=>MS _ s) fun w2 M2=>fun M=>⟨rfl,M.below⟩
theorem EH(w0:World)(s:ByteArray)(hs:bW s):Calls Tryz.prog 310 #[.string s] w0 (fun r w'=>r=.returned (.bool (kC s))∧ak5 w0.heap.size w0 w'):=by
 refine bM [] (fn:=Tryz.f310) Tryz.func310 rfl Tryz.ntmps310 rfl<|cl<|an (SW _ s hs) fun w1 M1=>fun M=>⟨rfl,M.below⟩
theorem vn(w0:World)(s:ByteArray)(hs:bW s)(v:Value)(l:List ByteArray)(hv:aN w0 v l):Calls Tryz.prog 273 #[.string s,v] w0 (RI w0 (aU [s] l)):=by
 have e:=Le s l;refine bM [] (fn:=Tryz.f273) Tryz.func273 rfl Tryz.ntmps273 rfl<|cl<|an (EH _ s hs) fun w1 M1=>an (fun h=>fun M=>⟨ri (by rw[e,if_neg (by simpa using h)]),M.below⟩) fun h=>cl<|an (Jw _ _ l (hv.keep M1.below) s) fun w2 M2=>an (fun h2=>fun M=>⟨ri (by rw[e,if_pos (by simpa using h),if_pos h2]),M.below⟩) fun h2=>fun M=>⟨ri (by rw[e,if_pos (by simpa using h),if_neg (by simpa using h2)]),M.below⟩
theorem AQ(w0:World)(v:Value)(l:List ByteArray)(hv:aN w0 v l)(most:Nat)(hok:∀ s∈l,bW s):Calls Tryz.prog 274 #[v,.int .i64 (most:Int)] w0 (RI w0 (if most<l.length then 4 else aU l [])):=by
 obtain⟨a,c,rfl,Cc,hget⟩:=aN.get hv;have hcl:l.length≤c:=by obtain⟨_,_,e,hk,-⟩:=SliceAt.form hv (by decide);injection e with e1 e2 e3;omega
 refine bM [] (fn:=Tryz.f274) Tryz.func274 rfl Tryz.ntmps274 rfl<|an (fun h=>fun M=>⟨ri (if_pos (by simp at h;omega)),M.below⟩) fun h=>?_
 rw[if_neg (by simp at h;omega)];unfold aU;refine lr (ι:=Nat) (fun m=>[(14,.int .i64 (m:Int))]) (fun m _=>m≤l.length∧ah (fW l []) l.length 0=ah (fW l []) (l.length-m) m) (fun m=>l.length-m) 0 (an ⟨⟨rfl,trivial⟩,fun M=>⟨M,ak6 _,by rw[Nat.sub_zero]⟩⟩ ?_);rintro m w1 M ⟨hm,hinv⟩;refine an (fun h2=>?_) fun h2 M=>⟨ri (by rw[hinv,show m=l.length by simp at h2;omega,aM]),M.below⟩
 have hlt:m<l.length:=by simp at h2;omega
 obtain⟨s,hs⟩:∃ s,l[m]?=some s:=⟨_,ak7 hlt⟩;obtain⟨b,off,rfl,hc⟩:=hget m s hs;have hcf:=vk (o:=[]) hs;rw[List.nil_append] at hcf;refine ia<|an ⟨rfl,rfl,hlt⟩<|lc (x:=.string s)<|an (cell_later M.below hc)<|N9 M (v:=.slice (some ⟨b,off,none⟩) m c) (fun a o ho hv=>qx ho (aY hv) (cC hv) (by omega) (by omega) u28 sz9)<|cl<|an (vn _ s (hok s (ak8 hs)) _ (l.take m) ((aN.front hv rfl (Nat.le_of_lt hlt)).keep M.below)) fun w2 M2=>an (fun h3 M=>⟨ri ?_,M.below⟩) fun h3=>an (by omega)<|bk (m+1) ⟨rfl,trivial⟩ (fun M=>⟨M,by omega,hinv.trans (aG hlt (by rw[hcf];simpa using h3))⟩) (by dsimp only;omega)
 have h3:aU [s] (l.take m)≠0:=by simpa using h3
 rw[hinv,aP hlt (by rw[hcf];exact h3),hcf]
theorem MU(w0:World)(c0 c1 c2 c3 c4 c5 c6 c7 c8 c9 c10 c11 c12 c13 c14 c15 c16:Value)(p:aD)(hp:aA w0 c0 c1 c2 c3 c4 c5 c6 c7 c8 c9 c10 c11 c12 c13 c14 c15 c16 p)(hok:p.Ok):Calls Tryz.prog 176 #[.agg #[c0,c1,c2,c3,c4,c5,c6,c7,c8,c9,c10,c11,c12,c13,c14,c15,c16]] w0 (RI w0 (bV p)):=by
 obtain⟨_,_,_,_,_,_,_,_,_,_,_,_,_,_,_,_,_,_,_,_,_,_,_,_,_,_,_,_,_,_,_,_,_,_,rfl,rfl,rfl,rfl,rfl,rfl,rfl,rfl,rfl,rfl,rfl,rfl,rfl,rfl,rfl,rfl,rfl⟩:=hp.open;refine bM [] (fn:=Tryz.f176) Tryz.func176 rfl Tryz.ntmps176 rfl<|fun g1 w1 M1=>lb 0<|an rfl<|an (fun h M=>⟨ri (by unfold bV;rw[if_pos (by simp at h;omega)]),M.below⟩) fun h=>?_
 have hr:¬ 32<p.classes.length:=by simp at h;omega
 rw[show bV p=ah (fT p) p.classes.length 0 from if_neg hr];refine lb 0<|an rfl<|lq (ι:=Nat×Value) (fun(m,u)=>[(3,u),(17,.int .i64 (m:Int))]) (fun(m,u)=>[⟨u,9,1,m,((p.classes.take m).map (·.name)).flatMap aR⟩]) (fun(m,u) _=>m≤p.classes.length∧ah (fT p) p.classes.length 0=ah (fT p) (p.classes.length-m) m) (fun(m,u)=>p.classes.length-m) (0,.slice none 0 0) (an ⟨⟨rfl,rfl,trivial⟩,fun M=>⟨M.bS 9 1,ak6 _,by rw[Nat.sub_zero]⟩⟩ ?_);rintro⟨m,u⟩ w M ⟨hm,hinv⟩;refine an (fun h2=>?_) fun h2 M=>⟨ri (by rw[hinv,show m=p.classes.length by simp at h2;omega,aM]),M.below⟩
 have hlt:m<p.classes.length:=by simp at h2;omega
 obtain⟨y,hy⟩:∃ y,p.classes[m]?=some y:=⟨_,ak7 hlt⟩;have dD:=hok.classes y (ak8 hy);obtain⟨b,o,_,e,⟨v,rfl,hv⟩,hc⟩:=aj.elt hp.classes (by decide) hy;obtain⟨va,vc,rfl,-⟩:=aN.get hv;have hcf:fT p m=mz ((p.classes.take m).map (·.name)) y:=by unfold fT;rw[hy]
 have out:∀ v:Int,mz ((p.classes.take m).map (·.name)) y=v→v≠0→ah (fT p) p.classes.length 0=v:=fun v h1 h2=>by rw[hinv,aP hlt (by rw[hcf,h1];exact h2),hcf,h1]
 unfold mz at hcf out;refine ia<|an ⟨e,rfl,hlt⟩<|lc<|an (bZ M.below hc)<|ei<|an C_ fun g2 w2 M2=>lb 0<|an ⟨rfl,rfl⟩ fun w3 M3=>lb 0<|an rfl<|cl<|an (vn _ y.name dD.name _ _ (bP (M3.r 0 rfl) (by simp;omega) rfl)) fun w5 M5=>an (fun h3 M=>⟨ri (out _ (if_neg (by simpa using h3)) (by simpa using h3)),M.below⟩) fun h3=>?_
 replace h3:aU [y.name] ((p.classes.take m).map (·.name))=0:=by simpa using h3
 rw[if_pos h3] at hcf out;refine lb 0<|an rfl<|fun g4 w6 M6=>ap 0 id rfl (M6.slice 0 rfl rfl rfl (by simp[maxLen])) ⟨by unfold maxLen;omega,by omega⟩ fun v5 w7 M7=>lb 1<|an rfl<|an (fun h4 M=>⟨ri (out _ (if_pos (by simp at h4;omega)) (by decide)),M.below⟩) fun h4=>?_
 have Lv:y.perms.length≤32:=by simp at h4;omega
 rw[if_neg (by omega)] at hcf out;refine lb 1<|an rfl<|an (fun h5 M=>⟨ri (out _ (if_pos (by simp at h5;simp[h5])) (by decide)),M.below⟩) fun h5=>?_
 rw[if_neg (by simp at h5;simp[h5])] at hcf out;refine lb 1<|an rfl<|cl<|an (AQ _ _ y.perms (hv.keep M7.below) 32 dD.perms.all) fun w8 M8=>?_
 rw[if_neg (show ¬ 32<y.perms.length by omega)];exact an (fun h6 M=>⟨ri (out _ rfl (by simpa using h6)),M.below⟩) fun h6=>an (by omega)<|bk (m+1,v5) ⟨rfl,rfl,trivial⟩ (fun M=>⟨(M.only (.cons _ (.cons _ (.refl _))) (.refl _)).cast rfl (by dsimp only;rw[eD hy]),by omega,hinv.trans (aG hlt (by rw[hcf];simpa using h6))⟩) (by dsimp only;omega)
theorem X3{p:aD}(h:p.Md)(m:Nat):(bh (p.types.take m)).length≤100000:=by
 refine Nat.le_trans ?_ h.tn
 conv=>rhs;rw[← List.take_append_drop m p.types]
 unfold bh;rw[List.flatMap_append,List.length_append];omega
theorem KH{p:aD}(h:p.Md){m:Nat}{y:gh}(hy:p.types[m]?=some y):(bh (p.types.take m)).length+(1+y.jg.length)≤100000:=by
 have:=X3 h (m+1);have e:bh (p.types.take (m+1))=bh (p.types.take m)++(y.name::y.jg):=by rw[List.take_add_one,hy];simp[bh]
 rw[e,List.length_append,List.length_cons] at this;omega
theorem PX(w0:World)(c0 c1 c2 c3 c4 c5 c6 c7 c8 c9 c10 c11 c12 c13 c14 c15 c16:Value)(p:aD)(hp:aA w0 c0 c1 c2 c3 c4 c5 c6 c7 c8 c9 c10 c11 c12 c13 c14 c15 c16 p)(hok:p.Ok)(hd:p.Md):Calls Tryz.prog 275 #[.agg #[c0,c1,c2,c3,c4,c5,c6,c7,c8,c9,c10,c11,c12,c13,c14,c15,c16]] w0 (fun(e:Ending) (w':World)=>∃ v,e=.returned v∧(Ks w' w0.heap.size v (bh p.types)∧ak5 w0.heap.size w0 w')):=by
 obtain⟨_,_,_,_,_,_,_,_,_,_,_,_,_,_,_,_,_,_,_,_,_,_,_,_,_,_,_,_,_,_,_,_,_,_,rfl,rfl,rfl,rfl,rfl,rfl,rfl,rfl,rfl,rfl,rfl,rfl,rfl,rfl,rfl,rfl,rfl⟩:=hp.open;obtain⟨_,_,e1,-,hm1,-⟩:=aj.form hp.types (by decide);refine bM [] (fn:=Tryz.f275) Tryz.func275 rfl Tryz.ntmps275 rfl<|fun g1 w1 M1=>lb 0<|an rfl<|lq (ι:=Nat×Value) (fun(m,u)=>[(3,u),(10,.int .i64 (m:Int))]) (fun(m,u)=>[⟨u,9,1,(bh (p.types.take m)).length,(bh (p.types.take m)).flatMap aR⟩]) (fun(m,u) _=>m≤p.types.length) (fun(m,u)=>p.types.length-m) (0,.slice none 0 0) (an ⟨⟨rfl,rfl,trivial⟩,fun M=>⟨M.bS 9 1,ak6 _⟩⟩ ?_)
 rintro⟨m,u⟩ w M hm;refine an (fun h2=>?_) fun h2 M=>⟨_,rfl,?_,M.below⟩
 ·have hlt:m<p.types.length:=by simp at h2;omega
  obtain⟨y,hy⟩:∃ y,p.types[m]?=some y:=⟨_,ak7 hlt⟩;obtain⟨b,o,_,e,⟨v,rfl,hv⟩,hc⟩:=aj.elt hp.types (by decide) hy;obtain⟨va,vc,rfl,-⟩:=aN.get hv;have hl:=KH hd hy;exact ia<|an ⟨e,rfl,hlt⟩<|lc<|an (bZ M.below hc)<|ei<|an RL fun g2 w2 M2=>lb 0<|an ⟨rfl,rfl⟩ fun w3 M3=>sp [1,2,5,6] (.alt (.step 0 (.step 3 (.step 4 (.step 7 (.step 8 .done))))) (.step 3 (.step 0 (.step 4 (.step 7 (.step 8 .done)))))) [1] (by kernel_rfl)<|lb 0<|an rfl<|lb 0<|an rfl<|fun w4 uq M4=>an (an rfl<|fun g3 w4 M4=>an rfl<|ap 0 id rfl (M4.slice 0 rfl rfl rfl (by simp[maxLen])) ⟨by unfold maxLen;omega,by omega⟩ fun v3 w5 M5=>an rfl<|ap 0 id rfl (hv.keep M5.below) ⟨by unfold maxLen;omega,by omega⟩ fun v4 w6 M6=>an rfl<|an rfl<|an (by omega)<|bk (m+1,v4) ⟨rfl,rfl,trivial⟩ (fun M=>⟨(M.only (.cons _ (.cons _ (.refl _))) (.refl _)).cast rfl (by dsimp only;rw[List.take_add_one,hy];simp[bh,aR];omega),by omega⟩) (by dsimp only;omega)) (fun g3 w4 M4=>an rfl<|an rfl<|ap 0 id rfl (M4.slice 0 rfl rfl rfl (by simp[maxLen])) ⟨by unfold maxLen;omega,by omega⟩ fun v3 w5 M5=>an rfl<|ap 0 id rfl (hv.keep M5.below) ⟨by unfold maxLen;omega,by omega⟩ fun v4 w6 M6=>an rfl<|an rfl<|an (by omega)<|bk (m+1,v4) ⟨rfl,rfl,trivial⟩ (fun M=>⟨(M.only (.cons _ (.cons _ (.refl _))) (.refl _)).cast rfl (by dsimp only;rw[List.take_add_one,hy];simp[bh,aR];omega),by omega⟩) (by dsimp only;omega))
 ·obtain rfl:m=p.types.length:=by simp at h2;omega
  have:=M.r 0 rfl;rw[ak9] at this;exact this
theorem Jt{own o:List ByteArray}{j:Nat}{s:ByteArray}(h:own[j]?=some s)(h0:aU [s] (o++own.take j)=0)(hj:j<own.length):ah (fW own o) (own.length-j) j=ah (fW own o) (own.length-(j+1)) (j+1):=aG hj (by rw[vk h,h0])
theorem SM(w0:World)(c0 c1 c2 c3 c4 c5 c6 c7 c8 c9 c10 c11 c12 c13 c14 c15 c16:Value)(p:aD)(hp:aA w0 c0 c1 c2 c3 c4 c5 c6 c7 c8 c9 c10 c11 c12 c13 c14 c15 c16 p)(hok:p.Ok)(hd:p.Md):Calls Tryz.prog 177 #[.agg #[c0,c1,c2,c3,c4,c5,c6,c7,c8,c9,c10,c11,c12,c13,c14,c15,c16]] w0 (RI w0 (if 256<p.types.length then 4 else ah (iz p) p.types.length 0)):=by
 obtain⟨_,_,_,_,_,_,_,_,_,_,_,_,_,_,_,_,_,_,_,_,_,_,_,_,_,_,_,_,_,_,_,_,_,_,rfl,rfl,rfl,rfl,rfl,rfl,rfl,rfl,rfl,rfl,rfl,rfl,rfl,rfl,rfl,rfl,rfl⟩:=hp.open;obtain⟨_,_,e1,-,hm1,-⟩:=aj.form hp.types (by decide);refine bM [] (fn:=Tryz.f177) Tryz.func177 rfl Tryz.ntmps177 rfl<|fun g1 w1 M1=>lb 0<|an rfl<|an (fun h M=>⟨ri (if_pos (by simp at h;omega)),M.below⟩) fun h=>?_
 rw[if_neg (by simp at h;omega)];refine lb 0<|an rfl<|lq (ι:=Nat×Value) (fun(m,u)=>[(3,u),(18,.int .i64 (m:Int))]) (fun(m,u)=>[⟨u,9,1,(bh (p.types.take m)).length,(bh (p.types.take m)).flatMap aR⟩]) (fun(m,u) _=>m≤p.types.length∧ah (iz p) p.types.length 0=ah (iz p) (p.types.length-m) m) (fun(m,u)=>p.types.length-m) (0,.slice none 0 0) (an ⟨⟨rfl,rfl,trivial⟩,fun M=>⟨M.bS 9 1,ak6 _,by rw[Nat.sub_zero]⟩⟩ ?_);rintro⟨m,u⟩ w M ⟨hm,hinv⟩;refine an (fun h2=>?_) fun h2 M=>⟨ri (by rw[hinv,show m=p.types.length by simp at h2;omega,aM]),M.below⟩
 have hlt:m<p.types.length:=by simp at h2;omega
 obtain⟨y,hy⟩:∃ y,p.types[m]?=some y:=⟨_,ak7 hlt⟩;have dD:=hok.types y (ak8 hy);obtain⟨b,o,_,e,⟨v,rfl,hv⟩,hc⟩:=aj.elt hp.types (by decide) hy;obtain⟨va,vc,rfl,-⟩:=aN.get hv;have hl:=KH hd hy;have hcf:iz p m=aU (y.name::y.jg) (bh (p.types.take m)):=by unfold iz;rw[hy];rfl
 unfold aU at hcf;obtain⟨own,hown⟩:∃ own,own=y.name::y.jg:=⟨_,rfl⟩;obtain⟨N_,S9⟩:∃ N_,N_=bh (p.types.take m):=⟨_,rfl⟩;have hol:own.length=y.jg.length+1:=by rw[hown];rfl
 have hoc:own.flatMap aR=[.string y.name]++y.jg.flatMap aR:=by rw[hown];rfl
 have Yi:∀ s∈own,bW s:=hown▸oM dD;rw[← hown,← S9] at hcf;rw[← S9] at hl;refine ia<|an ⟨e,rfl,hlt⟩<|lc<|an (bZ M.below hc)<|ei<|an RL fun g2 w2 M2=>lb 0<|an ⟨rfl,rfl⟩ fun w3 M3=>lb 0<|an rfl<|fun g3 w4 M4=>lb 1<|an rfl<|ap 0 (fun M=>M.su 1 1 (by simp[maxLen]) rfl) rfl (hv.keep M4.below) ⟨by unfold maxLen;omega,by omega⟩ fun v5 w5 M5=>?_
 obtain⟨a5,k5,rfl⟩:∃ a5 k5,v5=.slice a5 own.length k5:=by
  obtain⟨a,c,e,-⟩:=sM (M5.r 0 rfl);exact⟨a,c,e.trans (by rw[hol,Nat.add_comm])⟩
 refine lq (ι:=Nat×Value) (fun(j,u)=>[(3,u),(29,.int .i64 (j:Int))]) (fun(j,u)=>[⟨.slice a5 own.length k5,9,1,1+y.jg.length,[.string y.name]++y.jg.flatMap aR⟩,⟨u,9,1,(N_++own.take j).length,(N_++own.take j).flatMap aR⟩]) (fun(j,u) _=>j≤own.length∧ah (fW own N_) own.length 0=ah (fW own N_) (own.length-j) j) (fun(j,u)=>own.length-j) (0,u) (an ⟨⟨rfl,rfl,trivial⟩,fun M=>⟨M.cast rfl (by rw[S9];simp),ak6 _,by rw[Nat.sub_zero]⟩⟩ ?_);rintro⟨j,u6⟩ w6 M6 ⟨hj,hinj⟩;refine an (fun h3=>?_) fun h3=>?_
 ·have YT:j<own.length:=by simp at h3;omega
  obtain⟨s,hs⟩:∃ s,own[j]?=some s:=⟨_,ak7 YT⟩;have hrow:aN w6 (.slice a5 own.length k5) own:=bP (M6.r 0 rfl) (show 1+y.jg.length=own.length by omega) hoc.symm;obtain⟨b7,o7,e7,hc7⟩:=SliceAt.elt (f:=aR) hrow (fun _=>rfl) (by decide) hs YT;have hnf:=vk (o:=N_) hs;have htl:(N_++own.take j).length≤100000:=by simp;omega
  refine ia<|an ⟨e7,rfl,YT⟩<|lc (x:=.string s)<|an (hc7 0 _ rfl)<|cl<|an (vn _ s (Yi s (ak8 hs)) _ _ (bP (M6.r 1 rfl) rfl rfl)) fun w8 M8=>an (fun h4 M=>⟨ri ?_,M.below⟩) fun h4=>?_
  ·have h4:aU [s] (N_++own.take j)≠0:=by simpa using h4
   have e9:ah (fW own N_) own.length 0=aU [s] (N_++own.take j):=by rw[hinj,aP YT (by rw[hnf];exact h4),hnf]
   rw[hinv,aP hlt (by rw[hcf,e9];exact h4),hcf,e9]
  ·exact fun g8 w9 M9=>ap 1 id rfl (M9.slice 0 rfl rfl rfl (by simp[maxLen])) ⟨by unfold maxLen;omega,by omega⟩ fun v9 pT j3=>an (by omega)<|bk (j+1,v9) ⟨rfl,rfl,trivial⟩ (fun M=>⟨(M.only (.cons _ (.refl _)) (.refl _)).cast rfl (by dsimp only;rw[List.take_add_one,hs];simp[aR];omega),by omega,hinj.trans (Jt hs (by simpa using h4) YT)⟩) (by dsimp only;omega)
 ·have ej:j=own.length:=by simp at h3;omega
  refine an (by omega)<|bk (m+1,u6) ⟨rfl,rfl,trivial⟩ (fun M=>⟨(M.only (.cons _ (.refl _)) (.cons _ (.refl _))).cast rfl ?_,by omega,hinv.trans (aG hlt ?_)⟩) (by dsimp only;omega)
  ·dsimp only
   have:N_++own.take j=bh (p.types.take (m+1)):=by
    rw[ej,ak9,List.take_add_one,hy,hown,S9];simp[bh]
   rw[this]
  ·rw[hcf,hinj,ej,aM]
theorem SliceAt.lo{w:World}{g off n c l k:Nat}{xs:List Value}(h:SliceAt w (.slice (some ⟨g,off,none⟩) n c) k n xs)(hl:l≤n):SliceAt w (.slice (if c=l then some ⟨g,off,none⟩ else some ⟨g,off+l*k,none⟩) (n-l) (c-l)) k (n-l) (xs.drop (l*k)):=by
 obtain⟨h1,h2,h3,h4⟩:=h;rcases h4 with⟨h,-⟩|⟨a,c',e,h5,h6⟩
 ·cases h
 cases e;refine⟨by rw[List.length_drop,h1,Nat.sub_mul],by omega,fun u hu=>h3 u (List.mem_of_mem_drop hu),.inr ?_⟩;by_cases hc:c=l
 ·rw[if_pos hc];exact⟨_,_,rfl,by omega,fun j u hu=>by rw[List.drop_of_length_le (by rw[h1];exact Nat.mul_le_mul_right _ (by omega))] at hu;simp at hu⟩
 ·rw[if_neg hc];refine⟨_,_,rfl,by omega,fun j u hu=>?_⟩;rw[List.getElem?_drop] at hu;have:=h6 _ _ hu;rw[Addr.add_mid] at this ⊢;rw[Nat.add_assoc];exact this
theorem S0(w0:World)(c0 c1 c2 c3 c4 c5 c6 c7 c8 c9 c10 c11 c12 c13 c14 c15 c16:Value)(p:aD)(hp:aA w0 c0 c1 c2 c3 c4 c5 c6 c7 c8 c9 c10 c11 c12 c13 c14 c15 c16 p)(hok:p.Ok)(hd:p.Md):Calls Tryz.prog 178 #[.agg #[c0,c1,c2,c3,c4,c5,c6,c7,c8,c9,c10,c11,c12,c13,c14,c15,c16]] w0 (RI w0 (if 64<p.attrs.length then 4 else ah (iJ p) p.attrs.length 0)):=by
 have hp':=hp;obtain⟨_,_,_,_,_,_,_,_,_,_,_,_,_,_,_,_,_,_,_,_,_,_,_,_,_,_,_,_,_,_,_,_,_,_,rfl,rfl,rfl,rfl,rfl,rfl,rfl,rfl,rfl,rfl,rfl,rfl,rfl,rfl,rfl,rfl,rfl⟩:=hp.open;refine bM [] (fn:=Tryz.f178) Tryz.func178 rfl Tryz.ntmps178 rfl<|fun g1 w1 M1=>lb 0<|an rfl<|an (fun h M=>⟨ri (if_pos (by simp at h;omega)),M.below⟩) fun h=>?_
 have ha:¬ 64<p.attrs.length:=by simp at h;omega
 rw[if_neg ha];refine lb 0<|an rfl<|cw M1 (PX _ _ _ _ _ _ _ _ _ _ _ _ _ _ _ _ _ _ p (hp'.keep M1.below) hok hd) fun u0 w5 M5=>lb 0<|an rfl<|lq (ι:=Nat×Value) (fun(m,u)=>[(3,u),(18,.int .i64 (m:Int))]) (fun(m,u)=>[⟨u,9,1,(bh p.types++(p.attrs.take m).map (·.name)).length,(bh p.types++(p.attrs.take m).map (·.name)).flatMap aR⟩]) (fun(m,u) _=>m≤p.attrs.length∧ah (iJ p) p.attrs.length 0=ah (iJ p) (p.attrs.length-m) m) (fun(m,u)=>p.attrs.length-m) (0,u0) (an ⟨⟨rfl,rfl,trivial⟩,fun M=>⟨M.cast rfl (by simp),ak6 _,by rw[Nat.sub_zero]⟩⟩ ?_)
 rintro⟨m,u⟩ w M ⟨hm,hinv⟩;refine an (fun h2=>?_) fun h2 M=>⟨ri (by rw[hinv,show m=p.attrs.length by simp at h2;omega,aM]),M.below⟩
 have hlt:m<p.attrs.length:=by simp at h2;omega
 obtain⟨y,hy⟩:∃ y,p.attrs[m]?=some y:=⟨_,ak7 hlt⟩;have dD:=hok.attrs y (ak8 hy);obtain⟨b,o,e,hc⟩:=SliceAt.elt hp.attrs (fun _=>rfl) (by decide) hy hlt;have hcf:iJ p m=ru p.types.length (bh p.types++(p.attrs.take m).map (·.name)) y:=by unfold iJ;rw[hy]
 have out:∀ v:Int,ru p.types.length (bh p.types++(p.attrs.take m).map (·.name)) y=v→v≠0→ah (iJ p) p.attrs.length 0=v:=fun v h1 h2=>by rw[hinv,aP hlt (by rw[hcf,h1];exact h2),hcf,h1]
 unfold ru at hcf out;have hl:=hd.tn;refine ia<|an ⟨e,rfl,hlt⟩<|lc (x:=y.cells)<|an (bZ M.below hc)<|ei<|an Oe fun g2 w2 M2=>lb 0<|an ⟨rfl,rfl⟩ fun w3 M3=>lb 0<|an rfl<|cl<|an (vn _ y.name dD.name _ _ (bP (M3.r 0 rfl) rfl rfl)) fun w7 M7=>an (fun h3 M=>⟨ri (out _ (if_neg (by simpa using h3)) (by simpa using h3)),M.below⟩) fun h3=>?_
 replace h3:aU [y.name] (bh p.types++(p.attrs.take m).map (·.name))=0:=by simpa using h3
 rw[if_pos h3] at hcf out;have hll:(bh p.types++(p.attrs.take m).map (·.name)).length≤100200:=by simp;omega
 exact lb 0<|an rfl<|fun g5 w8 M8=>ap 0 id rfl (M8.slice 0 rfl rfl rfl (by simp[maxLen])) ⟨by unfold maxLen;omega,by omega⟩ fun v6 w9 M9=>lb 2<|an rfl<|lb 1<|an rfl<|cl<|an (qX _ _ _ _ _ _ _ _ _ _ _ _ _ _ _ _ _ _ p (hp'.keep M9.below) y.types dD.types) fun pT j3=>an (fun h4 M=>⟨ri (out 3 (if_pos (by simpa using h4)) (by decide)),M.below⟩) fun h4=>an (by omega)<|bk (m+1,v6) ⟨rfl,rfl,trivial⟩ (fun M=>⟨(M.only (.cons _ (.cons _ (.refl _))) (.refl _)).cast rfl (by dsimp only;rw[List.take_add_one,hy];simp[aR];omega),by omega,hinv.trans (aG hlt (by rw[hcf,if_neg (by simpa using h4)]))⟩) (by dsimp only;omega)
theorem SR(w0:World)(c0 c1 c2 c3 c4 c5 c6 c7 c8 c9 c10 c11 c12 c13 c14 c15 c16:Value)(p:aD)(hp:aA w0 c0 c1 c2 c3 c4 c5 c6 c7 c8 c9 c10 c11 c12 c13 c14 c15 c16 p)(hok:p.Ok):Calls Tryz.prog 179 #[.agg #[c0,c1,c2,c3,c4,c5,c6,c7,c8,c9,c10,c11,c12,c13,c14,c15,c16]] w0 (RI w0 (dO p)):=by
 have hp':=hp;obtain⟨_,_,_,a3,_,_,_,_,_,_,_,_,_,_,_,_,_,_,_,_,k3,_,_,_,_,_,_,_,_,_,_,_,_,_,rfl,rfl,rfl,rfl,rfl,rfl,rfl,rfl,rfl,rfl,rfl,rfl,rfl,rfl,rfl,rfl,rfl⟩:=hp.open
 obtain⟨r,b,o,H⟩:∃ (r:dI) (b o:Nat),p.roles.length≠0→p.roles[0]?=some r∧a3=some ⟨b,o,none⟩∧∀ j u,r.cells[j]?=some u→w0.cell? ⟨b,o+0*9+j,none⟩=some u:=by
  by_cases h0:p.roles.length=0
  ·exact⟨gU,0,0,fun h=>absurd h0 h⟩
  ·have hy:=ak7 (Nat.pos_of_ne_zero h0);obtain⟨b,o,e,hc⟩:=SliceAt.elt hp.roles (fun _=>rfl) (by decide) hy (Nat.pos_of_ne_zero h0);exact⟨_,b,o,fun _=>⟨hy,e,hc⟩⟩
 refine bM [] (fn:=Tryz.f179) Tryz.func179 rfl Tryz.ntmps179 rfl<|fun g1 w1 M1=>lb 0<|an rfl<|an (fun h M=>⟨ri (by unfold dO;rw[if_pos (by simp at h;omega)]),M.below⟩) fun h=>?_
 have hr:¬ 32<p.roles.length:=by simp at h;omega
 refine ia (b:=b) (off:=o) (i:=0)<|an (fun h=>⟨(H fun e=>by simp[e] at h).2.1,rfl,Nat.pos_of_ne_zero fun e=>by simp[e] at h⟩)<|lc (x:=[.string r.name,.int .u64 r.types.a,.int .u64 r.types.b,.int .u64 r.types.c,.int .u64 r.types.d,.int .u64 r.next.a,.int .u64 r.next.b,.int .u64 r.next.c,.int .u64 r.next.d])<|an (fun h=>bZ M1.below (H fun e=>by simp[e] at h).2.2)<|ei (x:=.agg #[.string ⟨#[111,98,106,101,99,116,95,114]⟩,.int .u64 0,.int .u64 0,.int .u64 0,.int .u64 0,.int .u64 0,.int .u64 0,.int .u64 0,.int .u64 0])<|an (fun _=>bd (by kernel_rfl))<|ei<|an (fun h=>⟨LG,ur r⟩)<|an (fun h2 M=>⟨ri ?_,M.below⟩) fun h2=>?_
 ·unfold dO;rw[if_neg hr,if_pos];by_cases h0:p.roles.length=0
  ·exact vU h0
  ·exact AX (H h0).1 (by simpa[h0] using h2)
 have h0:p.roles.length≠0:=fun e=>by simp[e] at h2
 obtain⟨hr0,ha3,-⟩:=H h0;have hro:r=gU:=by simpa[h0] using h2
 rw[show dO p=ah (ji p) (p.roles.length-1) 1 by unfold dO;rw[if_neg hr,if_neg (head_eq hr0 hro)]];subst ha3;have hsl:=SliceAt.lo (l:=1) hp.roles (Nat.pos_of_ne_zero h0)
 have Lq:(p.roles.flatMap dI.cells).drop (1*9)=(p.roles.drop 1).flatMap dI.cells:=by
  cases hl:p.roles with
  | nil=>rfl
  | cons x t=>simp[dI.cells]
 rw[Lq] at hsl;obtain⟨_,kk3,e3,agk,-⟩:=SliceAt.form hp.roles (by decide);injection e3 with e31 e32 e33;obtain⟨a7,ha7⟩:∃ a7,a7=(if k3=1 then some (⟨b,o,none⟩:Addr) else some ⟨b,o+1*9,none⟩):=⟨_,rfl⟩;rw[← ha7] at hsl;refine fun g3 w5 M5=>N9 M5 (v:=.slice a7 (p.roles.length-1) (k3-1)) (fun a o ho hv=>ha7▸zC (l:=1) ho (aY hv) (cC hv) (Nat.pos_of_ne_zero h0) u25 X5)<|lp (ι:=Nat×Value) (fun(m,u)=>[(4,u),(28,.int .i64 (m:Int))]) (fun _=>[_]) (fun(m,u)=>[⟨u,9,1,m+1,((p.roles.take (m+1)).map (·.name)).flatMap aR⟩]) (fun(m,u) _=>m≤p.roles.length-1∧ah (ji p) (p.roles.length-1) 1=ah (ji p) (p.roles.length-(m+1)) (m+1)) (fun(m,u)=>p.roles.length-1-m) (0,.slice (some ⟨g3,0,none⟩) 1 1) (an ⟨⟨rfl,rfl,trivial⟩,fun M=>⟨(M.su 1 1 (by simp[maxLen]) rfl).cast rfl (by dsimp only;rw[← tX hr0 hro];rfl),ak6 _,rfl⟩⟩ ?_)
 rintro⟨m,u⟩ w M ⟨hm,hinv⟩;refine an (fun h2=>?_) fun h2 M=>⟨ri (by rw[hinv,show m+1=p.roles.length by simp at h2;omega,aM]),M.below⟩
 have hlt:m<p.roles.length-1:=by simp at h2;omega
 have Wg:m+1<p.roles.length:=by omega
 obtain⟨y,hy⟩:∃ y,p.roles[m+1]?=some y:=⟨_,ak7 Wg⟩;have dD:=hok.roles y (ak8 hy);have hy':(p.roles.drop 1)[m]?=some y:=by rw[List.getElem?_drop,Nat.add_comm];exact hy
 obtain⟨b,o,e,hc⟩:=SliceAt.elt hsl (fun _=>rfl) (by decide) hy' hlt;have hcf:ji p (m+1)=qD p.types.length p.roles.length ((p.roles.take (m+1)).map (·.name)) y:=by unfold ji;rw[hy]
 have out:∀ v:Int,qD p.types.length p.roles.length ((p.roles.take (m+1)).map (·.name)) y=v→v≠0→ah (ji p) (p.roles.length-1) 1=v:=fun v h1 h2=>by rw[hinv,aP Wg (by rw[hcf,h1];exact h2),hcf,h1]
 unfold qD at hcf out;refine ia<|an ⟨e,rfl,hlt⟩<|lc (x:=y.cells)<|an (bZ M.below hc)<|ei<|an C9 fun g2 w2 M2=>lb 0<|an ⟨rfl,rfl⟩ fun w3 M3=>lb 0<|an rfl<|cl<|an (vn _ y.name dD.name _ _ (bP (M3.r 0 rfl) (by simp;omega) rfl)) fun w5 M5=>an (fun h3 M=>⟨ri (out _ (if_neg (by simpa using h3)) (by simpa using h3)),M.below⟩) fun h3=>?_
 replace h3:aU [y.name] ((p.roles.take (m+1)).map (·.name))=0:=by simpa using h3
 rw[if_pos h3] at hcf out;refine lb 0<|an rfl<|fun g4 w6 M6=>ap 0 id rfl (M6.slice 0 rfl rfl rfl (by simp[maxLen])) ⟨by unfold maxLen;omega,by omega⟩ fun v5 w7 M7=>lb 2<|an rfl<|lb 1<|an rfl<|cl<|an (qX _ _ _ _ _ _ _ _ _ _ _ _ _ _ _ _ _ _ p (hp'.keep M7.below) y.types dD.types) fun w8 M8=>lb 2<|an (fun _=>rfl)<|lb 1<|an (fun _=>rfl)<|cl<|an (fun _=>BU _ _ _ _ _ _ _ _ _ _ _ _ _ _ _ _ _ _ p (hp'.keep M8.below) y.next dD.next) fun w9 M9=>an (fun h4 M=>⟨ri (out 3 ?_ (by decide)),M.below⟩) fun h4=>an (by omega)<|bk (m+1,v5) ⟨rfl,rfl,trivial⟩ (fun M=>⟨(M.only (.cons _ (.cons _ (.refl _))) (.refl _)).cast rfl (by dsimp only;rw[eD hy]),by omega,hinv.trans (aG Wg ?_)⟩) (by dsimp only;omega)
 all_goals first|(rw[hcf];clear hcf out)|clear hcf out
 all_goals cases h6:y.types.within (aE.all p.types.length)<;>cases h7:kf p.roles.length y.next<;>simp_all
theorem SL(w0:World)(c0 c1 c2 c3 c4 c5 c6 c7 c8 c9 c10 c11 c12 c13 c14 c15 c16:Value)(p:aD)(hp:aA w0 c0 c1 c2 c3 c4 c5 c6 c7 c8 c9 c10 c11 c12 c13 c14 c15 c16 p)(hok:p.Ok):Calls Tryz.prog 180 #[.agg #[c0,c1,c2,c3,c4,c5,c6,c7,c8,c9,c10,c11,c12,c13,c14,c15,c16]] w0 (RI w0 (fK p)):=by
 have hp':=hp;obtain⟨_,_,_,_,_,_,_,_,_,_,_,_,_,_,_,_,_,_,_,_,_,_,_,_,_,_,_,_,_,_,_,_,_,_,rfl,rfl,rfl,rfl,rfl,rfl,rfl,rfl,rfl,rfl,rfl,rfl,rfl,rfl,rfl,rfl,rfl⟩:=hp.open;refine bM [] (fn:=Tryz.f180) Tryz.func180 rfl Tryz.ntmps180 rfl<|fun g1 w1 M1=>lb 0<|an rfl<|an (fun h M=>⟨ri (by unfold fK;rw[if_pos (by simp at h;omega)]),M.below⟩) fun h=>?_
 have hr:¬ 32<p.users.length:=by simp at h;omega
 rw[show fK p=ah (jh p) p.users.length 0 from if_neg hr];refine lb 0<|an rfl<|lq (ι:=Nat×Value) (fun(m,u)=>[(3,u),(16,.int .i64 (m:Int))]) (fun(m,u)=>[⟨u,9,1,m,((p.users.take m).map (·.name)).flatMap aR⟩]) (fun(m,u) _=>m≤p.users.length∧ah (jh p) p.users.length 0=ah (jh p) (p.users.length-m) m) (fun(m,u)=>p.users.length-m) (0,.slice none 0 0) (an ⟨⟨rfl,rfl,trivial⟩,fun M=>⟨M.bS 9 1,ak6 _,by rw[Nat.sub_zero]⟩⟩ ?_);rintro⟨m,u⟩ w M ⟨hm,hinv⟩;refine an (fun h2=>?_) fun h2 M=>⟨ri (by rw[hinv,show m=p.users.length by simp at h2;omega,aM]),M.below⟩
 have hlt:m<p.users.length:=by simp at h2;omega
 obtain⟨y,hy⟩:∃ y,p.users[m]?=some y:=⟨_,ak7 hlt⟩;have dD:=hok.users y (ak8 hy);obtain⟨b,o,e,hc⟩:=SliceAt.elt hp.users (fun _=>rfl) (by decide) hy hlt;have hcf:jh p m=qB p.roles.length p.ak.length p.cats.length ((p.users.take m).map (·.name)) y:=by unfold jh;rw[hy]
 have out:∀ v:Int,qB p.roles.length p.ak.length p.cats.length ((p.users.take m).map (·.name)) y=v→v≠0→ah (jh p) p.users.length 0=v:=fun v h1 h2=>by rw[hinv,aP hlt (by rw[hcf,h1];exact h2),hcf,h1]
 unfold qB at hcf out;refine ia<|an ⟨e,rfl,hlt⟩<|lc (x:=y.cells)<|an (bZ M.below hc)<|ei<|an uN fun g2 w2 M2=>lb 0<|an ⟨rfl,rfl⟩ fun w3 M3=>lb 0<|an rfl<|cl<|an (vn _ y.name dD.name _ _ (bP (M3.r 0 rfl) (by simp;omega) rfl)) fun w5 M5=>an (fun h3 M=>⟨ri (out _ (if_neg (by simpa using h3)) (by simpa using h3)),M.below⟩) fun h3=>?_
 replace h3:aU [y.name] ((p.users.take m).map (·.name))=0:=by simpa using h3
 rw[if_pos h3] at hcf out;refine lb 0<|an rfl<|fun g4 w6 M6=>ap 0 id rfl (M6.slice 0 rfl rfl rfl (by simp[maxLen])) ⟨by unfold maxLen;omega,by omega⟩ fun v5 w7 M7=>lb 2<|an rfl<|lb 1<|an rfl<|cl<|an (BU _ _ _ _ _ _ _ _ _ _ _ _ _ _ _ _ _ _ p (hp'.keep M7.below) y.roles dD.roles) fun w8 M8=>an (fun h4 M=>⟨ri (out 3 (if_pos (by simpa using h4)) (by decide)),M.below⟩) fun h4=>?_
 rw[if_neg (by simpa using h4)] at hcf out;refine lb 2<|an rfl<|lb 1<|an rfl<|cl<|an (GH _ _ _ _ _ _ _ _ _ _ _ _ _ _ _ _ _ _ p (hp'.keep M8.below) y.rng dD.rng) fun w9 M9=>lb 1<|an (fun _=>rfl)<|lb 1<|an (fun _=>rfl)<|lb 1<|an (fun _=>rfl)<|ei (x:=.agg #[.int .i64 y.dflt.ak,.int .u64 y.dflt.cats,.int .i64 y.dflt.ak,.int .u64 y.dflt.cats])<|an (fun _=>bd (by kernel_rfl))<|cl<|an (fun _=>zV _ y.rng ⟨y.dflt,y.dflt⟩ dD.rng ⟨dD.dflt,dD.dflt⟩) fun Dh y9=>an (fun h5 M=>⟨ri (out 18 ?_ (by decide)),M.below⟩) fun h5=>an (by omega)<|bk (m+1,v5) ⟨rfl,rfl,trivial⟩ (fun M=>⟨(M.only (.cons _ (.cons _ (.refl _))) (.refl _)).cast rfl (by dsimp only;rw[eD hy]),by omega,hinv.trans (aG hlt ?_)⟩) (by dsimp only;omega)
 all_goals first|(rw[hcf];clear hcf out)|clear hcf out
 all_goals cases h6:gE p.ak.length p.cats.length y.rng<;>cases h8:jY y.rng.high y.dflt<;>cases h9:jY y.dflt y.rng.low
 all_goals first|(have h7:=MO h6 dD.dflt dD.rng h8 h9;simp_all;done)|simp_all
theorem Qc(w0:World)(c0 c1 c2 c3 c4 c5 c6 c7 c8 c9 c10 c11 c12 c13 c14 c15 c16:Value)(p:aD)(hp:aA w0 c0 c1 c2 c3 c4 c5 c6 c7 c8 c9 c10 c11 c12 c13 c14 c15 c16 p)(hd:p.Md):Calls Tryz.prog 280 #[.agg #[c0,c1,c2,c3,c4,c5,c6,c7,c8,c9,c10,c11,c12,c13,c14,c15,c16],.int .i64 6] w0 (fun(e:Ending) (w':World)=>∃ v,e=.returned v∧(Ks w' w0.heap.size v (p.bools.map (·.name))∧ak5 w0.heap.size w0 w')):=by
 obtain⟨_,_,_,_,_,_,_,_,_,_,_,_,_,_,_,_,_,_,_,_,_,_,_,_,_,_,_,_,_,_,_,_,_,_,rfl,rfl,rfl,rfl,rfl,rfl,rfl,rfl,rfl,rfl,rfl,rfl,rfl,rfl,rfl,rfl,rfl⟩:=hp.open;have hl:=hd.bools;refine bM [] (fn:=Tryz.f280) Tryz.func280 rfl Tryz.ntmps280 rfl<|fun g1 w1 M1=>an (fun h=>absurd h (by decide)) fun _=>an (fun h=>absurd h (by decide)) fun _=>an (fun h=>absurd h (by decide)) fun _=>an (fun h=>absurd h (by decide)) fun _=>an (fun h=>absurd h (by decide)) fun _=>an (fun _=>?_) fun h=>absurd h (by decide)
 refine lb 0<|an rfl<|lq (ι:=Nat×Value) (fun(m,u)=>[(5,u),(99,.int .i64 (m:Int))]) (fun(m,u)=>[⟨u,9,1,m,((p.bools.take m).map (·.name)).flatMap aR⟩]) (fun(m,u) _=>m≤p.bools.length) (fun(m,u)=>p.bools.length-m) (0,.slice none 0 0) (an ⟨⟨rfl,rfl,trivial⟩,fun M=>⟨M.bS 9 1,ak6 _⟩⟩ ?_);rintro⟨m,u⟩ w M hm;refine an (fun h2=>?_) fun h2 M=>⟨_,rfl,?_,M.below⟩
 ·have hlt:m<p.bools.length:=by simp at h2;omega
  obtain⟨y,hy⟩:∃ y,p.bools[m]?=some y:=⟨_,ak7 hlt⟩;obtain⟨b,o,e,hc⟩:=SliceAt.elt hp.bools (fun _=>rfl) (by decide) hy hlt;exact ia<|an ⟨e,rfl,hlt⟩<|lc (x:=y.cells)<|an (bZ M.below hc)<|ei<|an Od fun g2 w2 M2=>lb 0<|an ⟨rfl,rfl⟩ fun w3 M3=>lb 0<|an rfl<|fun g3 w4 M4=>ap 0 id rfl (M4.slice 0 rfl rfl rfl (by simp[maxLen])) ⟨by unfold maxLen;omega,by omega⟩ fun v4 w5 M5=>an (by omega)<|bk (m+1,v4) ⟨rfl,rfl,trivial⟩ (fun M=>⟨(M.only (.cons _ (.cons _ (.refl _))) (.refl _)).cast rfl (by dsimp only;rw[eD hy]),by omega⟩) (by dsimp only;omega)
 ·obtain rfl:m=p.bools.length:=by simp at h2;omega
  have:=M.r 0 rfl;rw[ak9] at this;unfold Ks;rw[List.length_map];exact this
theorem SZ(w0:World)(c0 c1 c2 c3 c4 c5 c6 c7 c8 c9 c10 c11 c12 c13 c14 c15 c16:Value)(p:aD)(hp:aA w0 c0 c1 c2 c3 c4 c5 c6 c7 c8 c9 c10 c11 c12 c13 c14 c15 c16 p)(hok:p.Ok)(hd:p.Md):Calls Tryz.prog 181 #[.agg #[c0,c1,c2,c3,c4,c5,c6,c7,c8,c9,c10,c11,c12,c13,c14,c15,c16]] w0 (RI w0 (if 16<p.bools.length then 4 else aU (p.bools.map (·.name)) [])):=by
 have hp':=hp;obtain⟨_,_,_,_,_,_,_,_,_,_,_,_,_,_,_,_,_,_,_,_,_,_,_,_,_,_,_,_,_,_,_,_,_,_,rfl,rfl,rfl,rfl,rfl,rfl,rfl,rfl,rfl,rfl,rfl,rfl,rfl,rfl,rfl,rfl,rfl⟩:=hp.open;refine bM [] (fn:=Tryz.f181) Tryz.func181 rfl Tryz.ntmps181 rfl<|fun g1 w1 M1=>lb 0<|an rfl<|cw M1 (Qc _ _ _ _ _ _ _ _ _ _ _ _ _ _ _ _ _ _ p (hp'.keep M1.below) hd) fun u w2 M2=>cl<|an (AQ _ _ _ (Pt (M2.r 0 rfl)) 16 (fun s hs=>by obtain⟨y,hy,rfl⟩:=List.mem_map.1 hs;exact(hok.bools y hy).name)) fun w3 M3=>fun M=>⟨?_,M.below⟩
 rw[List.length_map];rfl
theorem VI(w0:World)(c0 c1 c2 c3 c4 c5 c6 c7 c8 c9 c10 c11 c12 c13 c14 c15 c16:Value)(p:aD)(hp:aA w0 c0 c1 c2 c3 c4 c5 c6 c7 c8 c9 c10 c11 c12 c13 c14 c15 c16 p)(hok:p.Ok):Calls Tryz.prog 182 #[.agg #[c0,c1,c2,c3,c4,c5,c6,c7,c8,c9,c10,c11,c12,c13,c14,c15,c16]] w0 (RI w0 (if 16<p.ak.length then 4 else aU p.ak [])):=by
 obtain⟨_,_,_,_,_,_,_,_,_,_,_,_,_,_,_,_,_,_,_,_,_,_,_,_,_,_,_,_,_,_,_,_,_,_,rfl,rfl,rfl,rfl,rfl,rfl,rfl,rfl,rfl,rfl,rfl,rfl,rfl,rfl,rfl,rfl,rfl⟩:=hp.open;refine bM [] (fn:=Tryz.f182) Tryz.func182 rfl Tryz.ntmps182 rfl<|fun g1 w1 M1=>lb 0<|an rfl<|cl<|an (AQ _ _ _ (hp.ak.keep M1.below) 16 hok.ak) fun w3 M3=>fun M=>⟨rfl,M.below⟩
theorem VL(w0:World)(c0 c1 c2 c3 c4 c5 c6 c7 c8 c9 c10 c11 c12 c13 c14 c15 c16:Value)(p:aD)(hp:aA w0 c0 c1 c2 c3 c4 c5 c6 c7 c8 c9 c10 c11 c12 c13 c14 c15 c16 p)(hok:p.Ok):Calls Tryz.prog 183 #[.agg #[c0,c1,c2,c3,c4,c5,c6,c7,c8,c9,c10,c11,c12,c13,c14,c15,c16]] w0 (RI w0 (if 64<p.cats.length then 4 else aU p.cats [])):=by
 obtain⟨_,_,_,_,_,_,_,_,_,_,_,_,_,_,_,_,_,_,_,_,_,_,_,_,_,_,_,_,_,_,_,_,_,_,rfl,rfl,rfl,rfl,rfl,rfl,rfl,rfl,rfl,rfl,rfl,rfl,rfl,rfl,rfl,rfl,rfl⟩:=hp.open;refine bM [] (fn:=Tryz.f183) Tryz.func183 rfl Tryz.ntmps183 rfl<|fun g1 w1 M1=>lb 0<|an rfl<|cl<|an (AQ _ _ _ (hp.cats.keep M1.below) 64 hok.cats) fun w3 M3=>fun M=>⟨rfl,M.below⟩
theorem SQ(w0:World)(c0 c1 c2 c3 c4 c5 c6 c7 c8 c9 c10 c11 c12 c13 c14 c15 c16:Value)(p:aD)(hp:aA w0 c0 c1 c2 c3 c4 c5 c6 c7 c8 c9 c10 c11 c12 c13 c14 c15 c16 p)(hok:p.Ok)(hcl:∀ y∈p.classes,y.perms.length≤64):Calls Tryz.prog 185 #[.agg #[c0,c1,c2,c3,c4,c5,c6,c7,c8,c9,c10,c11,c12,c13,c14,c15,c16]] w0 (RI w0 (if 4096<p.rules.length then 4 else ah (iB p) p.rules.length 0)):=by
 have hp':=hp;obtain⟨_,_,_,_,_,_,_,_,_,_,_,_,_,_,_,_,_,_,_,_,_,_,_,_,_,_,_,_,_,_,_,_,_,_,rfl,rfl,rfl,rfl,rfl,rfl,rfl,rfl,rfl,rfl,rfl,rfl,rfl,rfl,rfl,rfl,rfl⟩:=hp.open;refine bM [] (fn:=Tryz.f185) Tryz.func185 rfl Tryz.ntmps185 rfl<|fun g1 w1 M1=>lb 0<|an rfl<|an (fun h M=>⟨ri (if_pos (by simp at h;omega)),M.below⟩) fun h=>?_
 have hll:p.rules.length≤4096:=by simp at h;omega
 rw[if_neg (by omega)];refine lb 0<|an rfl<|?_;refine lr (ι:=Nat) (fun m=>[(14,.int .i64 (m:Int))]) (fun m _=>m≤p.rules.length∧ah (iB p) p.rules.length 0=ah (iB p) (p.rules.length-m) m) (fun m=>p.rules.length-m) 0 (an ⟨⟨rfl,trivial⟩,fun M=>⟨M,ak6 _,by rw[Nat.sub_zero]⟩⟩ ?_);rintro m w M ⟨hm,hinv⟩;refine an (fun h2=>?_) fun h2 M=>⟨ri (by rw[hinv,show m=p.rules.length by simp at h2;omega,aM]),M.below⟩
 have hlt:m<p.rules.length:=by simp at h2;omega
 obtain⟨y,hy⟩:∃ y,p.rules[m]?=some y:=⟨_,ak7 hlt⟩;have dD:=hok.rules y (ak8 hy);obtain⟨b,o,e,hc⟩:=SliceAt.elt hp.rules (fun _=>rfl) (by decide) hy hlt;have hcf:iB p m=o_ p.types.length p.conds.length p.classes y:=by unfold iB;rw[hy]
 have out:∀ v:Int,o_ p.types.length p.conds.length p.classes y=v→v≠0→ah (iB p) p.rules.length 0=v:=fun v h1 h2=>by rw[hinv,aP hlt (by rw[hcf,h1];exact h2),hcf,h1]
 unfold o_ at hcf out;refine ia<|an ⟨e,rfl,hlt⟩<|lc (x:=y.cells)<|an (bZ M.below hc)<|ei<|an zH fun g2 w2 M2=>lb 0<|an ⟨rfl,rfl⟩ fun w3 M3=>lb 0<|an rfl<|lb 0<|an (fun _=>rfl)<|an (fun h M=>⟨ri (out 13 ?_ (by decide)),M.below⟩) fun h=>?_
 ·simp only[Bool.or_eq_true,decide_eq_true_eq] at h;by_cases h1:y.kind<1
  ·rw[if_pos h1]
  ·rw[if_neg h1,if_pos (by omega)]
 simp only[Bool.or_eq_false_iff,decide_eq_false_iff_not] at h;rw[if_neg h.1,if_neg h.2] at out hcf;refine lb 1<|an rfl<|lb 0<|an rfl<|cl<|an (qX _ _ _ _ _ _ _ _ _ _ _ _ _ _ _ _ _ _ p (hp'.keep M3.below) y.src dD.src) fun w4 M4=>lb 1<|an (fun _=>rfl)<|lb 0<|an (fun _=>rfl)<|cl<|an (fun _=>qX _ _ _ _ _ _ _ _ _ _ _ _ _ _ _ _ _ _ p (hp'.keep M4.below) y.tgt dD.tgt) fun w5 M5=>lb 1<|an (fun _=>rfl)<|lb 0<|an (fun _=>rfl)<|lb 0<|an (fun _=>rfl)<|cl<|an (fun _=>GF _ _ _ _ _ _ _ _ _ _ _ _ _ _ _ _ _ _ p (hp'.keep M5.below) y.cls y.perms dD.perms hcl) fun w6 M6=>lb 1<|an (fun _=>rfl)<|lb 0<|an (fun _=>rfl)<|cl<|an (fun _=>Qh _ _ _ _ _ _ _ _ _ _ _ _ _ _ _ _ _ _ p (hp'.keep M6.below) y.cond) fun w7 M7=>an (fun h3 M=>⟨ri (out 3 (if_pos h3) (by decide)),M.below⟩) fun h3=>?_
 rw[if_neg (by rw[show oO _ _ _ _=false from h3];decide)] at out hcf;refine lb 0<|an rfl<|cl<|an (lC _ y.src) fun w8 M8=>lb 0<|an (fun _=>rfl)<|cl<|an (fun _=>lC _ y.tgt) fun w9 M9=>lb 0<|an (fun _=>rfl)<|lb 0<|an (fun _=>rfl)<|lb 0<|an (fun _=>rfl)<|lb 0<|an (fun _=>rfl)<|an (fun h4 M=>⟨ri (out 2 ?_ (by decide)),M.below⟩) fun h4=>an (by omega)<|bk (m+1) ⟨rfl,trivial⟩ (fun M=>⟨M.only (.cons _ (.refl _)) (.refl _),by omega,hinv.trans (aG hlt ?_)⟩) (by dsimp only;omega)
 all_goals first|(rw[hcf];clear hcf out)|clear hcf out
 ·rw[if_pos];rw[← h4];unfold tW;cases bD y.src<;>cases bD y.tgt<;>cases y.self<;>rfl
 ·rw[if_neg]
  have h5:tW (bD y.src) (bD y.tgt) y=false:=by
   rw[← h4];unfold tW;cases bD y.src<;>cases bD y.tgt<;>cases y.self<;>rfl
  rw[h5];decide
theorem VJ(w0:World)(v:Value)(l:List dH)(h:SliceAt w0 v 13 l.length (l.flatMap dH.cells))(k:Int):Calls Tryz.prog 286 #[v,.int .i64 k] w0 (fun r w'=>r=.returned (.int .i64 (aX l k:Int))∧ak5 w0.heap.size w0 w'):=by
 obtain⟨_,_,rfl,-,hm5,-⟩:=SliceAt.form h (by decide);refine bM [] (fn:=Tryz.f286) Tryz.func286 rfl Tryz.ntmps286 rfl<|lr (ι:=Nat) (fun m=>[(5,.int .i64 (aX (l.take m) k:Int)),(10,.int .i64 (m:Int))]) (fun m _=>m≤l.length) (fun m=>l.length-m) 0 (an ⟨⟨rfl,rfl,trivial⟩,fun M=>⟨M,ak6 _⟩⟩ ?_);intro m w M hm;refine an (fun h1=>?_) fun h1 M=>?_
 ·have hlt:m<l.length:=by simp at h1;omega
  obtain⟨y,hy⟩:∃ y,l[m]?=some y:=⟨_,ak7 hlt⟩;obtain⟨b,o,e,hc⟩:=SliceAt.elt h (fun _=>rfl) (by decide) hy hlt;have hle:aX (l.take m) k≤m:=by unfold aX;exact Nat.le_trans (List.length_filter_le ..) (by simp;omega)
  have hs:aX (l.take (m+1)) k=aX (l.take m) k+(if y.kind=k then 1 else 0):=by rw[cE hy,bO]
  refine ia<|an ⟨e,rfl,hlt⟩<|lc (x:=y.cells)<|an (bZ M.below hc)<|ei<|an FG fun g2 w2 M2=>lb 0<|an ⟨rfl,rfl⟩ fun w3 M3=>lb 0<|an rfl<|an (fun h2=>?_) fun h2=>?_
  ·rw[if_pos (by simpa using h2)] at hs;exact an (by omega)<|an (by omega)<|bk (m+1) (by rw[hs];exact⟨rfl,rfl,trivial⟩) (fun M=>⟨M.only (.cons _ (.refl _)) (.refl _),hlt⟩) (by dsimp only;omega)
  ·rw[if_neg (by simpa using h2)] at hs;exact an (by omega)<|bk (m+1) (by rw[hs];exact⟨rfl,rfl,trivial⟩) (fun M=>⟨M.only (.cons _ (.refl _)) (.refl _),hlt⟩) (by dsimp only;omega)
 ·have e:m=l.length:=by simp at h1;omega
  subst e;exact⟨ri (by rw[ak9]),M.below⟩
theorem SN(w0:World)(c0 c1 c2 c3 c4 c5 c6 c7 c8 c9 c10 c11 c12 c13 c14 c15 c16:Value)(p:aD)(hp:aA w0 c0 c1 c2 c3 c4 c5 c6 c7 c8 c9 c10 c11 c12 c13 c14 c15 c16 p)(hok:p.Ok):Calls Tryz.prog 186 #[.agg #[c0,c1,c2,c3,c4,c5,c6,c7,c8,c9,c10,c11,c12,c13,c14,c15,c16]] w0 (RI w0 (h_ p)):=by
 have hp':=hp;obtain⟨_,_,e10,-,Wf,-⟩:=SliceAt.form hp.trans (by decide);obtain⟨_,_,_,_,_,_,_,_,_,_,_,_,_,_,_,_,_,_,_,_,_,_,_,_,_,_,_,_,_,_,_,_,_,_,rfl,rfl,rfl,rfl,rfl,rfl,rfl,rfl,rfl,rfl,rfl,rfl,rfl,rfl,rfl,rfl,rfl⟩:=hp.open;refine bM [] (fn:=Tryz.f186) Tryz.func186 rfl Tryz.ntmps186 rfl<|fun g1 w1 M1=>lr (ι:=Nat) (fun k=>[(3,.int .i64 (k:Int))]) (fun k _=>1≤k∧k≤4∧∀ q:Int,1≤q→q<k→aX p.trans q≤1024) (fun k=>4-k) 1 (an ⟨⟨rfl,trivial⟩,fun M=>⟨M,Nat.le_refl _,by decide,fun q h1 h2=>by omega⟩⟩ ?_)
 rintro k w M ⟨hk1,NY,hall⟩;refine an (fun h1=>?_) fun h1=>?_
 ·have Xx:k≤3:=by simp at h1;omega
  refine lb 0<|an rfl<|cl<|an (VJ _ _ _ (hp.trans.keep M.below) _) fun w2 M2=>an (fun h2 M=>⟨ri ?_,M.below⟩) fun h2=>an (by omega)<|bk (k+1) ⟨rfl,trivial⟩ (fun M=>⟨M,by omega,by omega,fun q h3 h4=>?_⟩) (by dsimp only;omega)
  ·have h2:1024<aX p.trans (k:Int):=by simp at h2;omega
   exact gL (q:=(k:Int)) (m:=p.trans.length) (by omega) (by omega) (by rw[ak9];exact h2)
  ·by_cases e:q=(k:Int)
   ·subst e;simp at h2;omega
   ·exact hall q h3 (by omega)
 have hk:k=4:=by simp at h1;omega
 rw[tO fun q h2 h3=>hall q h2 (by omega)];clear hall hk1 NY h1;refine lb 0<|an rfl<|?_;refine lr (ι:=Nat) (fun m=>[(20,.int .i64 (m:Int))]) (fun m _=>m≤p.trans.length∧ah (j9 p) p.trans.length 0=ah (j9 p) (p.trans.length-m) m) (fun m=>p.trans.length-m) 0 (an ⟨⟨rfl,trivial⟩,fun M=>⟨M,ak6 _,by rw[Nat.sub_zero]⟩⟩ ?_);rintro m w M ⟨hm,hinv⟩;refine an (fun h2=>?_) fun h2 M=>⟨ri (by rw[hinv,show m=p.trans.length by simp at h2;omega,aM]),M.below⟩
 have hlt:m<p.trans.length:=by simp at h2;omega
 obtain⟨y,hy⟩:∃ y,p.trans[m]?=some y:=⟨_,ak7 hlt⟩;have dD:=hok.trans y (ak8 hy);obtain⟨b,o,e,hc⟩:=SliceAt.elt hp.trans (fun _=>rfl) (by decide) hy hlt;have hcf:j9 p m=qC p.types.length p.classes.length p.conds.length y:=by unfold j9;rw[hy]
 have out:∀ v:Int,qC p.types.length p.classes.length p.conds.length y=v→v≠0→ah (j9 p) p.trans.length 0=v:=fun v h1 h2=>by rw[hinv,aP hlt (by rw[hcf,h1];exact h2),hcf,h1]
 unfold qC at hcf out;refine ia<|an ⟨e,rfl,hlt⟩<|lc (x:=y.cells)<|an (bZ M.below hc)<|ei<|an FG fun g2 w2 M2=>lb 0<|an ⟨rfl,rfl⟩ fun w3 M3=>lb 0<|an rfl<|lb 0<|an (fun _=>rfl)<|an (fun h M=>⟨ri (out 13 ?_ (by decide)),M.below⟩) fun h=>?_
 ·simp only[Bool.or_eq_true,decide_eq_true_eq] at h;by_cases h1:y.kind<1
  ·rw[if_pos h1]
  ·rw[if_neg h1,if_pos (by omega)]
 simp only[Bool.or_eq_false_iff,decide_eq_false_iff_not] at h;rw[if_neg h.1,if_neg h.2] at out hcf;refine lb 1<|an rfl<|lb 0<|an rfl<|cl<|an (qX _ _ _ _ _ _ _ _ _ _ _ _ _ _ _ _ _ _ p (hp'.keep M3.below) y.src dD.src) fun w4 M4=>lb 1<|an (fun _=>rfl)<|lb 0<|an (fun _=>rfl)<|cl<|an (fun _=>qX _ _ _ _ _ _ _ _ _ _ _ _ _ _ _ _ _ _ p (hp'.keep M4.below) y.tgt dD.tgt) fun w5 M5=>lb 1<|an (fun _=>rfl)<|lb 0<|an (fun _=>rfl)<|cl<|an (fun _=>yx _ _ _ _ _ _ _ _ _ _ _ _ _ _ _ _ _ _ p (hp'.keep M5.below) y.cls) fun w6 M6=>lb 0<|an (fun _=>rfl)<|lb 0<|an (fun _=>rfl)<|lb 1<|an (fun _=>rfl)<|lb 1<|an (fun _=>rfl)<|lb 0<|an (fun _=>rfl)<|cl<|an (fun _=>Qh _ _ _ _ _ _ _ _ _ _ _ _ _ _ _ _ _ _ p (hp'.keep M6.below) y.cond) fun w7 M7=>an (fun h3 M=>⟨ri (out 3 ?_ (by decide)),M.below⟩) fun h3=>?_
 ·have hb:aF y.res (p.types.length:Int)=!(decide (y.res<0)||decide ((p.types.length:Int)≤y.res)):=by unfold aF;rw[ak_];simp
  clear hcf out;rw[hb];cases h5:y.src.within (aE.all p.types.length)<;>cases h6:y.tgt.within (aE.all p.types.length)<;>cases h7:aF y.cls (p.classes.length:Int)<;>cases h8:decide (y.res<0)<;>cases h9:decide ((p.types.length:Int)≤y.res)<;>cases h10:lX p.conds.length y.cond<;>simp_all
 have hb:aF y.res (p.types.length:Int)=!(decide (y.res<0)||decide ((p.types.length:Int)≤y.res)):=by unfold aF;rw[ak_];simp
 have a1:y.src.within (aE.all p.types.length)=true∧y.tgt.within (aE.all p.types.length)=true∧aF y.cls (p.classes.length:Int)=true∧aF y.res (p.types.length:Int)=true∧lX p.conds.length y.cond=true:=by
  clear hcf out;rw[hb];cases h5:y.src.within (aE.all p.types.length)<;>cases h6:y.tgt.within (aE.all p.types.length)<;>cases h7:aF y.cls (p.classes.length:Int)<;>cases h8:decide (y.res<0)<;>cases h9:decide ((p.types.length:Int)≤y.res)<;>cases h10:lX p.conds.length y.cond<;>simp_all
 obtain⟨a1,a2,a3,a4,a5⟩:=a1;simp only[a1,a2,a3,a4,a5,Bool.true_eq_false,if_false] at out hcf;refine lb 0<|an rfl<|cl<|an (lC _ y.src) fun w8 M8=>lb 0<|an (fun _=>rfl)<|cl<|an (fun _=>lC _ y.tgt) fun w9 M9=>lb 0<|an (fun _=>rfl)<|lb 0<|an (fun _=>rfl)<|an (fun h4 M=>⟨ri (out 2 ?_ (by decide)),M.below⟩) fun h4=>?_
 ·change ((!bD y.src||!bD y.tgt)||(!bT y.name&&!decide (y.kind=1)))=true at h4
  clear out hcf;cases ha:bD y.src<;>cases hb:bD y.tgt<;>cases hc:bT y.name<;>cases hd:cR y.name<;>by_cases hk:y.kind=1<;>simp_all
 change ((!bD y.src||!bD y.tgt)||(!bT y.name&&!decide (y.kind=1)))=false at h4
 refine lb 0<|an rfl<|lb 0<|an (fun _=>rfl)<|cl<|an (fun _=>Qa _ y.name dD.name) fun pT j3=>an (fun h5 M=>⟨ri (out 10 ?_ (by decide)),M.below⟩) fun h5=>an (by omega)<|bk (m+1) ⟨rfl,trivial⟩ (fun M=>⟨M.only (.cons _ (.refl _)) (.refl _),by omega,hinv.trans (aG hlt ?_)⟩) (by dsimp only;omega)
 ·change (!bT y.name&&!cR y.name)=true at h5
  clear out hcf;cases ha:bD y.src<;>cases hb:bD y.tgt<;>cases hc:bT y.name<;>cases hd:cR y.name<;>by_cases hk:y.kind=1<;>simp_all
 ·change (!bT y.name&&!cR y.name)=false at h5
  rw[hcf];clear out hcf;cases ha:bD y.src<;>cases hb:bD y.tgt<;>cases hc:bT y.name<;>cases hd:cR y.name<;>by_cases hk:y.kind=1<;>simp_all
theorem PZ(w0:World)(c0 c1 c2 c3 c4 c5 c6 c7 c8 c9 c10 c11 c12 c13 c14 c15 c16:Value)(p:aD)(hp:aA w0 c0 c1 c2 c3 c4 c5 c6 c7 c8 c9 c10 c11 c12 c13 c14 c15 c16 p)(hok:p.Ok):Calls Tryz.prog 187 #[.agg #[c0,c1,c2,c3,c4,c5,c6,c7,c8,c9,c10,c11,c12,c13,c14,c15,c16]] w0 (RI w0 (if 1024<p.ay.length then 4 else ah (wm p) p.ay.length 0)):=by
 have hp':=hp;obtain⟨_,_,_,_,_,_,_,_,_,_,_,_,_,_,_,_,_,_,_,_,_,_,_,_,_,_,_,_,_,_,_,_,_,_,rfl,rfl,rfl,rfl,rfl,rfl,rfl,rfl,rfl,rfl,rfl,rfl,rfl,rfl,rfl,rfl,rfl⟩:=hp.open;refine bM [] (fn:=Tryz.f187) Tryz.func187 rfl Tryz.ntmps187 rfl<|fun g1 w1 M1=>lb 0<|an rfl<|an (fun h M=>⟨ri (if_pos (by simp at h;omega)),M.below⟩) fun h=>?_
 have hll:p.ay.length≤1024:=by simp at h;omega
 rw[if_neg (by omega)];refine lb 0<|an rfl<|?_;refine lr (ι:=Nat) (fun m=>[(14,.int .i64 (m:Int))]) (fun m _=>m≤p.ay.length∧ah (wm p) p.ay.length 0=ah (wm p) (p.ay.length-m) m) (fun m=>p.ay.length-m) 0 (an ⟨⟨rfl,trivial⟩,fun M=>⟨M,ak6 _,by rw[Nat.sub_zero]⟩⟩ ?_);rintro m w M ⟨hm,hinv⟩;refine an (fun h2=>?_) fun h2 M=>⟨ri (by rw[hinv,show m=p.ay.length by simp at h2;omega,aM]),M.below⟩
 have hlt:m<p.ay.length:=by simp at h2;omega
 obtain⟨y,hy⟩:∃ y,p.ay[m]?=some y:=⟨_,ak7 hlt⟩;have dD:=hok.ay y (ak8 hy);obtain⟨b,o,e,hc⟩:=SliceAt.elt hp.ay (fun _=>rfl) (by decide) hy hlt;have hcf:wm p m=Ip p.types.length p.classes.length p.roles.length y:=by unfold wm;rw[hy]
 have out:∀ v:Int,Ip p.types.length p.classes.length p.roles.length y=v→v≠0→ah (wm p) p.ay.length 0=v:=fun v h1 h2=>by rw[hinv,aP hlt (by rw[hcf,h1];exact h2),hcf,h1]
 unfold Ip at hcf out;refine ia<|an ⟨e,rfl,hlt⟩<|lc (x:=y.cells)<|an (bZ M.below hc)<|ei<|an Bb fun g2 w2 M2=>lb 0<|an ⟨rfl,rfl⟩ fun w3 M3=>lb 1<|an rfl<|lb 0<|an rfl<|cl<|an (BU _ _ _ _ _ _ _ _ _ _ _ _ _ _ _ _ _ _ p (hp'.keep M3.below) y.roles dD.roles) fun w4 M4=>lb 1<|an (fun _=>rfl)<|lb 0<|an (fun _=>rfl)<|cl<|an (fun _=>qX _ _ _ _ _ _ _ _ _ _ _ _ _ _ _ _ _ _ p (hp'.keep M4.below) y.types dD.types) fun w5 M5=>lb 1<|an (fun _=>rfl)<|lb 0<|an (fun _=>rfl)<|cl<|an (fun _=>yx _ _ _ _ _ _ _ _ _ _ _ _ _ _ _ _ _ _ p (hp'.keep M5.below) y.cls) fun w6 M6=>lb 0<|an (fun _=>rfl)<|lb 0<|an (fun _=>rfl)<|lb 1<|an (fun _=>rfl)<|an (fun h3 M=>⟨ri (out 3 ?_ (by decide)),M.below⟩) fun h3=>lb 0<|an rfl<|cl<|an (lC _ y.roles) fun w7 M7=>lb 0<|an (fun _=>rfl)<|cl<|an (fun _=>lC _ y.types) fun w8 M8=>an (fun h4 M=>⟨ri (out 2 ?_ (by decide)),M.below⟩) fun h4=>an (by omega)<|bk (m+1) ⟨rfl,trivial⟩ (fun M=>⟨M.only (.cons _ (.refl _)) (.refl _),by omega,hinv.trans (aG hlt ?_)⟩) (by dsimp only;omega)
 all_goals first|(rw[hcf];clear hcf out)|clear hcf out
 all_goals have hb:aF y.res (p.roles.length:Int)=(decide (0≤y.res)&&!decide ((p.roles.length:Int)≤y.res)):=by unfold aF;rw[ak_];simp
 all_goals have hb2:decide (y.res<1)=(!decide (0≤y.res)||decide (y.res=0)):=by rw[ak_];simp;omega
 all_goals have fL:bD y.roles=!decide (y.roles=aE.zero):=rfl
 all_goals rw[hb] at *
 all_goals cases h5:kf p.roles.length y.roles<;>cases h6:y.types.within (aE.all p.types.length)<;>cases h7:aF y.cls (p.classes.length:Int)<;>cases h8:decide (0≤y.res)<;>cases h12:decide ((p.roles.length:Int)≤y.res)<;>by_cases h9:y.res=0<;>by_cases h10:y.roles=aE.zero<;>cases h11:bD y.types<;>simp_all
theorem P_(w0:World)(c0 c1 c2 c3 c4 c5 c6 c7 c8 c9 c10 c11 c12 c13 c14 c15 c16:Value)(p:aD)(hp:aA w0 c0 c1 c2 c3 c4 c5 c6 c7 c8 c9 c10 c11 c12 c13 c14 c15 c16 p)(hok:p.Ok):Calls Tryz.prog 188 #[.agg #[c0,c1,c2,c3,c4,c5,c6,c7,c8,c9,c10,c11,c12,c13,c14,c15,c16]] w0 (RI w0 (if 1024<p.ranges.length then 4 else ah (wW p) p.ranges.length 0)):=by
 have hp':=hp;obtain⟨_,_,_,_,_,_,_,_,_,_,_,_,_,_,_,_,_,_,_,_,_,_,_,_,_,_,_,_,_,_,_,_,_,_,rfl,rfl,rfl,rfl,rfl,rfl,rfl,rfl,rfl,rfl,rfl,rfl,rfl,rfl,rfl,rfl,rfl⟩:=hp.open;refine bM [] (fn:=Tryz.f188) Tryz.func188 rfl Tryz.ntmps188 rfl<|fun g1 w1 M1=>lb 0<|an rfl<|an (fun h M=>⟨ri (if_pos (by simp at h;omega)),M.below⟩) fun h=>?_
 have hll:p.ranges.length≤1024:=by simp at h;omega
 rw[if_neg (by omega)];refine lb 0<|an rfl<|?_;refine lr (ι:=Nat) (fun m=>[(14,.int .i64 (m:Int))]) (fun m _=>m≤p.ranges.length∧ah (wW p) p.ranges.length 0=ah (wW p) (p.ranges.length-m) m) (fun m=>p.ranges.length-m) 0 (an ⟨⟨rfl,trivial⟩,fun M=>⟨M,ak6 _,by rw[Nat.sub_zero]⟩⟩ ?_);rintro m w M ⟨hm,hinv⟩;refine an (fun h2=>?_) fun h2 M=>⟨ri (by rw[hinv,show m=p.ranges.length by simp at h2;omega,aM]),M.below⟩
 have hlt:m<p.ranges.length:=by simp at h2;omega
 obtain⟨y,hy⟩:∃ y,p.ranges[m]?=some y:=⟨_,ak7 hlt⟩;have dD:=hok.ranges y (ak8 hy);obtain⟨b,o,e,hc⟩:=SliceAt.elt hp.ranges (fun _=>rfl) (by decide) hy hlt;have hcf:wW p m=Ir p.types.length p.classes.length p.ak.length p.cats.length y:=by unfold wW;rw[hy]
 have out:∀ v:Int,Ir p.types.length p.classes.length p.ak.length p.cats.length y=v→v≠0→ah (wW p) p.ranges.length 0=v:=fun v h1 h2=>by rw[hinv,aP hlt (by rw[hcf,h1];exact h2),hcf,h1]
 unfold Ir at hcf out;refine ia<|an ⟨e,rfl,hlt⟩<|lc (x:=y.cells)<|an (bZ M.below hc)<|ei<|an Ba fun g2 w2 M2=>lb 0<|an ⟨rfl,rfl⟩ fun w3 M3=>lb 1<|an rfl<|lb 0<|an rfl<|cl<|an (qX _ _ _ _ _ _ _ _ _ _ _ _ _ _ _ _ _ _ p (hp'.keep M3.below) y.src dD.src) fun w4 M4=>lb 1<|an (fun _=>rfl)<|lb 0<|an (fun _=>rfl)<|cl<|an (fun _=>qX _ _ _ _ _ _ _ _ _ _ _ _ _ _ _ _ _ _ p (hp'.keep M4.below) y.tgt dD.tgt) fun w5 M5=>lb 1<|an (fun _=>rfl)<|lb 0<|an (fun _=>rfl)<|cl<|an (fun _=>yx _ _ _ _ _ _ _ _ _ _ _ _ _ _ _ _ _ _ p (hp'.keep M5.below) y.cls) fun w6 M6=>an (fun h3 M=>⟨ri (out 3 ?_ (by decide)),M.below⟩) fun h3=>lb 0<|an rfl<|cl<|an (lC _ y.src) fun w7 M7=>lb 0<|an (fun _=>rfl)<|cl<|an (fun _=>lC _ y.tgt) fun w8 M8=>an (fun h4 M=>⟨ri (out 2 ?_ (by decide)),M.below⟩) fun h4=>lb 1<|an rfl<|lb 0<|an rfl<|cl<|an (GH _ _ _ _ _ _ _ _ _ _ _ _ _ _ _ _ _ _ p (hp'.keep M8.below) y.rng dD.rng) fun w9 M9=>an (fun h5 M=>⟨ri (out 18 ?_ (by decide)),M.below⟩) fun h5=>an (by omega)<|bk (m+1) ⟨rfl,trivial⟩ (fun M=>⟨M.only (.cons _ (.refl _)) (.refl _),by omega,hinv.trans (aG hlt ?_)⟩) (by dsimp only;omega)
 all_goals first|(rw[hcf];clear hcf out)|clear hcf out
 all_goals cases h6:y.src.within (aE.all p.types.length)<;>cases h7:y.tgt.within (aE.all p.types.length)<;>cases h8:aF y.cls (p.classes.length:Int)<;>cases h9:bD y.src<;>cases h10:bD y.tgt<;>cases h11:gE p.ak.length p.cats.length y.rng<;>simp_all
theorem MV(w0:World)(c0 c1 c2 c3 c4 c5 c6 c7 c8 c9 c10 c11 c12 c13 c14 c15 c16:Value)(p:aD)(hp:aA w0 c0 c1 c2 c3 c4 c5 c6 c7 c8 c9 c10 c11 c12 c13 c14 c15 c16 p)(hok:p.Ok):Calls Tryz.prog 192 #[.agg #[c0,c1,c2,c3,c4,c5,c6,c7,c8,c9,c10,c11,c12,c13,c14,c15,c16]] w0 (RI w0 (dG p)):=by
 have hp':=hp;obtain⟨_,_,_,_,_,_,_,_,_,_,_,_,_,_,_,_,_,_,_,_,_,_,_,_,_,_,_,_,_,_,_,_,_,_,rfl,rfl,rfl,rfl,rfl,rfl,rfl,rfl,rfl,rfl,rfl,rfl,rfl,rfl,rfl,rfl,rfl⟩:=hp.open;unfold dG;refine bM [] (fn:=Tryz.f192) Tryz.func192 rfl Tryz.ntmps192 rfl<|fun g1 w1 M1=>lb 0<|an rfl<|an (fun h M=>⟨ri (if_pos (by simp at h;omega)),M.below⟩) fun h=>?_
 have hr:¬ 64<p.asserts.length:=by simp at h;omega
 rw[if_neg hr];refine lb 0<|an rfl<|lq (ι:=Nat×Value) (fun(m,u)=>[(3,u),(16,.int .i64 (m:Int))]) (fun(m,u)=>[⟨u,9,1,m,((p.asserts.take m).map (·.name)).flatMap aR⟩]) (fun(m,u) _=>m≤p.asserts.length∧ah (dX p) p.asserts.length 0=ah (dX p) (p.asserts.length-m) m) (fun(m,u)=>p.asserts.length-m) (0,.slice none 0 0) (an ⟨⟨rfl,rfl,trivial⟩,fun M=>⟨M.bS 9 1,ak6 _,by rw[Nat.sub_zero]⟩⟩ ?_);rintro⟨m,u⟩ w M ⟨hm,hinv⟩;refine an (fun h2=>?_) fun h2 M=>⟨ri (by rw[hinv,show m=p.asserts.length by simp at h2;omega,aM]),M.below⟩
 have hlt:m<p.asserts.length:=by simp at h2;omega
 obtain⟨y,hy⟩:∃ y,p.asserts[m]?=some y:=⟨_,ak7 hlt⟩;have dD:=hok.asserts y (ak8 hy);obtain⟨b,o,e,hc⟩:=SliceAt.elt hp.asserts (fun _=>rfl) (by decide) hy hlt;have hcf:dX p m=jA p.types.length ((p.asserts.take m).map (·.name)) y:=by unfold dX;rw[hy]
 have out:∀ v:Int,jA p.types.length ((p.asserts.take m).map (·.name)) y=v→v≠0→ah (dX p) p.asserts.length 0=v:=fun v h1 h2=>by rw[hinv,aP hlt (by rw[hcf,h1];exact h2),hcf,h1]
 unfold jA at hcf out;refine ia<|an ⟨e,rfl,hlt⟩<|lc (x:=y.cells)<|an (bZ M.below hc)<|ei<|an A_ fun g2 w2 M2=>lb 0<|an ⟨rfl,rfl⟩ fun w3 M3=>lb 0<|an rfl<|cl<|an (vn _ y.name dD.name _ _ (bP (M3.r 0 rfl) (by simp;omega) rfl)) fun w5 M5=>an (fun h3 M=>⟨ri (out _ (if_neg (by simpa using h3)) (by simpa using h3)),M.below⟩) fun h3=>?_
 replace h3:aU [y.name] ((p.asserts.take m).map (·.name))=0:=by simpa using h3
 rw[if_pos h3] at hcf out;refine lb 0<|an rfl<|fun g4 w6 M6=>ap 0 id rfl (M6.slice 0 rfl rfl rfl (by simp[maxLen])) ⟨by unfold maxLen;omega,by omega⟩ fun v5 w7 M7=>lb 1<|an rfl<|lb 1<|an (fun _=>rfl)<|an (fun h M=>⟨ri (out 13 ?_ (by decide)),M.below⟩) fun h=>?_
 ·simp only[Bool.or_eq_true,decide_eq_true_eq] at h;by_cases h1:y.kind<1
  ·rw[if_pos h1]
  ·rw[if_neg h1,if_pos (by omega)]
 simp only[Bool.or_eq_false_iff,decide_eq_false_iff_not] at h;rw[if_neg h.1,if_neg h.2] at out hcf;refine lb 2<|an rfl<|lb 1<|an rfl<|cl<|an (qX _ _ _ _ _ _ _ _ _ _ _ _ _ _ _ _ _ _ p (hp'.keep M7.below) y.src dD.src) fun w8 M8=>lb 2<|an (fun _=>rfl)<|lb 1<|an (fun _=>rfl)<|cl<|an (fun _=>qX _ _ _ _ _ _ _ _ _ _ _ _ _ _ _ _ _ _ p (hp'.keep M8.below) y.tgt dD.tgt) fun w9 M9=>an (fun h3 M=>⟨ri (out 3 ?_ (by decide)),M.below⟩) fun h3=>lb 1<|an rfl<|cl<|an (lC _ y.src) fun pT j3=>lb 1<|an (fun _=>rfl)<|cl<|an (fun _=>lC _ y.tgt) fun yY M11=>an (fun h4 M=>⟨ri (out 2 ?_ (by decide)),M.below⟩) fun h4=>an (by omega)<|bk (m+1,v5) ⟨rfl,rfl,trivial⟩ (fun M=>⟨(M.only (.cons _ (.cons _ (.refl _))) (.refl _)).cast rfl (by dsimp only;rw[eD hy]),by omega,hinv.trans (aG hlt ?_)⟩) (by dsimp only;omega)
 all_goals first|(rw[hcf];clear hcf out)|clear hcf out
 all_goals cases h6:y.src.within (aE.all p.types.length)<;>cases h7:y.tgt.within (aE.all p.types.length)<;>cases h9:bD y.src<;>cases h10:bD y.tgt<;>simp_all
theorem Qe(w:World)(i n:Int):Calls Tryz.prog 320 #[.int .i64 i,.int .i64 n] w fun e w'=>e=.returned (.bool (aF i n))∧ak5 w.heap.size w w':=bM [] (fn:=Tryz.f320) Tryz.func320 rfl Tryz.ntmps320 rfl<|fun M=>⟨rfl,M.below⟩
theorem Qd(w:World)(i n:Int):Calls Tryz.prog 341 #[.int .i64 i,.int .i64 n] w fun e w'=>e=.returned (.bool (aF i n))∧ak5 w.heap.size w w':=bM [] (fn:=Tryz.f341) Tryz.func341 rfl Tryz.ntmps341 rfl<|fun M=>⟨rfl,M.below⟩
theorem Li(w0:World)(c0 c1 c2 c3 c4 c5 c6 c7 c8 c9 c10 c11 c12 c13 c14 c15 c16:Value)(p:aD)(hp:aA w0 c0 c1 c2 c3 c4 c5 c6 c7 c8 c9 c10 c11 c12 c13 c14 c15 c16 p)(hok:p.Ok)(c:eG)(hc:c.Ok):Calls Tryz.prog 290 #[.agg #[c0,c1,c2,c3,c4,c5,c6,c7,c8,c9,c10,c11,c12,c13,c14,c15,c16],.agg #[.int .i64 c.user,.int .i64 c.role,.int .i64 c.typ,.int .i64 c.rng.low.ak,.int .u64 c.rng.low.cats,.int .i64 c.rng.high.ak,.int .u64 c.rng.high.cats]] w0 (RI w0 (iU p c)):=by
 obtain⟨_,_,_,_,_,_,_,_,_,_,_,_,_,_,_,_,_,_,_,_,_,_,_,_,_,_,_,_,_,_,_,_,_,_,rfl,rfl,rfl,rfl,rfl,rfl,rfl,rfl,rfl,rfl,rfl,rfl,rfl,rfl,rfl,rfl,rfl⟩:=hp.open;refine bM [] (fn:=Tryz.f290) Tryz.func290 rfl Tryz.ntmps290 rfl<|fun g1 w1 M1=>fun g2 w2 M2=>lb 0<|an rfl<|lb 1<|an rfl<|cl<|an (Qe _ _ _) fun w3 M3=>lb 0<|an (fun _=>rfl)<|lb 1<|an (fun _=>rfl)<|cl<|an (fun _=>Qe _ _ _) fun w4 M4=>lb 0<|an (fun _=>rfl)<|lb 1<|an (fun _=>rfl)<|cl<|an (fun _=>Qe _ _ _) fun w5 M5=>an (fun h M=>⟨ri ?_,M.below⟩) fun h=>?_
 ·unfold iU;cases h1:aF c.user (p.users.length:Int)<;>cases h2:aF c.role (p.roles.length:Int)<;>cases h3:aF c.typ (p.types.length:Int)<;>simp_all
 have hb:aF c.user (p.users.length:Int)=true∧aF c.role (p.roles.length:Int)=true∧aF c.typ (p.types.length:Int)=true:=by
  cases h1:aF c.user (p.users.length:Int)<;>cases h2:aF c.role (p.roles.length:Int)<;>cases h3:aF c.typ (p.types.length:Int)<;>simp_all
 obtain⟨b1,b2,b3⟩:=hb
 have hpm:iU p c=if gE p.ak.length p.cats.length c.rng=false then 18 else if c.role=0 then 0 else ud p c:=by
  unfold iU;rw[b1,b2,b3];rfl
 rw[hpm];refine lb 0<|an rfl<|lb 1<|an rfl<|lb 1<|an rfl<|cl<|an (Lj _ c.rng _ _ hc.rng) fun w6 M6=>an (fun h2 M=>⟨ri (if_pos (by simpa using h2)),M.below⟩) fun h2=>?_
 rw[if_neg (by simpa using h2)];refine lb 0<|an rfl<|an (fun h3 M=>⟨ri (if_pos (by simpa using h3)),M.below⟩) fun h3=>?_
 rw[if_neg (by simpa using h3)];obtain⟨u0,u1⟩:=dZ.1 b1;obtain⟨r0,r1⟩:=dZ.1 b2;obtain⟨i,hi⟩:=Int.eq_ofNat_of_zero_le u0;obtain⟨j,hj⟩:=Int.eq_ofNat_of_zero_le r0;have hiu:i<p.users.length:=by omega
 have hjr:j<p.roles.length:=by omega
 obtain⟨u,hu⟩:∃ u,p.users[i]?=some u:=⟨_,ak7 hiu⟩;obtain⟨r,hr⟩:∃ r,p.roles[j]?=some r:=⟨_,ak7 hjr⟩;have La:=hok.users u (ak8 hu);have Ey:=hok.roles r (ak8 hr);obtain⟨b,o,e,Um⟩:=SliceAt.elt hp.users (fun _=>rfl) (by decide) hu hiu;obtain⟨b',o',e',Wp⟩:=SliceAt.elt hp.roles (fun _=>rfl) (by decide) hr hjr;rw[t_ (u:=u) (r:=r) (by rw[hi];exact hu) (by rw[hj];exact hr)];refine lb 1<|an rfl<|lb 0<|an rfl<|ia<|an ⟨e,hi,hiu⟩<|lc (x:=u.cells)<|an (bZ M6.below Um)<|ei<|an uN fun g3 w7 M7=>lb 0<|an ⟨rfl,rfl⟩ fun w8 M8=>dr (by kernel_rfl)<|lb 0<|an rfl<|lb 1<|an rfl<|cl<|an (fun w' hb M'=>Qf w' u.roles La.roles _)<|lb 2<|an (fun _=>rfl)<|lb 1<|an (fun _=>rfl)<|ia<|an (fun _=>⟨e',hj,hjr⟩)<|lc (x:=[.int .u64 r.types.a,.int .u64 r.types.b,.int .u64 r.types.c,.int .u64 r.types.d])<|an (fun _=>ef (bZ M8.below Wp) rfl)<|lb 1<|an (fun _=>rfl)<|cl<|an (fun _ w' hb M'=>Qf w' r.types Ey.types _)<|lb 0<|an (fun _=>rfl)<|lb 1<|an (fun _=>rfl)<|cl<|an (fun _ w' hb M'=>zV w' u.rng c.rng La.rng hc.rng)<|fun w9 Y8 M9=>an (fun h4 M=>⟨ri ?_,M.below⟩) fun h4=>fun M=>⟨ri ?_,M.below⟩
 all_goals cases h5:jY c.rng.low u.rng.low<;>cases h6:jY u.rng.high c.rng.high<;>cases h7:u.roles.mem c.role<;>cases h8:r.types.mem c.typ<;>simp_all
theorem VH(w0:World)(c0 c1 c2 c3 c4 c5 c6 c7 c8 c9 c10 c11 c12 c13 c14 c15 c16:Value)(p:aD)(hp:aA w0 c0 c1 c2 c3 c4 c5 c6 c7 c8 c9 c10 c11 c12 c13 c14 c15 c16 p)(hok:p.Ok):Calls Tryz.prog 190 #[.agg #[c0,c1,c2,c3,c4,c5,c6,c7,c8,c9,c10,c11,c12,c13,c14,c15,c16]] w0 (RI w0 (if 1024<p.bg.length then 4 else ah (ng p) p.bg.length 0)):=by
 have hp':=hp;obtain⟨_,_,_,_,_,_,_,_,_,_,_,_,_,_,_,_,_,_,_,_,_,_,_,_,_,_,_,_,_,_,_,_,_,_,rfl,rfl,rfl,rfl,rfl,rfl,rfl,rfl,rfl,rfl,rfl,rfl,rfl,rfl,rfl,rfl,rfl⟩:=hp.open;refine bM [] (fn:=Tryz.f190) Tryz.func190 rfl Tryz.ntmps190 rfl<|fun g1 w1 M1=>lb 0<|an rfl<|an (fun h M=>⟨ri (if_pos (by simp at h;omega)),M.below⟩) fun h=>?_
 have hr:¬ 1024<p.bg.length:=by simp at h;omega
 rw[if_neg hr];refine lb 0<|an rfl<|lq (ι:=Nat×Value) (fun(m,u)=>[(3,u),(17,.int .i64 (m:Int))]) (fun(m,u)=>[⟨u,9,1,m,((p.bg.take m).map (·.name)).flatMap aR⟩]) (fun(m,u) _=>m≤p.bg.length∧ah (ng p) p.bg.length 0=ah (ng p) (p.bg.length-m) m) (fun(m,u)=>p.bg.length-m) (0,.slice none 0 0) (an ⟨⟨rfl,rfl,trivial⟩,fun M=>⟨M.bS 9 1,ak6 _,by rw[Nat.sub_zero]⟩⟩ ?_);rintro⟨m,u⟩ w M ⟨hm,hinv⟩;refine an (fun h2=>?_) fun h2 M=>⟨ri (by rw[hinv,show m=p.bg.length by simp at h2;omega,aM]),M.below⟩
 have hlt:m<p.bg.length:=by simp at h2;omega
 obtain⟨y,hy⟩:∃ y,p.bg[m]?=some y:=⟨_,ak7 hlt⟩;have dD:=hok.bg y (ak8 hy);obtain⟨b,o,e,hc⟩:=SliceAt.elt hp.bg (fun _=>rfl) (by decide) hy hlt;have hcf:ng p m=wP p ((p.bg.take m).map (·.name)) y:=by unfold ng;rw[hy]
 have out:∀ v:Int,wP p ((p.bg.take m).map (·.name)) y=v→v≠0→ah (ng p) p.bg.length 0=v:=fun v h1 h2=>by rw[hinv,aP hlt (by rw[hcf,h1];exact h2),hcf,h1]
 unfold wP at hcf out;refine ia<|an ⟨e,rfl,hlt⟩<|lc (x:=y.cells)<|an (bZ M.below hc)<|ei<|an Oc fun g2 w2 M2=>lb 0<|an ⟨rfl,rfl⟩ fun w3 M3=>lb 0<|an rfl<|cl<|an (vn _ y.name dD.name _ _ (bP (M3.r 0 rfl) (by simp;omega) rfl)) fun w5 M5=>an (fun h3 M=>⟨ri (out _ (if_neg (by simpa using h3)) (by simpa using h3)),M.below⟩) fun h3=>?_
 replace h3:aU [y.name] ((p.bg.take m).map (·.name))=0:=by simpa using h3
 rw[if_pos h3] at hcf out;exact lb 0<|an rfl<|fun g4 w6 M6=>ap 0 id rfl (M6.slice 0 rfl rfl rfl (by simp[maxLen])) ⟨by unfold maxLen;omega,by omega⟩ fun v5 w7 M7=>lb 2<|an rfl<|lb 1<|an rfl<|cl<|an (Li _ _ _ _ _ _ _ _ _ _ _ _ _ _ _ _ _ _ p (hp'.keep M7.below) hok y.ctx dD.ctx) fun w8 M8=>an (fun h4 M=>⟨ri (out _ rfl (by simpa using h4)),M.below⟩) fun h4=>an (by omega)<|bk (m+1,v5) ⟨rfl,rfl,trivial⟩ (fun M=>⟨(M.only (.cons _ (.cons _ (.refl _))) (.refl _)).cast rfl (by dsimp only;rw[eD hy]),by omega,hinv.trans (aG hlt (by rw[hcf];simpa using h4))⟩) (by dsimp only;omega)
theorem SX(w0:World)(c0 c1 c2 c3 c4 c5 c6 c7 c8 c9 c10 c11 c12 c13 c14 c15 c16:Value)(p:aD)(hp:aA w0 c0 c1 c2 c3 c4 c5 c6 c7 c8 c9 c10 c11 c12 c13 c14 c15 c16 p)(hok:p.Ok):Calls Tryz.prog 191 #[.agg #[c0,c1,c2,c3,c4,c5,c6,c7,c8,c9,c10,c11,c12,c13,c14,c15,c16]] w0 (RI w0 (if 256<p.files.length then 4 else ah (iI p) p.files.length 0)):=by
 have hp':=hp;obtain⟨_,_,_,_,_,_,_,_,_,_,_,_,_,_,_,_,_,_,_,_,_,_,_,_,_,_,_,_,_,_,_,_,_,_,rfl,rfl,rfl,rfl,rfl,rfl,rfl,rfl,rfl,rfl,rfl,rfl,rfl,rfl,rfl,rfl,rfl⟩:=hp.open;refine bM [] (fn:=Tryz.f191) Tryz.func191 rfl Tryz.ntmps191 rfl<|fun g1 w1 M1=>lb 0<|an rfl<|an (fun h M=>⟨ri (if_pos (by simp at h;omega)),M.below⟩) fun h=>?_
 have hr:¬ 256<p.files.length:=by simp at h;omega
 rw[if_neg hr];refine lb 0<|an rfl<|lr (ι:=Nat) (fun m=>[(15,.int .i64 (m:Int))]) (fun m _=>m≤p.files.length∧ah (iI p) p.files.length 0=ah (iI p) (p.files.length-m) m) (fun m=>p.files.length-m) 0 (an ⟨⟨rfl,trivial⟩,fun M=>⟨M,ak6 _,by rw[Nat.sub_zero]⟩⟩ ?_);rintro m w M ⟨hm,hinv⟩;refine an (fun h2=>?_) fun h2 M=>⟨ri (by rw[hinv,show m=p.files.length by simp at h2;omega,aM]),M.below⟩
 have hlt:m<p.files.length:=by simp at h2;omega
 obtain⟨y,hy⟩:∃ y,p.files[m]?=some y:=⟨_,ak7 hlt⟩;have dD:=hok.files y (ak8 hy);obtain⟨b,o,e,hc⟩:=SliceAt.elt hp.files (fun _=>rfl) (by decide) hy hlt;have hcf:iI p m=q5 p y:=by unfold iI;rw[hy]
 have out:∀ v:Int,q5 p y=v→v≠0→ah (iI p) p.files.length 0=v:=fun v h1 h2=>by rw[hinv,aP hlt (by rw[hcf,h1];exact h2),hcf,h1]
 unfold q5 at hcf out;refine ia<|an ⟨e,rfl,hlt⟩<|lc (x:=y.cells)<|an (bZ M.below hc)<|ei<|an C8 fun g2 w2 M2=>lb 0<|an ⟨rfl,rfl⟩ fun w3 M3=>lb 0<|an rfl<|lb 0<|an (fun _=>rfl)<|ei (x:=.agg #[.int .i64 3,.string y.pat,.int .i64 0,.int .i64 0])<|an (fun _=>bd (by kernel_rfl))<|cl<|an (fun _=>PY _ y.pat dD.pat) fun w4 M4=>an (fun h3 M=>⟨ri (out 10 ?_ (by decide)),M.below⟩) fun h3=>?_
 ·change (bT y.pat||!dg y.pat)=true at h3
  clear out hcf;cases h5:bT y.pat<;>cases h6:dg y.pat<;>simp_all
 change (bT y.pat||!dg y.pat)=false at h3
 have hq:bT y.pat=false∧dg y.pat=true:=by cases h5:bT y.pat<;>cases h6:dg y.pat<;>simp_all
 rw[hq.1,hq.2,if_neg (by decide),if_neg (by decide)] at hcf out;refine lb 0<|an rfl<|lb 0<|an (fun _=>rfl)<|an (fun h4 M=>⟨ri (out 13 ?_ (by decide)),M.below⟩) fun h4=>?_
 ·simp only[Bool.or_eq_true,decide_eq_true_eq] at h4;by_cases h1:y.kind<0
  ·rw[if_pos h1]
  ·rw[if_neg h1,if_pos (by omega)]
 simp only[Bool.or_eq_false_iff,decide_eq_false_iff_not] at h4;rw[if_neg h4.1,if_neg h4.2] at out hcf;exact lb 1<|an rfl<|lb 0<|an rfl<|cl<|an (Li _ _ _ _ _ _ _ _ _ _ _ _ _ _ _ _ _ _ p (hp'.keep M4.below) hok y.ctx dD.ctx) fun w8 M8=>an (fun h4 M=>⟨ri (out _ rfl (by simpa using h4)),M.below⟩) fun h4=>an (by omega)<|bk (m+1) ⟨rfl,trivial⟩ (fun M=>⟨M.only (.cons _ (.refl _)) (.refl _),by omega,hinv.trans (aG hlt (by rw[hcf];simpa using h4))⟩) (by dsimp only;omega)
theorem BW(w:World)(o:Int):Calls Tryz.prog 318 #[.int .i64 o] w (fun e w'=>e=.returned (.int .i64 (fJ o))∧ak5 w.heap.size w w'):=by
 refine bM [] (fn:=Tryz.f318) Tryz.func318 rfl Tryz.ntmps318 rfl<|an (fun h=>an (fun _=>fun M=>⟨ri ?_,M.below⟩) fun h2=>absurd (h.symm.trans h2) (by decide)) fun n1=>an (fun h=>an (fun _=>fun M=>⟨ri ?_,M.below⟩) fun h2=>absurd (h.symm.trans h2) (by decide)) fun n8=>an (fun h=>fun M=>⟨ri ?_,M.below⟩) fun n9=>an (fun h=>fun M=>⟨ri ?_,M.below⟩) fun n2=>an (fun h=>an (fun _=>fun M=>⟨ri ?_,M.below⟩) fun h2=>absurd (h.symm.trans h2) (by decide)) fun n3=>an (fun h=>an (fun _=>fun M=>⟨ri ?_,M.below⟩) fun h2=>absurd (h.symm.trans h2) (by decide)) fun n4=>an (fun h=>an (fun _=>fun M=>⟨ri ?_,M.below⟩) fun h2=>absurd (h.symm.trans h2) (by decide)) fun n5=>an (fun h=>an (fun _=>fun M=>⟨ri ?_,M.below⟩) fun h2=>absurd (h.symm.trans h2) (by decide)) fun n6=>an (fun h=>fun M=>⟨ri ?_,M.below⟩) fun n7=>fun M=>⟨ri ?_,M.below⟩
 all_goals unfold fJ;simp_all
theorem GJ:∀ (k:Nat) (e:aS) (w:World) (cs:List Value),k≤13→bq w cs e→aL (k+1) e≤k→Calls Tryz.prog 281 #[.agg cs.toArray] w (fun r w'=>r=.returned (.int .i64 (aL (k+1) e))∧ak5 w.heap.size w w'):=by
 intro k
 induction k with
 | zero=>
  intro e w cs _ _ hle;obtain⟨k',h⟩:=uh e 0 hle;cases h
 | succ m ih=>
  intro e w cs hm h hle;obtain⟨_,_,rfl,hn,hk⟩:=h.open;obtain⟨_,_,rfl,-⟩:=aN.get hn;obtain⟨_,_,rfl,-,hkm,-⟩:=aj.form hk (by decide);refine bM [] (fn:=Tryz.f281) Tryz.func281 rfl Tryz.ntmps281 rfl<|fun g1 w1 M1=>?_
  refine lb 0<|an rfl<|lr (ι:=Nat) (fun k=>[(3,.int .i64 (dY (fun i=>match e.kids[i]? with|some k=>aL (m+1) k|none=>0) k)),(9,.int .i64 (k:Int))]) (fun k _=>k≤e.kids.length) (fun k=>e.kids.length-k) 0 (an ⟨⟨rfl,rfl,trivial⟩,fun M=>⟨M,ak6 _⟩⟩ ?_);intro k w M hkl;have hx:=eK (fun i=>match e.kids[i]? with|some k=>aL (m+1) k|none=>0) k
  have hz:=lA (f:=fun i=>match e.kids[i]? with|some k=>aL (m+1) k|none=>0) (b:=(m+1:Nat)) (by omega) k fun i _=>by
   split
   ·exact(iG (m+1) _).2
   ·omega
  refine an (fun h1=>?_) fun h1=>?_
  ·have hlt:k<e.kids.length:=by simp at h1;omega
   obtain⟨y,hy⟩:∃ y,e.kids[k]?=some y:=⟨_,ak7 hlt⟩;have iK:y∈e.kids:=ak8 hy;obtain⟨k',ek,hyl⟩:=uj hle iK;have ek:k'=m:=by omega
   rw[ek] at hyl;obtain⟨b,o,_,e1,hE,hc⟩:=aj.elt hk (by decide) hy;obtain⟨_,_,rfl,hn2,hk2⟩:=hE.open;obtain⟨_,_,rfl,-⟩:=aN.get hn2;obtain⟨_,_,rfl,-⟩:=aj.form hk2 (by decide);refine ia<|an ⟨e1,rfl,hlt⟩<|lc<|an (bZ M.below hc)<|ei<|an DW fun g2 w2 M2=>lb 0<|an ⟨rfl,rfl⟩ fun w3 M3=>lb 0<|an rfl<|cl<|an (ih y _ _ (by omega) (hE.keep M3.below) hyl) fun w4 M4=>N9 M4 (v:=.int .i64 (dY (fun i=>match e.kids[i]? with|some k=>aL (m+1) k|none=>0) (k+1))) (fun a o ho hv=>?_)<|?_
   ·rw[vA ho (aY hv) (cC hv)]
    have e2:dY (fun i=>match e.kids[i]? with|some k=>aL (m+1) k|none=>0) (k+1)=max (dY (fun i=>match e.kids[i]? with|some k=>aL (m+1) k|none=>0) k) (aL (m+1) y):=by
     show max _ (match e.kids[k]? with|some k=>aL (m+1) k|none=>0)=_;rw[hy]
    rw[e2];congr 3;rw[Int.max_def];split<;>split<;>omega
   ·exact an (by omega)<|bk (k+1) ⟨rfl,rfl,trivial⟩ (fun M=>⟨M.only (.cons _ (.refl _)) (.refl _),hlt⟩) (by dsimp only;omega)
  ·have ek:k=e.kids.length:=by simp at h1;omega
   subst ek;exact an (by omega)<|fun M=>⟨rfl,M.below⟩
theorem Hj(e:aS):((((((((decide (fJ e.op<0)||decide (e.op=8))||decide (e.op=9))||!decide ((e.kids.length:Int)=fJ e.op))||!decide (e.rel=0))||!decide (e.b=0))||!decide ((e.names.length:Int)=0))||!decide (e.set=aE.zero))||(!decide (e.op=1)&&!decide (e.a=0)))=oQ e:=by
 have e1:decide (fJ e.op=(e.kids.length:Int))=decide ((e.kids.length:Int)=fJ e.op):=by rw[decide_eq_decide];exact eq_comm
 have e2:decide (0<(e.names.length:Int))=!decide ((e.names.length:Int)=0):=by rw[ak_];simp only[decide_eq_true_eq,Bool.not_eq_true',decide_eq_false_iff_not];omega
 unfold oQ;rw[e1,e2];by_cases hN:fJ e.op<0
 ·rw[decide_eq_true hN,decide_eq_false (show ¬ (e.kids.length:Int)=fJ e.op by omega)];simp
 ·rw[decide_eq_false hN,Bool.false_or]
theorem yT(i:Int)(n:Nat):(decide (i<0)||decide ((n:Int)≤i))=!aF i (n:Int):=by
 unfold aF;rw[ak_];simp
theorem GN:∀ e:aS,∀ (w0:World) (cs:List Value) (c0 c1 c2 c3 c4 c5 c6 c7 c8 c9 c10 c11 c12 c13 c14 c15 c16:Value) (p:aD),aA w0 c0 c1 c2 c3 c4 c5 c6 c7 c8 c9 c10 c11 c12 c13 c14 c15 c16 p→bq w0 cs e→Calls Tryz.prog 282 #[.agg #[c0,c1,c2,c3,c4,c5,c6,c7,c8,c9,c10,c11,c12,c13,c14,c15,c16],.agg cs.toArray] w0 (RI w0 (pH p.bools.length e)):=by
 refine aS.ind fun e ih=>?_
 intro w0 cs c0 c1 c2 c3 c4 c5 c6 c7 c8 c9 c10 c11 c12 c13 c14 c15 c16 p hp h;obtain⟨nv,kv,rfl,uH,hk⟩:=h.open;obtain⟨_,_,rfl,-⟩:=aN.get uH;obtain⟨_,_,rfl,-,Cc,-⟩:=aj.form hk (by decide);obtain⟨_,_,_,_,_,_,_,_,_,_,_,_,_,_,_,_,_,_,_,_,_,_,_,_,_,_,_,_,_,_,_,_,_,_,rfl,rfl,rfl,rfl,rfl,rfl,rfl,rfl,rfl,rfl,rfl,rfl,rfl,rfl,rfl,rfl,rfl⟩:=hp.open;refine bM [] (fn:=Tryz.f282) Tryz.func282 rfl Tryz.ntmps282 rfl<|fun g1 w1 M1=>fun g2 w2 M2=>lb 0<|an rfl<|cl<|an (BW _ _) fun w3 M3=>lb 0<|an (fun _=>rfl)<|lb 0<|an (fun _=>rfl)<|lb 0<|an (fun _=>rfl)<|lb 0<|an (fun _=>rfl)<|lb 0<|an (fun _=>rfl)<|lb 0<|an (fun _=>rfl)<|lb 0<|an (fun _=>rfl)<|ei (x:=.agg #[.int .u64 0,.int .u64 0,.int .u64 0,.int .u64 0])<|an (fun _=>bd (by kernel_rfl))<|ei<|an (fun _=>⟨sW,fun w=>dN e.set w⟩)<|lb 0<|an (fun _=>rfl)<|lb 0<|an (fun _=>rfl)<|an (fun h1 M=>⟨ri (vY ((Hj e).symm.trans h1)),M.below⟩) fun h1=>?_
 replace h1:oQ e=false:=(Hj e).symm.trans h1;refine lb 0<|an rfl<|lb 0<|an (fun _=>rfl)<|lb 0<|an (fun _=>rfl)<|lb 1<|an (fun _=>rfl)<|an (fun h2 M=>⟨ri (vX h1 (by rw[← yT];exact h2)),M.below⟩) fun h2=>?_
 replace h2:(decide (e.op=1)&&!aF e.a (p.bools.length:Int))=false:=by rw[← yT];exact h2
 refine lb 0<|an rfl<|lr (ι:=Nat) (fun m=>[(84,.int .i64 (m:Int))]) (fun m _=>m≤e.kids.length∧n_ p.bools.length e.kids=n_ p.bools.length (e.kids.drop m)) (fun m=>e.kids.length-m) 0 (an ⟨⟨rfl,trivial⟩,fun M=>⟨M,ak6 _,rfl⟩⟩ ?_);rintro m w M ⟨hm,hinv⟩;refine an (fun h3=>?_) fun h3 M=>⟨ri (by rw[kN h1 h2,hinv,show m=e.kids.length by simp at h3;omega,List.drop_length];rfl),M.below⟩
 have hlt:m<e.kids.length:=by simp at h3;omega
 obtain⟨y,hy⟩:∃ y,e.kids[m]?=some y:=⟨_,ak7 hlt⟩;obtain⟨b,o,_,e1,hE,hc⟩:=aj.elt hk (by decide) hy;obtain⟨PB,kv',rfl,hn',hk'⟩:=hE.open;obtain⟨_,_,rfl,-⟩:=aN.get hn';obtain⟨_,_,rfl,-⟩:=aj.form hk' (by decide);exact ia<|an ⟨e1,rfl,hlt⟩<|lc<|an (bZ M.below hc)<|ei<|an DW fun g3 w4 M4=>lb 0<|an ⟨rfl,rfl⟩ fun w5 M5=>lb 2<|an rfl<|lb 0<|an rfl<|cl<|an (ih y (ak8 hy) _ _ _ _ _ _ _ _ _ _ _ _ _ _ _ _ _ _ _ p (hp.keep M5.below) (hE.keep M5.below)) fun w6 M6=>an (fun h4 M=>⟨ri (by rw[kN h1 h2,hinv,kO hy,if_neg (by simpa using h4)]),M.below⟩) fun h4=>an (by omega)<|bk (m+1) ⟨rfl,trivial⟩ (fun M=>⟨M.only (.cons _ (.refl _)) (.refl _),by omega,by rw[hinv,kO hy,if_pos (by simpa using h4)]⟩) (by dsimp only;omega)
theorem SY(w0:World)(c0 c1 c2 c3 c4 c5 c6 c7 c8 c9 c10 c11 c12 c13 c14 c15 c16:Value)(p:aD)(hp:aA w0 c0 c1 c2 c3 c4 c5 c6 c7 c8 c9 c10 c11 c12 c13 c14 c15 c16 p)(hd:p.Md):Calls Tryz.prog 184 #[.agg #[c0,c1,c2,c3,c4,c5,c6,c7,c8,c9,c10,c11,c12,c13,c14,c15,c16]] w0 (RI w0 (if 64<p.conds.length then 4 else ah (eu p) p.conds.length 0)):=by
 have hp':=hp;obtain⟨_,_,_,_,_,_,_,_,_,_,_,_,_,_,_,_,_,_,_,_,_,_,_,_,_,_,_,_,_,_,_,_,_,_,rfl,rfl,rfl,rfl,rfl,rfl,rfl,rfl,rfl,rfl,rfl,rfl,rfl,rfl,rfl,rfl,rfl⟩:=hp.open;refine bM [] (fn:=Tryz.f184) Tryz.func184 rfl Tryz.ntmps184 rfl<|fun g1 w1 M1=>lb 0<|an rfl<|an (fun h M=>⟨ri (if_pos (by simp at h;omega)),M.below⟩) fun h=>?_
 have hll:p.conds.length≤64:=by simp at h;omega
 rw[if_neg (by omega)];refine lb 0<|an rfl<|lr (ι:=Nat) (fun m=>[(15,.int .i64 (m:Int))]) (fun m _=>m≤p.conds.length∧ah (eu p) p.conds.length 0=ah (eu p) (p.conds.length-m) m) (fun m=>p.conds.length-m) 0 (an ⟨⟨rfl,trivial⟩,fun M=>⟨M,ak6 _,by rw[Nat.sub_zero]⟩⟩ ?_);rintro m w M ⟨hm,hinv⟩;refine an (fun h2=>?_) fun h2 M=>⟨ri (by rw[hinv,show m=p.conds.length by simp at h2;omega,aM]),M.below⟩
 have hlt:m<p.conds.length:=by simp at h2;omega
 obtain⟨y,hy⟩:∃ y,p.conds[m]?=some y:=⟨_,ak7 hlt⟩;have uo:=hd.lev y (ak8 hy);obtain⟨b,o,_,e1,hE,hc⟩:=aj.elt hp.conds (by decide) hy;have Ur:=hE;obtain⟨PB,kv',rfl,hn',hk'⟩:=hE.open;obtain⟨_,_,rfl,-⟩:=aN.get hn';obtain⟨_,_,rfl,-⟩:=aj.form hk' (by decide);have hcf:eu p m=pH p.bools.length y:=by unfold eu cW;rw[hy];exact if_neg (by omega)
 exact ia<|an ⟨e1,rfl,hlt⟩<|lc<|an (bZ M.below hc)<|ei<|an DW fun g3 w4 M4=>lb 0<|an ⟨rfl,rfl⟩ fun w5 M5=>lb 0<|an rfl<|cl<|an (GJ 12 y _ _ (by decide) (Ur.keep M5.below) uo) fun w6 M6=>an (fun h4=>by simp at h4;omega) fun h4=>lb 1<|an rfl<|lb 0<|an rfl<|cl<|an (GN y _ _ _ _ _ _ _ _ _ _ _ _ _ _ _ _ _ _ _ p (hp'.keep M6.below) (Ur.keep M6.below)) fun w7 M7=>an (fun h5 M=>⟨ri (by rw[hinv,aP hlt (by rw[hcf];simpa using h5),hcf]),M.below⟩) fun h5=>an (by omega)<|bk (m+1) ⟨rfl,trivial⟩ (fun M=>⟨M.only (.cons _ (.refl _)) (.refl _),by omega,hinv.trans (aG hlt (by rw[hcf];simpa using h5))⟩) (by dsimp only;omega)
def Aj(e:aS):Bool:=if e.names.length≠0 then false else if e.op=8 then decide (e.set=aE.zero) else if e.op=9 then (decide (e.rel=0)&&decide (e.b=0)) else (((decide (e.a=0)&&decide (e.rel=0))&&decide (e.b=0))&&decide (e.set=aE.zero))
theorem PW(w0:World)(cs:List Value)(e:aS)(h:bq w0 cs e):Calls Tryz.prog 332 #[.agg cs.toArray] w0 (fun(r:Ending) (w':World)=>r=.returned (.bool (Aj e))∧ak5 w0.heap.size w0 w'):=by
 obtain⟨nv,kv,rfl,uH,hk⟩:=h.open;obtain⟨_,_,rfl,-⟩:=aN.get uH;obtain⟨_,_,rfl,-,Cc,-⟩:=aj.form hk (by decide);unfold Aj;refine bM [] (fn:=Tryz.f332) Tryz.func332 rfl Tryz.ntmps332 rfl<|fun g1 w1 M1=>lb 0<|an rfl<|an (fun h1 M=>⟨rb (if_pos (by simp at h1;simp[h1])),M.below⟩) fun h1=>?_
 rw[if_neg (by simp at h1;simp[h1])];refine lb 0<|an rfl<|an (fun h2=>lb 0<|an rfl<|ei (x:=.agg #[.int .u64 0,.int .u64 0,.int .u64 0,.int .u64 0])<|an (bd (by kernel_rfl))<|ei<|an ⟨sW,fun w=>dN e.set w⟩<|fun M=>⟨rb (if_pos (by simpa using h2)),M.below⟩) fun h2=>?_
 rw[if_neg (by simpa using h2)];refine lb 0<|an rfl<|an (fun h3=>lb 0<|an rfl<|lb 0<|an (fun _=>rfl)<|fun M=>⟨rb (if_pos (by simpa using h3)),M.below⟩) fun h3=>?_
 rw[if_neg (by simpa using h3)];exact lb 0<|an rfl<|lb 0<|an (fun _=>rfl)<|lb 0<|an (fun _=>rfl)<|lb 0<|an (fun _=>rfl)<|ei (x:=.agg #[.int .u64 0,.int .u64 0,.int .u64 0,.int .u64 0])<|an (fun _=>bd (by kernel_rfl))<|ei<|an (fun _=>⟨sW,fun w=>dN e.set w⟩)<|fun M=>⟨rfl,M.below⟩
theorem EG(w:World)(m:Int)(hm:0≤m):Calls Tryz.prog 342 #[.int .i64 m] w (fun e w'=>e=.returned (.int .i64 ((min (m.toNat%5) 3:Nat):Int))∧ak5 w.heap.size w w'):=by
 refine bM [] (fn:=Tryz.f342) Tryz.func342 rfl Tryz.ntmps342 rfl<|ei (x:=.int .i64 ((m.toNat%5:Nat):Int))<|an (fun a w o ho hv=>Ga hm ho (aY hv) (cC hv))<|N9 (Mm.start w) (v:=.int .i64 ((min (m.toNat%5) 3:Nat):Int)) (fun a o ho hv=>(Q5 ho (aY hv) (cC hv)).trans (by congr 3;split<;>omega))<|fun M=>⟨rfl,M.below⟩
theorem Jx(w:World)(cs:List Value)(e:aS)(h:bq w cs e)(n:Nat):Calls Tryz.prog 333 #[.agg cs.toArray,.int .i64 (n:Int)] w (RI w (ez n e)):=by
 obtain⟨nv,kv,rfl,-,-⟩:=h.open;refine bM [] (fn:=Tryz.f333) Tryz.func333 rfl Tryz.ntmps333 rfl<|fun g1 w1 M1=>lb 0<|an rfl<|cl<|an (Qd _ _ _) fun w2 M2=>lb 0<|an (fun _=>rfl)<|cl<|an (fun _=>Qd _ _ _) fun w3 M3=>lb 0<|an (fun _=>rfl)<|cl<|an (fun _=>Qd _ _ _) fun w4 M4=>an (fun h M=>⟨ri ?_,M.below⟩) fun h=>?_
 ·unfold ez;cases h1:aF e.a (n:Int)<;>cases h2:aF e.b (n:Int)<;>cases h3:aF e.rel 5<;>simp_all
 have hb:aF e.a (n:Int)=true∧aF e.b (n:Int)=true∧aF e.rel 5=true:=by
  cases h1:aF e.a (n:Int)<;>cases h2:aF e.b (n:Int)<;>cases h3:aF e.rel 5<;>simp_all
 obtain⟨h1,h2,h3⟩:=hb;have hc:ez n e=og e.rel e.a.toNat e.b.toNat:=by unfold ez;rw[h1,h2,h3];rfl
 rw[hc];have a0:0≤e.a:=(dZ.1 h1).1;have b0:0≤e.b:=(dZ.1 h2).1;unfold og;refine dr (by kernel_rfl)<|lb 0<|an rfl<|cl<|an (fun w' hb M'=>EG w' _ a0)<|lb 0<|an rfl<|cl<|an (fun w' hb M'=>EG w' _ b0)<|lb 0<|an (fun _=>rfl)<|cl<|an (fun _ w' hb M'=>EG w' _ a0)<|lb 0<|an (fun _=>rfl)<|fun w5 uL M5=>an (fun h4 M=>⟨ri ?_,M.below⟩) fun h4=>fun M=>⟨ri ?_,M.below⟩
 all_goals simp only[Bool.or_eq_true,Bool.and_eq_true,Bool.not_eq_true',Bool.or_eq_false_iff,Bool.and_eq_false_iff,Bool.not_eq_false',decide_eq_true_eq,decide_eq_false_iff_not] at h4
 all_goals (repeat' split)<;>first|rfl|omega
def wJ(nU nR nT N:Nat)(e:aS):Int:=
 if aF e.a (N:Int)=false then 3
 else if dh nU nR nT e.a.toNat<0 then 13
 else if e.set.within (aE.all (dh nU nR nT e.a.toNat).toNat)=false then 3
 else if bD e.set=false then 2 else 0
theorem GL(w0:World)(cs:List Value)(e:aS)(he:e.Ok)(h:bq w0 cs e)(c0 c1 c2 c3 c4 c5 c6 c7 c8 c9 c10 c11 c12 c13 c14 c15 c16:Value)(p:aD)(hp:aA w0 c0 c1 c2 c3 c4 c5 c6 c7 c8 c9 c10 c11 c12 c13 c14 c15 c16 p)(N:Nat):Calls Tryz.prog 334 #[.agg #[c0,c1,c2,c3,c4,c5,c6,c7,c8,c9,c10,c11,c12,c13,c14,c15,c16],.agg cs.toArray,.int .i64 (N:Int)] w0 (RI w0 (wJ p.users.length p.roles.length p.types.length N e)):=by
 obtain⟨nv,kv,rfl,-,-⟩:=h.open;obtain⟨_,_,_,_,_,_,_,_,_,_,_,_,_,_,_,_,_,_,_,_,_,_,_,_,_,_,_,_,_,_,_,_,_,_,rfl,rfl,rfl,rfl,rfl,rfl,rfl,rfl,rfl,rfl,rfl,rfl,rfl,rfl,rfl,rfl,rfl⟩:=hp.open;refine bM [] (fn:=Tryz.f334) Tryz.func334 rfl Tryz.ntmps334 rfl<|fun g1 w1 M1=>fun g2 w2 M2=>lb 0<|an rfl<|lb 0<|an (fun _=>rfl)<|an (fun h1 M=>⟨ri (by unfold wJ;exact if_pos (by have h2:=(yT e.a N).symm.trans h1;simpa using h2)),M.below⟩) fun h1=>?_
 have hb:aF e.a (N:Int)=true:=by have h2:=(yT e.a N).symm.trans h1;simpa using h2
 have a0:0≤e.a:=(dZ.1 hb).1;obtain⟨k,hk⟩:∃ k,k=e.a.toNat%5:=⟨_,rfl⟩;have hk5:k<5:=by omega
 have QD:∀ n:Nat,dh p.users.length p.roles.length p.types.length e.a.toNat=(n:Int)→wJ p.users.length p.roles.length p.types.length N e=if e.set.within (aE.all n)=false then 3 else if bD e.set=false then 2 else 0:=fun n hn=>by
  unfold wJ;rw[if_neg (by rw[hb];decide),hn,if_neg (by omega),Int.toNat_natCast]
 unfold dh at QD;rw[← hk] at QD;refine lb 0<|an rfl<|cl<|an (EG _ _ a0) fun w3 M3=>?_
 rw[← hk];refine an (fun h2=>?_) fun h2=>an (fun h3=>?_) fun h3=>an (fun h4=>?_) fun h4=>?_
 ·have e0:k=0:=by simp at h2;omega
  rw[QD p.users.length (by rw[if_pos e0])];refine lb 1<|an rfl<|dr (by kernel_rfl)<|lb 0<|an rfl<|cl<|an (fun w' hb M'=>GP w' _)<|cl<|an (fun w' hb M'=>vm w' _ _ he.set' (jZ _))<|fun w5 uL M5=>an (fun h5 M=>⟨ri (if_pos (by simpa using h5)),M.below⟩) fun h5=>?_
  rw[if_neg (by simpa using h5)];exact lb 0<|an rfl<|cl<|an (lC _ _) fun w6 M6=>an (fun h6 M=>⟨ri (if_pos (by simpa using h6)),M.below⟩) fun h6=>fun M=>⟨ri (if_neg (by simpa using h6)),M.below⟩
 ·have e0:k=1:=by simp at h3;omega
  rw[QD p.roles.length (by rw[if_neg (by omega),if_pos e0])];refine lb 1<|an rfl<|dr (by kernel_rfl)<|lb 0<|an rfl<|cl<|an (fun w' hb M'=>GP w' _)<|cl<|an (fun w' hb M'=>vm w' _ _ he.set' (jZ _))<|fun w5 uL M5=>an (fun h5 M=>⟨ri (if_pos (by simpa using h5)),M.below⟩) fun h5=>?_
  rw[if_neg (by simpa using h5)];exact lb 0<|an rfl<|cl<|an (lC _ _) fun w6 M6=>an (fun h6 M=>⟨ri (if_pos (by simpa using h6)),M.below⟩) fun h6=>fun M=>⟨ri (if_neg (by simpa using h6)),M.below⟩
 ·have e0:k=2:=by simp at h4;omega
  rw[QD p.types.length (by rw[if_neg (by omega),if_neg (by omega),if_pos e0])];refine lb 1<|an rfl<|dr (by kernel_rfl)<|lb 0<|an rfl<|cl<|an (fun w' hb M'=>GP w' _)<|cl<|an (fun w' hb M'=>vm w' _ _ he.set' (jZ _))<|fun w5 uL M5=>an (fun h5 M=>⟨ri (if_pos (by simpa using h5)),M.below⟩) fun h5=>?_
  rw[if_neg (by simpa using h5)];exact lb 0<|an rfl<|cl<|an (lC _ _) fun w6 M6=>an (fun h6 M=>⟨ri (if_pos (by simpa using h6)),M.below⟩) fun h6=>fun M=>⟨ri (if_neg (by simpa using h6)),M.below⟩
 ·have e0:¬ k=0∧¬ k=1∧¬ k=2:=by simp at h2 h3 h4;omega
  have hc:wJ p.users.length p.roles.length p.types.length N e=13:=by
   unfold wJ dh;rw[← hk,if_neg (by rw[hb];decide),if_neg e0.1,if_neg e0.2.1,if_neg e0.2.2,if_pos (by decide)]
  exact fun M=>⟨ri hc,M.below⟩
theorem PD(e:aS)(h1:e.op≠1)(h5:e.op≠5)(h6:e.op≠6)(h7:e.op≠7):((decide (fJ e.op<0)||!decide ((e.kids.length:Int)=fJ e.op))||!Aj e)=!cT e:=by
 have e3:∀ n:Nat,decide ((n:Int)=0)=decide (n=0):=fun n=>by rw[decide_eq_decide];omega
 unfold cT Aj;by_cases o2:e.op=2∨e.op=3∨e.op=4
 ·rw[if_pos o2];have hk:¬ fJ e.op<0:=by rcases o2 with h|h|h<;>rw[h]<;>decide
  have h8:e.op≠8:=by omega
  have h9:e.op≠9:=by omega
  rw[decide_eq_false hk,Bool.false_or,if_neg h8,if_neg h9,e3 e.names.length];by_cases hn:e.names.length=0
  ·rw[if_neg (by simpa using hn),decide_eq_true hn];cases decide ((e.kids.length:Int)=fJ e.op)<;>cases decide (e.a=0)<;>cases decide (e.rel=0)<;>cases decide (e.b=0)<;>cases decide (e.set=aE.zero)<;>rfl
  ·rw[if_pos (by simpa using hn),decide_eq_false hn];cases decide ((e.kids.length:Int)=fJ e.op)<;>cases decide (e.a=0)<;>cases decide (e.rel=0)<;>cases decide (e.b=0)<;>cases decide (e.set=aE.zero)<;>rfl
 ·rw[if_neg o2];by_cases h8:e.op=8
  ·rw[if_pos h8,if_pos h8,h8,e3 e.names.length,show fJ 8=0 from rfl];by_cases hn:e.names.length=0
   ·rw[if_neg (by simpa using hn),decide_eq_true hn];cases decide ((e.kids.length:Int)=0)<;>cases decide (e.set=aE.zero)<;>rfl
   ·rw[if_pos (by simpa using hn),decide_eq_false hn];cases decide ((e.kids.length:Int)=0)<;>cases decide (e.set=aE.zero)<;>rfl
  ·rw[if_neg h8,if_neg h8];by_cases h9:e.op=9
   ·rw[if_pos h9,if_pos h9,h9,e3 e.names.length,show fJ 9=0 from rfl];by_cases hn:e.names.length=0
    ·rw[if_neg (by simpa using hn),decide_eq_true hn];cases decide ((e.kids.length:Int)=0)<;>cases decide (e.rel=0)<;>cases decide (e.b=0)<;>rfl
    ·rw[if_pos (by simpa using hn),decide_eq_false hn];cases decide ((e.kids.length:Int)=0)<;>cases decide (e.rel=0)<;>cases decide (e.b=0)<;>rfl
   ·have hk:fJ e.op=-1:=by unfold fJ;simp[h1,h5,h6,h7,h8,h9];omega
    rw[if_neg h9,if_neg h9,hk];rfl
theorem Qb(N:Nat)(hN:N≤100):∀ e:aS,e.Ok→∀ (w0:World) (cs:List Value) (c0 c1 c2 c3 c4 c5 c6 c7 c8 c9 c10 c11 c12 c13 c14 c15 c16:Value) (p:aD),aA w0 c0 c1 c2 c3 c4 c5 c6 c7 c8 c9 c10 c11 c12 c13 c14 c15 c16 p→bq w0 cs e→Calls Tryz.prog 319 #[.agg #[c0,c1,c2,c3,c4,c5,c6,c7,c8,c9,c10,c11,c12,c13,c14,c15,c16],.agg cs.toArray,.int .i64 (N:Int)] w0 (RI w0 (iC p.users.length p.roles.length p.types.length N e)):=by
 refine aS.ind fun e ih=>?_
 intro he w0 cs c0 c1 c2 c3 c4 c5 c6 c7 c8 c9 c10 c11 c12 c13 c14 c15 c16 p hp h;have h':=h;obtain⟨nv,kv,rfl,uH,hk⟩:=h.open;obtain⟨na,nc,rfl,-⟩:=aN.get uH;obtain⟨ka,kc,rfl,-,Cc,-⟩:=aj.form hk (by decide);have hp':=hp;obtain⟨a0,a1,a2,a3,a4,a5,a6,a7,a8,a9,rF,rE,a12,rD,rC,rB,rA,k0,k1,k2,k3,k4,k5,k6,k7,k8,k9,k10,k11,k12,k13,k14,k15,k16,rfl,rfl,rfl,rfl,rfl,rfl,rfl,rfl,rfl,rfl,rfl,rfl,rfl,rfl,rfl,rfl,rfl⟩:=hp.open;have bad:cT e=false→iC p.users.length p.roles.length p.types.length N e=2:=fun hf=>kE (by unfold dF;rw[if_pos hf])
 have b1:e.op=1∨e.op=5∨e.op=6∨e.op=7→cT e=false:=fun ho=>by
  unfold cT;rw[if_neg (by omega),if_neg (by omega),if_neg (by omega)]
 refine bM [16] (fn:=Tryz.f319) Tryz.func319 rfl Tryz.ntmps319 rfl<|fun g1 w1 M1=>fun g2 w2 M2=>lb 0<|an rfl<|cl<|an (BW _ _) fun w3 M3=>lb 0<|an rfl<|an (fun h=>an (fun _ M=>⟨ri (bad (b1 (by simp at h;omega))),M.below⟩) fun h2=>absurd (h.symm.trans h2) (by decide)) fun n1=>an (fun h=>an (fun _ M=>⟨ri (bad (b1 (by simp at h;omega))),M.below⟩) fun h2=>absurd (h.symm.trans h2) (by decide)) fun n5=>an (fun h=>an (fun _ M=>⟨ri (bad (b1 (by simp at h;omega))),M.below⟩) fun h2=>absurd (h.symm.trans h2) (by decide)) fun n6=>an (fun h M=>⟨ri (bad (b1 (by simp at h;omega))),M.below⟩) fun n7=>?_
 have hnb:=PD e (by simpa using n1) (by simpa using n5) (by simpa using n6) (by simpa using n7);refine lb 0<|an (fun _=>rfl)<|lb 0<|an (fun _=>rfl)<|cl<|an (fun _=>PW _ _ e (h'.keep M3.below)) fun w4 M4=>an (fun hb M=>⟨ri (bad ?_),M.below⟩) fun hb=>?_
 ·have:=hnb.symm.trans hb;simpa using this
 have hf:cT e=true:=by have:=hnb.symm.trans hb;simpa using this
 have key:e.op≠8→e.op≠9→iC p.users.length p.roles.length p.types.length N e=lV p.users.length p.roles.length p.types.length N e.kids:=fun h8 h9=>mP (by unfold dF;rw[if_neg (by rw[hf];decide),if_neg h8,if_neg h9])
 have abQ:e.op=8∨e.op=9→e.kids=[]:=fun ho=>by
  have:fJ e.op=0:=by rcases ho with h|h<;>rw[h]<;>rfl
  have hl:(e.kids.length:Int)=fJ e.op:=by
   cases hd:decide ((e.kids.length:Int)=fJ e.op) with
   | true=>exact of_decide_eq_true hd
   | false=>rw[hd] at hb;simp at hb
  exact List.eq_nil_of_length_eq_zero (by omega)
 refine jo (ι:=Int) (fun x=>[(8,.int .i64 x)]) (fun _=>[(g2,84,#[.int .i64 e.op,.int .i64 e.a,.int .i64 e.rel,.int .i64 e.b,.slice na e.names.length nc,.int .u64 e.set.a,.int .u64 e.set.b,.int .u64 e.set.c,.int .u64 e.set.d,.slice ka e.kids.length kc]),(g1,39,#[.slice a0 p.classes.length k0,.slice a1 p.types.length k1,.slice a2 p.attrs.length k2,.slice a3 p.roles.length k3,.slice a4 p.users.length k4,.slice a5 p.bools.length k5,.slice a6 p.ak.length k6,.slice a7 p.cats.length k7,.slice a8 p.conds.length k8,.slice a9 p.rules.length k9,.slice rF p.trans.length k10,.slice rE p.ay.length k11,.slice a12 p.ranges.length k12,.slice rD p.cons.length k13,.slice rC p.bg.length k14,.slice rB p.files.length k15,.slice rA p.asserts.length k16])]) (fun _=>[]) (fun x _=>iC p.users.length p.roles.length p.types.length N e=if x=0 then lV p.users.length p.roles.length p.types.length N e.kids else x)<|an (lb 0<|an rfl<|an (fun h8=>?_) fun h8=>an (fun h9=>?_) fun h9=>?_) ?_
 ·have o8:e.op=8:=by simpa using h8
  refine lb 0<|an rfl<|cl<|an (Jx _ _ e (h'.keep M4.below) N) fun w5 M5=>je _ ⟨rfl,trivial⟩ fun M=>⟨M,?_⟩
  rw[kE (r:=ez N e) (by unfold dF;rw[if_neg (by rw[hf];decide),if_pos o8]),abQ (.inl o8)];split
  ·rename_i h0;rw[h0];rfl
  ·rfl
 ·have o9:e.op=9:=by simpa using h9
  have o8:e.op≠8:=by omega
  refine lb 1<|an rfl<|lb 0<|an rfl<|cl<|an (GL _ _ e he (h'.keep M4.below) _ _ _ _ _ _ _ _ _ _ _ _ _ _ _ _ _ p (hp'.keep M4.below) N) fun w5 M5=>je _ ⟨rfl,trivial⟩ fun M=>⟨M,?_⟩
  have hs:dF p.users.length p.roles.length p.types.length N e=if wJ p.users.length p.roles.length p.types.length N e=0 then none else some (wJ p.users.length p.roles.length p.types.length N e):=by
   unfold dF wJ;rw[if_neg (by rw[hf];decide),if_neg o8,if_pos o9];by_cases c1:aF e.a (N:Int)=false
   ·simp[c1]
   ·by_cases c2:dh p.users.length p.roles.length p.types.length e.a.toNat<0
    ·simp[c1,c2]
    ·by_cases c3:e.set.within (aE.all (dh p.users.length p.roles.length p.types.length e.a.toNat).toNat)=false
     ·simp[c1,c2,c3]
     ·by_cases c4:bD e.set=false
      ·simp[c1,c2,c3,c4]
      ·simp[c1,c2,c3,c4]
  by_cases c0:wJ p.users.length p.roles.length p.types.length N e=0
  ·rw[if_pos c0,mP (by rw[hs,if_pos c0])]
  ·rw[if_neg c0,kE (by rw[hs,if_neg c0])]
 ·exact je 0 ⟨rfl,trivial⟩ fun M=>⟨M,by rw[if_pos rfl];exact key (by simpa using h8) (by simpa using h9)⟩
 rintro x w5 M5 hx;refine lb 0<|an rfl<|lr (ι:=Nat×Int) (fun(m,x)=>[(8,.int .i64 x),(51,.int .i64 (m:Int))]) (fun(m,x) _=>m≤e.kids.length∧iC p.users.length p.roles.length p.types.length N e=if x=0 then lV p.users.length p.roles.length p.types.length N (e.kids.drop m) else x) (fun(m,x)=>e.kids.length-m) (0,x) (an ⟨⟨rfl,rfl,trivial⟩,fun M=>⟨M,ak6 _,hx⟩⟩ ?_);rintro⟨m,x⟩ w M ⟨hm,hinv⟩;refine an (fun h3=>?_) fun h3 M=>⟨ri (by rw[hinv,show m=e.kids.length by simp at h3;omega,List.drop_length];split<;>first|(rename_i h0;rw[h0];rfl)|rfl),M.below⟩
 have hlt:m<e.kids.length:=by simp at h3;omega
 obtain⟨y,hy⟩:∃ y,e.kids[m]?=some y:=⟨_,ak7 hlt⟩;have iK:=ak8 hy;obtain⟨b,o,_,e1,hE,hc⟩:=aj.elt hk (by decide) hy;obtain⟨PB,kv',rfl,hn',hk'⟩:=hE.open;obtain⟨_,_,rfl,-⟩:=aN.get hn';obtain⟨_,_,rfl,-⟩:=aj.form hk' (by decide);refine ia<|an ⟨e1,rfl,hlt⟩<|lc<|an (bZ M.below hc)<|ei<|an DW fun g3 w6 M6=>lb 0<|an ⟨rfl,rfl⟩ fun w7 M7=>an (fun h4=>?_) fun h4=>?_
 ·have x0:x=0:=by simpa using h4
  refine lb 2<|an rfl<|lb 0<|an rfl<|cl<|an (ih y iK (he.BZ y iK) _ _ _ _ _ _ _ _ _ _ _ _ _ _ _ _ _ _ _ p (hp'.keep M7.below) (hE.keep M7.below)) fun w8 M8=>an (by omega)<|bk (m+1,_) ⟨rfl,rfl,trivial⟩ (fun M=>⟨M.only (.cons _ (.refl _)) (.refl _),by omega,?_⟩) (by dsimp only;omega)
  rw[hinv,if_pos x0,mQ hy]
 ·have x0:¬ x=0:=by simpa using h4
  exact an (by omega)<|bk (m+1,x) ⟨rfl,rfl,trivial⟩ (fun M=>⟨M.only (.cons _ (.refl _)) (.refl _),by omega,by rw[hinv,if_neg x0,if_neg x0]⟩) (by dsimp only;omega)
end Go.Proofs.YtkkmjdceiocnbaaGreatDoor

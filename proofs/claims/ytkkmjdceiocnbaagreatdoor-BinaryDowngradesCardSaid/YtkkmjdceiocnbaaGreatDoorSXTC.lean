import Derived.Test.YtkkmjdceiocnbaaGreatDoorSXTB
open Bool renaming eq_iff_iff→aj_
open Go renaming wp_cond_split→aj3
open Go.RowKit renaming Below→aj5
open List renaming mem_append→aj4,getElem?_eq_getElem→aj7,mem_of_getElem?→aj8,take_length→aj9
open Nat renaming zero_le→aj6
set_option maxRecDepth 100000
set_option maxHeartbeats 8000000
set_option linter.unusedSectionVars false
set_option linter.unusedSimpArgs false
set_option linter.unusedVariables false
namespace Go.Proofs.YtkkmjdceiocnbaaGreatDoor
open Go Go.RowKit
theorem PS:Zi=[⟨#[109,111,100,117,108,101]⟩,⟨#[99,108,97,115,115]⟩,⟨#[116,121,112,101]⟩,⟨#[97,108,105,97,115]⟩,⟨#[116,121,112,101,97,116,116,114,105,98,117,116,101]⟩,⟨#[97,116,116,114,105,98,117,116,101]⟩,⟨#[114,111,108,101]⟩,⟨#[116,121,112,101,115]⟩,⟨#[114,111,108,101,97,108,108,111,119]⟩,⟨#[114,111,108,101,95,116,114,97,110,115,105,116,105,111,110]⟩,⟨#[117,115,101,114]⟩,⟨#[114,111,108,101,115]⟩,⟨#[108,101,118,101,108]⟩,⟨#[114,97,110,103,101]⟩,⟨#[98,111,111,108]⟩,⟨#[116,114,117,101]⟩,⟨#[102,97,108,115,101]⟩,⟨#[115,101,110,115,105,116,105,118,105,116,121]⟩,⟨#[99,97,116,101,103,111,114,121]⟩,⟨#[97,108,108,111,119]⟩,⟨#[97,117,100,105,116,97,108,108,111,119]⟩,⟨#[100,111,110,116,97,117,100,105,116]⟩,⟨#[110,101,118,101,114,97,108,108,111,119]⟩,⟨#[116,121,112,101,95,116,114,97,110,115,105,116,105,111,110]⟩,⟨#[116,121,112,101,95,99,104,97,110,103,101]⟩,⟨#[116,121,112,101,95,109,101,109,98,101,114]⟩,⟨#[114,97,110,103,101,95,116,114,97,110,115,105,116,105,111,110]⟩,⟨#[99,111,110,115,116,114,97,105,110]⟩,⟨#[118,97,108,105,100,97,116,101,116,114,97,110,115]⟩,⟨#[105,102]⟩,⟨#[101,108,115,101]⟩,⟨#[111,112,116,105,111,110,97,108]⟩,⟨#[114,101,113,117,105,114,101]⟩,⟨#[115,105,100]⟩,⟨#[102,105,108,101,99,111,110]⟩,⟨#[112,101,114,109,105,115,115,105,118,101]⟩,⟨#[97,115,115,101,114,116]⟩,⟨#[115,101,108,102]⟩,⟨#[105,110]⟩]:=by kernel_rfl
def Pg(t id d:Nat)(c:ByteArray)(pos:String):Code:=.region id #[{ dst:=some d,op:=.binOp .eql 9 (.tmp 3) (.const (.string c)) 9,type:=4,pos:=pos,after:=#[],guard:=none },{ dst:=some t,op:=.assign (.tmp d),type:=4,pos:=pos,after:=#[{ on:=0,ground:=.data }],guard:=none }] false
def uE(t:Nat)(pos:String):List (Nat×Nat×ByteArray)→Code
 | []=>.skip
 | (id,d,c)::r=>match r with
  | []=>Pg t id d c pos
  | r=>(Pg t id d c pos).seq (.cond (.tmp t) .skip (uE t pos r))
theorem G8{t id d N:Nat}{c s:ByteArray}{pos:String}{a:Act}{w:World}{Q:Exit→Act→World→Prop}(hf:Fr a N)(h3:At a 3 (.string s))(hd:d<N)(ht:t<N)(hd3:d≠3)(Wm:t≠3)(hQ:∀ a',Fr a' N→At a' 3 (.string s)→At a' t (.bool (decide (s=c)))→Q .normal a' w):(Pg t id d c pos).wp Tryz.prog Q a w:=by
 unfold Pg;refine wp_region_list (kM (v:=.bool (decide (s=c))) (w':=w) (dN rfl) ((Nt rfl h3.ev rfl).trans (by rw[kA])) rfl hf hd fun a1 p1=>kM (v:=.bool (decide (s=c))) (w':=w) (dN rfl) (yH rfl p1.now.ev) rfl (p1.fr hf) ht fun a2 p2=>wpList_nil (hQ a2 (p2.fr (p1.fr hf)) (p2.old (by simpa using fun e=>Wm e.symm) (p1.old (by simpa using fun e=>hd3 e.symm) h3)) p2.now))
theorem nV{t N:Nat}{s:ByteArray}{pos:String}{w:World}(ht:t<N)(Wm:t≠3):∀ (l:List (Nat×Nat×ByteArray)) {a:Act} {Q:Exit→Act→World→Prop},l≠[]→(l.all fun x=>Nat.blt x.2.1 N&&!Nat.beq x.2.1 3)=true→Fr a N→At a 3 (.string s)→(∀ a' b,Fr a' N→At a' 3 (.string s)→At a' t (.bool b)→(b=true↔s∈l.map (·.2.2))→Q .normal a' w)→(uE t pos l).wp Tryz.prog Q a w
 | [],_,_,h,_,_,_,_=>absurd rfl h
 | (id,d,c)::r,a,Q,_,hl,hf,h3,hQ=>by
  simp only[List.all_cons,Bool.and_eq_true,Bool.not_eq_true'] at hl;obtain⟨⟨h1,h2⟩,hr⟩:=hl;have hd:d<N:=by simpa using h1
  have hd3:d≠3:=fun e=>by rw[e] at h2;cases h2
  cases r with
  | nil=>exact G8 hf h3 hd ht hd3 Wm fun a' f1 f2 f3=>hQ a' _ f1 f2 f3 (by simp)
  | cons x r=>
   refine wp_seq (G8 hf h3 hd ht hd3 Wm fun a' f1 f2 f3=>?_);by_cases e:s=c
   ·rw[decide_eq_true e] at f3;exact wp_cond_true f3.ev (wp_skip (hQ a' true f1 f2 f3 (by simp[e])))
   ·rw[decide_eq_false e] at f3;refine wp_cond_false f3.ev (nV ht Wm (x::r) (by simp) hr f1 f2 fun a'' b g1 g2 g3 g4=>hQ a'' b g1 g2 g3 (g4.trans ?_));simp only[List.map_cons,List.mem_cons];exact⟨.inr,fun h=>h.resolve_left e⟩
def JE:List (Nat×Nat×ByteArray):=[(3,5,⟨#[109,111,100,117,108,101]⟩),(4,6,⟨#[99,108,97,115,115]⟩),(5,7,⟨#[116,121,112,101]⟩),(6,8,⟨#[97,108,105,97,115]⟩),(7,9,⟨#[116,121,112,101,97,116,116,114,105,98,117,116,101]⟩),(8,10,⟨#[97,116,116,114,105,98,117,116,101]⟩),(9,11,⟨#[114,111,108,101]⟩),(10,12,⟨#[116,121,112,101,115]⟩),(11,13,⟨#[114,111,108,101,97,108,108,111,119]⟩),(12,14,⟨#[114,111,108,101,95,116,114,97,110,115,105,116,105,111,110]⟩)]
def JD:List (Nat×Nat×ByteArray):=[(13,16,⟨#[117,115,101,114]⟩),(14,17,⟨#[114,111,108,101,115]⟩),(15,18,⟨#[108,101,118,101,108]⟩),(16,19,⟨#[114,97,110,103,101]⟩),(17,20,⟨#[98,111,111,108]⟩),(18,21,⟨#[116,114,117,101]⟩),(19,22,⟨#[102,97,108,115,101]⟩),(20,23,⟨#[115,101,110,115,105,116,105,118,105,116,121]⟩),(21,24,⟨#[99,97,116,101,103,111,114,121]⟩)]
def JC:List (Nat×Nat×ByteArray):=[(22,26,⟨#[97,108,108,111,119]⟩),(23,27,⟨#[97,117,100,105,116,97,108,108,111,119]⟩),(24,28,⟨#[100,111,110,116,97,117,100,105,116]⟩),(25,29,⟨#[110,101,118,101,114,97,108,108,111,119]⟩),(26,30,⟨#[116,121,112,101,95,116,114,97,110,115,105,116,105,111,110]⟩),(27,31,⟨#[116,121,112,101,95,99,104,97,110,103,101]⟩),(28,32,⟨#[116,121,112,101,95,109,101,109,98,101,114]⟩),(29,33,⟨#[114,97,110,103,101,95,116,114,97,110,115,105,116,105,111,110]⟩)]
def JB:List (Nat×Nat×ByteArray):=[(30,35,⟨#[99,111,110,115,116,114,97,105,110]⟩),(31,36,⟨#[118,97,108,105,100,97,116,101,116,114,97,110,115]⟩),(32,37,⟨#[105,102]⟩),(33,38,⟨#[101,108,115,101]⟩),(34,39,⟨#[111,112,116,105,111,110,97,108]⟩),(35,40,⟨#[114,101,113,117,105,114,101]⟩),(36,41,⟨#[115,105,100]⟩),(37,42,⟨#[102,105,108,101,99,111,110]⟩),(38,43,⟨#[112,101,114,109,105,115,115,105,118,101]⟩),(39,44,⟨#[97,115,115,101,114,116]⟩),(40,45,⟨#[115,101,108,102]⟩),(41,46,⟨#[105,110]⟩)]
theorem SX:(JE++JD++JC++JB).map (·.2.2)=Zi:=PS.symm
theorem SV:((JE++JD++JC++JB).map (·.2.2)).all eZ=true:=by kernel_rfl
theorem Wd{s:ByteArray}(h:s∈(JE++JD++JC++JB).map (·.2.2)):eZ s=true:=List.all_eq_true.1 SV s h
def SY(x:Code):Code:=.block 0 ((uE 4 "token.go:200" JE).seq (.cond (.tmp 4) .skip ((uE 15 "token.go:201" JD).seq (.cond (.tmp 15) .skip ((uE 25 "token.go:202" JC).seq (.cond (.tmp 25) .skip ((uE 34 "token.go:203" JB).seq (.cond (.tmp 34) .skip x))))))))
theorem JF{N:Nat}{s:ByteArray}{w:World}{x:Code}{a:Act}{Q:Exit→Act→World→Prop}(hN:N=47)(hf:Fr a N)(h3:At a 3 (.string s))(hx:eZ s=false→∀ a',Fr a' N→x.wp Tryz.prog (Exit.inBlock 0 Q) a' w)(hQ:eZ s=true→∀ a',Fr a' N→Exit.inBlock 0 Q .normal a' w):(SY x).wp Tryz.prog Q a w:=by
 subst hN
 have yes:∀ {b:Bool} {l:List (Nat×Nat×ByteArray)},(b=true↔s∈l.map (·.2.2))→(∀ z∈l,z∈JE++JD++JC++JB)→b=true→eZ s=true:=fun {b l} hb hl h=>Wd (by
  obtain⟨z,hz,rfl⟩:=List.mem_map.1 (hb.1 h);exact List.mem_map.2 ⟨z,hl z hz,rfl⟩)
 refine wp_block (wp_seq (nV (by decide) (by decide) JE (by decide) (by decide) hf h3 fun a1 b1 f1 g1 k1 m1=>?_));refine aj3 k1.ev (fun h=>wp_skip (hQ (yes m1 (fun z hz=>by simp only[aj4];exact .inl (.inl (.inl hz))) h) a1 f1)) fun n0=>?_
 refine wp_seq (nV (by decide) (by decide) JD (by decide) (by decide) f1 g1 fun a2 b2 f2 g2 k2 m2=>?_);refine aj3 k2.ev (fun h=>wp_skip (hQ (yes m2 (fun z hz=>by simp only[aj4];exact .inl (.inl (.inr hz))) h) a2 f2)) fun n1=>?_
 refine wp_seq (nV (by decide) (by decide) JC (by decide) (by decide) f2 g2 fun a3 b3 f3 g3 k3 m3=>?_);refine aj3 k3.ev (fun h=>wp_skip (hQ (yes m3 (fun z hz=>by simp only[aj4];exact .inl (.inr hz)) h) a3 f3)) fun n2=>?_
 refine wp_seq (nV (by decide) (by decide) JB (by decide) (by decide) f3 g3 fun a4 b4 f4 g4 k4 m4=>?_);refine aj3 k4.ev (fun h=>wp_skip (hQ (yes m4 (fun z hz=>by simp only[aj4];exact .inr hz) h) a4 f4)) fun n3=>hx ?_ a4 f4
 cases e:eZ s with
 | false=>rfl
 | true=>
  have hm:=SW e;rw[← SX] at hm;simp only[List.map_append,aj4] at hm;rcases hm with((hm|hm)|hm)|hm
  ·exact absurd (n0.symm.trans (m1.2 hm)) (by decide)
  ·exact absurd (n1.symm.trans (m2.2 hm)) (by decide)
  ·exact absurd (n2.symm.trans (m3.2 hm)) (by decide)
  ·exact absurd (n3.symm.trans (m4.2 hm)) (by decide)
theorem Jy(w0:World)(s:ByteArray):Calls Tryz.prog 340 #[.string s] w0 (fun r w'=>r=.returned (.bool (eZ s))∧aj5 w0.heap.size w0 w'):=by
 have uM:=hr1 Tryz.prog Tryz.f340 (fun(r:Ending) (w':World)=>r=.returned (.bool (eZ s))∧aj5 w0.heap.size w0 w') 47 2 rfl;refine en Tryz.func340 rfl Tryz.ntmps340 rfl (vs:=[.string s]) rfl fun _ F=>?_
 have M:=Mm.start w0;refine wp_seq_k fun K1 Qh=>bS<|xA (v:=.bool false) F rf rf rf fun _ F=>wpList_nil<|Qh _ _ ?_
 refine wp_seq_k fun K2 Qg=>?_
 refine wp_seq_k fun K3 WT=>bS<|xM F rf rf rf fun _ F=>wpList_nil<|WT _ _ ?_
 refine JF rfl F.fr (F.at_ 3 _ rfl) (fun hk a' hf=>?_) (fun hk a' hf=>Qg _ _ ?_)
 ·have F':Fs a' 47 []:=⟨hf,fun q v h=>by cases h⟩;refine wp_seq_k fun K4 TJ=>bS<|xA (v:=.bool false) F' rf rf rf fun _ F=>wpList_nil<|TJ _ _ ?_
  exact wp_ret<|uM _ _ _ _ F rfl ⟨by rw[hk],M.below⟩
 ·have F':Fs a' 47 []:=⟨hf,fun q v h=>by cases h⟩;refine wp_seq_k fun K4 TJ=>bS<|xA (v:=.bool true) F' rf rf rf fun _ F=>wpList_nil<|TJ _ _ ?_
  exact wp_ret<|uM _ _ _ _ F rfl ⟨by rw[hk],M.below⟩
theorem PG(w0:World)(s:ByteArray)(hs:cB s):Calls Tryz.prog 326 #[.string s] w0 (fun r w'=>r=.returned (.bool (mg s))∧aj5 w0.heap.size w0 w'):=by
 refine bU [] (fn:=Tryz.f326) Tryz.func326 rfl Tryz.ntmps326 rfl<|cl<|an (PE _ s hs) fun w1 M1=>cl<|an (fun _=>Jy _ s) fun w2 M2=>fun M=>⟨rfl,M.below⟩
theorem Bp(w0:World)(s:ByteArray)(hs:cB s):Calls Tryz.prog 310 #[.string s] w0 (fun r w'=>r=.returned (.bool (mg s))∧aj5 w0.heap.size w0 w'):=by
 refine bU [] (fn:=Tryz.f310) Tryz.func310 rfl Tryz.ntmps310 rfl<|cl<|an (PG _ s hs) fun w1 M1=>fun M=>⟨rfl,M.below⟩
theorem qj(w0:World)(s:ByteArray)(hs:cB s)(v:Value)(l:List ByteArray)(hv:aJ w0 v l):Calls Tryz.prog 273 #[.string s,v] w0 (RI w0 (aP [s] l)):=by
 have e:=Ho s l;refine bU [] (fn:=Tryz.f273) Tryz.func273 rfl Tryz.ntmps273 rfl<|cl<|an (Bp _ s hs) fun w1 M1=>an (fun h=>fun M=>⟨ri (by rw[e,if_neg (by simpa using h)]),M.below⟩) fun h=>cl<|an (FA _ _ l (hv.keep M1.below) s) fun w2 M2=>an (fun h2=>fun M=>⟨ri (by rw[e,if_pos (by simpa using h),if_pos h2]),M.below⟩) fun h2=>fun M=>⟨ri (by rw[e,if_pos (by simpa using h),if_neg (by simpa using h2)]),M.below⟩
theorem wu(w0:World)(v:Value)(l:List ByteArray)(hv:aJ w0 v l)(most:Nat)(hok:∀ s∈l,cB s):Calls Tryz.prog 274 #[v,.int .i64 (most:Int)] w0 (RI w0 (if most<l.length then 4 else aP l [])):=by
 obtain⟨a,c,rfl,KI,hget⟩:=aJ.get hv;have hcl:l.length≤c:=by obtain⟨_,_,e,hk,-⟩:=SliceAt.form hv (by decide);injection e with e1 e2 e3;omega
 refine bU [] (fn:=Tryz.f274) Tryz.func274 rfl Tryz.ntmps274 rfl<|an (fun h=>fun M=>⟨ri (if_pos (by simp at h;omega)),M.below⟩) fun h=>?_
 rw[if_neg (by simp at h;omega)];unfold aP;refine lr (ι:=Nat) (fun m=>[(14,.int .i64 (m:Int))]) (fun m _=>m≤l.length∧ah (gh l []) l.length 0=ah (gh l []) (l.length-m) m) (fun m=>l.length-m) 0 (an ⟨⟨rfl,trivial⟩,fun M=>⟨M,aj6 _,by rw[Nat.sub_zero]⟩⟩ ?_);rintro m w1 M ⟨hm,hinv⟩;refine an (fun h2=>?_) fun h2 M=>⟨ri (by rw[hinv,show m=l.length by simp at h2;omega,aT]),M.below⟩
 have hlt:m<l.length:=by simp at h2;omega
 obtain⟨s,hs⟩:∃ s,l[m]?=some s:=⟨_,aj7 hlt⟩;obtain⟨b,off,rfl,hc⟩:=hget m s hs;have hcf:=qd (o:=[]) hs;rw[List.nil_append] at hcf;refine ia<|an ⟨rfl,rfl,hlt⟩<|lc (x:=.string s)<|an (cell_later M.below hc)<|Rb M (v:=.slice (some ⟨b,off,none⟩) m c) (fun a o ho hv=>nO ho (aQ hv) (cO hv) (by omega) (by omega) u28 sz9)<|cl<|an (qj _ s (hok s (aj8 hs)) _ (l.take m) ((aJ.front hv rfl (Nat.le_of_lt hlt)).keep M.below)) fun w2 M2=>an (fun h3 M=>⟨ri ?_,M.below⟩) fun h3=>an (by omega)<|bk (m+1) ⟨rfl,trivial⟩ (fun M=>⟨M,by omega,hinv.trans (aM hlt (by rw[hcf];simpa using h3))⟩) (by dsimp only;omega)
 have h3:aP [s] (l.take m)≠0:=by simpa using h3
 rw[hinv,aV hlt (by rw[hcf];exact h3),hcf]
theorem Jz(w0:World)(c0 c1 c2 c3 c4 c5 c6 c7 c8 c9 c10 c11 c12 c13 c14 c15 c16:Value)(p:aA)(hp:aD w0 c0 c1 c2 c3 c4 c5 c6 c7 c8 c9 c10 c11 c12 c13 c14 c15 c16 p)(hok:p.Ok):Calls Tryz.prog 176 #[.agg #[c0,c1,c2,c3,c4,c5,c6,c7,c8,c9,c10,c11,c12,c13,c14,c15,c16]] w0 (RI w0 (bF p)):=by
 obtain⟨_,_,_,_,_,_,_,_,_,_,_,_,_,_,_,_,_,_,_,_,_,_,_,_,_,_,_,_,_,_,_,_,_,_,rfl,rfl,rfl,rfl,rfl,rfl,rfl,rfl,rfl,rfl,rfl,rfl,rfl,rfl,rfl,rfl,rfl⟩:=hp.open;refine bU [] (fn:=Tryz.f176) Tryz.func176 rfl Tryz.ntmps176 rfl<|fun g1 w1 M1=>lb 0<|an rfl<|an (fun h M=>⟨ri (by unfold bF;rw[if_pos (by simp at h;omega)]),M.below⟩) fun h=>?_
 have hr:¬ 32<p.classes.length:=by simp at h;omega
 rw[show bF p=ah (jm p) p.classes.length 0 from if_neg hr];refine lb 0<|an rfl<|lq (ι:=Nat×Value) (fun(m,u)=>[(3,u),(17,.int .i64 (m:Int))]) (fun(m,u)=>[⟨u,9,1,m,((p.classes.take m).map (·.name)).flatMap aO⟩]) (fun(m,u) _=>m≤p.classes.length∧ah (jm p) p.classes.length 0=ah (jm p) (p.classes.length-m) m) (fun(m,u)=>p.classes.length-m) (0,.slice none 0 0) (an ⟨⟨rfl,rfl,trivial⟩,fun M=>⟨M.bE 9 1,aj6 _,by rw[Nat.sub_zero]⟩⟩ ?_);rintro⟨m,u⟩ w M ⟨hm,hinv⟩;refine an (fun h2=>?_) fun h2 M=>⟨ri (by rw[hinv,show m=p.classes.length by simp at h2;omega,aT]),M.below⟩
 have hlt:m<p.classes.length:=by simp at h2;omega
 obtain⟨y,hy⟩:∃ y,p.classes[m]?=some y:=⟨_,aj7 hlt⟩;have fq:=hok.classes y (aj8 hy);obtain⟨b,o,_,e,⟨v,rfl,hv⟩,hc⟩:=au.elt hp.classes (by decide) hy;obtain⟨va,vc,rfl,-⟩:=aJ.get hv;have hcf:jm p m=ni ((p.classes.take m).map (·.name)) y:=by unfold jm;rw[hy]
 have out:∀ v:Int,ni ((p.classes.take m).map (·.name)) y=v→v≠0→ah (jm p) p.classes.length 0=v:=fun v h1 h2=>by rw[hinv,aV hlt (by rw[hcf,h1];exact h2),hcf,h1]
 unfold ni at hcf out;refine ia<|an ⟨e,rfl,hlt⟩<|lc<|an (cL M.below hc)<|ei<|an GP fun g2 w2 M2=>lb 0<|an ⟨rfl,rfl⟩ fun w3 M3=>lb 0<|an rfl<|cl<|an (qj _ y.name fq.name _ _ (cP (M3.r 0 rfl) (by simp;omega) rfl)) fun w5 M5=>an (fun h3 M=>⟨ri (out _ (if_neg (by simpa using h3)) (by simpa using h3)),M.below⟩) fun h3=>?_
 replace h3:aP [y.name] ((p.classes.take m).map (·.name))=0:=by simpa using h3
 rw[if_pos h3] at hcf out;refine lb 0<|an rfl<|fun g4 w6 M6=>ap 0 id rfl (M6.slice 0 rfl rfl rfl (by simp[maxLen])) ⟨by unfold maxLen;omega,by omega⟩ fun v5 w7 M7=>lb 1<|an rfl<|an (fun h4 M=>⟨ri (out _ (if_pos (by simp at h4;omega)) (by decide)),M.below⟩) fun h4=>?_
 have U4:y.perms.length≤32:=by simp at h4;omega
 rw[if_neg (by omega)] at hcf out;refine lb 1<|an rfl<|an (fun h5 M=>⟨ri (out _ (if_pos (by simp at h5;simp[h5])) (by decide)),M.below⟩) fun h5=>?_
 rw[if_neg (by simp at h5;simp[h5])] at hcf out;refine lb 1<|an rfl<|cl<|an (wu _ _ y.perms (hv.keep M7.below) 32 fq.perms.all) fun w8 M8=>?_
 rw[if_neg (show ¬ 32<y.perms.length by omega)];exact an (fun h6 M=>⟨ri (out _ rfl (by simpa using h6)),M.below⟩) fun h6=>an (by omega)<|bk (m+1,v5) ⟨rfl,rfl,trivial⟩ (fun M=>⟨(M.only (.cons _ (.cons _ (.refl _))) (.refl _)).cast rfl (by dsimp only;rw[i_ hy]),by omega,hinv.trans (aM hlt (by rw[hcf];simpa using h6))⟩) (by dsimp only;omega)
theorem VE{p:aA}(h:p.Md)(m:Nat):(bf (p.types.take m)).length≤100000:=by
 refine Nat.le_trans ?_ h.tn
 conv=>rhs;rw[← List.take_append_drop m p.types]
 unfold bf;rw[List.flatMap_append,List.length_append];omega
theorem G0{p:aA}(h:p.Md){m:Nat}{y:gE}(hy:p.types[m]?=some y):(bf (p.types.take m)).length+(1+y.jy.length)≤100000:=by
 have:=VE h (m+1);have e:bf (p.types.take (m+1))=bf (p.types.take m)++(y.name::y.jy):=by rw[List.take_add_one,hy];simp[bf]
 rw[e,List.length_append,List.length_cons] at this;omega
theorem Ml(w0:World)(c0 c1 c2 c3 c4 c5 c6 c7 c8 c9 c10 c11 c12 c13 c14 c15 c16:Value)(p:aA)(hp:aD w0 c0 c1 c2 c3 c4 c5 c6 c7 c8 c9 c10 c11 c12 c13 c14 c15 c16 p)(hok:p.Ok)(hd:p.Md):Calls Tryz.prog 275 #[.agg #[c0,c1,c2,c3,c4,c5,c6,c7,c8,c9,c10,c11,c12,c13,c14,c15,c16]] w0 (fun(e:Ending) (w':World)=>∃ v,e=.returned v∧(Od w' w0.heap.size v (bf p.types)∧aj5 w0.heap.size w0 w')):=by
 obtain⟨_,_,_,_,_,_,_,_,_,_,_,_,_,_,_,_,_,_,_,_,_,_,_,_,_,_,_,_,_,_,_,_,_,_,rfl,rfl,rfl,rfl,rfl,rfl,rfl,rfl,rfl,rfl,rfl,rfl,rfl,rfl,rfl,rfl,rfl⟩:=hp.open;obtain⟨_,_,e1,-,hm1,-⟩:=au.form hp.types (by decide);refine bU [] (fn:=Tryz.f275) Tryz.func275 rfl Tryz.ntmps275 rfl<|fun g1 w1 M1=>lb 0<|an rfl<|lq (ι:=Nat×Value) (fun(m,u)=>[(3,u),(10,.int .i64 (m:Int))]) (fun(m,u)=>[⟨u,9,1,(bf (p.types.take m)).length,(bf (p.types.take m)).flatMap aO⟩]) (fun(m,u) _=>m≤p.types.length) (fun(m,u)=>p.types.length-m) (0,.slice none 0 0) (an ⟨⟨rfl,rfl,trivial⟩,fun M=>⟨M.bE 9 1,aj6 _⟩⟩ ?_)
 rintro⟨m,u⟩ w M hm;refine an (fun h2=>?_) fun h2 M=>⟨_,rfl,?_,M.below⟩
 ·have hlt:m<p.types.length:=by simp at h2;omega
  obtain⟨y,hy⟩:∃ y,p.types[m]?=some y:=⟨_,aj7 hlt⟩;obtain⟨b,o,_,e,⟨v,rfl,hv⟩,hc⟩:=au.elt hp.types (by decide) hy;obtain⟨va,vc,rfl,-⟩:=aJ.get hv;have hl:=G0 hd hy;exact ia<|an ⟨e,rfl,hlt⟩<|lc<|an (cL M.below hc)<|ei<|an OD fun g2 w2 M2=>lb 0<|an ⟨rfl,rfl⟩ fun w3 M3=>sp [1,2,5,6] (.alt (.step 0 (.step 3 (.step 4 (.step 7 (.step 8 .done))))) (.step 3 (.step 0 (.step 4 (.step 7 (.step 8 .done)))))) [1] (by kernel_rfl)<|lb 0<|an rfl<|lb 0<|an rfl<|fun w4 pI M4=>an (an rfl<|fun g3 w4 M4=>an rfl<|ap 0 id rfl (M4.slice 0 rfl rfl rfl (by simp[maxLen])) ⟨by unfold maxLen;omega,by omega⟩ fun v3 w5 M5=>an rfl<|ap 0 id rfl (hv.keep M5.below) ⟨by unfold maxLen;omega,by omega⟩ fun v4 w6 M6=>an rfl<|an rfl<|an (by omega)<|bk (m+1,v4) ⟨rfl,rfl,trivial⟩ (fun M=>⟨(M.only (.cons _ (.cons _ (.refl _))) (.refl _)).cast rfl (by dsimp only;rw[List.take_add_one,hy];simp[bf,aO];omega),by omega⟩) (by dsimp only;omega)) (fun g3 w4 M4=>an rfl<|an rfl<|ap 0 id rfl (M4.slice 0 rfl rfl rfl (by simp[maxLen])) ⟨by unfold maxLen;omega,by omega⟩ fun v3 w5 M5=>an rfl<|ap 0 id rfl (hv.keep M5.below) ⟨by unfold maxLen;omega,by omega⟩ fun v4 w6 M6=>an rfl<|an rfl<|an (by omega)<|bk (m+1,v4) ⟨rfl,rfl,trivial⟩ (fun M=>⟨(M.only (.cons _ (.cons _ (.refl _))) (.refl _)).cast rfl (by dsimp only;rw[List.take_add_one,hy];simp[bf,aO];omega),by omega⟩) (by dsimp only;omega))
 ·obtain rfl:m=p.types.length:=by simp at h2;omega
  have:=M.r 0 rfl;rw[aj9] at this;exact this
theorem Fq{own o:List ByteArray}{j:Nat}{s:ByteArray}(h:own[j]?=some s)(h0:aP [s] (o++own.take j)=0)(hj:j<own.length):ah (gh own o) (own.length-j) j=ah (gh own o) (own.length-(j+1)) (j+1):=aM hj (by rw[qd h,h0])
theorem Pz(w0:World)(c0 c1 c2 c3 c4 c5 c6 c7 c8 c9 c10 c11 c12 c13 c14 c15 c16:Value)(p:aA)(hp:aD w0 c0 c1 c2 c3 c4 c5 c6 c7 c8 c9 c10 c11 c12 c13 c14 c15 c16 p)(hok:p.Ok)(hd:p.Md):Calls Tryz.prog 177 #[.agg #[c0,c1,c2,c3,c4,c5,c6,c7,c8,c9,c10,c11,c12,c13,c14,c15,c16]] w0 (RI w0 (if 256<p.types.length then 4 else ah (ju p) p.types.length 0)):=by
 obtain⟨_,_,_,_,_,_,_,_,_,_,_,_,_,_,_,_,_,_,_,_,_,_,_,_,_,_,_,_,_,_,_,_,_,_,rfl,rfl,rfl,rfl,rfl,rfl,rfl,rfl,rfl,rfl,rfl,rfl,rfl,rfl,rfl,rfl,rfl⟩:=hp.open;obtain⟨_,_,e1,-,hm1,-⟩:=au.form hp.types (by decide);refine bU [] (fn:=Tryz.f177) Tryz.func177 rfl Tryz.ntmps177 rfl<|fun g1 w1 M1=>lb 0<|an rfl<|an (fun h M=>⟨ri (if_pos (by simp at h;omega)),M.below⟩) fun h=>?_
 rw[if_neg (by simp at h;omega)];refine lb 0<|an rfl<|lq (ι:=Nat×Value) (fun(m,u)=>[(3,u),(18,.int .i64 (m:Int))]) (fun(m,u)=>[⟨u,9,1,(bf (p.types.take m)).length,(bf (p.types.take m)).flatMap aO⟩]) (fun(m,u) _=>m≤p.types.length∧ah (ju p) p.types.length 0=ah (ju p) (p.types.length-m) m) (fun(m,u)=>p.types.length-m) (0,.slice none 0 0) (an ⟨⟨rfl,rfl,trivial⟩,fun M=>⟨M.bE 9 1,aj6 _,by rw[Nat.sub_zero]⟩⟩ ?_);rintro⟨m,u⟩ w M ⟨hm,hinv⟩;refine an (fun h2=>?_) fun h2 M=>⟨ri (by rw[hinv,show m=p.types.length by simp at h2;omega,aT]),M.below⟩
 have hlt:m<p.types.length:=by simp at h2;omega
 obtain⟨y,hy⟩:∃ y,p.types[m]?=some y:=⟨_,aj7 hlt⟩;have fq:=hok.types y (aj8 hy);obtain⟨b,o,_,e,⟨v,rfl,hv⟩,hc⟩:=au.elt hp.types (by decide) hy;obtain⟨va,vc,rfl,-⟩:=aJ.get hv;have hl:=G0 hd hy;have hcf:ju p m=aP (y.name::y.jy) (bf (p.types.take m)):=by unfold ju;rw[hy];rfl
 unfold aP at hcf;obtain⟨own,hown⟩:∃ own,own=y.name::y.jy:=⟨_,rfl⟩;obtain⟨KJ,Qb⟩:∃ KJ,KJ=bf (p.types.take m):=⟨_,rfl⟩;have hol:own.length=y.jy.length+1:=by rw[hown];rfl
 have hoc:own.flatMap aO=[.string y.name]++y.jy.flatMap aO:=by rw[hown];rfl
 have V1:∀ s∈own,cB s:=hown▸rz fq;rw[← hown,← Qb] at hcf;rw[← Qb] at hl;refine ia<|an ⟨e,rfl,hlt⟩<|lc<|an (cL M.below hc)<|ei<|an OD fun g2 w2 M2=>lb 0<|an ⟨rfl,rfl⟩ fun w3 M3=>lb 0<|an rfl<|fun g3 w4 M4=>lb 1<|an rfl<|ap 0 (fun M=>M.uH 1 1 (by simp[maxLen]) rfl) rfl (hv.keep M4.below) ⟨by unfold maxLen;omega,by omega⟩ fun v5 w5 M5=>?_
 obtain⟨a5,k5,rfl⟩:∃ a5 k5,v5=.slice a5 own.length k5:=by
  obtain⟨a,c,e,-⟩:=p7 (M5.r 0 rfl);exact⟨a,c,e.trans (by rw[hol,Nat.add_comm])⟩
 refine lq (ι:=Nat×Value) (fun(j,u)=>[(3,u),(29,.int .i64 (j:Int))]) (fun(j,u)=>[⟨.slice a5 own.length k5,9,1,1+y.jy.length,[.string y.name]++y.jy.flatMap aO⟩,⟨u,9,1,(KJ++own.take j).length,(KJ++own.take j).flatMap aO⟩]) (fun(j,u) _=>j≤own.length∧ah (gh own KJ) own.length 0=ah (gh own KJ) (own.length-j) j) (fun(j,u)=>own.length-j) (0,u) (an ⟨⟨rfl,rfl,trivial⟩,fun M=>⟨M.cast rfl (by rw[Qb];simp),aj6 _,by rw[Nat.sub_zero]⟩⟩ ?_);rintro⟨j,u6⟩ w6 M6 ⟨hj,hinj⟩;refine an (fun h3=>?_) fun h3=>?_
 ·have Wx:j<own.length:=by simp at h3;omega
  obtain⟨s,hs⟩:∃ s,own[j]?=some s:=⟨_,aj7 Wx⟩;have hrow:aJ w6 (.slice a5 own.length k5) own:=cP (M6.r 0 rfl) (show 1+y.jy.length=own.length by omega) hoc.symm;obtain⟨b7,o7,e7,hc7⟩:=SliceAt.elt (f:=aO) hrow (fun _=>rfl) (by decide) hs Wx;have hnf:=qd (o:=KJ) hs;have htl:(KJ++own.take j).length≤100000:=by simp;omega
  refine ia<|an ⟨e7,rfl,Wx⟩<|lc (x:=.string s)<|an (hc7 0 _ rfl)<|cl<|an (qj _ s (V1 s (aj8 hs)) _ _ (cP (M6.r 1 rfl) rfl rfl)) fun w8 M8=>an (fun h4 M=>⟨ri ?_,M.below⟩) fun h4=>?_
  ·have h4:aP [s] (KJ++own.take j)≠0:=by simpa using h4
   have e9:ah (gh own KJ) own.length 0=aP [s] (KJ++own.take j):=by rw[hinj,aV Wx (by rw[hnf];exact h4),hnf]
   rw[hinv,aV hlt (by rw[hcf,e9];exact h4),hcf,e9]
  ·exact fun g8 w9 M9=>ap 1 id rfl (M9.slice 0 rfl rfl rfl (by simp[maxLen])) ⟨by unfold maxLen;omega,by omega⟩ fun v9 pE jH=>an (by omega)<|bk (j+1,v9) ⟨rfl,rfl,trivial⟩ (fun M=>⟨(M.only (.cons _ (.refl _)) (.refl _)).cast rfl (by dsimp only;rw[List.take_add_one,hs];simp[aO];omega),by omega,hinj.trans (Fq hs (by simpa using h4) Wx)⟩) (by dsimp only;omega)
 ·have ej:j=own.length:=by simp at h3;omega
  refine an (by omega)<|bk (m+1,u6) ⟨rfl,rfl,trivial⟩ (fun M=>⟨(M.only (.cons _ (.refl _)) (.cons _ (.refl _))).cast rfl ?_,by omega,hinv.trans (aM hlt ?_)⟩) (by dsimp only;omega)
  ·dsimp only
   have:KJ++own.take j=bf (p.types.take (m+1)):=by
    rw[ej,aj9,List.take_add_one,hy,hown,Qb];simp[bf]
   rw[this]
  ·rw[hcf,hinj,ej,aT]
theorem SliceAt.lo{w:World}{g off n c l k:Nat}{xs:List Value}(h:SliceAt w (.slice (some ⟨g,off,none⟩) n c) k n xs)(hl:l≤n):SliceAt w (.slice (if c=l then some ⟨g,off,none⟩ else some ⟨g,off+l*k,none⟩) (n-l) (c-l)) k (n-l) (xs.drop (l*k)):=by
 obtain⟨h1,h2,h3,h4⟩:=h;rcases h4 with⟨h,-⟩|⟨a,c',e,h5,h6⟩
 ·cases h
 cases e;refine⟨by rw[List.length_drop,h1,Nat.sub_mul],by omega,fun u hu=>h3 u (List.mem_of_mem_drop hu),.inr ?_⟩;by_cases hc:c=l
 ·rw[if_pos hc];exact⟨_,_,rfl,by omega,fun j u hu=>by rw[List.drop_of_length_le (by rw[h1];exact Nat.mul_le_mul_right _ (by omega))] at hu;simp at hu⟩
 ·rw[if_neg hc];refine⟨_,_,rfl,by omega,fun j u hu=>?_⟩;rw[List.getElem?_drop] at hu;have:=h6 _ _ hu;rw[Addr.add_mid] at this ⊢;rw[Nat.add_assoc];exact this
theorem PO(w0:World)(c0 c1 c2 c3 c4 c5 c6 c7 c8 c9 c10 c11 c12 c13 c14 c15 c16:Value)(p:aA)(hp:aD w0 c0 c1 c2 c3 c4 c5 c6 c7 c8 c9 c10 c11 c12 c13 c14 c15 c16 p)(hok:p.Ok)(hd:p.Md):Calls Tryz.prog 178 #[.agg #[c0,c1,c2,c3,c4,c5,c6,c7,c8,c9,c10,c11,c12,c13,c14,c15,c16]] w0 (RI w0 (if 64<p.attrs.length then 4 else ah (jQ p) p.attrs.length 0)):=by
 have hp':=hp;obtain⟨_,_,_,_,_,_,_,_,_,_,_,_,_,_,_,_,_,_,_,_,_,_,_,_,_,_,_,_,_,_,_,_,_,_,rfl,rfl,rfl,rfl,rfl,rfl,rfl,rfl,rfl,rfl,rfl,rfl,rfl,rfl,rfl,rfl,rfl⟩:=hp.open;refine bU [] (fn:=Tryz.f178) Tryz.func178 rfl Tryz.ntmps178 rfl<|fun g1 w1 M1=>lb 0<|an rfl<|an (fun h M=>⟨ri (if_pos (by simp at h;omega)),M.below⟩) fun h=>?_
 have ha:¬ 64<p.attrs.length:=by simp at h;omega
 rw[if_neg ha];refine lb 0<|an rfl<|cw M1 (Ml _ _ _ _ _ _ _ _ _ _ _ _ _ _ _ _ _ _ p (hp'.keep M1.below) hok hd) fun u0 w5 M5=>lb 0<|an rfl<|lq (ι:=Nat×Value) (fun(m,u)=>[(3,u),(18,.int .i64 (m:Int))]) (fun(m,u)=>[⟨u,9,1,(bf p.types++(p.attrs.take m).map (·.name)).length,(bf p.types++(p.attrs.take m).map (·.name)).flatMap aO⟩]) (fun(m,u) _=>m≤p.attrs.length∧ah (jQ p) p.attrs.length 0=ah (jQ p) (p.attrs.length-m) m) (fun(m,u)=>p.attrs.length-m) (0,u0) (an ⟨⟨rfl,rfl,trivial⟩,fun M=>⟨M.cast rfl (by simp),aj6 _,by rw[Nat.sub_zero]⟩⟩ ?_)
 rintro⟨m,u⟩ w M ⟨hm,hinv⟩;refine an (fun h2=>?_) fun h2 M=>⟨ri (by rw[hinv,show m=p.attrs.length by simp at h2;omega,aT]),M.below⟩
 have hlt:m<p.attrs.length:=by simp at h2;omega
 obtain⟨y,hy⟩:∃ y,p.attrs[m]?=some y:=⟨_,aj7 hlt⟩;have fq:=hok.attrs y (aj8 hy);obtain⟨b,o,e,hc⟩:=SliceAt.elt hp.attrs (fun _=>rfl) (by decide) hy hlt;have hcf:jQ p m=tR p.types.length (bf p.types++(p.attrs.take m).map (·.name)) y:=by unfold jQ;rw[hy]
 have out:∀ v:Int,tR p.types.length (bf p.types++(p.attrs.take m).map (·.name)) y=v→v≠0→ah (jQ p) p.attrs.length 0=v:=fun v h1 h2=>by rw[hinv,aV hlt (by rw[hcf,h1];exact h2),hcf,h1]
 unfold tR at hcf out;have hl:=hd.tn;refine ia<|an ⟨e,rfl,hlt⟩<|lc (x:=y.cells)<|an (cL M.below hc)<|ei<|an KQ fun g2 w2 M2=>lb 0<|an ⟨rfl,rfl⟩ fun w3 M3=>lb 0<|an rfl<|cl<|an (qj _ y.name fq.name _ _ (cP (M3.r 0 rfl) rfl rfl)) fun w7 M7=>an (fun h3 M=>⟨ri (out _ (if_neg (by simpa using h3)) (by simpa using h3)),M.below⟩) fun h3=>?_
 replace h3:aP [y.name] (bf p.types++(p.attrs.take m).map (·.name))=0:=by simpa using h3
 rw[if_pos h3] at hcf out;have hll:(bf p.types++(p.attrs.take m).map (·.name)).length≤100200:=by simp;omega
 exact lb 0<|an rfl<|fun g5 w8 M8=>ap 0 id rfl (M8.slice 0 rfl rfl rfl (by simp[maxLen])) ⟨by unfold maxLen;omega,by omega⟩ fun v6 w9 M9=>lb 2<|an rfl<|lb 1<|an rfl<|cl<|an (lZ _ _ _ _ _ _ _ _ _ _ _ _ _ _ _ _ _ _ p (hp'.keep M9.below) y.types fq.types) fun pE jH=>an (fun h4 M=>⟨ri (out 3 (if_pos (by simpa using h4)) (by decide)),M.below⟩) fun h4=>an (by omega)<|bk (m+1,v6) ⟨rfl,rfl,trivial⟩ (fun M=>⟨(M.only (.cons _ (.cons _ (.refl _))) (.refl _)).cast rfl (by dsimp only;rw[List.take_add_one,hy];simp[aO];omega),by omega,hinv.trans (aM hlt (by rw[hcf,if_neg (by simpa using h4)]))⟩) (by dsimp only;omega)
theorem PD(w0:World)(c0 c1 c2 c3 c4 c5 c6 c7 c8 c9 c10 c11 c12 c13 c14 c15 c16:Value)(p:aA)(hp:aD w0 c0 c1 c2 c3 c4 c5 c6 c7 c8 c9 c10 c11 c12 c13 c14 c15 c16 p)(hok:p.Ok):Calls Tryz.prog 179 #[.agg #[c0,c1,c2,c3,c4,c5,c6,c7,c8,c9,c10,c11,c12,c13,c14,c15,c16]] w0 (RI w0 (dG p)):=by
 have hp':=hp;obtain⟨_,_,_,a3,_,_,_,_,_,_,_,_,_,_,_,_,_,_,_,_,k3,_,_,_,_,_,_,_,_,_,_,_,_,_,rfl,rfl,rfl,rfl,rfl,rfl,rfl,rfl,rfl,rfl,rfl,rfl,rfl,rfl,rfl,rfl,rfl⟩:=hp.open
 obtain⟨r,b,o,H⟩:∃ (r:eM) (b o:Nat),p.roles.length≠0→p.roles[0]?=some r∧a3=some ⟨b,o,none⟩∧∀ j u,r.cells[j]?=some u→w0.cell? ⟨b,o+0*9+j,none⟩=some u:=by
  by_cases h0:p.roles.length=0
  ·exact⟨gA,0,0,fun h=>absurd h0 h⟩
  ·have hy:=aj7 (Nat.pos_of_ne_zero h0);obtain⟨b,o,e,hc⟩:=SliceAt.elt hp.roles (fun _=>rfl) (by decide) hy (Nat.pos_of_ne_zero h0);exact⟨_,b,o,fun _=>⟨hy,e,hc⟩⟩
 refine bU [] (fn:=Tryz.f179) Tryz.func179 rfl Tryz.ntmps179 rfl<|fun g1 w1 M1=>lb 0<|an rfl<|an (fun h M=>⟨ri (by unfold dG;rw[if_pos (by simp at h;omega)]),M.below⟩) fun h=>?_
 have hr:¬ 32<p.roles.length:=by simp at h;omega
 refine ia (b:=b) (off:=o) (i:=0)<|an (fun h=>⟨(H fun e=>by simp[e] at h).2.1,rfl,Nat.pos_of_ne_zero fun e=>by simp[e] at h⟩)<|lc (x:=[.string r.name,.int .u64 r.types.a,.int .u64 r.types.b,.int .u64 r.types.c,.int .u64 r.types.d,.int .u64 r.next.a,.int .u64 r.next.b,.int .u64 r.next.c,.int .u64 r.next.d])<|an (fun h=>cL M1.below (H fun e=>by simp[e] at h).2.2)<|ei (x:=.agg #[.string ⟨#[111,98,106,101,99,116,95,114]⟩,.int .u64 0,.int .u64 0,.int .u64 0,.int .u64 0,.int .u64 0,.int .u64 0,.int .u64 0,.int .u64 0])<|an (fun _=>bd (by kernel_rfl))<|ei<|an (fun h=>⟨Rf,yD r⟩)<|an (fun h2 M=>⟨ri ?_,M.below⟩) fun h2=>?_
 ·unfold dG;rw[if_neg hr,if_pos];by_cases h0:p.roles.length=0
  ·exact Ac h0
  ·exact Hx (H h0).1 (by simpa[h0] using h2)
 have h0:p.roles.length≠0:=fun e=>by simp[e] at h2
 obtain⟨hr0,ha3,-⟩:=H h0;have hro:r=gA:=by simpa[h0] using h2
 rw[show dG p=ah (kF p) (p.roles.length-1) 1 by unfold dG;rw[if_neg hr,if_neg (head_eq hr0 hro)]];subst ha3;have hsl:=SliceAt.lo (l:=1) hp.roles (Nat.pos_of_ne_zero h0)
 have Hy:(p.roles.flatMap eM.cells).drop (1*9)=(p.roles.drop 1).flatMap eM.cells:=by
  cases hl:p.roles with
  | nil=>rfl
  | cons x t=>simp[eM.cells]
 rw[Hy] at hsl;obtain⟨_,kk3,e3,aew,-⟩:=SliceAt.form hp.roles (by decide);injection e3 with e31 e32 e33;obtain⟨a7,ha7⟩:∃ a7,a7=(if k3=1 then some (⟨b,o,none⟩:Addr) else some ⟨b,o+1*9,none⟩):=⟨_,rfl⟩;rw[← ha7] at hsl;refine fun g3 w5 M5=>Rb M5 (v:=.slice a7 (p.roles.length-1) (k3-1)) (fun a o ho hv=>ha7▸qN (l:=1) ho (aQ hv) (cO hv) (Nat.pos_of_ne_zero h0) u25 VH)<|lp (ι:=Nat×Value) (fun(m,u)=>[(4,u),(28,.int .i64 (m:Int))]) (fun _=>[_]) (fun(m,u)=>[⟨u,9,1,m+1,((p.roles.take (m+1)).map (·.name)).flatMap aO⟩]) (fun(m,u) _=>m≤p.roles.length-1∧ah (kF p) (p.roles.length-1) 1=ah (kF p) (p.roles.length-(m+1)) (m+1)) (fun(m,u)=>p.roles.length-1-m) (0,.slice (some ⟨g3,0,none⟩) 1 1) (an ⟨⟨rfl,rfl,trivial⟩,fun M=>⟨(M.uH 1 1 (by simp[maxLen]) rfl).cast rfl (by dsimp only;rw[← xH hr0 hro];rfl),aj6 _,rfl⟩⟩ ?_)
 rintro⟨m,u⟩ w M ⟨hm,hinv⟩;refine an (fun h2=>?_) fun h2 M=>⟨ri (by rw[hinv,show m+1=p.roles.length by simp at h2;omega,aT]),M.below⟩
 have hlt:m<p.roles.length-1:=by simp at h2;omega
 have Tm:m+1<p.roles.length:=by omega
 obtain⟨y,hy⟩:∃ y,p.roles[m+1]?=some y:=⟨_,aj7 Tm⟩;have fq:=hok.roles y (aj8 hy);have hy':(p.roles.drop 1)[m]?=some y:=by rw[List.getElem?_drop,Nat.add_comm];exact hy
 obtain⟨b,o,e,hc⟩:=SliceAt.elt hsl (fun _=>rfl) (by decide) hy' hlt;have hcf:kF p (m+1)=sJ p.types.length p.roles.length ((p.roles.take (m+1)).map (·.name)) y:=by unfold kF;rw[hy]
 have out:∀ v:Int,sJ p.types.length p.roles.length ((p.roles.take (m+1)).map (·.name)) y=v→v≠0→ah (kF p) (p.roles.length-1) 1=v:=fun v h1 h2=>by rw[hinv,aV Tm (by rw[hcf,h1];exact h2),hcf,h1]
 unfold sJ at hcf out;refine ia<|an ⟨e,rfl,hlt⟩<|lc (x:=y.cells)<|an (cL M.below hc)<|ei<|an GN fun g2 w2 M2=>lb 0<|an ⟨rfl,rfl⟩ fun w3 M3=>lb 0<|an rfl<|cl<|an (qj _ y.name fq.name _ _ (cP (M3.r 0 rfl) (by simp;omega) rfl)) fun w5 M5=>an (fun h3 M=>⟨ri (out _ (if_neg (by simpa using h3)) (by simpa using h3)),M.below⟩) fun h3=>?_
 replace h3:aP [y.name] ((p.roles.take (m+1)).map (·.name))=0:=by simpa using h3
 rw[if_pos h3] at hcf out;refine lb 0<|an rfl<|fun g4 w6 M6=>ap 0 id rfl (M6.slice 0 rfl rfl rfl (by simp[maxLen])) ⟨by unfold maxLen;omega,by omega⟩ fun v5 w7 M7=>lb 2<|an rfl<|lb 1<|an rfl<|cl<|an (lZ _ _ _ _ _ _ _ _ _ _ _ _ _ _ _ _ _ _ p (hp'.keep M7.below) y.types fq.types) fun w8 M8=>lb 2<|an (fun _=>rfl)<|lb 1<|an (fun _=>rfl)<|cl<|an (fun _=>xZ _ _ _ _ _ _ _ _ _ _ _ _ _ _ _ _ _ _ p (hp'.keep M8.below) y.next fq.next) fun w9 M9=>an (fun h4 M=>⟨ri (out 3 ?_ (by decide)),M.below⟩) fun h4=>an (by omega)<|bk (m+1,v5) ⟨rfl,rfl,trivial⟩ (fun M=>⟨(M.only (.cons _ (.cons _ (.refl _))) (.refl _)).cast rfl (by dsimp only;rw[i_ hy]),by omega,hinv.trans (aM Tm ?_)⟩) (by dsimp only;omega)
 all_goals first|(rw[hcf];clear hcf out)|clear hcf out
 all_goals cases h6:y.types.within (aq.all p.types.length)<;>cases h7:lN p.roles.length y.next<;>simp_all
theorem Py(w0:World)(c0 c1 c2 c3 c4 c5 c6 c7 c8 c9 c10 c11 c12 c13 c14 c15 c16:Value)(p:aA)(hp:aD w0 c0 c1 c2 c3 c4 c5 c6 c7 c8 c9 c10 c11 c12 c13 c14 c15 c16 p)(hok:p.Ok):Calls Tryz.prog 180 #[.agg #[c0,c1,c2,c3,c4,c5,c6,c7,c8,c9,c10,c11,c12,c13,c14,c15,c16]] w0 (RI w0 (fF p)):=by
 have hp':=hp;obtain⟨_,_,_,_,_,_,_,_,_,_,_,_,_,_,_,_,_,_,_,_,_,_,_,_,_,_,_,_,_,_,_,_,_,_,rfl,rfl,rfl,rfl,rfl,rfl,rfl,rfl,rfl,rfl,rfl,rfl,rfl,rfl,rfl,rfl,rfl⟩:=hp.open;refine bU [] (fn:=Tryz.f180) Tryz.func180 rfl Tryz.ntmps180 rfl<|fun g1 w1 M1=>lb 0<|an rfl<|an (fun h M=>⟨ri (by unfold fF;rw[if_pos (by simp at h;omega)]),M.below⟩) fun h=>?_
 have hr:¬ 32<p.users.length:=by simp at h;omega
 rw[show fF p=ah (mK p) p.users.length 0 from if_neg hr];refine lb 0<|an rfl<|lq (ι:=Nat×Value) (fun(m,u)=>[(3,u),(16,.int .i64 (m:Int))]) (fun(m,u)=>[⟨u,9,1,m,((p.users.take m).map (·.name)).flatMap aO⟩]) (fun(m,u) _=>m≤p.users.length∧ah (mK p) p.users.length 0=ah (mK p) (p.users.length-m) m) (fun(m,u)=>p.users.length-m) (0,.slice none 0 0) (an ⟨⟨rfl,rfl,trivial⟩,fun M=>⟨M.bE 9 1,aj6 _,by rw[Nat.sub_zero]⟩⟩ ?_);rintro⟨m,u⟩ w M ⟨hm,hinv⟩;refine an (fun h2=>?_) fun h2 M=>⟨ri (by rw[hinv,show m=p.users.length by simp at h2;omega,aT]),M.below⟩
 have hlt:m<p.users.length:=by simp at h2;omega
 obtain⟨y,hy⟩:∃ y,p.users[m]?=some y:=⟨_,aj7 hlt⟩;have fq:=hok.users y (aj8 hy);obtain⟨b,o,e,hc⟩:=SliceAt.elt hp.users (fun _=>rfl) (by decide) hy hlt;have hcf:mK p m=su p.roles.length p.ay.length p.cats.length ((p.users.take m).map (·.name)) y:=by unfold mK;rw[hy]
 have out:∀ v:Int,su p.roles.length p.ay.length p.cats.length ((p.users.take m).map (·.name)) y=v→v≠0→ah (mK p) p.users.length 0=v:=fun v h1 h2=>by rw[hinv,aV hlt (by rw[hcf,h1];exact h2),hcf,h1]
 unfold su at hcf out;refine ia<|an ⟨e,rfl,hlt⟩<|lc (x:=y.cells)<|an (cL M.below hc)<|ei<|an zF fun g2 w2 M2=>lb 0<|an ⟨rfl,rfl⟩ fun w3 M3=>lb 0<|an rfl<|cl<|an (qj _ y.name fq.name _ _ (cP (M3.r 0 rfl) (by simp;omega) rfl)) fun w5 M5=>an (fun h3 M=>⟨ri (out _ (if_neg (by simpa using h3)) (by simpa using h3)),M.below⟩) fun h3=>?_
 replace h3:aP [y.name] ((p.users.take m).map (·.name))=0:=by simpa using h3
 rw[if_pos h3] at hcf out;refine lb 0<|an rfl<|fun g4 w6 M6=>ap 0 id rfl (M6.slice 0 rfl rfl rfl (by simp[maxLen])) ⟨by unfold maxLen;omega,by omega⟩ fun v5 w7 M7=>lb 2<|an rfl<|lb 1<|an rfl<|cl<|an (xZ _ _ _ _ _ _ _ _ _ _ _ _ _ _ _ _ _ _ p (hp'.keep M7.below) y.roles fq.roles) fun w8 M8=>an (fun h4 M=>⟨ri (out 3 (if_pos (by simpa using h4)) (by decide)),M.below⟩) fun h4=>?_
 rw[if_neg (by simpa using h4)] at hcf out;refine lb 2<|an rfl<|lb 1<|an rfl<|cl<|an (Di _ _ _ _ _ _ _ _ _ _ _ _ _ _ _ _ _ _ p (hp'.keep M8.below) y.rng fq.rng) fun w9 M9=>lb 1<|an (fun _=>rfl)<|lb 1<|an (fun _=>rfl)<|lb 1<|an (fun _=>rfl)<|ei (x:=.agg #[.int .i64 y.dflt.ay,.int .u64 y.dflt.cats,.int .i64 y.dflt.ay,.int .u64 y.dflt.cats])<|an (fun _=>bd (by kernel_rfl))<|cl<|an (fun _=>u_ _ y.rng ⟨y.dflt,y.dflt⟩ fq.rng ⟨fq.dflt,fq.dflt⟩) fun zi q5=>an (fun h5 M=>⟨ri (out 18 ?_ (by decide)),M.below⟩) fun h5=>an (by omega)<|bk (m+1,v5) ⟨rfl,rfl,trivial⟩ (fun M=>⟨(M.only (.cons _ (.cons _ (.refl _))) (.refl _)).cast rfl (by dsimp only;rw[i_ hy]),by omega,hinv.trans (aM hlt ?_)⟩) (by dsimp only;omega)
 all_goals first|(rw[hcf];clear hcf out)|clear hcf out
 all_goals cases h6:iJ p.ay.length p.cats.length y.rng<;>cases h8:kN y.rng.high y.dflt<;>cases h9:kN y.dflt y.rng.low
 all_goals first|(have h7:=Jv h6 fq.dflt fq.rng h8 h9;simp_all;done)|simp_all
theorem Mt(w0:World)(c0 c1 c2 c3 c4 c5 c6 c7 c8 c9 c10 c11 c12 c13 c14 c15 c16:Value)(p:aA)(hp:aD w0 c0 c1 c2 c3 c4 c5 c6 c7 c8 c9 c10 c11 c12 c13 c14 c15 c16 p)(hd:p.Md):Calls Tryz.prog 280 #[.agg #[c0,c1,c2,c3,c4,c5,c6,c7,c8,c9,c10,c11,c12,c13,c14,c15,c16],.int .i64 6] w0 (fun(e:Ending) (w':World)=>∃ v,e=.returned v∧(Od w' w0.heap.size v (p.bools.map (·.name))∧aj5 w0.heap.size w0 w')):=by
 obtain⟨_,_,_,_,_,_,_,_,_,_,_,_,_,_,_,_,_,_,_,_,_,_,_,_,_,_,_,_,_,_,_,_,_,_,rfl,rfl,rfl,rfl,rfl,rfl,rfl,rfl,rfl,rfl,rfl,rfl,rfl,rfl,rfl,rfl,rfl⟩:=hp.open;have hl:=hd.bools;refine bU [] (fn:=Tryz.f280) Tryz.func280 rfl Tryz.ntmps280 rfl<|fun g1 w1 M1=>an (fun h=>absurd h (by decide)) fun _=>an (fun h=>absurd h (by decide)) fun _=>an (fun h=>absurd h (by decide)) fun _=>an (fun h=>absurd h (by decide)) fun _=>an (fun h=>absurd h (by decide)) fun _=>an (fun _=>?_) fun h=>absurd h (by decide)
 refine lb 0<|an rfl<|lq (ι:=Nat×Value) (fun(m,u)=>[(5,u),(99,.int .i64 (m:Int))]) (fun(m,u)=>[⟨u,9,1,m,((p.bools.take m).map (·.name)).flatMap aO⟩]) (fun(m,u) _=>m≤p.bools.length) (fun(m,u)=>p.bools.length-m) (0,.slice none 0 0) (an ⟨⟨rfl,rfl,trivial⟩,fun M=>⟨M.bE 9 1,aj6 _⟩⟩ ?_);rintro⟨m,u⟩ w M hm;refine an (fun h2=>?_) fun h2 M=>⟨_,rfl,?_,M.below⟩
 ·have hlt:m<p.bools.length:=by simp at h2;omega
  obtain⟨y,hy⟩:∃ y,p.bools[m]?=some y:=⟨_,aj7 hlt⟩;obtain⟨b,o,e,hc⟩:=SliceAt.elt hp.bools (fun _=>rfl) (by decide) hy hlt;exact ia<|an ⟨e,rfl,hlt⟩<|lc (x:=y.cells)<|an (cL M.below hc)<|ei<|an KO fun g2 w2 M2=>lb 0<|an ⟨rfl,rfl⟩ fun w3 M3=>lb 0<|an rfl<|fun g3 w4 M4=>ap 0 id rfl (M4.slice 0 rfl rfl rfl (by simp[maxLen])) ⟨by unfold maxLen;omega,by omega⟩ fun v4 w5 M5=>an (by omega)<|bk (m+1,v4) ⟨rfl,rfl,trivial⟩ (fun M=>⟨(M.only (.cons _ (.cons _ (.refl _))) (.refl _)).cast rfl (by dsimp only;rw[i_ hy]),by omega⟩) (by dsimp only;omega)
 ·obtain rfl:m=p.bools.length:=by simp at h2;omega
  have:=M.r 0 rfl;rw[aj9] at this;unfold Od;rw[List.length_map];exact this
theorem PN(w0:World)(c0 c1 c2 c3 c4 c5 c6 c7 c8 c9 c10 c11 c12 c13 c14 c15 c16:Value)(p:aA)(hp:aD w0 c0 c1 c2 c3 c4 c5 c6 c7 c8 c9 c10 c11 c12 c13 c14 c15 c16 p)(hok:p.Ok)(hd:p.Md):Calls Tryz.prog 181 #[.agg #[c0,c1,c2,c3,c4,c5,c6,c7,c8,c9,c10,c11,c12,c13,c14,c15,c16]] w0 (RI w0 (if 16<p.bools.length then 4 else aP (p.bools.map (·.name)) [])):=by
 have hp':=hp;obtain⟨_,_,_,_,_,_,_,_,_,_,_,_,_,_,_,_,_,_,_,_,_,_,_,_,_,_,_,_,_,_,_,_,_,_,rfl,rfl,rfl,rfl,rfl,rfl,rfl,rfl,rfl,rfl,rfl,rfl,rfl,rfl,rfl,rfl,rfl⟩:=hp.open;refine bU [] (fn:=Tryz.f181) Tryz.func181 rfl Tryz.ntmps181 rfl<|fun g1 w1 M1=>lb 0<|an rfl<|cw M1 (Mt _ _ _ _ _ _ _ _ _ _ _ _ _ _ _ _ _ _ p (hp'.keep M1.below) hd) fun u w2 M2=>cl<|an (wu _ _ _ (LZ (M2.r 0 rfl)) 16 (fun s hs=>by obtain⟨y,hy,rfl⟩:=List.mem_map.1 hs;exact(hok.bools y hy).name)) fun w3 M3=>fun M=>⟨?_,M.below⟩
 rw[List.length_map];rfl
theorem SN(w0:World)(c0 c1 c2 c3 c4 c5 c6 c7 c8 c9 c10 c11 c12 c13 c14 c15 c16:Value)(p:aA)(hp:aD w0 c0 c1 c2 c3 c4 c5 c6 c7 c8 c9 c10 c11 c12 c13 c14 c15 c16 p)(hok:p.Ok):Calls Tryz.prog 182 #[.agg #[c0,c1,c2,c3,c4,c5,c6,c7,c8,c9,c10,c11,c12,c13,c14,c15,c16]] w0 (RI w0 (if 16<p.ay.length then 4 else aP p.ay [])):=by
 obtain⟨_,_,_,_,_,_,_,_,_,_,_,_,_,_,_,_,_,_,_,_,_,_,_,_,_,_,_,_,_,_,_,_,_,_,rfl,rfl,rfl,rfl,rfl,rfl,rfl,rfl,rfl,rfl,rfl,rfl,rfl,rfl,rfl,rfl,rfl⟩:=hp.open;refine bU [] (fn:=Tryz.f182) Tryz.func182 rfl Tryz.ntmps182 rfl<|fun g1 w1 M1=>lb 0<|an rfl<|cl<|an (wu _ _ _ (hp.ay.keep M1.below) 16 hok.ay) fun w3 M3=>fun M=>⟨rfl,M.below⟩
theorem SS(w0:World)(c0 c1 c2 c3 c4 c5 c6 c7 c8 c9 c10 c11 c12 c13 c14 c15 c16:Value)(p:aA)(hp:aD w0 c0 c1 c2 c3 c4 c5 c6 c7 c8 c9 c10 c11 c12 c13 c14 c15 c16 p)(hok:p.Ok):Calls Tryz.prog 183 #[.agg #[c0,c1,c2,c3,c4,c5,c6,c7,c8,c9,c10,c11,c12,c13,c14,c15,c16]] w0 (RI w0 (if 64<p.cats.length then 4 else aP p.cats [])):=by
 obtain⟨_,_,_,_,_,_,_,_,_,_,_,_,_,_,_,_,_,_,_,_,_,_,_,_,_,_,_,_,_,_,_,_,_,_,rfl,rfl,rfl,rfl,rfl,rfl,rfl,rfl,rfl,rfl,rfl,rfl,rfl,rfl,rfl,rfl,rfl⟩:=hp.open;refine bU [] (fn:=Tryz.f183) Tryz.func183 rfl Tryz.ntmps183 rfl<|fun g1 w1 M1=>lb 0<|an rfl<|cl<|an (wu _ _ _ (hp.cats.keep M1.below) 64 hok.cats) fun w3 M3=>fun M=>⟨rfl,M.below⟩
theorem PB(w0:World)(c0 c1 c2 c3 c4 c5 c6 c7 c8 c9 c10 c11 c12 c13 c14 c15 c16:Value)(p:aA)(hp:aD w0 c0 c1 c2 c3 c4 c5 c6 c7 c8 c9 c10 c11 c12 c13 c14 c15 c16 p)(hok:p.Ok)(hcl:∀ y∈p.classes,y.perms.length≤64):Calls Tryz.prog 185 #[.agg #[c0,c1,c2,c3,c4,c5,c6,c7,c8,c9,c10,c11,c12,c13,c14,c15,c16]] w0 (RI w0 (if 4096<p.rules.length then 4 else ah (jJ p) p.rules.length 0)):=by
 have hp':=hp;obtain⟨_,_,_,_,_,_,_,_,_,_,_,_,_,_,_,_,_,_,_,_,_,_,_,_,_,_,_,_,_,_,_,_,_,_,rfl,rfl,rfl,rfl,rfl,rfl,rfl,rfl,rfl,rfl,rfl,rfl,rfl,rfl,rfl,rfl,rfl⟩:=hp.open;refine bU [] (fn:=Tryz.f185) Tryz.func185 rfl Tryz.ntmps185 rfl<|fun g1 w1 M1=>lb 0<|an rfl<|an (fun h M=>⟨ri (if_pos (by simp at h;omega)),M.below⟩) fun h=>?_
 have hll:p.rules.length≤4096:=by simp at h;omega
 rw[if_neg (by omega)];refine lb 0<|an rfl<|?_;refine lr (ι:=Nat) (fun m=>[(14,.int .i64 (m:Int))]) (fun m _=>m≤p.rules.length∧ah (jJ p) p.rules.length 0=ah (jJ p) (p.rules.length-m) m) (fun m=>p.rules.length-m) 0 (an ⟨⟨rfl,trivial⟩,fun M=>⟨M,aj6 _,by rw[Nat.sub_zero]⟩⟩ ?_);rintro m w M ⟨hm,hinv⟩;refine an (fun h2=>?_) fun h2 M=>⟨ri (by rw[hinv,show m=p.rules.length by simp at h2;omega,aT]),M.below⟩
 have hlt:m<p.rules.length:=by simp at h2;omega
 obtain⟨y,hy⟩:∃ y,p.rules[m]?=some y:=⟨_,aj7 hlt⟩;have fq:=hok.rules y (aj8 hy);obtain⟨b,o,e,hc⟩:=SliceAt.elt hp.rules (fun _=>rfl) (by decide) hy hlt;have hcf:jJ p m=sH p.types.length p.conds.length p.classes y:=by unfold jJ;rw[hy]
 have out:∀ v:Int,sH p.types.length p.conds.length p.classes y=v→v≠0→ah (jJ p) p.rules.length 0=v:=fun v h1 h2=>by rw[hinv,aV hlt (by rw[hcf,h1];exact h2),hcf,h1]
 unfold sH at hcf out;refine ia<|an ⟨e,rfl,hlt⟩<|lc (x:=y.cells)<|an (cL M.below hc)<|ei<|an Cl fun g2 w2 M2=>lb 0<|an ⟨rfl,rfl⟩ fun w3 M3=>lb 0<|an rfl<|lb 0<|an (fun _=>rfl)<|an (fun h M=>⟨ri (out 13 ?_ (by decide)),M.below⟩) fun h=>?_
 ·simp only[Bool.or_eq_true,decide_eq_true_eq] at h;by_cases h1:y.kind<1
  ·rw[if_pos h1]
  ·rw[if_neg h1,if_pos (by omega)]
 simp only[Bool.or_eq_false_iff,decide_eq_false_iff_not] at h;rw[if_neg h.1,if_neg h.2] at out hcf;refine lb 1<|an rfl<|lb 0<|an rfl<|cl<|an (lZ _ _ _ _ _ _ _ _ _ _ _ _ _ _ _ _ _ _ p (hp'.keep M3.below) y.src fq.src) fun w4 M4=>lb 1<|an (fun _=>rfl)<|lb 0<|an (fun _=>rfl)<|cl<|an (fun _=>lZ _ _ _ _ _ _ _ _ _ _ _ _ _ _ _ _ _ _ p (hp'.keep M4.below) y.tgt fq.tgt) fun w5 M5=>lb 1<|an (fun _=>rfl)<|lb 0<|an (fun _=>rfl)<|lb 0<|an (fun _=>rfl)<|cl<|an (fun _=>Dh _ _ _ _ _ _ _ _ _ _ _ _ _ _ _ _ _ _ p (hp'.keep M5.below) y.cls y.perms fq.perms hcl) fun w6 M6=>lb 1<|an (fun _=>rfl)<|lb 0<|an (fun _=>rfl)<|cl<|an (fun _=>MA _ _ _ _ _ _ _ _ _ _ _ _ _ _ _ _ _ _ p (hp'.keep M6.below) y.cond) fun w7 M7=>an (fun h3 M=>⟨ri (out 3 (if_pos h3) (by decide)),M.below⟩) fun h3=>?_
 rw[if_neg (by rw[show sG _ _ _ _=false from h3];decide)] at out hcf;refine lb 0<|an rfl<|cl<|an (iz _ y.src) fun w8 M8=>lb 0<|an (fun _=>rfl)<|cl<|an (fun _=>iz _ y.tgt) fun w9 M9=>lb 0<|an (fun _=>rfl)<|lb 0<|an (fun _=>rfl)<|lb 0<|an (fun _=>rfl)<|lb 0<|an (fun _=>rfl)<|an (fun h4 M=>⟨ri (out 2 ?_ (by decide)),M.below⟩) fun h4=>an (by omega)<|bk (m+1) ⟨rfl,trivial⟩ (fun M=>⟨M.only (.cons _ (.refl _)) (.refl _),by omega,hinv.trans (aM hlt ?_)⟩) (by dsimp only;omega)
 all_goals first|(rw[hcf];clear hcf out)|clear hcf out
 ·rw[if_pos];rw[← h4];unfold sI;cases bD y.src<;>cases bD y.tgt<;>cases y.self<;>rfl
 ·rw[if_neg]
  have h5:sI (bD y.src) (bD y.tgt) y=false:=by
   rw[← h4];unfold sI;cases bD y.src<;>cases bD y.tgt<;>cases y.self<;>rfl
  rw[h5];decide
theorem SQ(w0:World)(v:Value)(l:List bG)(h:SliceAt w0 v 13 l.length (l.flatMap bG.cells))(k:Int):Calls Tryz.prog 286 #[v,.int .i64 k] w0 (fun r w'=>r=.returned (.int .i64 (bq l k:Int))∧aj5 w0.heap.size w0 w'):=by
 obtain⟨_,_,rfl,-,hm5,-⟩:=SliceAt.form h (by decide);refine bU [] (fn:=Tryz.f286) Tryz.func286 rfl Tryz.ntmps286 rfl<|lr (ι:=Nat) (fun m=>[(5,.int .i64 (bq (l.take m) k:Int)),(10,.int .i64 (m:Int))]) (fun m _=>m≤l.length) (fun m=>l.length-m) 0 (an ⟨⟨rfl,rfl,trivial⟩,fun M=>⟨M,aj6 _⟩⟩ ?_);intro m w M hm;refine an (fun h1=>?_) fun h1 M=>?_
 ·have hlt:m<l.length:=by simp at h1;omega
  obtain⟨y,hy⟩:∃ y,l[m]?=some y:=⟨_,aj7 hlt⟩;obtain⟨b,o,e,hc⟩:=SliceAt.elt h (fun _=>rfl) (by decide) hy hlt;have hle:bq (l.take m) k≤m:=by unfold bq;exact Nat.le_trans (List.length_filter_le ..) (by simp;omega)
  have hs:bq (l.take (m+1)) k=bq (l.take m) k+(if y.kind=k then 1 else 0):=by rw[ij hy,ef]
  refine ia<|an ⟨e,rfl,hlt⟩<|lc (x:=y.cells)<|an (cL M.below hc)<|ei<|an Ef fun g2 w2 M2=>lb 0<|an ⟨rfl,rfl⟩ fun w3 M3=>lb 0<|an rfl<|an (fun h2=>?_) fun h2=>?_
  ·rw[if_pos (by simpa using h2)] at hs;exact an (by omega)<|an (by omega)<|bk (m+1) (by rw[hs];exact⟨rfl,rfl,trivial⟩) (fun M=>⟨M.only (.cons _ (.refl _)) (.refl _),hlt⟩) (by dsimp only;omega)
  ·rw[if_neg (by simpa using h2)] at hs;exact an (by omega)<|bk (m+1) (by rw[hs];exact⟨rfl,rfl,trivial⟩) (fun M=>⟨M.only (.cons _ (.refl _)) (.refl _),hlt⟩) (by dsimp only;omega)
 ·have e:m=l.length:=by simp at h1;omega
  subst e;exact⟨ri (by rw[aj9]),M.below⟩
theorem PA(w0:World)(c0 c1 c2 c3 c4 c5 c6 c7 c8 c9 c10 c11 c12 c13 c14 c15 c16:Value)(p:aA)(hp:aD w0 c0 c1 c2 c3 c4 c5 c6 c7 c8 c9 c10 c11 c12 c13 c14 c15 c16 p)(hok:p.Ok):Calls Tryz.prog 186 #[.agg #[c0,c1,c2,c3,c4,c5,c6,c7,c8,c9,c10,c11,c12,c13,c14,c15,c16]] w0 (RI w0 (fH p)):=by
 have hp':=hp;obtain⟨_,_,e10,-,Z9,-⟩:=SliceAt.form hp.trans (by decide);obtain⟨_,_,_,_,_,_,_,_,_,_,_,_,_,_,_,_,_,_,_,_,_,_,_,_,_,_,_,_,_,_,_,_,_,_,rfl,rfl,rfl,rfl,rfl,rfl,rfl,rfl,rfl,rfl,rfl,rfl,rfl,rfl,rfl,rfl,rfl⟩:=hp.open;refine bU [] (fn:=Tryz.f186) Tryz.func186 rfl Tryz.ntmps186 rfl<|fun g1 w1 M1=>lr (ι:=Nat) (fun k=>[(3,.int .i64 (k:Int))]) (fun k _=>1≤k∧k≤4∧∀ q:Int,1≤q→q<k→bq p.trans q≤1024) (fun k=>4-k) 1 (an ⟨⟨rfl,trivial⟩,fun M=>⟨M,Nat.le_refl _,by decide,fun q h1 h2=>by omega⟩⟩ ?_)
 rintro k w M ⟨hk1,Q5,hall⟩;refine an (fun h1=>?_) fun h1=>?_
 ·have Yd:k≤3:=by simp at h1;omega
  refine lb 0<|an rfl<|cl<|an (SQ _ _ _ (hp.trans.keep M.below) _) fun w2 M2=>an (fun h2 M=>⟨ri ?_,M.below⟩) fun h2=>an (by omega)<|bk (k+1) ⟨rfl,trivial⟩ (fun M=>⟨M,by omega,by omega,fun q h3 h4=>?_⟩) (by dsimp only;omega)
  ·have h2:1024<bq p.trans (k:Int):=by simp at h2;omega
   exact mL (q:=(k:Int)) (m:=p.trans.length) (by omega) (by omega) (by rw[aj9];exact h2)
  ·by_cases e:q=(k:Int)
   ·subst e;simp at h2;omega
   ·exact hall q h3 (by omega)
 have hk:k=4:=by simp at h1;omega
 rw[wT fun q h2 h3=>hall q h2 (by omega)];clear hall hk1 Q5 h1;refine lb 0<|an rfl<|?_;refine lr (ι:=Nat) (fun m=>[(20,.int .i64 (m:Int))]) (fun m _=>m≤p.trans.length∧ah (lK p) p.trans.length 0=ah (lK p) (p.trans.length-m) m) (fun m=>p.trans.length-m) 0 (an ⟨⟨rfl,trivial⟩,fun M=>⟨M,aj6 _,by rw[Nat.sub_zero]⟩⟩ ?_);rintro m w M ⟨hm,hinv⟩;refine an (fun h2=>?_) fun h2 M=>⟨ri (by rw[hinv,show m=p.trans.length by simp at h2;omega,aT]),M.below⟩
 have hlt:m<p.trans.length:=by simp at h2;omega
 obtain⟨y,hy⟩:∃ y,p.trans[m]?=some y:=⟨_,aj7 hlt⟩;have fq:=hok.trans y (aj8 hy);obtain⟨b,o,e,hc⟩:=SliceAt.elt hp.trans (fun _=>rfl) (by decide) hy hlt;have hcf:lK p m=rB p.types.length p.classes.length p.conds.length y:=by unfold lK;rw[hy]
 have out:∀ v:Int,rB p.types.length p.classes.length p.conds.length y=v→v≠0→ah (lK p) p.trans.length 0=v:=fun v h1 h2=>by rw[hinv,aV hlt (by rw[hcf,h1];exact h2),hcf,h1]
 unfold rB at hcf out;refine ia<|an ⟨e,rfl,hlt⟩<|lc (x:=y.cells)<|an (cL M.below hc)<|ei<|an Ef fun g2 w2 M2=>lb 0<|an ⟨rfl,rfl⟩ fun w3 M3=>lb 0<|an rfl<|lb 0<|an (fun _=>rfl)<|an (fun h M=>⟨ri (out 13 ?_ (by decide)),M.below⟩) fun h=>?_
 ·simp only[Bool.or_eq_true,decide_eq_true_eq] at h;by_cases h1:y.kind<1
  ·rw[if_pos h1]
  ·rw[if_neg h1,if_pos (by omega)]
 simp only[Bool.or_eq_false_iff,decide_eq_false_iff_not] at h;rw[if_neg h.1,if_neg h.2] at out hcf;refine lb 1<|an rfl<|lb 0<|an rfl<|cl<|an (lZ _ _ _ _ _ _ _ _ _ _ _ _ _ _ _ _ _ _ p (hp'.keep M3.below) y.src fq.src) fun w4 M4=>lb 1<|an (fun _=>rfl)<|lb 0<|an (fun _=>rfl)<|cl<|an (fun _=>lZ _ _ _ _ _ _ _ _ _ _ _ _ _ _ _ _ _ _ p (hp'.keep M4.below) y.tgt fq.tgt) fun w5 M5=>lb 1<|an (fun _=>rfl)<|lb 0<|an (fun _=>rfl)<|cl<|an (fun _=>tg _ _ _ _ _ _ _ _ _ _ _ _ _ _ _ _ _ _ p (hp'.keep M5.below) y.cls) fun w6 M6=>lb 0<|an (fun _=>rfl)<|lb 0<|an (fun _=>rfl)<|lb 1<|an (fun _=>rfl)<|lb 1<|an (fun _=>rfl)<|lb 0<|an (fun _=>rfl)<|cl<|an (fun _=>MA _ _ _ _ _ _ _ _ _ _ _ _ _ _ _ _ _ _ p (hp'.keep M6.below) y.cond) fun w7 M7=>an (fun h3 M=>⟨ri (out 3 ?_ (by decide)),M.below⟩) fun h3=>?_
 ·have hb:aE y.res (p.types.length:Int)=!(decide (y.res<0)||decide ((p.types.length:Int)≤y.res)):=by unfold aE;rw[aj_];simp
  clear hcf out;rw[hb];cases h5:y.src.within (aq.all p.types.length)<;>cases h6:y.tgt.within (aq.all p.types.length)<;>cases h7:aE y.cls (p.classes.length:Int)<;>cases h8:decide (y.res<0)<;>cases h9:decide ((p.types.length:Int)≤y.res)<;>cases h10:nQ p.conds.length y.cond<;>simp_all
 have hb:aE y.res (p.types.length:Int)=!(decide (y.res<0)||decide ((p.types.length:Int)≤y.res)):=by unfold aE;rw[aj_];simp
 have a1:y.src.within (aq.all p.types.length)=true∧y.tgt.within (aq.all p.types.length)=true∧aE y.cls (p.classes.length:Int)=true∧aE y.res (p.types.length:Int)=true∧nQ p.conds.length y.cond=true:=by
  clear hcf out;rw[hb];cases h5:y.src.within (aq.all p.types.length)<;>cases h6:y.tgt.within (aq.all p.types.length)<;>cases h7:aE y.cls (p.classes.length:Int)<;>cases h8:decide (y.res<0)<;>cases h9:decide ((p.types.length:Int)≤y.res)<;>cases h10:nQ p.conds.length y.cond<;>simp_all
 obtain⟨a1,a2,a3,a4,a5⟩:=a1;simp only[a1,a2,a3,a4,a5,Bool.true_eq_false,if_false] at out hcf;refine lb 0<|an rfl<|cl<|an (iz _ y.src) fun w8 M8=>lb 0<|an (fun _=>rfl)<|cl<|an (fun _=>iz _ y.tgt) fun w9 M9=>lb 0<|an (fun _=>rfl)<|lb 0<|an (fun _=>rfl)<|an (fun h4 M=>⟨ri (out 2 ?_ (by decide)),M.below⟩) fun h4=>?_
 ·change ((!bD y.src||!bD y.tgt)||(!ck y.name&&!decide (y.kind=1)))=true at h4
  clear out hcf;cases ha:bD y.src<;>cases hb:bD y.tgt<;>cases hc:ck y.name<;>cases hd:d_ y.name<;>by_cases hk:y.kind=1<;>simp_all
 change ((!bD y.src||!bD y.tgt)||(!ck y.name&&!decide (y.kind=1)))=false at h4
 refine lb 0<|an rfl<|lb 0<|an (fun _=>rfl)<|cl<|an (fun _=>Mr _ y.name fq.name) fun pE jH=>an (fun h5 M=>⟨ri (out 10 ?_ (by decide)),M.below⟩) fun h5=>an (by omega)<|bk (m+1) ⟨rfl,trivial⟩ (fun M=>⟨M.only (.cons _ (.refl _)) (.refl _),by omega,hinv.trans (aM hlt ?_)⟩) (by dsimp only;omega)
 ·change (!ck y.name&&!d_ y.name)=true at h5
  clear out hcf;cases ha:bD y.src<;>cases hb:bD y.tgt<;>cases hc:ck y.name<;>cases hd:d_ y.name<;>by_cases hk:y.kind=1<;>simp_all
 ·change (!ck y.name&&!d_ y.name)=false at h5
  rw[hcf];clear out hcf;cases ha:bD y.src<;>cases hb:bD y.tgt<;>cases hc:ck y.name<;>cases hd:d_ y.name<;>by_cases hk:y.kind=1<;>simp_all
theorem Mp(w0:World)(c0 c1 c2 c3 c4 c5 c6 c7 c8 c9 c10 c11 c12 c13 c14 c15 c16:Value)(p:aA)(hp:aD w0 c0 c1 c2 c3 c4 c5 c6 c7 c8 c9 c10 c11 c12 c13 c14 c15 c16 p)(hok:p.Ok):Calls Tryz.prog 187 #[.agg #[c0,c1,c2,c3,c4,c5,c6,c7,c8,c9,c10,c11,c12,c13,c14,c15,c16]] w0 (RI w0 (if 1024<p.ak.length then 4 else ah (xE p) p.ak.length 0)):=by
 have hp':=hp;obtain⟨_,_,_,_,_,_,_,_,_,_,_,_,_,_,_,_,_,_,_,_,_,_,_,_,_,_,_,_,_,_,_,_,_,_,rfl,rfl,rfl,rfl,rfl,rfl,rfl,rfl,rfl,rfl,rfl,rfl,rfl,rfl,rfl,rfl,rfl⟩:=hp.open;refine bU [] (fn:=Tryz.f187) Tryz.func187 rfl Tryz.ntmps187 rfl<|fun g1 w1 M1=>lb 0<|an rfl<|an (fun h M=>⟨ri (if_pos (by simp at h;omega)),M.below⟩) fun h=>?_
 have hll:p.ak.length≤1024:=by simp at h;omega
 rw[if_neg (by omega)];refine lb 0<|an rfl<|?_;refine lr (ι:=Nat) (fun m=>[(14,.int .i64 (m:Int))]) (fun m _=>m≤p.ak.length∧ah (xE p) p.ak.length 0=ah (xE p) (p.ak.length-m) m) (fun m=>p.ak.length-m) 0 (an ⟨⟨rfl,trivial⟩,fun M=>⟨M,aj6 _,by rw[Nat.sub_zero]⟩⟩ ?_);rintro m w M ⟨hm,hinv⟩;refine an (fun h2=>?_) fun h2 M=>⟨ri (by rw[hinv,show m=p.ak.length by simp at h2;omega,aT]),M.below⟩
 have hlt:m<p.ak.length:=by simp at h2;omega
 obtain⟨y,hy⟩:∃ y,p.ak[m]?=some y:=⟨_,aj7 hlt⟩;have fq:=hok.ak y (aj8 hy);obtain⟨b,o,e,hc⟩:=SliceAt.elt hp.ak (fun _=>rfl) (by decide) hy hlt;have hcf:xE p m=O9 p.types.length p.classes.length p.roles.length y:=by unfold xE;rw[hy]
 have out:∀ v:Int,O9 p.types.length p.classes.length p.roles.length y=v→v≠0→ah (xE p) p.ak.length 0=v:=fun v h1 h2=>by rw[hinv,aV hlt (by rw[hcf,h1];exact h2),hcf,h1]
 unfold O9 at hcf out;refine ia<|an ⟨e,rfl,hlt⟩<|lc (x:=y.cells)<|an (cL M.below hc)<|ei<|an Ck fun g2 w2 M2=>lb 0<|an ⟨rfl,rfl⟩ fun w3 M3=>lb 1<|an rfl<|lb 0<|an rfl<|cl<|an (xZ _ _ _ _ _ _ _ _ _ _ _ _ _ _ _ _ _ _ p (hp'.keep M3.below) y.roles fq.roles) fun w4 M4=>lb 1<|an (fun _=>rfl)<|lb 0<|an (fun _=>rfl)<|cl<|an (fun _=>lZ _ _ _ _ _ _ _ _ _ _ _ _ _ _ _ _ _ _ p (hp'.keep M4.below) y.types fq.types) fun w5 M5=>lb 1<|an (fun _=>rfl)<|lb 0<|an (fun _=>rfl)<|cl<|an (fun _=>tg _ _ _ _ _ _ _ _ _ _ _ _ _ _ _ _ _ _ p (hp'.keep M5.below) y.cls) fun w6 M6=>lb 0<|an (fun _=>rfl)<|lb 0<|an (fun _=>rfl)<|lb 1<|an (fun _=>rfl)<|an (fun h3 M=>⟨ri (out 3 ?_ (by decide)),M.below⟩) fun h3=>lb 0<|an rfl<|cl<|an (iz _ y.roles) fun w7 M7=>lb 0<|an (fun _=>rfl)<|cl<|an (fun _=>iz _ y.types) fun w8 M8=>an (fun h4 M=>⟨ri (out 2 ?_ (by decide)),M.below⟩) fun h4=>an (by omega)<|bk (m+1) ⟨rfl,trivial⟩ (fun M=>⟨M.only (.cons _ (.refl _)) (.refl _),by omega,hinv.trans (aM hlt ?_)⟩) (by dsimp only;omega)
 all_goals first|(rw[hcf];clear hcf out)|clear hcf out
 all_goals have hb:aE y.res (p.roles.length:Int)=(decide (0≤y.res)&&!decide ((p.roles.length:Int)≤y.res)):=by unfold aE;rw[aj_];simp
 all_goals have hb2:decide (y.res<1)=(!decide (0≤y.res)||decide (y.res=0)):=by rw[aj_];simp;omega
 all_goals have eu:bD y.roles=!decide (y.roles=aq.zero):=rfl
 all_goals rw[hb] at *
 all_goals cases h5:lN p.roles.length y.roles<;>cases h6:y.types.within (aq.all p.types.length)<;>cases h7:aE y.cls (p.classes.length:Int)<;>cases h8:decide (0≤y.res)<;>cases h12:decide ((p.roles.length:Int)≤y.res)<;>by_cases h9:y.res=0<;>by_cases h10:y.roles=aq.zero<;>cases h11:bD y.types<;>simp_all
theorem Mq(w0:World)(c0 c1 c2 c3 c4 c5 c6 c7 c8 c9 c10 c11 c12 c13 c14 c15 c16:Value)(p:aA)(hp:aD w0 c0 c1 c2 c3 c4 c5 c6 c7 c8 c9 c10 c11 c12 c13 c14 c15 c16 p)(hok:p.Ok):Calls Tryz.prog 188 #[.agg #[c0,c1,c2,c3,c4,c5,c6,c7,c8,c9,c10,c11,c12,c13,c14,c15,c16]] w0 (RI w0 (if 1024<p.ranges.length then 4 else ah (CP p) p.ranges.length 0)):=by
 have hp':=hp;obtain⟨_,_,_,_,_,_,_,_,_,_,_,_,_,_,_,_,_,_,_,_,_,_,_,_,_,_,_,_,_,_,_,_,_,_,rfl,rfl,rfl,rfl,rfl,rfl,rfl,rfl,rfl,rfl,rfl,rfl,rfl,rfl,rfl,rfl,rfl⟩:=hp.open;refine bU [] (fn:=Tryz.f188) Tryz.func188 rfl Tryz.ntmps188 rfl<|fun g1 w1 M1=>lb 0<|an rfl<|an (fun h M=>⟨ri (if_pos (by simp at h;omega)),M.below⟩) fun h=>?_
 have hll:p.ranges.length≤1024:=by simp at h;omega
 rw[if_neg (by omega)];refine lb 0<|an rfl<|?_;refine lr (ι:=Nat) (fun m=>[(14,.int .i64 (m:Int))]) (fun m _=>m≤p.ranges.length∧ah (CP p) p.ranges.length 0=ah (CP p) (p.ranges.length-m) m) (fun m=>p.ranges.length-m) 0 (an ⟨⟨rfl,trivial⟩,fun M=>⟨M,aj6 _,by rw[Nat.sub_zero]⟩⟩ ?_);rintro m w M ⟨hm,hinv⟩;refine an (fun h2=>?_) fun h2 M=>⟨ri (by rw[hinv,show m=p.ranges.length by simp at h2;omega,aT]),M.below⟩
 have hlt:m<p.ranges.length:=by simp at h2;omega
 obtain⟨y,hy⟩:∃ y,p.ranges[m]?=some y:=⟨_,aj7 hlt⟩;have fq:=hok.ranges y (aj8 hy);obtain⟨b,o,e,hc⟩:=SliceAt.elt hp.ranges (fun _=>rfl) (by decide) hy hlt;have hcf:CP p m=O_ p.types.length p.classes.length p.ay.length p.cats.length y:=by unfold CP;rw[hy]
 have out:∀ v:Int,O_ p.types.length p.classes.length p.ay.length p.cats.length y=v→v≠0→ah (CP p) p.ranges.length 0=v:=fun v h1 h2=>by rw[hinv,aV hlt (by rw[hcf,h1];exact h2),hcf,h1]
 unfold O_ at hcf out;refine ia<|an ⟨e,rfl,hlt⟩<|lc (x:=y.cells)<|an (cL M.below hc)<|ei<|an Cj fun g2 w2 M2=>lb 0<|an ⟨rfl,rfl⟩ fun w3 M3=>lb 1<|an rfl<|lb 0<|an rfl<|cl<|an (lZ _ _ _ _ _ _ _ _ _ _ _ _ _ _ _ _ _ _ p (hp'.keep M3.below) y.src fq.src) fun w4 M4=>lb 1<|an (fun _=>rfl)<|lb 0<|an (fun _=>rfl)<|cl<|an (fun _=>lZ _ _ _ _ _ _ _ _ _ _ _ _ _ _ _ _ _ _ p (hp'.keep M4.below) y.tgt fq.tgt) fun w5 M5=>lb 1<|an (fun _=>rfl)<|lb 0<|an (fun _=>rfl)<|cl<|an (fun _=>tg _ _ _ _ _ _ _ _ _ _ _ _ _ _ _ _ _ _ p (hp'.keep M5.below) y.cls) fun w6 M6=>an (fun h3 M=>⟨ri (out 3 ?_ (by decide)),M.below⟩) fun h3=>lb 0<|an rfl<|cl<|an (iz _ y.src) fun w7 M7=>lb 0<|an (fun _=>rfl)<|cl<|an (fun _=>iz _ y.tgt) fun w8 M8=>an (fun h4 M=>⟨ri (out 2 ?_ (by decide)),M.below⟩) fun h4=>lb 1<|an rfl<|lb 0<|an rfl<|cl<|an (Di _ _ _ _ _ _ _ _ _ _ _ _ _ _ _ _ _ _ p (hp'.keep M8.below) y.rng fq.rng) fun w9 M9=>an (fun h5 M=>⟨ri (out 18 ?_ (by decide)),M.below⟩) fun h5=>an (by omega)<|bk (m+1) ⟨rfl,trivial⟩ (fun M=>⟨M.only (.cons _ (.refl _)) (.refl _),by omega,hinv.trans (aM hlt ?_)⟩) (by dsimp only;omega)
 all_goals first|(rw[hcf];clear hcf out)|clear hcf out
 all_goals cases h6:y.src.within (aq.all p.types.length)<;>cases h7:y.tgt.within (aq.all p.types.length)<;>cases h8:aE y.cls (p.classes.length:Int)<;>cases h9:bD y.src<;>cases h10:bD y.tgt<;>cases h11:iJ p.ay.length p.cats.length y.rng<;>simp_all
theorem JA(w0:World)(c0 c1 c2 c3 c4 c5 c6 c7 c8 c9 c10 c11 c12 c13 c14 c15 c16:Value)(p:aA)(hp:aD w0 c0 c1 c2 c3 c4 c5 c6 c7 c8 c9 c10 c11 c12 c13 c14 c15 c16 p)(hok:p.Ok):Calls Tryz.prog 192 #[.agg #[c0,c1,c2,c3,c4,c5,c6,c7,c8,c9,c10,c11,c12,c13,c14,c15,c16]] w0 (RI w0 (cT p)):=by
 have hp':=hp;obtain⟨_,_,_,_,_,_,_,_,_,_,_,_,_,_,_,_,_,_,_,_,_,_,_,_,_,_,_,_,_,_,_,_,_,_,rfl,rfl,rfl,rfl,rfl,rfl,rfl,rfl,rfl,rfl,rfl,rfl,rfl,rfl,rfl,rfl,rfl⟩:=hp.open;unfold cT;refine bU [] (fn:=Tryz.f192) Tryz.func192 rfl Tryz.ntmps192 rfl<|fun g1 w1 M1=>lb 0<|an rfl<|an (fun h M=>⟨ri (if_pos (by simp at h;omega)),M.below⟩) fun h=>?_
 have hr:¬ 64<p.asserts.length:=by simp at h;omega
 rw[if_neg hr];refine lb 0<|an rfl<|lq (ι:=Nat×Value) (fun(m,u)=>[(3,u),(16,.int .i64 (m:Int))]) (fun(m,u)=>[⟨u,9,1,m,((p.asserts.take m).map (·.name)).flatMap aO⟩]) (fun(m,u) _=>m≤p.asserts.length∧ah (iB p) p.asserts.length 0=ah (iB p) (p.asserts.length-m) m) (fun(m,u)=>p.asserts.length-m) (0,.slice none 0 0) (an ⟨⟨rfl,rfl,trivial⟩,fun M=>⟨M.bE 9 1,aj6 _,by rw[Nat.sub_zero]⟩⟩ ?_);rintro⟨m,u⟩ w M ⟨hm,hinv⟩;refine an (fun h2=>?_) fun h2 M=>⟨ri (by rw[hinv,show m=p.asserts.length by simp at h2;omega,aT]),M.below⟩
 have hlt:m<p.asserts.length:=by simp at h2;omega
 obtain⟨y,hy⟩:∃ y,p.asserts[m]?=some y:=⟨_,aj7 hlt⟩;have fq:=hok.asserts y (aj8 hy);obtain⟨b,o,e,hc⟩:=SliceAt.elt hp.asserts (fun _=>rfl) (by decide) hy hlt;have hcf:iB p m=lD p.types.length ((p.asserts.take m).map (·.name)) y:=by unfold iB;rw[hy]
 have out:∀ v:Int,lD p.types.length ((p.asserts.take m).map (·.name)) y=v→v≠0→ah (iB p) p.asserts.length 0=v:=fun v h1 h2=>by rw[hinv,aV hlt (by rw[hcf,h1];exact h2),hcf,h1]
 unfold lD at hcf out;refine ia<|an ⟨e,rfl,hlt⟩<|lc (x:=y.cells)<|an (cL M.below hc)<|ei<|an Ci fun g2 w2 M2=>lb 0<|an ⟨rfl,rfl⟩ fun w3 M3=>lb 0<|an rfl<|cl<|an (qj _ y.name fq.name _ _ (cP (M3.r 0 rfl) (by simp;omega) rfl)) fun w5 M5=>an (fun h3 M=>⟨ri (out _ (if_neg (by simpa using h3)) (by simpa using h3)),M.below⟩) fun h3=>?_
 replace h3:aP [y.name] ((p.asserts.take m).map (·.name))=0:=by simpa using h3
 rw[if_pos h3] at hcf out;refine lb 0<|an rfl<|fun g4 w6 M6=>ap 0 id rfl (M6.slice 0 rfl rfl rfl (by simp[maxLen])) ⟨by unfold maxLen;omega,by omega⟩ fun v5 w7 M7=>lb 1<|an rfl<|lb 1<|an (fun _=>rfl)<|an (fun h M=>⟨ri (out 13 ?_ (by decide)),M.below⟩) fun h=>?_
 ·simp only[Bool.or_eq_true,decide_eq_true_eq] at h;by_cases h1:y.kind<1
  ·rw[if_pos h1]
  ·rw[if_neg h1,if_pos (by omega)]
 simp only[Bool.or_eq_false_iff,decide_eq_false_iff_not] at h;rw[if_neg h.1,if_neg h.2] at out hcf;refine lb 2<|an rfl<|lb 1<|an rfl<|cl<|an (lZ _ _ _ _ _ _ _ _ _ _ _ _ _ _ _ _ _ _ p (hp'.keep M7.below) y.src fq.src) fun w8 M8=>lb 2<|an (fun _=>rfl)<|lb 1<|an (fun _=>rfl)<|cl<|an (fun _=>lZ _ _ _ _ _ _ _ _ _ _ _ _ _ _ _ _ _ _ p (hp'.keep M8.below) y.tgt fq.tgt) fun w9 M9=>an (fun h3 M=>⟨ri (out 3 ?_ (by decide)),M.below⟩) fun h3=>lb 1<|an rfl<|cl<|an (iz _ y.src) fun pE jH=>lb 1<|an (fun _=>rfl)<|cl<|an (fun _=>iz _ y.tgt) fun uO M11=>an (fun h4 M=>⟨ri (out 2 ?_ (by decide)),M.below⟩) fun h4=>an (by omega)<|bk (m+1,v5) ⟨rfl,rfl,trivial⟩ (fun M=>⟨(M.only (.cons _ (.cons _ (.refl _))) (.refl _)).cast rfl (by dsimp only;rw[i_ hy]),by omega,hinv.trans (aM hlt ?_)⟩) (by dsimp only;omega)
 all_goals first|(rw[hcf];clear hcf out)|clear hcf out
 all_goals cases h6:y.src.within (aq.all p.types.length)<;>cases h7:y.tgt.within (aq.all p.types.length)<;>cases h9:bD y.src<;>cases h10:bD y.tgt<;>simp_all
theorem Mw(w:World)(i n:Int):Calls Tryz.prog 320 #[.int .i64 i,.int .i64 n] w fun e w'=>e=.returned (.bool (aE i n))∧aj5 w.heap.size w w':=bU [] (fn:=Tryz.f320) Tryz.func320 rfl Tryz.ntmps320 rfl<|fun M=>⟨rfl,M.below⟩
theorem Mu(w:World)(i n:Int):Calls Tryz.prog 341 #[.int .i64 i,.int .i64 n] w fun e w'=>e=.returned (.bool (aE i n))∧aj5 w.heap.size w w':=bU [] (fn:=Tryz.f341) Tryz.func341 rfl Tryz.ntmps341 rfl<|fun M=>⟨rfl,M.below⟩
theorem Hs(w0:World)(c0 c1 c2 c3 c4 c5 c6 c7 c8 c9 c10 c11 c12 c13 c14 c15 c16:Value)(p:aA)(hp:aD w0 c0 c1 c2 c3 c4 c5 c6 c7 c8 c9 c10 c11 c12 c13 c14 c15 c16 p)(hok:p.Ok)(c:mG)(hc:c.Ok):Calls Tryz.prog 290 #[.agg #[c0,c1,c2,c3,c4,c5,c6,c7,c8,c9,c10,c11,c12,c13,c14,c15,c16],.agg #[.int .i64 c.user,.int .i64 c.role,.int .i64 c.typ,.int .i64 c.rng.low.ay,.int .u64 c.rng.low.cats,.int .i64 c.rng.high.ay,.int .u64 c.rng.high.cats]] w0 (RI w0 (iL p c)):=by
 obtain⟨_,_,_,_,_,_,_,_,_,_,_,_,_,_,_,_,_,_,_,_,_,_,_,_,_,_,_,_,_,_,_,_,_,_,rfl,rfl,rfl,rfl,rfl,rfl,rfl,rfl,rfl,rfl,rfl,rfl,rfl,rfl,rfl,rfl,rfl⟩:=hp.open;refine bU [] (fn:=Tryz.f290) Tryz.func290 rfl Tryz.ntmps290 rfl<|fun g1 w1 M1=>fun g2 w2 M2=>lb 0<|an rfl<|lb 1<|an rfl<|cl<|an (Mw _ _ _) fun w3 M3=>lb 0<|an (fun _=>rfl)<|lb 1<|an (fun _=>rfl)<|cl<|an (fun _=>Mw _ _ _) fun w4 M4=>lb 0<|an (fun _=>rfl)<|lb 1<|an (fun _=>rfl)<|cl<|an (fun _=>Mw _ _ _) fun w5 M5=>an (fun h M=>⟨ri ?_,M.below⟩) fun h=>?_
 ·unfold iL;cases h1:aE c.user (p.users.length:Int)<;>cases h2:aE c.role (p.roles.length:Int)<;>cases h3:aE c.typ (p.types.length:Int)<;>simp_all
 have hb:aE c.user (p.users.length:Int)=true∧aE c.role (p.roles.length:Int)=true∧aE c.typ (p.types.length:Int)=true:=by
  cases h1:aE c.user (p.users.length:Int)<;>cases h2:aE c.role (p.roles.length:Int)<;>cases h3:aE c.typ (p.types.length:Int)<;>simp_all
 obtain⟨b1,b2,b3⟩:=hb
 have hpm:iL p c=if iJ p.ay.length p.cats.length c.rng=false then 18 else if c.role=0 then 0 else sO p c:=by
  unfold iL;rw[b1,b2,b3];rfl
 rw[hpm];refine lb 0<|an rfl<|lb 1<|an rfl<|lb 1<|an rfl<|cl<|an (Ht _ c.rng _ _ hc.rng) fun w6 M6=>an (fun h2 M=>⟨ri (if_pos (by simpa using h2)),M.below⟩) fun h2=>?_
 rw[if_neg (by simpa using h2)];refine lb 0<|an rfl<|an (fun h3 M=>⟨ri (if_pos (by simpa using h3)),M.below⟩) fun h3=>?_
 rw[if_neg (by simpa using h3)];obtain⟨u0,u1⟩:=fP.1 b1;obtain⟨r0,r1⟩:=fP.1 b2;obtain⟨i,hi⟩:=Int.eq_ofNat_of_zero_le u0;obtain⟨j,hj⟩:=Int.eq_ofNat_of_zero_le r0;have hiu:i<p.users.length:=by omega
 have hjr:j<p.roles.length:=by omega
 obtain⟨u,hu⟩:∃ u,p.users[i]?=some u:=⟨_,aj7 hiu⟩;obtain⟨r,hr⟩:∃ r,p.roles[j]?=some r:=⟨_,aj7 hjr⟩;have UU:=hok.users u (aj8 hu);have Sg:=hok.roles r (aj8 hr);obtain⟨b,o,e,Ye⟩:=SliceAt.elt hp.users (fun _=>rfl) (by decide) hu hiu;obtain⟨b',o',e',hcr⟩:=SliceAt.elt hp.roles (fun _=>rfl) (by decide) hr hjr;rw[xL (u:=u) (r:=r) (by rw[hi];exact hu) (by rw[hj];exact hr)];refine lb 1<|an rfl<|lb 0<|an rfl<|ia<|an ⟨e,hi,hiu⟩<|lc (x:=u.cells)<|an (cL M6.below Ye)<|ei<|an zF fun g3 w7 M7=>lb 0<|an ⟨rfl,rfl⟩ fun w8 M8=>dr (by kernel_rfl)<|lb 0<|an rfl<|lb 1<|an rfl<|cl<|an (fun w' hb M'=>Mx w' u.roles UU.roles _)<|lb 2<|an (fun _=>rfl)<|lb 1<|an (fun _=>rfl)<|ia<|an (fun _=>⟨e',hj,hjr⟩)<|lc (x:=[.int .u64 r.types.a,.int .u64 r.types.b,.int .u64 r.types.c,.int .u64 r.types.d])<|an (fun _=>fR (cL M8.below hcr) rfl)<|lb 1<|an (fun _=>rfl)<|cl<|an (fun _ w' hb M'=>Mx w' r.types Sg.types _)<|lb 0<|an (fun _=>rfl)<|lb 1<|an (fun _=>rfl)<|cl<|an (fun _ w' hb M'=>u_ w' u.rng c.rng UU.rng hc.rng)<|fun w9 Yf M9=>an (fun h4 M=>⟨ri ?_,M.below⟩) fun h4=>fun M=>⟨ri ?_,M.below⟩
 all_goals cases h5:kN c.rng.low u.rng.low<;>cases h6:kN u.rng.high c.rng.high<;>cases h7:u.roles.mem c.role<;>cases h8:r.types.mem c.typ<;>simp_all
theorem SM(w0:World)(c0 c1 c2 c3 c4 c5 c6 c7 c8 c9 c10 c11 c12 c13 c14 c15 c16:Value)(p:aA)(hp:aD w0 c0 c1 c2 c3 c4 c5 c6 c7 c8 c9 c10 c11 c12 c13 c14 c15 c16 p)(hok:p.Ok):Calls Tryz.prog 190 #[.agg #[c0,c1,c2,c3,c4,c5,c6,c7,c8,c9,c10,c11,c12,c13,c14,c15,c16]] w0 (RI w0 (if 1024<p.aN.length then 4 else ah (lM p) p.aN.length 0)):=by
 have hp':=hp;obtain⟨_,_,_,_,_,_,_,_,_,_,_,_,_,_,_,_,_,_,_,_,_,_,_,_,_,_,_,_,_,_,_,_,_,_,rfl,rfl,rfl,rfl,rfl,rfl,rfl,rfl,rfl,rfl,rfl,rfl,rfl,rfl,rfl,rfl,rfl⟩:=hp.open;refine bU [] (fn:=Tryz.f190) Tryz.func190 rfl Tryz.ntmps190 rfl<|fun g1 w1 M1=>lb 0<|an rfl<|an (fun h M=>⟨ri (if_pos (by simp at h;omega)),M.below⟩) fun h=>?_
 have hr:¬ 1024<p.aN.length:=by simp at h;omega
 rw[if_neg hr];refine lb 0<|an rfl<|lq (ι:=Nat×Value) (fun(m,u)=>[(3,u),(17,.int .i64 (m:Int))]) (fun(m,u)=>[⟨u,9,1,m,((p.aN.take m).map (·.name)).flatMap aO⟩]) (fun(m,u) _=>m≤p.aN.length∧ah (lM p) p.aN.length 0=ah (lM p) (p.aN.length-m) m) (fun(m,u)=>p.aN.length-m) (0,.slice none 0 0) (an ⟨⟨rfl,rfl,trivial⟩,fun M=>⟨M.bE 9 1,aj6 _,by rw[Nat.sub_zero]⟩⟩ ?_);rintro⟨m,u⟩ w M ⟨hm,hinv⟩;refine an (fun h2=>?_) fun h2 M=>⟨ri (by rw[hinv,show m=p.aN.length by simp at h2;omega,aT]),M.below⟩
 have hlt:m<p.aN.length:=by simp at h2;omega
 obtain⟨y,hy⟩:∃ y,p.aN[m]?=some y:=⟨_,aj7 hlt⟩;have fq:=hok.aN y (aj8 hy);obtain⟨b,o,e,hc⟩:=SliceAt.elt hp.aN (fun _=>rfl) (by decide) hy hlt;have hcf:lM p m=zl p ((p.aN.take m).map (·.name)) y:=by unfold lM;rw[hy]
 have out:∀ v:Int,zl p ((p.aN.take m).map (·.name)) y=v→v≠0→ah (lM p) p.aN.length 0=v:=fun v h1 h2=>by rw[hinv,aV hlt (by rw[hcf,h1];exact h2),hcf,h1]
 unfold zl at hcf out;refine ia<|an ⟨e,rfl,hlt⟩<|lc (x:=y.cells)<|an (cL M.below hc)<|ei<|an KN fun g2 w2 M2=>lb 0<|an ⟨rfl,rfl⟩ fun w3 M3=>lb 0<|an rfl<|cl<|an (qj _ y.name fq.name _ _ (cP (M3.r 0 rfl) (by simp;omega) rfl)) fun w5 M5=>an (fun h3 M=>⟨ri (out _ (if_neg (by simpa using h3)) (by simpa using h3)),M.below⟩) fun h3=>?_
 replace h3:aP [y.name] ((p.aN.take m).map (·.name))=0:=by simpa using h3
 rw[if_pos h3] at hcf out;exact lb 0<|an rfl<|fun g4 w6 M6=>ap 0 id rfl (M6.slice 0 rfl rfl rfl (by simp[maxLen])) ⟨by unfold maxLen;omega,by omega⟩ fun v5 w7 M7=>lb 2<|an rfl<|lb 1<|an rfl<|cl<|an (Hs _ _ _ _ _ _ _ _ _ _ _ _ _ _ _ _ _ _ p (hp'.keep M7.below) hok y.ctx fq.ctx) fun w8 M8=>an (fun h4 M=>⟨ri (out _ rfl (by simpa using h4)),M.below⟩) fun h4=>an (by omega)<|bk (m+1,v5) ⟨rfl,rfl,trivial⟩ (fun M=>⟨(M.only (.cons _ (.cons _ (.refl _))) (.refl _)).cast rfl (by dsimp only;rw[i_ hy]),by omega,hinv.trans (aM hlt (by rw[hcf];simpa using h4))⟩) (by dsimp only;omega)
theorem PJ(w0:World)(c0 c1 c2 c3 c4 c5 c6 c7 c8 c9 c10 c11 c12 c13 c14 c15 c16:Value)(p:aA)(hp:aD w0 c0 c1 c2 c3 c4 c5 c6 c7 c8 c9 c10 c11 c12 c13 c14 c15 c16 p)(hok:p.Ok):Calls Tryz.prog 191 #[.agg #[c0,c1,c2,c3,c4,c5,c6,c7,c8,c9,c10,c11,c12,c13,c14,c15,c16]] w0 (RI w0 (if 256<p.files.length then 4 else ah (kV p) p.files.length 0)):=by
 have hp':=hp;obtain⟨_,_,_,_,_,_,_,_,_,_,_,_,_,_,_,_,_,_,_,_,_,_,_,_,_,_,_,_,_,_,_,_,_,_,rfl,rfl,rfl,rfl,rfl,rfl,rfl,rfl,rfl,rfl,rfl,rfl,rfl,rfl,rfl,rfl,rfl⟩:=hp.open;refine bU [] (fn:=Tryz.f191) Tryz.func191 rfl Tryz.ntmps191 rfl<|fun g1 w1 M1=>lb 0<|an rfl<|an (fun h M=>⟨ri (if_pos (by simp at h;omega)),M.below⟩) fun h=>?_
 have hr:¬ 256<p.files.length:=by simp at h;omega
 rw[if_neg hr];refine lb 0<|an rfl<|lr (ι:=Nat) (fun m=>[(15,.int .i64 (m:Int))]) (fun m _=>m≤p.files.length∧ah (kV p) p.files.length 0=ah (kV p) (p.files.length-m) m) (fun m=>p.files.length-m) 0 (an ⟨⟨rfl,trivial⟩,fun M=>⟨M,aj6 _,by rw[Nat.sub_zero]⟩⟩ ?_);rintro m w M ⟨hm,hinv⟩;refine an (fun h2=>?_) fun h2 M=>⟨ri (by rw[hinv,show m=p.files.length by simp at h2;omega,aT]),M.below⟩
 have hlt:m<p.files.length:=by simp at h2;omega
 obtain⟨y,hy⟩:∃ y,p.files[m]?=some y:=⟨_,aj7 hlt⟩;have fq:=hok.files y (aj8 hy);obtain⟨b,o,e,hc⟩:=SliceAt.elt hp.files (fun _=>rfl) (by decide) hy hlt;have hcf:kV p m=tA p y:=by unfold kV;rw[hy]
 have out:∀ v:Int,tA p y=v→v≠0→ah (kV p) p.files.length 0=v:=fun v h1 h2=>by rw[hinv,aV hlt (by rw[hcf,h1];exact h2),hcf,h1]
 unfold tA at hcf out;refine ia<|an ⟨e,rfl,hlt⟩<|lc (x:=y.cells)<|an (cL M.below hc)<|ei<|an GL fun g2 w2 M2=>lb 0<|an ⟨rfl,rfl⟩ fun w3 M3=>lb 0<|an rfl<|lb 0<|an (fun _=>rfl)<|ei (x:=.agg #[.int .i64 3,.string y.pat,.int .i64 0,.int .i64 0])<|an (fun _=>bd (by kernel_rfl))<|cl<|an (fun _=>Mn _ y.pat fq.pat) fun w4 M4=>an (fun h3 M=>⟨ri (out 10 ?_ (by decide)),M.below⟩) fun h3=>?_
 ·change (ck y.pat||!dQ y.pat)=true at h3
  clear out hcf;cases h5:ck y.pat<;>cases h6:dQ y.pat<;>simp_all
 change (ck y.pat||!dQ y.pat)=false at h3
 have hq:ck y.pat=false∧dQ y.pat=true:=by cases h5:ck y.pat<;>cases h6:dQ y.pat<;>simp_all
 rw[hq.1,hq.2,if_neg (by decide),if_neg (by decide)] at hcf out;refine lb 0<|an rfl<|lb 0<|an (fun _=>rfl)<|an (fun h4 M=>⟨ri (out 13 ?_ (by decide)),M.below⟩) fun h4=>?_
 ·simp only[Bool.or_eq_true,decide_eq_true_eq] at h4;by_cases h1:y.kind<0
  ·rw[if_pos h1]
  ·rw[if_neg h1,if_pos (by omega)]
 simp only[Bool.or_eq_false_iff,decide_eq_false_iff_not] at h4;rw[if_neg h4.1,if_neg h4.2] at out hcf;exact lb 1<|an rfl<|lb 0<|an rfl<|cl<|an (Hs _ _ _ _ _ _ _ _ _ _ _ _ _ _ _ _ _ _ p (hp'.keep M4.below) hok y.ctx fq.ctx) fun w8 M8=>an (fun h4 M=>⟨ri (out _ rfl (by simpa using h4)),M.below⟩) fun h4=>an (by omega)<|bk (m+1) ⟨rfl,trivial⟩ (fun M=>⟨M.only (.cons _ (.refl _)) (.refl _),by omega,hinv.trans (aM hlt (by rw[hcf];simpa using h4))⟩) (by dsimp only;omega)
theorem yd(w:World)(o:Int):Calls Tryz.prog 318 #[.int .i64 o] w (fun e w'=>e=.returned (.int .i64 (dh o))∧aj5 w.heap.size w w'):=by
 refine bU [] (fn:=Tryz.f318) Tryz.func318 rfl Tryz.ntmps318 rfl<|an (fun h=>an (fun _=>fun M=>⟨ri ?_,M.below⟩) fun h2=>absurd (h.symm.trans h2) (by decide)) fun n1=>an (fun h=>an (fun _=>fun M=>⟨ri ?_,M.below⟩) fun h2=>absurd (h.symm.trans h2) (by decide)) fun n8=>an (fun h=>fun M=>⟨ri ?_,M.below⟩) fun n9=>an (fun h=>fun M=>⟨ri ?_,M.below⟩) fun n2=>an (fun h=>an (fun _=>fun M=>⟨ri ?_,M.below⟩) fun h2=>absurd (h.symm.trans h2) (by decide)) fun n3=>an (fun h=>an (fun _=>fun M=>⟨ri ?_,M.below⟩) fun h2=>absurd (h.symm.trans h2) (by decide)) fun n4=>an (fun h=>an (fun _=>fun M=>⟨ri ?_,M.below⟩) fun h2=>absurd (h.symm.trans h2) (by decide)) fun n5=>an (fun h=>an (fun _=>fun M=>⟨ri ?_,M.below⟩) fun h2=>absurd (h.symm.trans h2) (by decide)) fun n6=>an (fun h=>fun M=>⟨ri ?_,M.below⟩) fun n7=>fun M=>⟨ri ?_,M.below⟩
 all_goals unfold dh;simp_all
theorem Dk:∀ (k:Nat) (e:aI) (w:World) (cs:List Value),k≤13→bV w cs e→aY (k+1) e≤k→Calls Tryz.prog 281 #[.agg cs.toArray] w (fun r w'=>r=.returned (.int .i64 (aY (k+1) e))∧aj5 w.heap.size w w'):=by
 intro k
 induction k with
 | zero=>
  intro e w cs _ _ hle;obtain⟨k',h⟩:=oJ e 0 hle;cases h
 | succ m ih=>
  intro e w cs hm h hle;obtain⟨_,_,rfl,hn,hk⟩:=h.open;obtain⟨_,_,rfl,-⟩:=aJ.get hn;obtain⟨_,_,rfl,-,hkm,-⟩:=au.form hk (by decide);refine bU [] (fn:=Tryz.f281) Tryz.func281 rfl Tryz.ntmps281 rfl<|fun g1 w1 M1=>?_
  refine lb 0<|an rfl<|lr (ι:=Nat) (fun k=>[(3,.int .i64 (jh (fun i=>match e.kids[i]? with|some k=>aY (m+1) k|none=>0) k)),(9,.int .i64 (k:Int))]) (fun k _=>k≤e.kids.length) (fun k=>e.kids.length-k) 0 (an ⟨⟨rfl,rfl,trivial⟩,fun M=>⟨M,aj6 _⟩⟩ ?_);intro k w M hkl;have hx:=fW (fun i=>match e.kids[i]? with|some k=>aY (m+1) k|none=>0) k
  have hz:=nH (f:=fun i=>match e.kids[i]? with|some k=>aY (m+1) k|none=>0) (b:=(m+1:Nat)) (by omega) k fun i _=>by
   split
   ·exact(m_ (m+1) _).2
   ·omega
  refine an (fun h1=>?_) fun h1=>?_
  ·have hlt:k<e.kids.length:=by simp at h1;omega
   obtain⟨y,hy⟩:∃ y,e.kids[k]?=some y:=⟨_,aj7 hlt⟩;have gY:y∈e.kids:=aj8 hy;obtain⟨k',ek,Yc⟩:=oK hle gY;have ek:k'=m:=by omega
   rw[ek] at Yc;obtain⟨b,o,_,e1,hE,hc⟩:=au.elt hk (by decide) hy;obtain⟨_,_,rfl,hn2,hk2⟩:=hE.open;obtain⟨_,_,rfl,-⟩:=aJ.get hn2;obtain⟨_,_,rfl,-⟩:=au.form hk2 (by decide);refine ia<|an ⟨e1,rfl,hlt⟩<|lc<|an (cL M.below hc)<|ei<|an Aw fun g2 w2 M2=>lb 0<|an ⟨rfl,rfl⟩ fun w3 M3=>lb 0<|an rfl<|cl<|an (ih y _ _ (by omega) (hE.keep M3.below) Yc) fun w4 M4=>Rb M4 (v:=.int .i64 (jh (fun i=>match e.kids[i]? with|some k=>aY (m+1) k|none=>0) (k+1))) (fun a o ho hv=>?_)<|?_
   ·rw[BI ho (aQ hv) (cO hv)]
    have e2:jh (fun i=>match e.kids[i]? with|some k=>aY (m+1) k|none=>0) (k+1)=max (jh (fun i=>match e.kids[i]? with|some k=>aY (m+1) k|none=>0) k) (aY (m+1) y):=by
     show max _ (match e.kids[k]? with|some k=>aY (m+1) k|none=>0)=_;rw[hy]
    rw[e2];congr 3;rw[Int.max_def];split<;>split<;>omega
   ·exact an (by omega)<|bk (k+1) ⟨rfl,rfl,trivial⟩ (fun M=>⟨M.only (.cons _ (.refl _)) (.refl _),hlt⟩) (by dsimp only;omega)
  ·have ek:k=e.kids.length:=by simp at h1;omega
   subst ek;exact an (by omega)<|fun M=>⟨rfl,M.below⟩
theorem DM(e:aI):((((((((decide (dh e.op<0)||decide (e.op=8))||decide (e.op=9))||!decide ((e.kids.length:Int)=dh e.op))||!decide (e.rel=0))||!decide (e.b=0))||!decide ((e.names.length:Int)=0))||!decide (e.set=aq.zero))||(!decide (e.op=1)&&!decide (e.a=0)))=kC e:=by
 have e1:decide (dh e.op=(e.kids.length:Int))=decide ((e.kids.length:Int)=dh e.op):=by rw[decide_eq_decide];exact eq_comm
 have e2:decide (0<(e.names.length:Int))=!decide ((e.names.length:Int)=0):=by rw[aj_];simp only[decide_eq_true_eq,Bool.not_eq_true',decide_eq_false_iff_not];omega
 unfold kC;rw[e1,e2];by_cases hN:dh e.op<0
 ·rw[decide_eq_true hN,decide_eq_false (show ¬ (e.kids.length:Int)=dh e.op by omega)];simp
 ·rw[decide_eq_false hN,Bool.false_or]
theorem tQ(i:Int)(n:Nat):(decide (i<0)||decide ((n:Int)≤i))=!aE i (n:Int):=by
 unfold aE;rw[aj_];simp
theorem Dn:∀ e:aI,∀ (w0:World) (cs:List Value) (c0 c1 c2 c3 c4 c5 c6 c7 c8 c9 c10 c11 c12 c13 c14 c15 c16:Value) (p:aA),aD w0 c0 c1 c2 c3 c4 c5 c6 c7 c8 c9 c10 c11 c12 c13 c14 c15 c16 p→bV w0 cs e→Calls Tryz.prog 282 #[.agg #[c0,c1,c2,c3,c4,c5,c6,c7,c8,c9,c10,c11,c12,c13,c14,c15,c16],.agg cs.toArray] w0 (RI w0 (mA p.bools.length e)):=by
 refine aI.ind fun e ih=>?_
 intro w0 cs c0 c1 c2 c3 c4 c5 c6 c7 c8 c9 c10 c11 c12 c13 c14 c15 c16 p hp h;obtain⟨nv,kv,rfl,vh,hk⟩:=h.open;obtain⟨_,_,rfl,-⟩:=aJ.get vh;obtain⟨_,_,rfl,-,KI,-⟩:=au.form hk (by decide);obtain⟨_,_,_,_,_,_,_,_,_,_,_,_,_,_,_,_,_,_,_,_,_,_,_,_,_,_,_,_,_,_,_,_,_,_,rfl,rfl,rfl,rfl,rfl,rfl,rfl,rfl,rfl,rfl,rfl,rfl,rfl,rfl,rfl,rfl,rfl⟩:=hp.open;refine bU [] (fn:=Tryz.f282) Tryz.func282 rfl Tryz.ntmps282 rfl<|fun g1 w1 M1=>fun g2 w2 M2=>lb 0<|an rfl<|cl<|an (yd _ _) fun w3 M3=>lb 0<|an (fun _=>rfl)<|lb 0<|an (fun _=>rfl)<|lb 0<|an (fun _=>rfl)<|lb 0<|an (fun _=>rfl)<|lb 0<|an (fun _=>rfl)<|lb 0<|an (fun _=>rfl)<|lb 0<|an (fun _=>rfl)<|ei (x:=.agg #[.int .u64 0,.int .u64 0,.int .u64 0,.int .u64 0])<|an (fun _=>bd (by kernel_rfl))<|ei<|an (fun _=>⟨zx,fun w=>g_ e.set w⟩)<|lb 0<|an (fun _=>rfl)<|lb 0<|an (fun _=>rfl)<|an (fun h1 M=>⟨ri (Am ((DM e).symm.trans h1)),M.below⟩) fun h1=>?_
 replace h1:kC e=false:=(DM e).symm.trans h1;refine lb 0<|an rfl<|lb 0<|an (fun _=>rfl)<|lb 0<|an (fun _=>rfl)<|lb 1<|an (fun _=>rfl)<|an (fun h2 M=>⟨ri (Al h1 (by rw[← tQ];exact h2)),M.below⟩) fun h2=>?_
 replace h2:(decide (e.op=1)&&!aE e.a (p.bools.length:Int))=false:=by rw[← tQ];exact h2
 refine lb 0<|an rfl<|lr (ι:=Nat) (fun m=>[(84,.int .i64 (m:Int))]) (fun m _=>m≤e.kids.length∧mB p.bools.length e.kids=mB p.bools.length (e.kids.drop m)) (fun m=>e.kids.length-m) 0 (an ⟨⟨rfl,trivial⟩,fun M=>⟨M,aj6 _,rfl⟩⟩ ?_);rintro m w M ⟨hm,hinv⟩;refine an (fun h3=>?_) fun h3 M=>⟨ri (by rw[oU h1 h2,hinv,show m=e.kids.length by simp at h3;omega,List.drop_length];rfl),M.below⟩
 have hlt:m<e.kids.length:=by simp at h3;omega
 obtain⟨y,hy⟩:∃ y,e.kids[m]?=some y:=⟨_,aj7 hlt⟩;obtain⟨b,o,_,e1,hE,hc⟩:=au.elt hk (by decide) hy;obtain⟨SA,kv',rfl,hn',hk'⟩:=hE.open;obtain⟨_,_,rfl,-⟩:=aJ.get hn';obtain⟨_,_,rfl,-⟩:=au.form hk' (by decide);exact ia<|an ⟨e1,rfl,hlt⟩<|lc<|an (cL M.below hc)<|ei<|an Aw fun g3 w4 M4=>lb 0<|an ⟨rfl,rfl⟩ fun w5 M5=>lb 2<|an rfl<|lb 0<|an rfl<|cl<|an (ih y (aj8 hy) _ _ _ _ _ _ _ _ _ _ _ _ _ _ _ _ _ _ _ p (hp.keep M5.below) (hE.keep M5.below)) fun w6 M6=>an (fun h4 M=>⟨ri (by rw[oU h1 h2,hinv,oV hy,if_neg (by simpa using h4)]),M.below⟩) fun h4=>an (by omega)<|bk (m+1) ⟨rfl,trivial⟩ (fun M=>⟨M.only (.cons _ (.refl _)) (.refl _),by omega,by rw[hinv,oV hy,if_pos (by simpa using h4)]⟩) (by dsimp only;omega)
theorem PL(w0:World)(c0 c1 c2 c3 c4 c5 c6 c7 c8 c9 c10 c11 c12 c13 c14 c15 c16:Value)(p:aA)(hp:aD w0 c0 c1 c2 c3 c4 c5 c6 c7 c8 c9 c10 c11 c12 c13 c14 c15 c16 p)(hd:p.Md):Calls Tryz.prog 184 #[.agg #[c0,c1,c2,c3,c4,c5,c6,c7,c8,c9,c10,c11,c12,c13,c14,c15,c16]] w0 (RI w0 (if 64<p.conds.length then 4 else ah (iV p) p.conds.length 0)):=by
 have hp':=hp;obtain⟨_,_,_,_,_,_,_,_,_,_,_,_,_,_,_,_,_,_,_,_,_,_,_,_,_,_,_,_,_,_,_,_,_,_,rfl,rfl,rfl,rfl,rfl,rfl,rfl,rfl,rfl,rfl,rfl,rfl,rfl,rfl,rfl,rfl,rfl⟩:=hp.open;refine bU [] (fn:=Tryz.f184) Tryz.func184 rfl Tryz.ntmps184 rfl<|fun g1 w1 M1=>lb 0<|an rfl<|an (fun h M=>⟨ri (if_pos (by simp at h;omega)),M.below⟩) fun h=>?_
 have hll:p.conds.length≤64:=by simp at h;omega
 rw[if_neg (by omega)];refine lb 0<|an rfl<|lr (ι:=Nat) (fun m=>[(15,.int .i64 (m:Int))]) (fun m _=>m≤p.conds.length∧ah (iV p) p.conds.length 0=ah (iV p) (p.conds.length-m) m) (fun m=>p.conds.length-m) 0 (an ⟨⟨rfl,trivial⟩,fun M=>⟨M,aj6 _,by rw[Nat.sub_zero]⟩⟩ ?_);rintro m w M ⟨hm,hinv⟩;refine an (fun h2=>?_) fun h2 M=>⟨ri (by rw[hinv,show m=p.conds.length by simp at h2;omega,aT]),M.below⟩
 have hlt:m<p.conds.length:=by simp at h2;omega
 obtain⟨y,hy⟩:∃ y,p.conds[m]?=some y:=⟨_,aj7 hlt⟩;have MP:=hd.lev y (aj8 hy);obtain⟨b,o,_,e1,hE,hc⟩:=au.elt hp.conds (by decide) hy;have Yh:=hE;obtain⟨SA,kv',rfl,hn',hk'⟩:=hE.open;obtain⟨_,_,rfl,-⟩:=aJ.get hn';obtain⟨_,_,rfl,-⟩:=au.form hk' (by decide);have hcf:iV p m=mA p.bools.length y:=by unfold iV fO;rw[hy];exact if_neg (by omega)
 exact ia<|an ⟨e1,rfl,hlt⟩<|lc<|an (cL M.below hc)<|ei<|an Aw fun g3 w4 M4=>lb 0<|an ⟨rfl,rfl⟩ fun w5 M5=>lb 0<|an rfl<|cl<|an (Dk 12 y _ _ (by decide) (Yh.keep M5.below) MP) fun w6 M6=>an (fun h4=>by simp at h4;omega) fun h4=>lb 1<|an rfl<|lb 0<|an rfl<|cl<|an (Dn y _ _ _ _ _ _ _ _ _ _ _ _ _ _ _ _ _ _ _ p (hp'.keep M6.below) (Yh.keep M6.below)) fun w7 M7=>an (fun h5 M=>⟨ri (by rw[hinv,aV hlt (by rw[hcf];simpa using h5),hcf]),M.below⟩) fun h5=>an (by omega)<|bk (m+1) ⟨rfl,trivial⟩ (fun M=>⟨M.only (.cons _ (.refl _)) (.refl _),by omega,hinv.trans (aM hlt (by rw[hcf];simpa using h5))⟩) (by dsimp only;omega)
def vI(e:aI):Bool:=if e.names.length≠0 then false else if e.op=8 then decide (e.set=aq.zero) else if e.op=9 then (decide (e.rel=0)&&decide (e.b=0)) else (((decide (e.a=0)&&decide (e.rel=0))&&decide (e.b=0))&&decide (e.set=aq.zero))
theorem Mk(w0:World)(cs:List Value)(e:aI)(h:bV w0 cs e):Calls Tryz.prog 332 #[.agg cs.toArray] w0 (fun(r:Ending) (w':World)=>r=.returned (.bool (vI e))∧aj5 w0.heap.size w0 w'):=by
 obtain⟨nv,kv,rfl,vh,hk⟩:=h.open;obtain⟨_,_,rfl,-⟩:=aJ.get vh;obtain⟨_,_,rfl,-,KI,-⟩:=au.form hk (by decide);unfold vI;refine bU [] (fn:=Tryz.f332) Tryz.func332 rfl Tryz.ntmps332 rfl<|fun g1 w1 M1=>lb 0<|an rfl<|an (fun h1 M=>⟨rb (if_pos (by simp at h1;simp[h1])),M.below⟩) fun h1=>?_
 rw[if_neg (by simp at h1;simp[h1])];refine lb 0<|an rfl<|an (fun h2=>lb 0<|an rfl<|ei (x:=.agg #[.int .u64 0,.int .u64 0,.int .u64 0,.int .u64 0])<|an (bd (by kernel_rfl))<|ei<|an ⟨zx,fun w=>g_ e.set w⟩<|fun M=>⟨rb (if_pos (by simpa using h2)),M.below⟩) fun h2=>?_
 rw[if_neg (by simpa using h2)];refine lb 0<|an rfl<|an (fun h3=>lb 0<|an rfl<|lb 0<|an (fun _=>rfl)<|fun M=>⟨rb (if_pos (by simpa using h3)),M.below⟩) fun h3=>?_
 rw[if_neg (by simpa using h3)];exact lb 0<|an rfl<|lb 0<|an (fun _=>rfl)<|lb 0<|an (fun _=>rfl)<|lb 0<|an (fun _=>rfl)<|ei (x:=.agg #[.int .u64 0,.int .u64 0,.int .u64 0,.int .u64 0])<|an (fun _=>bd (by kernel_rfl))<|ei<|an (fun _=>⟨zx,fun w=>g_ e.set w⟩)<|fun M=>⟨rfl,M.below⟩
theorem Bo(w:World)(m:Int)(hm:0≤m):Calls Tryz.prog 342 #[.int .i64 m] w (fun e w'=>e=.returned (.int .i64 ((min (m.toNat%5) 3:Nat):Int))∧aj5 w.heap.size w w'):=by
 refine bU [] (fn:=Tryz.f342) Tryz.func342 rfl Tryz.ntmps342 rfl<|ei (x:=.int .i64 ((m.toNat%5:Nat):Int))<|an (fun a w o ho hv=>R8 hm ho (aQ hv) (cO hv))<|Rb (Mm.start w) (v:=.int .i64 ((min (m.toNat%5) 3:Nat):Int)) (fun a o ho hv=>(Nq ho (aQ hv) (cO hv)).trans (by congr 3;split<;>omega))<|fun M=>⟨rfl,M.below⟩
theorem FC(w:World)(cs:List Value)(e:aI)(h:bV w cs e)(n:Nat):Calls Tryz.prog 333 #[.agg cs.toArray,.int .i64 (n:Int)] w (RI w (gV n e)):=by
 obtain⟨nv,kv,rfl,-,-⟩:=h.open;refine bU [] (fn:=Tryz.f333) Tryz.func333 rfl Tryz.ntmps333 rfl<|fun g1 w1 M1=>lb 0<|an rfl<|cl<|an (Mu _ _ _) fun w2 M2=>lb 0<|an (fun _=>rfl)<|cl<|an (fun _=>Mu _ _ _) fun w3 M3=>lb 0<|an (fun _=>rfl)<|cl<|an (fun _=>Mu _ _ _) fun w4 M4=>an (fun h M=>⟨ri ?_,M.below⟩) fun h=>?_
 ·unfold gV;cases h1:aE e.a (n:Int)<;>cases h2:aE e.b (n:Int)<;>cases h3:aE e.rel 5<;>simp_all
 have hb:aE e.a (n:Int)=true∧aE e.b (n:Int)=true∧aE e.rel 5=true:=by
  cases h1:aE e.a (n:Int)<;>cases h2:aE e.b (n:Int)<;>cases h3:aE e.rel 5<;>simp_all
 obtain⟨h1,h2,h3⟩:=hb;have hc:gV n e=qv e.rel e.a.toNat e.b.toNat:=by unfold gV;rw[h1,h2,h3];rfl
 rw[hc];have a0:0≤e.a:=(fP.1 h1).1;have b0:0≤e.b:=(fP.1 h2).1;unfold qv;refine dr (by kernel_rfl)<|lb 0<|an rfl<|cl<|an (fun w' hb M'=>Bo w' _ a0)<|lb 0<|an rfl<|cl<|an (fun w' hb M'=>Bo w' _ b0)<|lb 0<|an (fun _=>rfl)<|cl<|an (fun _ w' hb M'=>Bo w' _ a0)<|lb 0<|an (fun _=>rfl)<|fun w5 ze M5=>an (fun h4 M=>⟨ri ?_,M.below⟩) fun h4=>fun M=>⟨ri ?_,M.below⟩
 all_goals simp only[Bool.or_eq_true,Bool.and_eq_true,Bool.not_eq_true',Bool.or_eq_false_iff,Bool.and_eq_false_iff,Bool.not_eq_false',decide_eq_true_eq,decide_eq_false_iff_not] at h4
 all_goals (repeat' split)<;>first|rfl|omega
def rI(nU nR nT N:Nat)(e:aI):Int:=
 if aE e.a (N:Int)=false then 3
 else if eU nU nR nT e.a.toNat<0 then 13
 else if e.set.within (aq.all (eU nU nR nT e.a.toNat).toNat)=false then 3
 else if bD e.set=false then 2 else 0
theorem Dm(w0:World)(cs:List Value)(e:aI)(he:e.Ok)(h:bV w0 cs e)(c0 c1 c2 c3 c4 c5 c6 c7 c8 c9 c10 c11 c12 c13 c14 c15 c16:Value)(p:aA)(hp:aD w0 c0 c1 c2 c3 c4 c5 c6 c7 c8 c9 c10 c11 c12 c13 c14 c15 c16 p)(N:Nat):Calls Tryz.prog 334 #[.agg #[c0,c1,c2,c3,c4,c5,c6,c7,c8,c9,c10,c11,c12,c13,c14,c15,c16],.agg cs.toArray,.int .i64 (N:Int)] w0 (RI w0 (rI p.users.length p.roles.length p.types.length N e)):=by
 obtain⟨nv,kv,rfl,-,-⟩:=h.open;obtain⟨_,_,_,_,_,_,_,_,_,_,_,_,_,_,_,_,_,_,_,_,_,_,_,_,_,_,_,_,_,_,_,_,_,_,rfl,rfl,rfl,rfl,rfl,rfl,rfl,rfl,rfl,rfl,rfl,rfl,rfl,rfl,rfl,rfl,rfl⟩:=hp.open;refine bU [] (fn:=Tryz.f334) Tryz.func334 rfl Tryz.ntmps334 rfl<|fun g1 w1 M1=>fun g2 w2 M2=>lb 0<|an rfl<|lb 0<|an (fun _=>rfl)<|an (fun h1 M=>⟨ri (by unfold rI;exact if_pos (by have h2:=(tQ e.a N).symm.trans h1;simpa using h2)),M.below⟩) fun h1=>?_
 have hb:aE e.a (N:Int)=true:=by have h2:=(tQ e.a N).symm.trans h1;simpa using h2
 have a0:0≤e.a:=(fP.1 hb).1;obtain⟨k,hk⟩:∃ k,k=e.a.toNat%5:=⟨_,rfl⟩;have hk5:k<5:=by omega
 have MU:∀ n:Nat,eU p.users.length p.roles.length p.types.length e.a.toNat=(n:Int)→rI p.users.length p.roles.length p.types.length N e=if e.set.within (aq.all n)=false then 3 else if bD e.set=false then 2 else 0:=fun n hn=>by
  unfold rI;rw[if_neg (by rw[hb];decide),hn,if_neg (by omega),Int.toNat_natCast]
 unfold eU at MU;rw[← hk] at MU;refine lb 0<|an rfl<|cl<|an (Bo _ _ a0) fun w3 M3=>?_
 rw[← hk];refine an (fun h2=>?_) fun h2=>an (fun h3=>?_) fun h3=>an (fun h4=>?_) fun h4=>?_
 ·have e0:k=0:=by simp at h2;omega
  rw[MU p.users.length (by rw[if_pos e0])];refine lb 1<|an rfl<|dr (by kernel_rfl)<|lb 0<|an rfl<|cl<|an (fun w' hb M'=>Dp w' _)<|cl<|an (fun w' hb M'=>qh w' _ _ he.set' (nj _))<|fun w5 ze M5=>an (fun h5 M=>⟨ri (if_pos (by simpa using h5)),M.below⟩) fun h5=>?_
  rw[if_neg (by simpa using h5)];exact lb 0<|an rfl<|cl<|an (iz _ _) fun w6 M6=>an (fun h6 M=>⟨ri (if_pos (by simpa using h6)),M.below⟩) fun h6=>fun M=>⟨ri (if_neg (by simpa using h6)),M.below⟩
 ·have e0:k=1:=by simp at h3;omega
  rw[MU p.roles.length (by rw[if_neg (by omega),if_pos e0])];refine lb 1<|an rfl<|dr (by kernel_rfl)<|lb 0<|an rfl<|cl<|an (fun w' hb M'=>Dp w' _)<|cl<|an (fun w' hb M'=>qh w' _ _ he.set' (nj _))<|fun w5 ze M5=>an (fun h5 M=>⟨ri (if_pos (by simpa using h5)),M.below⟩) fun h5=>?_
  rw[if_neg (by simpa using h5)];exact lb 0<|an rfl<|cl<|an (iz _ _) fun w6 M6=>an (fun h6 M=>⟨ri (if_pos (by simpa using h6)),M.below⟩) fun h6=>fun M=>⟨ri (if_neg (by simpa using h6)),M.below⟩
 ·have e0:k=2:=by simp at h4;omega
  rw[MU p.types.length (by rw[if_neg (by omega),if_neg (by omega),if_pos e0])];refine lb 1<|an rfl<|dr (by kernel_rfl)<|lb 0<|an rfl<|cl<|an (fun w' hb M'=>Dp w' _)<|cl<|an (fun w' hb M'=>qh w' _ _ he.set' (nj _))<|fun w5 ze M5=>an (fun h5 M=>⟨ri (if_pos (by simpa using h5)),M.below⟩) fun h5=>?_
  rw[if_neg (by simpa using h5)];exact lb 0<|an rfl<|cl<|an (iz _ _) fun w6 M6=>an (fun h6 M=>⟨ri (if_pos (by simpa using h6)),M.below⟩) fun h6=>fun M=>⟨ri (if_neg (by simpa using h6)),M.below⟩
 ·have e0:¬ k=0∧¬ k=1∧¬ k=2:=by simp at h2 h3 h4;omega
  have hc:rI p.users.length p.roles.length p.types.length N e=13:=by
   unfold rI eU;rw[← hk,if_neg (by rw[hb];decide),if_neg e0.1,if_neg e0.2.1,if_neg e0.2.2,if_pos (by decide)]
  exact fun M=>⟨ri hc,M.below⟩
theorem L9(e:aI)(h1:e.op≠1)(h5:e.op≠5)(h6:e.op≠6)(h7:e.op≠7):((decide (dh e.op<0)||!decide ((e.kids.length:Int)=dh e.op))||!vI e)=!ez e:=by
 have e3:∀ n:Nat,decide ((n:Int)=0)=decide (n=0):=fun n=>by rw[decide_eq_decide];omega
 unfold ez vI;by_cases o2:e.op=2∨e.op=3∨e.op=4
 ·rw[if_pos o2];have hk:¬ dh e.op<0:=by rcases o2 with h|h|h<;>rw[h]<;>decide
  have h8:e.op≠8:=by omega
  have h9:e.op≠9:=by omega
  rw[decide_eq_false hk,Bool.false_or,if_neg h8,if_neg h9,e3 e.names.length];by_cases hn:e.names.length=0
  ·rw[if_neg (by simpa using hn),decide_eq_true hn];cases decide ((e.kids.length:Int)=dh e.op)<;>cases decide (e.a=0)<;>cases decide (e.rel=0)<;>cases decide (e.b=0)<;>cases decide (e.set=aq.zero)<;>rfl
  ·rw[if_pos (by simpa using hn),decide_eq_false hn];cases decide ((e.kids.length:Int)=dh e.op)<;>cases decide (e.a=0)<;>cases decide (e.rel=0)<;>cases decide (e.b=0)<;>cases decide (e.set=aq.zero)<;>rfl
 ·rw[if_neg o2];by_cases h8:e.op=8
  ·rw[if_pos h8,if_pos h8,h8,e3 e.names.length,show dh 8=0 from rfl];by_cases hn:e.names.length=0
   ·rw[if_neg (by simpa using hn),decide_eq_true hn];cases decide ((e.kids.length:Int)=0)<;>cases decide (e.set=aq.zero)<;>rfl
   ·rw[if_pos (by simpa using hn),decide_eq_false hn];cases decide ((e.kids.length:Int)=0)<;>cases decide (e.set=aq.zero)<;>rfl
  ·rw[if_neg h8,if_neg h8];by_cases h9:e.op=9
   ·rw[if_pos h9,if_pos h9,h9,e3 e.names.length,show dh 9=0 from rfl];by_cases hn:e.names.length=0
    ·rw[if_neg (by simpa using hn),decide_eq_true hn];cases decide ((e.kids.length:Int)=0)<;>cases decide (e.rel=0)<;>cases decide (e.b=0)<;>rfl
    ·rw[if_pos (by simpa using hn),decide_eq_false hn];cases decide ((e.kids.length:Int)=0)<;>cases decide (e.rel=0)<;>cases decide (e.b=0)<;>rfl
   ·have hk:dh e.op=-1:=by unfold dh;simp[h1,h5,h6,h7,h8,h9];omega
    rw[if_neg h9,if_neg h9,hk];rfl
theorem Ms(N:Nat)(hN:N≤100):∀ e:aI,e.Ok→∀ (w0:World) (cs:List Value) (c0 c1 c2 c3 c4 c5 c6 c7 c8 c9 c10 c11 c12 c13 c14 c15 c16:Value) (p:aA),aD w0 c0 c1 c2 c3 c4 c5 c6 c7 c8 c9 c10 c11 c12 c13 c14 c15 c16 p→bV w0 cs e→Calls Tryz.prog 319 #[.agg #[c0,c1,c2,c3,c4,c5,c6,c7,c8,c9,c10,c11,c12,c13,c14,c15,c16],.agg cs.toArray,.int .i64 (N:Int)] w0 (RI w0 (iU p.users.length p.roles.length p.types.length N e)):=by
 refine aI.ind fun e ih=>?_
 intro he w0 cs c0 c1 c2 c3 c4 c5 c6 c7 c8 c9 c10 c11 c12 c13 c14 c15 c16 p hp h;have h':=h;obtain⟨nv,kv,rfl,vh,hk⟩:=h.open;obtain⟨na,nc,rfl,-⟩:=aJ.get vh;obtain⟨ka,kc,rfl,-,KI,-⟩:=au.form hk (by decide);have hp':=hp;obtain⟨a0,a1,a2,a3,a4,a5,a6,a7,a8,a9,nr,mH,a12,mF,mE,og,n_,k0,k1,k2,k3,k4,k5,k6,k7,k8,k9,k10,k11,k12,k13,k14,k15,k16,rfl,rfl,rfl,rfl,rfl,rfl,rfl,rfl,rfl,rfl,rfl,rfl,rfl,rfl,rfl,rfl,rfl⟩:=hp.open;have bad:ez e=false→iU p.users.length p.roles.length p.types.length N e=2:=fun hf=>mw (by unfold eD;rw[if_pos hf])
 have b1:e.op=1∨e.op=5∨e.op=6∨e.op=7→ez e=false:=fun ho=>by
  unfold ez;rw[if_neg (by omega),if_neg (by omega),if_neg (by omega)]
 refine bU [16] (fn:=Tryz.f319) Tryz.func319 rfl Tryz.ntmps319 rfl<|fun g1 w1 M1=>fun g2 w2 M2=>lb 0<|an rfl<|cl<|an (yd _ _) fun w3 M3=>lb 0<|an rfl<|an (fun h=>an (fun _ M=>⟨ri (bad (b1 (by simp at h;omega))),M.below⟩) fun h2=>absurd (h.symm.trans h2) (by decide)) fun n1=>an (fun h=>an (fun _ M=>⟨ri (bad (b1 (by simp at h;omega))),M.below⟩) fun h2=>absurd (h.symm.trans h2) (by decide)) fun n5=>an (fun h=>an (fun _ M=>⟨ri (bad (b1 (by simp at h;omega))),M.below⟩) fun h2=>absurd (h.symm.trans h2) (by decide)) fun n6=>an (fun h M=>⟨ri (bad (b1 (by simp at h;omega))),M.below⟩) fun n7=>?_
 have hnb:=L9 e (by simpa using n1) (by simpa using n5) (by simpa using n6) (by simpa using n7);refine lb 0<|an (fun _=>rfl)<|lb 0<|an (fun _=>rfl)<|cl<|an (fun _=>Mk _ _ e (h'.keep M3.below)) fun w4 M4=>an (fun hb M=>⟨ri (bad ?_),M.below⟩) fun hb=>?_
 ·have:=hnb.symm.trans hb;simpa using this
 have hf:ez e=true:=by have:=hnb.symm.trans hb;simpa using this
 have key:e.op≠8→e.op≠9→iU p.users.length p.roles.length p.types.length N e=mT p.users.length p.roles.length p.types.length N e.kids:=fun h8 h9=>oP (by unfold eD;rw[if_neg (by rw[hf];decide),if_neg h8,if_neg h9])
 have Zk:e.op=8∨e.op=9→e.kids=[]:=fun ho=>by
  have:dh e.op=0:=by rcases ho with h|h<;>rw[h]<;>rfl
  have hl:(e.kids.length:Int)=dh e.op:=by
   cases hd:decide ((e.kids.length:Int)=dh e.op) with
   | true=>exact of_decide_eq_true hd
   | false=>rw[hd] at hb;simp at hb
  exact List.eq_nil_of_length_eq_zero (by omega)
 refine jo (ι:=Int) (fun x=>[(8,.int .i64 x)]) (fun _=>[(g2,84,#[.int .i64 e.op,.int .i64 e.a,.int .i64 e.rel,.int .i64 e.b,.slice na e.names.length nc,.int .u64 e.set.a,.int .u64 e.set.b,.int .u64 e.set.c,.int .u64 e.set.d,.slice ka e.kids.length kc]),(g1,39,#[.slice a0 p.classes.length k0,.slice a1 p.types.length k1,.slice a2 p.attrs.length k2,.slice a3 p.roles.length k3,.slice a4 p.users.length k4,.slice a5 p.bools.length k5,.slice a6 p.ay.length k6,.slice a7 p.cats.length k7,.slice a8 p.conds.length k8,.slice a9 p.rules.length k9,.slice nr p.trans.length k10,.slice mH p.ak.length k11,.slice a12 p.ranges.length k12,.slice mF p.cons.length k13,.slice mE p.aN.length k14,.slice og p.files.length k15,.slice n_ p.asserts.length k16])]) (fun _=>[]) (fun x _=>iU p.users.length p.roles.length p.types.length N e=if x=0 then mT p.users.length p.roles.length p.types.length N e.kids else x)<|an (lb 0<|an rfl<|an (fun h8=>?_) fun h8=>an (fun h9=>?_) fun h9=>?_) ?_
 ·have o8:e.op=8:=by simpa using h8
  refine lb 0<|an rfl<|cl<|an (FC _ _ e (h'.keep M4.below) N) fun w5 M5=>je _ ⟨rfl,trivial⟩ fun M=>⟨M,?_⟩
  rw[mw (r:=gV N e) (by unfold eD;rw[if_neg (by rw[hf];decide),if_pos o8]),Zk (.inl o8)];split
  ·rename_i h0;rw[h0];rfl
  ·rfl
 ·have o9:e.op=9:=by simpa using h9
  have o8:e.op≠8:=by omega
  refine lb 1<|an rfl<|lb 0<|an rfl<|cl<|an (Dm _ _ e he (h'.keep M4.below) _ _ _ _ _ _ _ _ _ _ _ _ _ _ _ _ _ p (hp'.keep M4.below) N) fun w5 M5=>je _ ⟨rfl,trivial⟩ fun M=>⟨M,?_⟩
  have hs:eD p.users.length p.roles.length p.types.length N e=if rI p.users.length p.roles.length p.types.length N e=0 then none else some (rI p.users.length p.roles.length p.types.length N e):=by
   unfold eD rI;rw[if_neg (by rw[hf];decide),if_neg o8,if_pos o9];by_cases c1:aE e.a (N:Int)=false
   ·simp[c1]
   ·by_cases c2:eU p.users.length p.roles.length p.types.length e.a.toNat<0
    ·simp[c1,c2]
    ·by_cases c3:e.set.within (aq.all (eU p.users.length p.roles.length p.types.length e.a.toNat).toNat)=false
     ·simp[c1,c2,c3]
     ·by_cases c4:bD e.set=false
      ·simp[c1,c2,c3,c4]
      ·simp[c1,c2,c3,c4]
  by_cases c0:rI p.users.length p.roles.length p.types.length N e=0
  ·rw[if_pos c0,oP (by rw[hs,if_pos c0])]
  ·rw[if_neg c0,mw (by rw[hs,if_neg c0])]
 ·exact je 0 ⟨rfl,trivial⟩ fun M=>⟨M,by rw[if_pos rfl];exact key (by simpa using h8) (by simpa using h9)⟩
 rintro x w5 M5 hx;refine lb 0<|an rfl<|lr (ι:=Nat×Int) (fun(m,x)=>[(8,.int .i64 x),(51,.int .i64 (m:Int))]) (fun(m,x) _=>m≤e.kids.length∧iU p.users.length p.roles.length p.types.length N e=if x=0 then mT p.users.length p.roles.length p.types.length N (e.kids.drop m) else x) (fun(m,x)=>e.kids.length-m) (0,x) (an ⟨⟨rfl,rfl,trivial⟩,fun M=>⟨M,aj6 _,hx⟩⟩ ?_);rintro⟨m,x⟩ w M ⟨hm,hinv⟩;refine an (fun h3=>?_) fun h3 M=>⟨ri (by rw[hinv,show m=e.kids.length by simp at h3;omega,List.drop_length];split<;>first|(rename_i h0;rw[h0];rfl)|rfl),M.below⟩
 have hlt:m<e.kids.length:=by simp at h3;omega
 obtain⟨y,hy⟩:∃ y,e.kids[m]?=some y:=⟨_,aj7 hlt⟩;have gY:=aj8 hy;obtain⟨b,o,_,e1,hE,hc⟩:=au.elt hk (by decide) hy;obtain⟨SA,kv',rfl,hn',hk'⟩:=hE.open;obtain⟨_,_,rfl,-⟩:=aJ.get hn';obtain⟨_,_,rfl,-⟩:=au.form hk' (by decide);refine ia<|an ⟨e1,rfl,hlt⟩<|lc<|an (cL M.below hc)<|ei<|an Aw fun g3 w6 M6=>lb 0<|an ⟨rfl,rfl⟩ fun w7 M7=>an (fun h4=>?_) fun h4=>?_
 ·have x0:x=0:=by simpa using h4
  refine lb 2<|an rfl<|lb 0<|an rfl<|cl<|an (ih y gY (he.Hv y gY) _ _ _ _ _ _ _ _ _ _ _ _ _ _ _ _ _ _ _ p (hp'.keep M7.below) (hE.keep M7.below)) fun w8 M8=>an (by omega)<|bk (m+1,_) ⟨rfl,rfl,trivial⟩ (fun M=>⟨M.only (.cons _ (.refl _)) (.refl _),by omega,?_⟩) (by dsimp only;omega)
  rw[hinv,if_pos x0,rW hy]
 ·have x0:¬ x=0:=by simpa using h4
  exact an (by omega)<|bk (m+1,x) ⟨rfl,rfl,trivial⟩ (fun M=>⟨M.only (.cons _ (.refl _)) (.refl _),by omega,by rw[hinv,if_neg x0,if_neg x0]⟩) (by dsimp only;omega)
end Go.Proofs.YtkkmjdceiocnbaaGreatDoor

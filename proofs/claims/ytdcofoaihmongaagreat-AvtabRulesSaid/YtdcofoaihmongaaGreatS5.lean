import Derived.Test.YtdcofoaihmongaaGreatS4
namespace Go.Proofs.YtdcofoaihmongaaGreat
open Go Go.RowKit
def userM (nR nS nC:Nat) (before:List ByteArray) (y:AUsr):Int :=
 if namesM [y.name] before=0 then
  (if rolesB nR y.roles=false then 3
   else if rangeB nS nC y.rng=false then 18 else if levelB nS nC y.dflt=false then 18
   else if domB y.rng.high y.dflt=false then 18 else if domB y.dflt y.rng.low=false then 18 else 0)
 else namesM [y.name] before
def userF (p:APol) (i:Nat):Int:=match p.users[i]? with
 | some y=>userM p.roles.length p.sens.length p.cats.length ((p.users.take i).map (·.name)) y
 | none=>0
def usersM (p:APol):Int:=if 32<p.users.length then 4 else firstE (userF p) p.users.length 0
set_option maxRecDepth 100000 in
set_option maxHeartbeats 4000000 in
theorem users_any (w0:World) (c0 c1 c2 c3 c4 c5 c6 c7 c8 c9 c10 c11 c12 c13 c14 c15 c16:Value) (p:APol) (hp:PolAt w0 c0 c1 c2 c3 c4 c5 c6 c7 c8 c9 c10 c11 c12 c13 c14 c15 c16 p) (hok:p.Ok):Calls Tryz.prog 44 #[.agg #[c0,c1,c2,c3,c4,c5,c6,c7,c8,c9,c10,c11,c12,c13,c14,c15,c16]] w0 (RI w0 (usersM p)):=by
 obtain⟨la4,lk4,rfl,hk4,hm4,hcell4⟩:=SliceAt.form hp.users (by decide)
 have HRET:=hr1 Tryz.prog Tryz.f44 (RI w0 (usersM p)) 71 2 rfl
 refine en Tryz.func44 rfl Tryz.ntmps44 rfl (vs:=[.agg #[c0,c1,c2,c3,.slice la4 p.users.length lk4,c5,c6,c7,c8,c9,c10,c11,c12,c13,c14,c15,c16]]) rfl fun _ F=>?_
 have M:=Mm.start w0
 refine wp_seq_k fun K1 hK1 =>
  wk_region <|
  kbA (on rfl) rfl (F.u rf) rfl F rfl M fun g1 _ _ F M =>
  xA (v:=.int .i64 0) F rf rf rf fun _ F =>
  wpList_nil <|
  hK1 _ _ ?_
 refine wp_seq_k fun K2 hK2 =>
  wp_seq_k fun K3 hK3 =>
  wk_region <|
  xF 4 F rf rf rf u39 rf sz26 rf fun _ F =>
  xL F (M.b 0 rfl) rf rf rf u26 rf rf fun _ F =>
  kz F rf (e_lenSl rfl (F.u rf) u26) fun _ F =>
  kz F rf (e_gtr rfl (F.u rf) rfl) fun _ F =>
  wpList_nil <|
  hK3 _ _ ?_
 refine wp_cond_split (F.e 10 rfl) (fun hc2=>?_) (fun hc2=>?_)
 ·
  have hd3:=of_decide_eq_true hc2
  refine wp_seq_k fun K4 hK4 =>
   wk_region <|
   xA (v:=.int .i64 4) F rf rf rf fun _ F =>
   wpList_nil <|
   hK4 _ _ ?_
  refine wp_ret <|
   HRET _ _ _ _ F rfl ?_
  exact⟨ret_int (by unfold usersM;rw[if_pos (by omega)]),M.below⟩
 ·
  have hd4:=of_decide_eq_false hc2
  refine wp_skip <|
   hK2 _ _ ?_
  refine wp_seq_k fun K5 hK5 =>
   wk_region <|
   xA (v:=.slice none 0 0) F rf rf rf fun _ F =>
   wpList_nil <| ?_
  have M:=M.nilRow 9 1
  refine hK5 _ _ ?_
  refine wp_seq_k fun K6 hK6 =>
   wp_seq_k fun K7 hK7 =>
   wk_region <|
   xA (v:=.int .i64 0) F rf rf rf fun _ F =>
   wpList_nil <|
   hK7 _ _ ?_
  refine wp_block <| ?_
  refine wk_loop (ι:=Nat×Value×List ByteArray) (fun | (m,v,l),a,w=>Fs a 71 [(1,.pointer (some ⟨g1,0,none⟩)),(3,v),(4,.int .i64 (m:Int))]∧Mm w0 w [(g1,39,#[c0,c1,c2,c3,.slice la4 p.users.length lk4,c5,c6,c7,c8,c9,c10,c11,c12,c13,c14,c15,c16])] [⟨v,9,1,l.length,l.flatMap strCell⟩]∧m≤p.users.length∧l=(p.users.take m).map (·.name)∧firstE (userF p) p.users.length 0=firstE (userF p) (p.users.length-m) m) (fun | (m,v,l)=>p.users.length-m) (0,.slice none 0 0,[]) ⟨F.sub ⟨rfl,rfl,rfl,trivial⟩,M,Nat.zero_le _,rfl,(by rw[Nat.sub_zero])⟩ ?_
  (repeat clear F);(repeat clear M)
  rintro⟨m,v,l⟩ _ _ ⟨F,M,hm,hl,hinv⟩
  refine wp_seq_k fun K8 hK8 =>
   wp_seq_k fun K9 hK9 =>
   wk_region <|
   xM F rf rf rf fun _ F =>
   xF 4 F rf rf rf u39 rf sz26 rf fun _ F =>
   xL F (M.b 0 rfl) rf rf rf u26 rf rf fun _ F =>
   kz F rf (e_lenSl rfl (F.u rf) u26) fun _ F =>
   kz F rf (e_lss rfl (F.u rf) (F.u rf)) fun _ F =>
   wpList_nil <|
   hK9 _ _ ?_
  refine wp_cond_split (F.e 15 rfl) (fun hc5=>?_) (fun hc5=>?_)
  ·
   have hd6:=of_decide_eq_true hc5
   refine wp_skip <|
    hK8 _ _ ?_
   refine wp_seq_k fun K10 hK10 =>
    wp_block <|
    wp_seq_k fun K11 hK11=>?_
   have hlt:m<p.users.length:=by omega
   obtain⟨y,hy⟩:∃ y,p.users[m]?=some y:=⟨_,List.getElem?_eq_getElem hlt⟩
   obtain⟨b4,ob4,rfl,hcb4⟩:=hcell4 m hlt
   have hrb4:∀ j uu,[.string y.name,.int .u64 y.roles.a,.int .u64 y.roles.b,.int .u64 y.roles.c,.int .u64 y.roles.d,.int .i64 y.dflt.sens,.int .u64 y.dflt.cats,.int .i64 y.rng.low.sens,.int .u64 y.rng.low.cats,.int .i64 y.rng.high.sens,.int .u64 y.rng.high.cats][j]?=some uu→w0.cell? ⟨b4,ob4+m*11+j,none⟩=some uu:=fun j u hu=>hcb4 j u (by
    rw[flat_at AUsr.cells_len hy j (List.getElem?_eq_some_iff.1 hu).1]
    exact hu)
   clear hcb4
   have oky:=hok.users y (List.mem_of_getElem? hy)
   have hcf:userF p m=userM p.roles.length p.sens.length p.cats.length l y:=by unfold userF;rw[hy,hl]
   have hlm:l.length≤4096:=by rw[hl,List.length_map,List.length_take];omega
   refine wk_region <|
    xF 4 F rf rf rf u39 rf sz26 rf fun _ F =>
    xL F (M.b 0 rfl) rf rf rf u26 rf rf fun _ F =>
    xM F rf rf rf fun _ F =>
    kz F rf (e_indexAddr (i:=m) rfl (F.u rf) (F.u rf) (by omega) u26 sz192) fun _ F =>
    kz F rf (e_loadN [.string y.name,.int .u64 y.roles.a,.int .u64 y.roles.b,.int .u64 y.roles.c,.int .u64 y.roles.d,.int .i64 y.dflt.sens,.int .u64 y.dflt.cats,.int .i64 y.rng.low.sens,.int .u64 y.rng.low.cats,.int .i64 y.rng.high.sens,.int .u64 y.rng.high.cats] rfl (F.u rf) u192 rfl sz192 (lat M.below hrb4)) fun _ F =>
    kaA (on rfl) rfl zr192 rfl F rfl M fun g7 _ _ F M =>
    ksA (on rfl) rfl (F.u rf) (F.u rf) F M 0 rfl sz192 rfl rfl rfl fun _ M =>
    wpList_nil <|
    hK11 _ _ ?_
   refine wp_seq_k fun K12 hK12 =>
    wp_seq_k fun K13 hK13 =>
    wk_region <|
    xF 0 F rf rf rf u192 rf sz9 rf fun _ F =>
    xL F (M.b 0 rfl) rf rf rf u9 rf rf fun _ F =>
    xS F M rf rf rf u28 sz9 zr9 rf rf fun g8 _ _ F M =>
    xM F rf rf rf fun _ F =>
    xC F M rf rf q101 (args2 (F.u rf) (F.u rf)) (names_any _ _ _ ([y.name]) (l) (one_str (M.b 0 rfl)) (own_strs (M.r 0 rfl)) (one_ok oky.name)) fun _ _ F M =>
    xA F rf rf rf fun _ F =>
    wpList_nil <|
    hK13 _ _ ?_
   refine wp_seq_k fun K14 hK14 =>
    wk_region <|
    xM F rf rf rf fun _ F =>
    kz F rf (e_neI rfl (F.u rf) rfl) fun _ F =>
    wpList_nil <|
    hK14 _ _ ?_
   refine wp_cond_split (F.e 29 rfl) (fun hc9=>?_) (fun hc9=>?_)
   ·
    have hd10:=of_decide_eq_false (show decide (namesM [y.name] l=0)=false by simpa using hc9)
    have hk11:(decide (namesM [y.name] l=0))=false:=by simpa using hc9
    refine wp_seq_k fun K15 hK15 =>
     wk_region <|
     xM F rf rf rf fun _ F =>
     xA F rf rf rf fun _ F =>
     wpList_nil <|
     hK15 _ _ ?_
    refine wp_ret <|
     HRET _ _ _ _ F rfl ?_
    have hv:userF p m=namesM [y.name] l:=by
     rw[hcf];unfold userM;repeat (first | with_reducible rfl | assumption | (with_reducible refine Eq.trans (if_pos ?_) ?_;focus (first | assumption | (refine wk_nf ?_;assumption) | (refine wk_nt ?_;assumption) | omega | (simp[hd10];done))) | (with_reducible refine Eq.trans (if_neg ?_) ?_;focus (first | assumption | (refine wk_nf ?_;assumption) | (refine wk_nt ?_;assumption) | omega | (simp[hd4,hd6,hd10];done))) | omega)
    exact⟨ret_int (by unfold usersM;rw[if_neg (by omega),hinv,firstE_at hlt (by rw[hv];omega),hv]),M.below⟩
   ·
    have hd12:=of_decide_eq_true (show decide (namesM [y.name] l=0)=true by simpa using hc9)
    have hk13:(decide (namesM [y.name] l=0))=true:=by simpa using hc9
    refine wp_skip <|
     hK12 _ _ ?_
    refine wp_seq_k fun K16 hK16 =>
     wk_region <|
     xM F rf rf rf fun _ F =>
     xF 0 F rf rf rf u192 rf sz9 rf fun _ F =>
     xL F (M.b 1 rfl) rf rf rf u9 rf rf fun _ F =>
     xS F M rf rf rf u28 sz9 zr9 rf rf fun g14 _ _ F M =>
     kp (on rfl) rfl u28 inf9 rfl M 0 rfl (F.u rf) (F.u rf) (M.slice 0 rfl rfl rfl (by simp[maxLen])) ⟨by unfold maxLen;omega,by omega⟩ rfl F rfl fun v15 _ _ F M =>
     xA F rf rf rf fun _ F =>
     wpList_nil <|
     hK16 _ _ ?_
    refine wp_seq_k fun K17 hK17 =>
     wp_seq_k fun K18 hK18 =>
     wk_region <|
     xW F (M.b 3 rfl) rf rf rf u39 rf sz39 rf fun _ F =>
     xF 1 F rf rf rf u192 rf sz54 rf fun _ F =>
     kz F rf (e_loadN [.int .u64 y.roles.a,.int .u64 y.roles.b,.int .u64 y.roles.c,.int .u64 y.roles.d] rfl (F.u rf) u54 rfl sz54 (whole_part (M.b 2 rfl) rfl)) fun _ F =>
     xC F M rf rf q106 (args2 (F.u rf) (F.u rf)) (processRoles_any _ _ _ _ _ _ _ _ _ _ _ _ _ _ _ _ _ _ p (hp.keep M.below) hok y.roles oky.roles) fun _ _ F M =>
     kz F rf (e_not rfl (F.u rf)) fun _ F =>
     wpList_nil <|
     hK18 _ _ ?_
    refine wp_cond_split (F.e 40 rfl) (fun hc16=>?_) (fun hc16=>?_)
    ·
     have hd17:(rolesB p.roles.length y.roles)=false:=by simpa using hc16
     refine wp_seq_k fun K19 hK19 =>
      wk_region <|
      xA (v:=.int .i64 3) F rf rf rf fun _ F =>
      wpList_nil <|
      hK19 _ _ ?_
     refine wp_ret <|
      HRET _ _ _ _ F rfl ?_
     have hv:userF p m=3:=by
      rw[hcf];unfold userM;repeat (first | with_reducible rfl | assumption | (with_reducible refine Eq.trans (if_pos ?_) ?_;focus (first | assumption | (refine wk_nf ?_;assumption) | (refine wk_nt ?_;assumption) | omega | (simp[hd4,hd6,hd12,hd17];done))) | (with_reducible refine Eq.trans (if_neg ?_) ?_;focus (first | assumption | (refine wk_nf ?_;assumption) | (refine wk_nt ?_;assumption) | omega | (simp[hd4,hd6,hd12,hd17];done))) | omega)
     exact⟨ret_int (by unfold usersM;rw[if_neg (by omega),hinv,firstE_at hlt (by rw[hv];omega),hv]),M.below⟩
    ·
     have hd18:(rolesB p.roles.length y.roles)=true:=by simpa using hc16
     refine wp_skip <|
      hK17 _ _ ?_
     refine wp_seq_k fun K20 hK20 =>
      wk_region <|
      xW F (M.b 3 rfl) rf rf rf u39 rf sz39 rf fun _ F =>
      xF 7 F rf rf rf u192 rf sz72 rf fun _ F =>
      kz F rf (e_loadN [.int .i64 y.rng.low.sens,.int .u64 y.rng.low.cats,.int .i64 y.rng.high.sens,.int .u64 y.rng.high.cats] rfl (F.u rf) u72 rfl sz72 (whole_part (M.b 2 rfl) rfl)) fun _ F =>
      xC F M rf rf q107 (args2 (F.u rf) (F.u rf)) (range_any _ _ _ _ _ _ _ _ _ _ _ _ _ _ _ _ _ _ p (hp.keep M.below) y.rng oky.rng) fun _ _ F M =>
      kz F rf (e_not rfl (F.u rf)) fun _ F =>
      xM F rf rf rf fun _ F=>?_
     cases hq19:(!(rangeB p.sens.length p.cats.length y.rng):Bool) with
     | true =>
      have F:=F.eq 46 rfl (congrArg Value.bool hq19)
      have hd20:(rangeB p.sens.length p.cats.length y.rng)=false:=by simpa using hq19
      refine ko rfl rfl rfl (F.g 46 rfl) rfl F rfl fun _ F =>
       ko rfl rfl rfl (F.g 46 rfl) rfl F rfl fun _ F =>
       ko rfl rfl rfl (F.g 46 rfl) rfl F rfl fun _ F =>
       ko rfl rfl rfl (F.g 46 rfl) rfl F rfl fun _ F =>
       ko rfl rfl rfl (F.g 46 rfl) rfl F rfl fun _ F =>
       ke (u:=.bool true) (on rfl) (e_pick rfl (F.u rf) rfl (F.u rf)) rfl F rfl rfl fun _ F =>
       xM F rf rf rf fun _ F =>
       ko rfl rfl rfl (F.g 53 rfl) rfl F rfl fun _ F =>
       ko rfl rfl rfl (F.g 53 rfl) rfl F rfl fun _ F =>
       ko rfl rfl rfl (F.g 53 rfl) rfl F rfl fun _ F =>
       ko rfl rfl rfl (F.g 53 rfl) rfl F rfl fun _ F =>
       ko rfl rfl rfl (F.g 53 rfl) rfl F rfl fun _ F =>
       ko rfl rfl rfl (F.g 53 rfl) rfl F rfl fun _ F =>
       ko rfl rfl rfl (F.g 53 rfl) rfl F rfl fun _ F =>
       ke (u:=.bool true) (on rfl) (e_pick rfl (F.u rf) rfl (F.u rf)) rfl F rfl rfl fun _ F =>
       xM F rf rf rf fun _ F =>
       ko rfl rfl rfl (F.g 62 rfl) rfl F rfl fun _ F =>
       ko rfl rfl rfl (F.g 62 rfl) rfl F rfl fun _ F =>
       ko rfl rfl rfl (F.g 62 rfl) rfl F rfl fun _ F =>
       ko rfl rfl rfl (F.g 62 rfl) rfl F rfl fun _ F =>
       ko rfl rfl rfl (F.g 62 rfl) rfl F rfl fun _ F =>
       ko rfl rfl rfl (F.g 62 rfl) rfl F rfl fun _ F =>
       ko rfl rfl rfl (F.g 62 rfl) rfl F rfl fun _ F =>
       ke (u:=.bool true) (on rfl) (e_pick rfl (F.u rf) rfl (F.u rf)) rfl F rfl rfl fun _ F =>
       wpList_nil <|
       hK20 _ _ ?_
      refine wp_cond_true (F.e 70 rfl) ?_
      refine wp_seq_k fun K21 hK21 =>
       wk_region <|
       xA (v:=.int .i64 18) F rf rf rf fun _ F =>
       wpList_nil <|
       hK21 _ _ ?_
      refine wp_ret <|
       HRET _ _ _ _ F rfl ?_
      have hv:userF p m=18:=by
       rw[hcf];unfold userM;repeat (first | with_reducible rfl | assumption | (with_reducible refine Eq.trans (if_pos ?_) ?_;focus (first | assumption | (refine wk_nf ?_;assumption) | (refine wk_nt ?_;assumption) | omega | (simp[hd18];done))) | (with_reducible refine Eq.trans (if_neg ?_) ?_;focus (first | assumption | (refine wk_nf ?_;assumption) | (refine wk_nt ?_;assumption) | omega | (simp[hd4,hd6,hd12,hd18,hd20];done))) | omega)
      exact⟨ret_int (by unfold usersM;rw[if_neg (by omega),hinv,firstE_at hlt (by rw[hv];omega),hv]),M.below⟩
     | false =>
      have F:=F.eq 46 rfl (congrArg Value.bool hq19)
      have hd21:(rangeB p.sens.length p.cats.length y.rng)=true:=by simpa using hq19
      refine kv (gn rfl rfl (F.g 46 rfl)) (e_loadW rfl (F.u rf) u39 rfl (M.b 3 rfl) sz39 rfl) rfl F rfl fun _ F =>
       ke (u:=.pointer (some ⟨g7,5,none⟩)) (gn rfl rfl (F.g 46 rfl)) (e_field rfl (F.u rf) u192 rfl sz70) rfl F rfl rfl fun _ F =>
       kv (gn rfl rfl (F.g 46 rfl)) (e_loadN [.int .i64 y.dflt.sens,.int .u64 y.dflt.cats] rfl (F.u rf) u70 rfl sz70 (whole_part (M.b 2 rfl) rfl)) rfl F rfl fun _ F =>
       kc (gn rfl rfl (F.g 46 rfl)) (e_call rfl Tryz.func108 nm108 rfl (args2 (F.u rf) (F.u rf))) (level_any _ _ _ _ _ _ _ _ _ _ _ _ _ _ _ _ _ _ p (hp.keep M.below) y.dflt oky.dflt) rfl F rfl M fun _ _ F M =>
       kv (gn rfl rfl (F.g 46 rfl)) (e_not rfl (F.u rf)) rfl F rfl fun _ F =>
       ke (u:=.bool (!(levelB p.sens.length p.cats.length y.dflt))) (on rfl) (e_pick rfl (F.u rf) rfl (F.u rf)) rfl F rfl rfl fun _ F =>
       xM F rf rf rf fun _ F=>?_
      cases hq22:(!(levelB p.sens.length p.cats.length y.dflt):Bool) with
      | true =>
       have F:=F.eq 53 rfl (congrArg Value.bool hq22)
       have hd23:(levelB p.sens.length p.cats.length y.dflt)=false:=by simpa using hq22
       refine ko rfl rfl rfl (F.g 53 rfl) rfl F rfl fun _ F =>
        ko rfl rfl rfl (F.g 53 rfl) rfl F rfl fun _ F =>
        ko rfl rfl rfl (F.g 53 rfl) rfl F rfl fun _ F =>
        ko rfl rfl rfl (F.g 53 rfl) rfl F rfl fun _ F =>
        ko rfl rfl rfl (F.g 53 rfl) rfl F rfl fun _ F =>
        ko rfl rfl rfl (F.g 53 rfl) rfl F rfl fun _ F =>
        ko rfl rfl rfl (F.g 53 rfl) rfl F rfl fun _ F =>
        ke (u:=.bool true) (on rfl) (e_pick rfl (F.u rf) rfl (F.u rf)) rfl F rfl rfl fun _ F =>
        xM F rf rf rf fun _ F =>
        ko rfl rfl rfl (F.g 62 rfl) rfl F rfl fun _ F =>
        ko rfl rfl rfl (F.g 62 rfl) rfl F rfl fun _ F =>
        ko rfl rfl rfl (F.g 62 rfl) rfl F rfl fun _ F =>
        ko rfl rfl rfl (F.g 62 rfl) rfl F rfl fun _ F =>
        ko rfl rfl rfl (F.g 62 rfl) rfl F rfl fun _ F =>
        ko rfl rfl rfl (F.g 62 rfl) rfl F rfl fun _ F =>
        ko rfl rfl rfl (F.g 62 rfl) rfl F rfl fun _ F =>
        ke (u:=.bool true) (on rfl) (e_pick rfl (F.u rf) rfl (F.u rf)) rfl F rfl rfl fun _ F =>
        wpList_nil <|
        hK20 _ _ ?_
       refine wp_cond_true (F.e 70 rfl) ?_
       refine wp_seq_k fun K22 hK22 =>
        wk_region <|
        xA (v:=.int .i64 18) F rf rf rf fun _ F =>
        wpList_nil <|
        hK22 _ _ ?_
       refine wp_ret <|
        HRET _ _ _ _ F rfl ?_
       have hv:userF p m=18:=by
        rw[hcf];unfold userM;repeat (first | with_reducible rfl | assumption | (with_reducible refine Eq.trans (if_pos ?_) ?_;focus (first | assumption | (refine wk_nf ?_;assumption) | (refine wk_nt ?_;assumption) | omega | (simp[hd18,hd21];done))) | (with_reducible refine Eq.trans (if_neg ?_) ?_;focus (first | assumption | (refine wk_nf ?_;assumption) | (refine wk_nt ?_;assumption) | omega | (simp[hd4,hd6,hd12,hd18,hd21,hd23];done))) | omega)
       exact⟨ret_int (by unfold usersM;rw[if_neg (by omega),hinv,firstE_at hlt (by rw[hv];omega),hv]),M.below⟩
      | false =>
       have F:=F.eq 53 rfl (congrArg Value.bool hq22)
       have hd24:(levelB p.sens.length p.cats.length y.dflt)=true:=by simpa using hq22
       refine ke (u:=.pointer (some ⟨g7,7,none⟩)) (gn rfl rfl (F.g 53 rfl)) (e_field rfl (F.u rf) u192 rfl sz72) rfl F rfl rfl fun _ F =>
        ke (u:=.pointer (some ⟨g7,9,none⟩)) (gn rfl rfl (F.g 53 rfl)) (e_field rfl (F.u rf) u72 rfl sz70) rfl F rfl rfl fun _ F =>
        kv (gn rfl rfl (F.g 53 rfl)) (e_loadN [.int .i64 y.rng.high.sens,.int .u64 y.rng.high.cats] rfl (F.u rf) u70 rfl sz70 (whole_part (M.b 2 rfl) rfl)) rfl F rfl fun _ F =>
        ke (u:=.pointer (some ⟨g7,5,none⟩)) (gn rfl rfl (F.g 53 rfl)) (e_field rfl (F.u rf) u192 rfl sz70) rfl F rfl rfl fun _ F =>
        kv (gn rfl rfl (F.g 53 rfl)) (e_loadN [.int .i64 y.dflt.sens,.int .u64 y.dflt.cats] rfl (F.u rf) u70 rfl sz70 (whole_part (M.b 2 rfl) rfl)) rfl F rfl fun _ F =>
        kc (gn rfl rfl (F.g 53 rfl)) (e_call rfl Tryz.func109 nm109 rfl (args2 (F.u rf) (F.u rf))) (dom_any _ y.rng.high y.dflt oky.rng.high oky.dflt) rfl F rfl M fun _ _ F M =>
        kv (gn rfl rfl (F.g 53 rfl)) (e_not rfl (F.u rf)) rfl F rfl fun _ F =>
        ke (u:=.bool (!(domB y.rng.high y.dflt))) (on rfl) (e_pick rfl (F.u rf) rfl (F.u rf)) rfl F rfl rfl fun _ F =>
        xM F rf rf rf fun _ F=>?_
       cases hq25:(!(domB y.rng.high y.dflt):Bool) with
       | true =>
        have F:=F.eq 62 rfl (congrArg Value.bool hq25)
        have hd26:(domB y.rng.high y.dflt)=false:=by simpa using hq25
        refine ko rfl rfl rfl (F.g 62 rfl) rfl F rfl fun _ F =>
         ko rfl rfl rfl (F.g 62 rfl) rfl F rfl fun _ F =>
         ko rfl rfl rfl (F.g 62 rfl) rfl F rfl fun _ F =>
         ko rfl rfl rfl (F.g 62 rfl) rfl F rfl fun _ F =>
         ko rfl rfl rfl (F.g 62 rfl) rfl F rfl fun _ F =>
         ko rfl rfl rfl (F.g 62 rfl) rfl F rfl fun _ F =>
         ko rfl rfl rfl (F.g 62 rfl) rfl F rfl fun _ F =>
         ke (u:=.bool true) (on rfl) (e_pick rfl (F.u rf) rfl (F.u rf)) rfl F rfl rfl fun _ F =>
         wpList_nil <|
         hK20 _ _ ?_
        refine wp_cond_true (F.e 70 rfl) ?_
        refine wp_seq_k fun K23 hK23 =>
         wk_region <|
         xA (v:=.int .i64 18) F rf rf rf fun _ F =>
         wpList_nil <|
         hK23 _ _ ?_
        refine wp_ret <|
         HRET _ _ _ _ F rfl ?_
        have hv:userF p m=18:=by
         rw[hcf];unfold userM;repeat (first | with_reducible rfl | assumption | (with_reducible refine Eq.trans (if_pos ?_) ?_;focus (first | assumption | (refine wk_nf ?_;assumption) | (refine wk_nt ?_;assumption) | omega | (simp[hd18,hd21,hd24];done))) | (with_reducible refine Eq.trans (if_neg ?_) ?_;focus (first | assumption | (refine wk_nf ?_;assumption) | (refine wk_nt ?_;assumption) | omega | (simp[hd4,hd6,hd12,hd18,hd21,hd24,hd26];done))) | omega)
        exact⟨ret_int (by unfold usersM;rw[if_neg (by omega),hinv,firstE_at hlt (by rw[hv];omega),hv]),M.below⟩
       | false =>
        have F:=F.eq 62 rfl (congrArg Value.bool hq25)
        have hd27:(domB y.rng.high y.dflt)=true:=by simpa using hq25
        refine ke (u:=.pointer (some ⟨g7,5,none⟩)) (gn rfl rfl (F.g 62 rfl)) (e_field rfl (F.u rf) u192 rfl sz70) rfl F rfl rfl fun _ F =>
         kv (gn rfl rfl (F.g 62 rfl)) (e_loadN [.int .i64 y.dflt.sens,.int .u64 y.dflt.cats] rfl (F.u rf) u70 rfl sz70 (whole_part (M.b 2 rfl) rfl)) rfl F rfl fun _ F =>
         ke (u:=.pointer (some ⟨g7,7,none⟩)) (gn rfl rfl (F.g 62 rfl)) (e_field rfl (F.u rf) u192 rfl sz72) rfl F rfl rfl fun _ F =>
         ke (u:=.pointer (some ⟨g7,7,none⟩)) (gn rfl rfl (F.g 62 rfl)) (e_field rfl (F.u rf) u72 rfl sz70) rfl F rfl rfl fun _ F =>
         kv (gn rfl rfl (F.g 62 rfl)) (e_loadN [.int .i64 y.rng.low.sens,.int .u64 y.rng.low.cats] rfl (F.u rf) u70 rfl sz70 (whole_part (M.b 2 rfl) rfl)) rfl F rfl fun _ F =>
         kc (gn rfl rfl (F.g 62 rfl)) (e_call rfl Tryz.func109 nm109 rfl (args2 (F.u rf) (F.u rf))) (dom_any _ y.dflt y.rng.low oky.dflt oky.rng.low) rfl F rfl M fun _ _ F M =>
         kv (gn rfl rfl (F.g 62 rfl)) (e_not rfl (F.u rf)) rfl F rfl fun _ F =>
         ke (u:=.bool (!(domB y.dflt y.rng.low))) (on rfl) (e_pick rfl (F.u rf) rfl (F.u rf)) rfl F rfl rfl fun _ F =>
         wpList_nil <|
         hK20 _ _ ?_
        refine wp_cond_split (F.e 70 rfl) (fun hc28=>?_) (fun hc28=>?_)
        ·
         have hd29:(domB y.dflt y.rng.low)=false:=by simpa using hc28
         refine wp_seq_k fun K24 hK24 =>
          wk_region <|
          xA (v:=.int .i64 18) F rf rf rf fun _ F =>
          wpList_nil <|
          hK24 _ _ ?_
         refine wp_ret <|
          HRET _ _ _ _ F rfl ?_
         have hv:userF p m=18:=by
          rw[hcf];unfold userM;repeat (first | with_reducible rfl | assumption | (with_reducible refine Eq.trans (if_pos ?_) ?_;focus (first | assumption | (refine wk_nf ?_;assumption) | (refine wk_nt ?_;assumption) | omega | (simp[hd18,hd21,hd24,hd27];done))) | (with_reducible refine Eq.trans (if_neg ?_) ?_;focus (first | assumption | (refine wk_nf ?_;assumption) | (refine wk_nt ?_;assumption) | omega | (simp[hd4,hd6,hd12,hd18,hd21,hd24,hd27,hd29];done))) | omega)
         exact⟨ret_int (by unfold usersM;rw[if_neg (by omega),hinv,firstE_at hlt (by rw[hv];omega),hv]),M.below⟩
        ·
         have hd30:(domB y.dflt y.rng.low)=true:=by simpa using hc28
         refine wp_skip <|
          hK10 _ _ ?_
         refine wk_region <|
          xM F rf rf rf fun _ F =>
          ke (on rfl) (e_add rfl (F.u rf) rfl) rfl F rfl (congrArg (Value.int .i64) (wrap_i64 (by omega))) fun _ F =>
          xA F rf rf rf fun _ F =>
          wpList_nil <| ?_
         have hv:userF p m=0:=by
          rw[hcf];unfold userM;repeat (first | with_reducible rfl | assumption | (with_reducible refine Eq.trans (if_pos ?_) ?_;focus (first | assumption | (refine wk_nf ?_;assumption) | (refine wk_nt ?_;assumption) | omega | (simp[hd18,hd21,hd24,hd27,hd30];done))) | (with_reducible refine Eq.trans (if_neg ?_) ?_;focus (first | assumption | (refine wk_nf ?_;assumption) | (refine wk_nt ?_;assumption) | omega | (simp[hd4,hd6,hd12,hd18,hd21,hd24,hd27,hd30];done))) | omega)
         exact⟨(m+1,v15,l++[y.name]),⟨F.sub ⟨rfl,rfl,rfl,trivial⟩,((M.only (.cons _ (.cons _ (.cons _ (.cons_cons _ .slnil)))) (.cons_cons _ .slnil))).cast rfl (by rw[List.length_append,List.flatMap_append];rfl),by omega,by rw[take_snoc hy,List.map_append,← hl];rfl,hinv.trans (firstE_next hlt hv)⟩,by show p.users.length-(m+1)<p.users.length-m;omega⟩
  ·
   have hd31:=of_decide_eq_false hc5
   refine wp_exit <|
    hK6 _ _ ?_
   refine wp_seq_k fun K25 hK25 =>
    wk_region <|
    xA (v:=.int .i64 0) F rf rf rf fun _ F =>
    wpList_nil <|
    hK25 _ _ ?_
   refine wp_ret <|
    HRET _ _ _ _ F rfl ?_
   exact⟨ret_int (by unfold usersM;rw[if_neg (by omega),hinv,show m=p.users.length by omega,firstE_stop]),M.below⟩
end Go.Proofs.YtdcofoaihmongaaGreat
namespace Go.Proofs.YtdcofoaihmongaaGreat
open Go Go.RowKit
def conM (nU nR nT:Nat) (cl:List ACls) (y:ACon):Int :=
 if vectorB cl y.cls y.perms=false then 3 else if ¬ y.val=decide (y.perms=0) then 2 else expressionM nU nR nT y.val y.expr
def conF (p:APol) (i:Nat):Int:=match p.cons[i]? with
 | some y=>conM p.users.length p.roles.length p.types.length p.classes y
 | none=>0
def consM (p:APol):Int:=if 64<p.cons.length then 4 else firstE (conF p) p.cons.length 0
set_option maxRecDepth 100000 in
set_option maxHeartbeats 4000000 in
theorem constraints_any (w:World) (c0 c1 c2 c3 c4 c5 c6 c7 c8 c9 c10 c11 c12 c13 c14 c15 c16:Value) (p:APol) (hp:PolAt w c0 c1 c2 c3 c4 c5 c6 c7 c8 c9 c10 c11 c12 c13 c14 c15 c16 p) (hok:p.Ok):Calls Tryz.prog 49 #[.agg #[c0,c1,c2,c3,c4,c5,c6,c7,c8,c9,c10,c11,c12,c13,c14,c15,c16]] w fun e w'=>e=.returned (.int .i64 (consM p))∧RowKit.Below w.heap.size w w':=by
 obtain⟨a13',k13',hce,-,-,hcell⟩:=RowsAt.form hp.cons (by decide)
 have HPA0:=hp
 obtain⟨a13,k13,rfl,hk13,hm13⟩:=PolAt.f13 hp
 obtain⟨n13,hn13⟩:∃ n,n=p.cons.length:=⟨_,rfl⟩
 have N13:=Lib.hid hn13
 rw[← hn13] at hk13 hm13 ⊢
 clear hn13
 obtain⟨rfl,rfl⟩:a13=a13'∧k13=k13':=by injection hce with e1 e2 e3;exact⟨e1,e3⟩
 rw[← N13.out] at HPA0
 have HPA:=Lib.hid HPA0
 have HC:=Lib.hid hcell
 have HOK:=Lib.hid hok
 clear hp hok hcell hce HPA0
 obtain⟨zz,hzz⟩:∃ z,z=consM p:=⟨_,rfl⟩
 have HZZ:=Lib.hid hzz
 rw[← hzz]
 clear hzz
 obtain⟨wo,hwo⟩:∃ wo,wo=(w).alloc (.cells #[c0,c1,c2,c3,c4,c5,c6,c7,c8,c9,c10,c11,c12,.slice a13 n13 k13,c14,c15,c16] 39):=⟨_,rfl⟩
 have W0:=Lib.hid (show Whole wo w.heap.size 39 #[c0,c1,c2,c3,c4,c5,c6,c7,c8,c9,c10,c11,c12,.slice a13 n13 k13,c14,c15,c16] by rw[hwo];exact(Whole.new w 39 _))
 have HBO:=Lib.hid (show RowKit.Below w.heap.size w wo by rw[hwo];exact((Below.refl _ w).alloc (Nat.le_refl _) _))
 have kp13:wo.cell? ⟨w.heap.size,13,none⟩=some (.slice a13 n13 k13):=W0.out.cell 13
 by_cases h64:64<n13
 ·have d0:decide ((64:Int)<(n13:Int))=true:=by simp;omega
  go_enter Tryz.func49,Tryz.ntmps49
  go_upto_region 1 with(fail)
  rw[← hwo]
  clear hwo
  go_wp2_with fail
  go_ret
  exact⟨ret_int (by rw[HZZ.out];unfold consM;rw[if_pos (by rw[← N13.out];exact h64)]),HBO.out⟩
 ·have d0:decide ((64:Int)<(n13:Int))=false:=by simp;omega
  have HRM:=Lib.hid (show zz=firstE (conF p) n13 0 by rw[HZZ.out];unfold consM;rw[if_neg (by rw[← N13.out];exact h64),N13.out])
  go_enter Tryz.func49,Tryz.ntmps49
  go_upto_region 1 with(fail)
  rw[← hwo]
  clear hwo
  go_wp2_with fail
  clear kp13
  go_loopw [3] (fun i wr=>∃ m:Nat,m≤n13∧i=.int .i64 m∧Hid (firstE (conF p) n13 0=firstE (conF p) (n13-m) m)∧RowKit.Below w.heap.size w wr∧Whole wr w.heap.size 39 #[c0,c1,c2,c3,c4,c5,c6,c7,c8,c9,c10,c11,c12,.slice a13 n13 k13,c14,c15,c16]) (fun i _=>n13-(intOf i).toNat)
  case atStart=>exact⟨0,Nat.zero_le _,rfl,Lib.hid (by rw[Nat.sub_zero]),HBO.out,W0.out⟩
  case round =>
   clear W0 HBO
   obtain⟨m,hm,rfl,hinv,hb,hP0⟩:=hrel
   have HBR:=Lib.hid hb
   have HP0:=Lib.hid hP0
   have kp13:wr.cell? ⟨w.heap.size,13,none⟩=some (.slice a13 n13 k13):=HP0.out.cell 13
   clear hb hP0
   by_cases hlm:m<n13
   ·obtain⟨y,hy⟩:∃ y,p.cons[m]?=some y:=⟨_,List.getElem?_eq_getElem (by rw[← N13.out];exact hlm)⟩
    have HYO:=Lib.hid (HOK.out.cons y (List.mem_of_getElem? hy))
    obtain⟨b,off,cs,rfl,hrow,hlen,hcc⟩:=HC.out m y hy
    obtain⟨es,rfl,hes⟩:=hrow
    have HKE:=Lib.hid hes
    obtain⟨nv,kv,hev,hnv,hkv⟩:=hes.open
    obtain⟨na,nc,rfl,-,-,-⟩:=hnv.open
    obtain⟨ka,kc,rfl,-,-⟩:=hkv.size (by decide)
    obtain⟨nn,hnn⟩:∃ n,n=y.expr.names.length:=⟨_,rfl⟩
    obtain⟨kn,hkn⟩:∃ n,n=y.expr.kids.length:=⟨_,rfl⟩
    rw[← hnn,← hkn] at hev
    rw[hev] at HKE
    subst hev
    clear hnv hkv hnn hkn
    have HKC:=Lib.hid (show ∀ j u,[.int .i64 y.cls,.int .u32 y.perms,.bool y.val,.int .i64 y.expr.op,.int .i64 y.expr.a,.int .i64 y.expr.rel,.int .i64 y.expr.b,.slice na nn nc,.int .u64 y.expr.set.a,.int .u64 y.expr.set.b,.int .u64 y.expr.set.c,.int .u64 y.expr.set.d,.slice ka kn kc][j]?=some u→wr.cell? ⟨b,off+m*13+j,none⟩=some u from fun j u hu=>cell_later HBR.out (hcc j u hu))
    have HZ:=Lib.hid (show conF p m=conM p.users.length p.roles.length p.types.length p.classes y by unfold conF;rw[hy])
    clear hy hcc hlen hes
    go_upto_region 7 with(first | (refine wpList_load_run rfl 91 _ rfl (b) (off+m*13) rfl _ _ HKC.out Tryz.underlying91 rfl size91 ?_) | (refine wpList_store_blk rfl 91 _ _ rfl wr.heap.size 0 (.agg #[.int .i64 y.cls,.int .u32 y.perms,.bool y.val,.int .i64 y.expr.op,.int .i64 y.expr.a,.int .i64 y.expr.rel,.int .i64 y.expr.b,.slice na nn nc,.int .u64 y.expr.set.a,.int .u64 y.expr.set.b,.int .u64 y.expr.set.c,.int .u64 y.expr.set.d,.slice ka kn kc]) rfl rfl 91 _ (Whole.new wr 91 _) (by simp[Value.cells]) size91 rfl ?_;intro w1 S1 W1;rw[splice_all _ _ (by rfl)] at W1;have HS1:=Lib.hid S1;have HRB:=Lib.hid (show Whole w1 wr.heap.size 91 #[.int .i64 y.cls,.int .u32 y.perms,.bool y.val,.int .i64 y.expr.op,.int .i64 y.expr.a,.int .i64 y.expr.rel,.int .i64 y.expr.b,.slice na nn nc,.int .u64 y.expr.set.a,.int .u64 y.expr.set.b,.int .u64 y.expr.set.c,.int .u64 y.expr.set.d,.slice ka kn kc] from W1);clear S1 W1))
    have HBA:=Lib.hid (show RowKit.Below wr.heap.size wr w1 from((Below.refl _ wr).alloc (Nat.le_refl _) _).trans (HS1.out.below (Nat.le_refl _)))
    have HQ1:=Lib.hid (Whole.under HBA.out HP0.out HP0.out.lt)
    have HB1:=Lib.hid (HBR.out.trans (HBA.out.mono HBR.out.size))
    clear kp13 HKC HS1 HP0 HBA HBR
    have f0:w1.cell? ⟨wr.heap.size,0,none⟩=some (.int .i64 y.cls):=HRB.out.cell 0
    have f1:w1.cell? ⟨wr.heap.size,1,none⟩=some (.int .u32 y.perms):=HRB.out.cell 1
    cases hvec:vectorB p.classes y.cls y.perms with
    | false =>
     have HVC:=Lib.hid hvec
     have HV:=Lib.hid (show conM p.users.length p.roles.length p.types.length p.classes y=3 by unfold conM;rw[if_pos hvec])
     clear hvec
     go_wp2_with (first | (refine wpList_load_row rfl 39 _ rfl (w.heap.size) rfl 39 _ (0,0) _ HQ1.out Tryz.underlying39 rfl size39 ?_) | (have hZ:=HVC;clear hZ;go_at_call 111;go_must (refine(show Calls Tryz.prog 111 _ _ (fun e w'=>e=.returned (.bool false)∧RowKit.Below w1.heap.size w1 w') from by have h:=vector_any w1 _ _ _ _ _ _ _ _ _ _ _ _ _ _ _ _ _ p (PolAt.keep HPA.out HB1.out) y.cls y.perms HYO.out.perms;rw[HVC.out] at h;exact h).mono ?_;rintro e w2 ⟨rfl,hb⟩;have HB2:=Lib.hid hb;clear hb HVC f0 f1;have HQ2:=Lib.hid (Whole.under HB2.out HQ1.out HQ1.out.lt);have HR2:=Lib.hid (Whole.under HB2.out HRB.out HRB.out.lt);have HBW2:=Lib.hid (HB1.out.trans (HB2.out.mono HB1.out.size));clear HQ1 HRB;have f1:w2.cell? ⟨wr.heap.size,1,none⟩=some (.int .u32 y.perms):=HR2.out.cell 1;have f2:w2.cell? ⟨wr.heap.size,2,none⟩=some (.bool y.val):=HR2.out.cell 2;have HKX:=Lib.hid (show ∀ j u,[.int .i64 y.expr.op,.int .i64 y.expr.a,.int .i64 y.expr.rel,.int .i64 y.expr.b,.slice na nn nc,.int .u64 y.expr.set.a,.int .u64 y.expr.set.b,.int .u64 y.expr.set.c,.int .u64 y.expr.set.d,.slice ka kn kc][j]?=some u→w2.cell? ⟨wr.heap.size,3+j,none⟩=some u from fun j u hu=>by have h:=HR2.out.cell (3+j);rw[h,← Array.getElem?_toList,← hu,Nat.add_comm 3 j];rfl))))
     go_ret
     exact⟨ret_int (by rw[HRM.out,hinv.out,firstE_at hlm (by rw[HZ.out,HV.out];decide),HZ.out,HV.out]),HBW2.out⟩
    | true =>
     have HVC:=Lib.hid hvec
     have hvf:¬ vectorB p.classes y.cls y.perms=false:=by rw[hvec];decide
     cases hv:y.val with
     | true =>
      by_cases hp0:y.perms=0
      ·have dp:(y.perms == 0)=true:=by simp[hp0]
       have hcm:conM p.users.length p.roles.length p.types.length p.classes y=expressionM p.users.length p.roles.length p.types.length true y.expr:=by unfold conM;rw[if_neg hvf,if_neg (by rw[hv];simp[hp0]),hv]
       obtain⟨x,hx⟩:∃ x,x=expressionM p.users.length p.roles.length p.types.length true y.expr:=⟨_,rfl⟩
       have HX:=Lib.hid hx
       have HV:=Lib.hid (hcm.trans hx.symm)
       have HPX:=Lib.hid trivial
       clear hvf hvec hcm hx
       rw[hv] at HRB
       have HP0:=Lib.hid hp0
       clear hp0 hv
       by_cases hx0:x=0
       ·have HXZ:=Lib.hid (HV.out.trans hx0)
        have dx:(x != 0)=false:=by simp[hx0]
        have HX0:=Lib.hid hx0
        clear hx0
        go_wp2_with (first | (refine wpList_load_row rfl 39 _ rfl (w.heap.size) rfl 39 _ (0,0) _ HQ1.out Tryz.underlying39 rfl size39 ?_) | (have hZ:=HVC;clear hZ;go_at_call 111;go_must (refine(show Calls Tryz.prog 111 _ _ (fun e w'=>e=.returned (.bool true)∧RowKit.Below w1.heap.size w1 w') from by have h:=vector_any w1 _ _ _ _ _ _ _ _ _ _ _ _ _ _ _ _ _ p (PolAt.keep HPA.out HB1.out) y.cls y.perms HYO.out.perms;rw[HVC.out] at h;exact h).mono ?_;rintro e w2 ⟨rfl,hb⟩;have HB2:=Lib.hid hb;clear hb HVC f0 f1;have HQ2:=Lib.hid (Whole.under HB2.out HQ1.out HQ1.out.lt);have HR2:=Lib.hid (Whole.under HB2.out HRB.out HRB.out.lt);have HBW2:=Lib.hid (HB1.out.trans (HB2.out.mono HB1.out.size));clear HQ1 HRB;have f1:w2.cell? ⟨wr.heap.size,1,none⟩=some (.int .u32 y.perms):=HR2.out.cell 1;have f2:w2.cell? ⟨wr.heap.size,2,none⟩=some (.bool true):=HR2.out.cell 2;have HKX:=Lib.hid (show ∀ j u,[.int .i64 y.expr.op,.int .i64 y.expr.a,.int .i64 y.expr.rel,.int .i64 y.expr.b,.slice na nn nc,.int .u64 y.expr.set.a,.int .u64 y.expr.set.b,.int .u64 y.expr.set.c,.int .u64 y.expr.set.d,.slice ka kn kc][j]?=some u→w2.cell? ⟨wr.heap.size,3+j,none⟩=some u from fun j u hu=>by have h:=HR2.out.cell (3+j);rw[h,← Array.getElem?_toList,← hu,Nat.add_comm 3 j];rfl))) | (refine wpList_load_row rfl 39 _ rfl (w.heap.size) rfl 39 _ (0,0) _ HQ2.out Tryz.underlying39 rfl size39 ?_) | (refine wpList_load_run rfl 89 _ rfl (wr.heap.size) (3) rfl _ _ HKX.out Tryz.underlying89 rfl size89 ?_) | (have hZ:=HPX;clear hZ;go_at_call 115;go_must (refine(show Calls Tryz.prog 115 _ _ (fun e w'=>e=.returned (.int .i64 x)∧RowKit.Below w2.heap.size w2 w') from by rw[HX.out];exact Expression_any y.expr HYO.out.expr w2 _ _ _ _ _ _ _ _ _ _ _ _ _ _ _ _ _ _ p (PolAt.keep HPA.out HBW2.out) HOK.out (ExpAt.keep HBW2.out HKE.out) _).mono ?_;rintro e w3 ⟨rfl,hb⟩;have HB3:=Lib.hid hb;clear hb HPX;have HQ3:=Lib.hid (Whole.under HB3.out HQ2.out HQ2.out.lt);have HBW3:=Lib.hid (HBW2.out.trans (HB3.out.mono HBW2.out.size));clear HQ2 HR2)))
        go_roundw
        case rel=>exact⟨m+1,by omega,by go_num,Lib.hid (hinv.out.trans (firstE_next hlm (by rw[HZ.out,HXZ.out]))),HBW3.out,HQ3.out⟩
        case measure=>simp[intOf];omega
       ·have dx:(x != 0)=true:=by simp[hx0]
        have HX0:=Lib.hid hx0
        clear hx0
        go_wp2_with (first | (refine wpList_load_row rfl 39 _ rfl (w.heap.size) rfl 39 _ (0,0) _ HQ1.out Tryz.underlying39 rfl size39 ?_) | (have hZ:=HVC;clear hZ;go_at_call 111;go_must (refine(show Calls Tryz.prog 111 _ _ (fun e w'=>e=.returned (.bool true)∧RowKit.Below w1.heap.size w1 w') from by have h:=vector_any w1 _ _ _ _ _ _ _ _ _ _ _ _ _ _ _ _ _ p (PolAt.keep HPA.out HB1.out) y.cls y.perms HYO.out.perms;rw[HVC.out] at h;exact h).mono ?_;rintro e w2 ⟨rfl,hb⟩;have HB2:=Lib.hid hb;clear hb HVC f0 f1;have HQ2:=Lib.hid (Whole.under HB2.out HQ1.out HQ1.out.lt);have HR2:=Lib.hid (Whole.under HB2.out HRB.out HRB.out.lt);have HBW2:=Lib.hid (HB1.out.trans (HB2.out.mono HB1.out.size));clear HQ1 HRB;have f1:w2.cell? ⟨wr.heap.size,1,none⟩=some (.int .u32 y.perms):=HR2.out.cell 1;have f2:w2.cell? ⟨wr.heap.size,2,none⟩=some (.bool true):=HR2.out.cell 2;have HKX:=Lib.hid (show ∀ j u,[.int .i64 y.expr.op,.int .i64 y.expr.a,.int .i64 y.expr.rel,.int .i64 y.expr.b,.slice na nn nc,.int .u64 y.expr.set.a,.int .u64 y.expr.set.b,.int .u64 y.expr.set.c,.int .u64 y.expr.set.d,.slice ka kn kc][j]?=some u→w2.cell? ⟨wr.heap.size,3+j,none⟩=some u from fun j u hu=>by have h:=HR2.out.cell (3+j);rw[h,← Array.getElem?_toList,← hu,Nat.add_comm 3 j];rfl))) | (refine wpList_load_row rfl 39 _ rfl (w.heap.size) rfl 39 _ (0,0) _ HQ2.out Tryz.underlying39 rfl size39 ?_) | (refine wpList_load_run rfl 89 _ rfl (wr.heap.size) (3) rfl _ _ HKX.out Tryz.underlying89 rfl size89 ?_) | (have hZ:=HPX;clear hZ;go_at_call 115;go_must (refine(show Calls Tryz.prog 115 _ _ (fun e w'=>e=.returned (.int .i64 x)∧RowKit.Below w2.heap.size w2 w') from by rw[HX.out];exact Expression_any y.expr HYO.out.expr w2 _ _ _ _ _ _ _ _ _ _ _ _ _ _ _ _ _ _ p (PolAt.keep HPA.out HBW2.out) HOK.out (ExpAt.keep HBW2.out HKE.out) _).mono ?_;rintro e w3 ⟨rfl,hb⟩;have HB3:=Lib.hid hb;clear hb HPX;have HQ3:=Lib.hid (Whole.under HB3.out HQ2.out HQ2.out.lt);have HBW3:=Lib.hid (HBW2.out.trans (HB3.out.mono HBW2.out.size));clear HQ2 HR2)))
        go_ret
        exact⟨ret_int (by rw[HRM.out,hinv.out,firstE_at hlm (by rw[HZ.out,HV.out];exact HX0.out),HZ.out,HV.out]),HBW3.out⟩
      ·have dp:(y.perms == 0)=false:=by simp[hp0]
       have HV:=Lib.hid (show conM p.users.length p.roles.length p.types.length p.classes y=2 by unfold conM;rw[if_neg hvf,if_pos (by rw[hv];simp[hp0])])
       clear hvf hvec
       rw[hv] at HRB
       have HP0:=Lib.hid hp0
       clear hp0 hv
       go_wp2_with (first | (refine wpList_load_row rfl 39 _ rfl (w.heap.size) rfl 39 _ (0,0) _ HQ1.out Tryz.underlying39 rfl size39 ?_) | (have hZ:=HVC;clear hZ;go_at_call 111;go_must (refine(show Calls Tryz.prog 111 _ _ (fun e w'=>e=.returned (.bool true)∧RowKit.Below w1.heap.size w1 w') from by have h:=vector_any w1 _ _ _ _ _ _ _ _ _ _ _ _ _ _ _ _ _ p (PolAt.keep HPA.out HB1.out) y.cls y.perms HYO.out.perms;rw[HVC.out] at h;exact h).mono ?_;rintro e w2 ⟨rfl,hb⟩;have HB2:=Lib.hid hb;clear hb HVC f0 f1;have HQ2:=Lib.hid (Whole.under HB2.out HQ1.out HQ1.out.lt);have HR2:=Lib.hid (Whole.under HB2.out HRB.out HRB.out.lt);have HBW2:=Lib.hid (HB1.out.trans (HB2.out.mono HB1.out.size));clear HQ1 HRB;have f1:w2.cell? ⟨wr.heap.size,1,none⟩=some (.int .u32 y.perms):=HR2.out.cell 1;have f2:w2.cell? ⟨wr.heap.size,2,none⟩=some (.bool true):=HR2.out.cell 2;have HKX:=Lib.hid (show ∀ j u,[.int .i64 y.expr.op,.int .i64 y.expr.a,.int .i64 y.expr.rel,.int .i64 y.expr.b,.slice na nn nc,.int .u64 y.expr.set.a,.int .u64 y.expr.set.b,.int .u64 y.expr.set.c,.int .u64 y.expr.set.d,.slice ka kn kc][j]?=some u→w2.cell? ⟨wr.heap.size,3+j,none⟩=some u from fun j u hu=>by have h:=HR2.out.cell (3+j);rw[h,← Array.getElem?_toList,← hu,Nat.add_comm 3 j];rfl))))
       go_ret
       exact⟨ret_int (by rw[HRM.out,hinv.out,firstE_at hlm (by rw[HZ.out,HV.out];decide),HZ.out,HV.out]),HBW2.out⟩
     | false =>
      by_cases hp0:y.perms=0
      ·have dp:(y.perms == 0)=true:=by simp[hp0]
       have HV:=Lib.hid (show conM p.users.length p.roles.length p.types.length p.classes y=2 by unfold conM;rw[if_neg hvf,if_pos (by rw[hv];simp[hp0])])
       clear hvf hvec
       rw[hv] at HRB
       have HP0:=Lib.hid hp0
       clear hp0 hv
       go_wp2_with (first | (refine wpList_load_row rfl 39 _ rfl (w.heap.size) rfl 39 _ (0,0) _ HQ1.out Tryz.underlying39 rfl size39 ?_) | (have hZ:=HVC;clear hZ;go_at_call 111;go_must (refine(show Calls Tryz.prog 111 _ _ (fun e w'=>e=.returned (.bool true)∧RowKit.Below w1.heap.size w1 w') from by have h:=vector_any w1 _ _ _ _ _ _ _ _ _ _ _ _ _ _ _ _ _ p (PolAt.keep HPA.out HB1.out) y.cls y.perms HYO.out.perms;rw[HVC.out] at h;exact h).mono ?_;rintro e w2 ⟨rfl,hb⟩;have HB2:=Lib.hid hb;clear hb HVC f0 f1;have HQ2:=Lib.hid (Whole.under HB2.out HQ1.out HQ1.out.lt);have HR2:=Lib.hid (Whole.under HB2.out HRB.out HRB.out.lt);have HBW2:=Lib.hid (HB1.out.trans (HB2.out.mono HB1.out.size));clear HQ1 HRB;have f1:w2.cell? ⟨wr.heap.size,1,none⟩=some (.int .u32 y.perms):=HR2.out.cell 1;have f2:w2.cell? ⟨wr.heap.size,2,none⟩=some (.bool false):=HR2.out.cell 2;have HKX:=Lib.hid (show ∀ j u,[.int .i64 y.expr.op,.int .i64 y.expr.a,.int .i64 y.expr.rel,.int .i64 y.expr.b,.slice na nn nc,.int .u64 y.expr.set.a,.int .u64 y.expr.set.b,.int .u64 y.expr.set.c,.int .u64 y.expr.set.d,.slice ka kn kc][j]?=some u→w2.cell? ⟨wr.heap.size,3+j,none⟩=some u from fun j u hu=>by have h:=HR2.out.cell (3+j);rw[h,← Array.getElem?_toList,← hu,Nat.add_comm 3 j];rfl))))
       go_ret
       exact⟨ret_int (by rw[HRM.out,hinv.out,firstE_at hlm (by rw[HZ.out,HV.out];decide),HZ.out,HV.out]),HBW2.out⟩
      ·have dp:(y.perms == 0)=false:=by simp[hp0]
       have hcm:conM p.users.length p.roles.length p.types.length p.classes y=expressionM p.users.length p.roles.length p.types.length false y.expr:=by unfold conM;rw[if_neg hvf,if_neg (by rw[hv];simp[hp0]),hv]
       obtain⟨x,hx⟩:∃ x,x=expressionM p.users.length p.roles.length p.types.length false y.expr:=⟨_,rfl⟩
       have HX:=Lib.hid hx
       have HV:=Lib.hid (hcm.trans hx.symm)
       have HPX:=Lib.hid trivial
       clear hvf hvec hcm hx
       rw[hv] at HRB
       have HP0:=Lib.hid hp0
       clear hp0 hv
       by_cases hx0:x=0
       ·have HXZ:=Lib.hid (HV.out.trans hx0)
        have dx:(x != 0)=false:=by simp[hx0]
        have HX0:=Lib.hid hx0
        clear hx0
        go_wp2_with (first | (refine wpList_load_row rfl 39 _ rfl (w.heap.size) rfl 39 _ (0,0) _ HQ1.out Tryz.underlying39 rfl size39 ?_) | (have hZ:=HVC;clear hZ;go_at_call 111;go_must (refine(show Calls Tryz.prog 111 _ _ (fun e w'=>e=.returned (.bool true)∧RowKit.Below w1.heap.size w1 w') from by have h:=vector_any w1 _ _ _ _ _ _ _ _ _ _ _ _ _ _ _ _ _ p (PolAt.keep HPA.out HB1.out) y.cls y.perms HYO.out.perms;rw[HVC.out] at h;exact h).mono ?_;rintro e w2 ⟨rfl,hb⟩;have HB2:=Lib.hid hb;clear hb HVC f0 f1;have HQ2:=Lib.hid (Whole.under HB2.out HQ1.out HQ1.out.lt);have HR2:=Lib.hid (Whole.under HB2.out HRB.out HRB.out.lt);have HBW2:=Lib.hid (HB1.out.trans (HB2.out.mono HB1.out.size));clear HQ1 HRB;have f1:w2.cell? ⟨wr.heap.size,1,none⟩=some (.int .u32 y.perms):=HR2.out.cell 1;have f2:w2.cell? ⟨wr.heap.size,2,none⟩=some (.bool false):=HR2.out.cell 2;have HKX:=Lib.hid (show ∀ j u,[.int .i64 y.expr.op,.int .i64 y.expr.a,.int .i64 y.expr.rel,.int .i64 y.expr.b,.slice na nn nc,.int .u64 y.expr.set.a,.int .u64 y.expr.set.b,.int .u64 y.expr.set.c,.int .u64 y.expr.set.d,.slice ka kn kc][j]?=some u→w2.cell? ⟨wr.heap.size,3+j,none⟩=some u from fun j u hu=>by have h:=HR2.out.cell (3+j);rw[h,← Array.getElem?_toList,← hu,Nat.add_comm 3 j];rfl))) | (refine wpList_load_row rfl 39 _ rfl (w.heap.size) rfl 39 _ (0,0) _ HQ2.out Tryz.underlying39 rfl size39 ?_) | (refine wpList_load_run rfl 89 _ rfl (wr.heap.size) (3) rfl _ _ HKX.out Tryz.underlying89 rfl size89 ?_) | (have hZ:=HPX;clear hZ;go_at_call 115;go_must (refine(show Calls Tryz.prog 115 _ _ (fun e w'=>e=.returned (.int .i64 x)∧RowKit.Below w2.heap.size w2 w') from by rw[HX.out];exact Expression_any y.expr HYO.out.expr w2 _ _ _ _ _ _ _ _ _ _ _ _ _ _ _ _ _ _ p (PolAt.keep HPA.out HBW2.out) HOK.out (ExpAt.keep HBW2.out HKE.out) _).mono ?_;rintro e w3 ⟨rfl,hb⟩;have HB3:=Lib.hid hb;clear hb HPX;have HQ3:=Lib.hid (Whole.under HB3.out HQ2.out HQ2.out.lt);have HBW3:=Lib.hid (HBW2.out.trans (HB3.out.mono HBW2.out.size));clear HQ2 HR2)))
        go_roundw
        case rel=>exact⟨m+1,by omega,by go_num,Lib.hid (hinv.out.trans (firstE_next hlm (by rw[HZ.out,HXZ.out]))),HBW3.out,HQ3.out⟩
        case measure=>simp[intOf];omega
       ·have dx:(x != 0)=true:=by simp[hx0]
        have HX0:=Lib.hid hx0
        clear hx0
        go_wp2_with (first | (refine wpList_load_row rfl 39 _ rfl (w.heap.size) rfl 39 _ (0,0) _ HQ1.out Tryz.underlying39 rfl size39 ?_) | (have hZ:=HVC;clear hZ;go_at_call 111;go_must (refine(show Calls Tryz.prog 111 _ _ (fun e w'=>e=.returned (.bool true)∧RowKit.Below w1.heap.size w1 w') from by have h:=vector_any w1 _ _ _ _ _ _ _ _ _ _ _ _ _ _ _ _ _ p (PolAt.keep HPA.out HB1.out) y.cls y.perms HYO.out.perms;rw[HVC.out] at h;exact h).mono ?_;rintro e w2 ⟨rfl,hb⟩;have HB2:=Lib.hid hb;clear hb HVC f0 f1;have HQ2:=Lib.hid (Whole.under HB2.out HQ1.out HQ1.out.lt);have HR2:=Lib.hid (Whole.under HB2.out HRB.out HRB.out.lt);have HBW2:=Lib.hid (HB1.out.trans (HB2.out.mono HB1.out.size));clear HQ1 HRB;have f1:w2.cell? ⟨wr.heap.size,1,none⟩=some (.int .u32 y.perms):=HR2.out.cell 1;have f2:w2.cell? ⟨wr.heap.size,2,none⟩=some (.bool false):=HR2.out.cell 2;have HKX:=Lib.hid (show ∀ j u,[.int .i64 y.expr.op,.int .i64 y.expr.a,.int .i64 y.expr.rel,.int .i64 y.expr.b,.slice na nn nc,.int .u64 y.expr.set.a,.int .u64 y.expr.set.b,.int .u64 y.expr.set.c,.int .u64 y.expr.set.d,.slice ka kn kc][j]?=some u→w2.cell? ⟨wr.heap.size,3+j,none⟩=some u from fun j u hu=>by have h:=HR2.out.cell (3+j);rw[h,← Array.getElem?_toList,← hu,Nat.add_comm 3 j];rfl))) | (refine wpList_load_row rfl 39 _ rfl (w.heap.size) rfl 39 _ (0,0) _ HQ2.out Tryz.underlying39 rfl size39 ?_) | (refine wpList_load_run rfl 89 _ rfl (wr.heap.size) (3) rfl _ _ HKX.out Tryz.underlying89 rfl size89 ?_) | (have hZ:=HPX;clear hZ;go_at_call 115;go_must (refine(show Calls Tryz.prog 115 _ _ (fun e w'=>e=.returned (.int .i64 x)∧RowKit.Below w2.heap.size w2 w') from by rw[HX.out];exact Expression_any y.expr HYO.out.expr w2 _ _ _ _ _ _ _ _ _ _ _ _ _ _ _ _ _ _ p (PolAt.keep HPA.out HBW2.out) HOK.out (ExpAt.keep HBW2.out HKE.out) _).mono ?_;rintro e w3 ⟨rfl,hb⟩;have HB3:=Lib.hid hb;clear hb HPX;have HQ3:=Lib.hid (Whole.under HB3.out HQ2.out HQ2.out.lt);have HBW3:=Lib.hid (HBW2.out.trans (HB3.out.mono HBW2.out.size));clear HQ2 HR2)))
        go_ret
        exact⟨ret_int (by rw[HRM.out,hinv.out,firstE_at hlm (by rw[HZ.out,HV.out];exact HX0.out),HZ.out,HV.out]),HBW3.out⟩
   ·obtain rfl:n13=m:=by omega
    go_wp2_with fail
    go_ret
    exact⟨ret_int (by rw[HRM.out,hinv.out,firstE_stop]),HBR.out⟩
end Go.Proofs.YtdcofoaihmongaaGreat
namespace Go.Proofs.YtdcofoaihmongaaGreat
open Go Go.RowKit
def othersM (p:APol):Int :=
 if 16<p.bools.length then 4
 else if ¬ namesM (p.bools.map (·.name)) []=0 then namesM (p.bools.map (·.name)) []
 else if 16<p.sens.length then 4
 else if ¬ namesM p.sens []=0 then namesM p.sens []
 else if 64<p.cats.length then 4
 else namesM p.cats []
set_option maxRecDepth 100000 in
set_option maxHeartbeats 4000000 in
theorem others_any (w:World) (c0 c1 c2 c3 c4 c5 c6 c7 c8 c9 c10 c11 c12 c13 c14 c15 c16:Value) (p:APol) (hp:PolAt w c0 c1 c2 c3 c4 c5 c6 c7 c8 c9 c10 c11 c12 c13 c14 c15 c16 p) (hok:p.Ok):Calls Tryz.prog 45 #[.agg #[c0,c1,c2,c3,c4,c5,c6,c7,c8,c9,c10,c11,c12,c13,c14,c15,c16]] w fun e w'=>e=.returned (.int .i64 (othersM p))∧RowKit.Below w.heap.size w w':=by
 obtain⟨i0,z0,hi,hz0,hz1,hz2,hzs⟩:=infoOf info9
 obtain⟨a5',k5',hce,-,-,hcell⟩:=SliceAt.form hp.bools (by decide)
 have hs6:=hp.sens
 have hs7:=hp.cats
 obtain⟨a5,k5,rfl,hk5,hm5⟩:=PolAt.f5 hp
 obtain⟨n5,hn5⟩:∃ n,n=p.bools.length:=⟨_,rfl⟩
 have N5:=Lib.hid hn5
 rw[← hn5] at hk5 hm5 ⊢
 clear hn5
 obtain⟨a6,k6,rfl,hk6,hm6⟩:=PolAt.f6 hp
 obtain⟨n6,hn6⟩:∃ n,n=p.sens.length:=⟨_,rfl⟩
 have N6:=Lib.hid hn6
 rw[← hn6] at hk6 hm6 ⊢
 clear hn6
 obtain⟨a7,k7,rfl,hk7,hm7⟩:=PolAt.f7 hp
 obtain⟨n7,hn7⟩:∃ n,n=p.cats.length:=⟨_,rfl⟩
 have N7:=Lib.hid hn7
 rw[← hn7] at hk7 hm7 ⊢
 clear hn7
 obtain⟨rfl,rfl⟩:a5=a5'∧k5=k5':=by injection hce with e1 e2 e3;exact⟨e1,e3⟩
 rw[← N6.out] at hs6
 rw[← N7.out] at hs7
 have HS6:=Lib.hid hs6
 have HS7:=Lib.hid hs7
 have HC:=Lib.hid hcell
 have HOK:=Lib.hid hok
 have HBO1:=Lib.hid (show ∀ s∈p.bools.map (·.name),StrOk s from fun s hs=>by
  obtain⟨b,hb,rfl⟩:=List.mem_map.1 hs
  exact(hok.bools b hb).name)
 clear hp hok hcell hce hs6 hs7
 obtain⟨zz,hzz⟩:∃ z,z=othersM p:=⟨_,rfl⟩
 have HZZ:=Lib.hid hzz
 rw[← hzz]
 clear hzz
 obtain⟨x,hx⟩:∃ x,x=namesM (p.bools.map (·.name)) []:=⟨_,rfl⟩
 obtain⟨y',hy'⟩:∃ x,x=namesM p.sens []:=⟨_,rfl⟩
 obtain⟨z',hz'⟩:∃ x,x=namesM p.cats []:=⟨_,rfl⟩
 have HX:=Lib.hid hx
 have HY:=Lib.hid hy'
 have HZ3:=Lib.hid hz'
 clear hx hy' hz'
 obtain⟨wo,hwo⟩:∃ wo,wo=(w).alloc (.cells #[c0,c1,c2,c3,c4,.slice a5 n5 k5,.slice a6 n6 k6,.slice a7 n7 k7,c8,c9,c10,c11,c12,c13,c14,c15,c16] 39):=⟨_,rfl⟩
 have W0:=Lib.hid (show Whole wo w.heap.size 39 #[c0,c1,c2,c3,c4,.slice a5 n5 k5,.slice a6 n6 k6,.slice a7 n7 k7,c8,c9,c10,c11,c12,c13,c14,c15,c16] by rw[hwo];exact(Whole.new w 39 _))
 have HBO:=Lib.hid (show RowKit.Below w.heap.size w wo by rw[hwo];exact((Below.refl _ w).alloc (Nat.le_refl _) _))
 have kp5:wo.cell? ⟨w.heap.size,5,none⟩=some (.slice a5 n5 k5):=W0.out.cell 5
 by_cases h64:16<n5
 ·have d0:decide ((16:Int)<(n5:Int))=true:=by simp;omega
  go_enter Tryz.func45,Tryz.ntmps45
  go_upto_region 1 with(fail)
  rw[← hwo]
  clear hwo
  go_wp2_with fail
  go_ret
  exact⟨ret_int (by rw[HZZ.out];unfold othersM;rw[if_pos (by rw[← N5.out];exact h64)]),HBO.out⟩
 ·have d0:decide ((16:Int)<(n5:Int))=false:=by simp;omega
  have H64:=Lib.hid (show ¬ 16<p.bools.length by rw[← N5.out];exact h64)
  go_enter Tryz.func45,Tryz.ntmps45
  go_upto_region 1 with(fail)
  rw[← hwo]
  clear hwo
  go_wp2_with fail
  clear kp5
  go_loopw [3,4] (fun v i wr=>∃ m:Nat,m≤n5∧i=.int .i64 m∧OwnS wr w.heap.size v ((p.bools.take m).map (·.name))∧RowKit.Below w.heap.size w wr∧Whole wr w.heap.size 39 #[c0,c1,c2,c3,c4,.slice a5 n5 k5,.slice a6 n6 k6,.slice a7 n7 k7,c8,c9,c10,c11,c12,c13,c14,c15,c16]) (fun _ i _=>n5-(intOf i).toNat)
  case atStart=>exact⟨0,Nat.zero_le _,rfl,World.ownsRow_nil _ _ _ _,HBO.out,W0.out⟩
  case round =>
   clear W0 HBO
   obtain⟨m,hm,rfl,hown,hb,hP0⟩:=hrel
   have HOW:=Lib.hid hown
   have HBR:=Lib.hid hb
   have HP0:=Lib.hid hP0
   have kp5:wr.cell? ⟨w.heap.size,5,none⟩=some (.slice a5 n5 k5):=HP0.out.cell 5
   clear hb hP0 hown
   by_cases hlm:m<n5
   ·obtain⟨y,hy⟩:∃ y,p.bools[m]?=some y:=⟨_,List.getElem?_eq_getElem (by rw[← N5.out];exact hlm)⟩
    obtain⟨b,off,rfl,hcc⟩:=HC.out m (by rw[← N5.out];exact hlm)
    have ky:wr.cell? ⟨b,off+m*2,none⟩=some (.string y.name):=cell_later HBR.out (hcc 0 _ (by rw[flat_at ABoo.cells_len hy 0 (by decide)];rfl))
    obtain⟨l,hl⟩:∃ l,l=(p.bools.take m).map (·.name):=⟨_,rfl⟩
    have HTS:=Lib.hid (show(p.bools.take (m+1)).map (·.name)=l++[y.name] by rw[take_snoc hy,List.map_append,← hl];rfl)
    rw[← hl] at HOW
    have hlm64:l.length≤64:=by rw[hl,List.length_map,List.length_take];omega
    clear hy hcc hl
    go_wp2_with (at_builtin;refine wpList_append_own _ rfl _ _ 28 rfl w.heap.size 9 i0 z0 1 16 Tryz.underlying28 hi hz0 hz1 hz2 hzs (by decide) _ _ _ rfl (own_alloc HOW.out _) ⟨wr.heap.size,0,none⟩ 1 1 [.string y.name] rfl rfl (cell_one_new _ _ _) ?c2 ?c3 ?c4 ?c5 ?_)
    case c2=>simp[Value.oneCell']
    case c3=>unfold maxLen;omega
    case c4=>omega
    case c5=>have:=HBR.out.size;simp;omega
    intro v' w3 hown' hgrow hnil
    have HBW3:=Lib.hid (show RowKit.Below w.heap.size w w3 from(HBR.out.alloc (by have:=HBR.out.size;omega) _).grown hgrow (by have:=HBR.out.size;simp;omega) (fun q hq=>by have:=(HOW.out.lt q hq).1;omega))
    have HQ3:=Lib.hid ((HP0.out.alloc (.cells #[.string y.name] 9)).grown hgrow (fun e=>own_blk_far HOW.out HP0.out (by decide) e.symm))
    have HOW3:=Lib.hid (show OwnS w3 w.heap.size v' (l++[y.name]) by unfold OwnS;rw[List.length_append,List.flatMap_append];exact hown')
    clear hgrow hnil hown' ky kp5
    go_wp2_with fail
    go_roundw
    case rel=>exact⟨m+1,by omega,by go_num,by rw[HTS.out];exact HOW3.out,HBW3.out,HQ3.out⟩
    case measure=>simp[intOf];omega
   ·obtain rfl:n5=m:=by omega
    have HOWE:=Lib.hid (show OwnS wr w.heap.size _ (p.bools.map (·.name)) by have h:=HOW.out;rw[List.take_of_length_le (by rw[← N5.out];exact Nat.le_refl _)] at h;exact h)
    have TK1:=Lib.hid trivial
    clear HOW
    by_cases hx0:x=0
    ·have HX0:=Lib.hid (show ¬ ¬ namesM (p.bools.map (·.name)) []=0 by rw[← HX.out];simp[hx0])
     subst hx0
     by_cases h16:16<n6
     ·have d6:decide ((16:Int)<(n6:Int))=true:=by simp;omega
      go_wp2_with (have hZ:=TK1;clear hZ;go_at_call 101;go_must (refine(show Calls Tryz.prog 101 _ _ (fun e w'=>e=.returned (.int .i64 0)∧RowKit.Below wr.heap.size wr w') from by rw[HX.out];exact names_any wr _ _ (p.bools.map (·.name)) [] (own_strs HOWE.out) (SliceAt.nil wr 1) HBO1.out).mono ?_;rintro e wa ⟨rfl,hb⟩;have HBa:=Lib.hid hb;clear hb TK1;have HBW1:=Lib.hid (HBR.out.trans (HBa.out.mono HBR.out.size));have HQ1:=Lib.hid (Whole.under HBa.out HP0.out HP0.out.lt);clear kp5;have q6:wa.cell? ⟨w.heap.size,6,none⟩=some (.slice a6 n6 k6):=HQ1.out.cell 6))
      go_ret
      exact⟨ret_int (by rw[HZZ.out];unfold othersM;rw[if_neg H64.out,if_neg HX0.out,if_pos (by rw[← N6.out];exact h16)]),HBW1.out⟩
     ·have d6:decide ((16:Int)<(n6:Int))=false:=by simp;omega
      have TK2:=Lib.hid trivial
      by_cases hy0:y'=0
      ·have HY0:=Lib.hid (show ¬ ¬ namesM p.sens []=0 by rw[← HY.out];simp[hy0])
       subst hy0
       by_cases h7:64<n7
       ·have d7:decide ((64:Int)<(n7:Int))=true:=by simp;omega
        go_wp2_with (first | (have hZ:=TK1;clear hZ;go_at_call 101;go_must (refine(show Calls Tryz.prog 101 _ _ (fun e w'=>e=.returned (.int .i64 0)∧RowKit.Below wr.heap.size wr w') from by rw[HX.out];exact names_any wr _ _ (p.bools.map (·.name)) [] (own_strs HOWE.out) (SliceAt.nil wr 1) HBO1.out).mono ?_;rintro e wa ⟨rfl,hb⟩;have HBa:=Lib.hid hb;clear hb TK1;have HBW1:=Lib.hid (HBR.out.trans (HBa.out.mono HBR.out.size));have HQ1:=Lib.hid (Whole.under HBa.out HP0.out HP0.out.lt);clear kp5;have q6:wa.cell? ⟨w.heap.size,6,none⟩=some (.slice a6 n6 k6):=HQ1.out.cell 6)) | (have hZ:=TK2;clear hZ;go_at_call 101;go_must (refine(show Calls Tryz.prog 101 _ _ (fun e w'=>e=.returned (.int .i64 0)∧RowKit.Below wa.heap.size wa w') from by rw[HY.out];exact names_any wa _ _ p.sens [] (StrsAt.keep HS6.out HBW1.out) (SliceAt.nil wa 1) HOK.out.sens).mono ?_;rintro e wb ⟨rfl,hb⟩;have HBb:=Lib.hid hb;clear hb TK2;have HBW2:=Lib.hid (HBW1.out.trans (HBb.out.mono HBW1.out.size));have HQ2:=Lib.hid (Whole.under HBb.out HQ1.out HQ1.out.lt);clear q6;have q7:wb.cell? ⟨w.heap.size,7,none⟩=some (.slice a7 n7 k7):=HQ2.out.cell 7)))
        go_ret
        exact⟨ret_int (by rw[HZZ.out];unfold othersM;rw[if_neg H64.out,if_neg HX0.out,if_neg (by rw[← N6.out];exact h16),if_neg HY0.out,if_pos (by rw[← N7.out];exact h7)]),HBW2.out⟩
       ·have d7:decide ((64:Int)<(n7:Int))=false:=by simp;omega
        have TK3:=Lib.hid trivial
        go_wp2_with (first | (have hZ:=TK1;clear hZ;go_at_call 101;go_must (refine(show Calls Tryz.prog 101 _ _ (fun e w'=>e=.returned (.int .i64 0)∧RowKit.Below wr.heap.size wr w') from by rw[HX.out];exact names_any wr _ _ (p.bools.map (·.name)) [] (own_strs HOWE.out) (SliceAt.nil wr 1) HBO1.out).mono ?_;rintro e wa ⟨rfl,hb⟩;have HBa:=Lib.hid hb;clear hb TK1;have HBW1:=Lib.hid (HBR.out.trans (HBa.out.mono HBR.out.size));have HQ1:=Lib.hid (Whole.under HBa.out HP0.out HP0.out.lt);clear kp5;have q6:wa.cell? ⟨w.heap.size,6,none⟩=some (.slice a6 n6 k6):=HQ1.out.cell 6)) | (have hZ:=TK2;clear hZ;go_at_call 101;go_must (refine(show Calls Tryz.prog 101 _ _ (fun e w'=>e=.returned (.int .i64 0)∧RowKit.Below wa.heap.size wa w') from by rw[HY.out];exact names_any wa _ _ p.sens [] (StrsAt.keep HS6.out HBW1.out) (SliceAt.nil wa 1) HOK.out.sens).mono ?_;rintro e wb ⟨rfl,hb⟩;have HBb:=Lib.hid hb;clear hb TK2;have HBW2:=Lib.hid (HBW1.out.trans (HBb.out.mono HBW1.out.size));have HQ2:=Lib.hid (Whole.under HBb.out HQ1.out HQ1.out.lt);clear q6;have q7:wb.cell? ⟨w.heap.size,7,none⟩=some (.slice a7 n7 k7):=HQ2.out.cell 7)) | (have hZ:=TK3;clear hZ;go_at_call 101;go_must (refine(show Calls Tryz.prog 101 _ _ (fun e w'=>e=.returned (.int .i64 z')∧RowKit.Below wb.heap.size wb w') from by rw[HZ3.out];exact names_any wb _ _ p.cats [] (StrsAt.keep HS7.out HBW2.out) (SliceAt.nil wb 1) HOK.out.cats).mono ?_;rintro e wc ⟨rfl,hb⟩;have HBc:=Lib.hid hb;clear hb TK3;have HBW3:=Lib.hid (HBW2.out.trans (HBc.out.mono HBW2.out.size)))))
        go_ret
        exact⟨ret_int (by rw[HZZ.out];unfold othersM;rw[if_neg H64.out,if_neg HX0.out,if_neg (by rw[← N6.out];exact h16),if_neg HY0.out,if_neg (by rw[← N7.out];exact h7),HZ3.out]),HBW3.out⟩
      ·have HY0:=Lib.hid (show ¬ namesM p.sens []=0 by rw[← HY.out];exact hy0)
       have dy:(y' != 0)=true:=by simp[hy0]
       clear hy0
       go_wp2_with (first | (have hZ:=TK1;clear hZ;go_at_call 101;go_must (refine(show Calls Tryz.prog 101 _ _ (fun e w'=>e=.returned (.int .i64 0)∧RowKit.Below wr.heap.size wr w') from by rw[HX.out];exact names_any wr _ _ (p.bools.map (·.name)) [] (own_strs HOWE.out) (SliceAt.nil wr 1) HBO1.out).mono ?_;rintro e wa ⟨rfl,hb⟩;have HBa:=Lib.hid hb;clear hb TK1;have HBW1:=Lib.hid (HBR.out.trans (HBa.out.mono HBR.out.size));have HQ1:=Lib.hid (Whole.under HBa.out HP0.out HP0.out.lt);clear kp5;have q6:wa.cell? ⟨w.heap.size,6,none⟩=some (.slice a6 n6 k6):=HQ1.out.cell 6)) | (have hZ:=TK2;clear hZ;go_at_call 101;go_must (refine(show Calls Tryz.prog 101 _ _ (fun e w'=>e=.returned (.int .i64 y')∧RowKit.Below wa.heap.size wa w') from by rw[HY.out];exact names_any wa _ _ p.sens [] (StrsAt.keep HS6.out HBW1.out) (SliceAt.nil wa 1) HOK.out.sens).mono ?_;rintro e wb ⟨rfl,hb⟩;have HBb:=Lib.hid hb;clear hb TK2;have HBW2:=Lib.hid (HBW1.out.trans (HBb.out.mono HBW1.out.size));have HQ2:=Lib.hid (Whole.under HBb.out HQ1.out HQ1.out.lt);clear q6;have q7:wb.cell? ⟨w.heap.size,7,none⟩=some (.slice a7 n7 k7):=HQ2.out.cell 7)))
       go_ret
       exact⟨ret_int (by rw[HZZ.out];unfold othersM;rw[if_neg H64.out,if_neg HX0.out,if_neg (by rw[← N6.out];exact h16),if_pos HY0.out,HY.out]),HBW2.out⟩
    ·have HX0:=Lib.hid (show ¬ namesM (p.bools.map (·.name)) []=0 by rw[← HX.out];exact hx0)
     have dx:(x != 0)=true:=by simp[hx0]
     clear hx0
     go_wp2_with (have hZ:=TK1;clear hZ;go_at_call 101;go_must (refine(show Calls Tryz.prog 101 _ _ (fun e w'=>e=.returned (.int .i64 x)∧RowKit.Below wr.heap.size wr w') from by rw[HX.out];exact names_any wr _ _ (p.bools.map (·.name)) [] (own_strs HOWE.out) (SliceAt.nil wr 1) HBO1.out).mono ?_;rintro e wa ⟨rfl,hb⟩;have HBa:=Lib.hid hb;clear hb TK1;have HBW1:=Lib.hid (HBR.out.trans (HBa.out.mono HBR.out.size));have HQ1:=Lib.hid (Whole.under HBa.out HP0.out HP0.out.lt);clear kp5;have q6:wa.cell? ⟨w.heap.size,6,none⟩=some (.slice a6 n6 k6):=HQ1.out.cell 6))
     go_ret
     exact⟨ret_int (by rw[HZZ.out];unfold othersM;rw[if_neg H64.out,if_pos HX0.out,HX.out]),HBW1.out⟩
end Go.Proofs.YtdcofoaihmongaaGreat
namespace Go.Proofs.YtdcofoaihmongaaGreat
open Go Go.RowKit
def checkM (p:APol):Int :=
 if firstL [classesM p,typesM p,rolesM p]=0 then firstL [usersM p,othersM p,rulesM p,transM p,changesM p,consM p,labelsM p,assertsM p] else firstL [classesM p,typesM p,rolesM p]
set_option maxRecDepth 100000 in
set_option maxHeartbeats 4000000 in
theorem check_any (w0:World) (c0 c1 c2 c3 c4 c5 c6 c7 c8 c9 c10 c11 c12 c13 c14 c15 c16:Value) (p:APol) (hp:PolAt w0 c0 c1 c2 c3 c4 c5 c6 c7 c8 c9 c10 c11 c12 c13 c14 c15 c16 p) (hok:p.Ok) (hsm:p.Few):Calls Tryz.prog 12 #[.agg #[c0,c1,c2,c3,c4,c5,c6,c7,c8,c9,c10,c11,c12,c13,c14,c15,c16]] w0 (RI w0 (checkM p)):=by
 have HRET:=hr1 Tryz.prog Tryz.f12 (RI w0 (checkM p)) 33 2 rfl
 refine en Tryz.func12 rfl Tryz.ntmps12 rfl (vs:=[.agg #[c0,c1,c2,c3,c4,c5,c6,c7,c8,c9,c10,c11,c12,c13,c14,c15,c16]]) rfl fun _ F=>?_
 have M:=Mm.start w0
 refine wp_seq_k fun K1 hK1 =>
  wk_region <|
  kbA (on rfl) rfl (F.u rf) rfl F rfl M fun g1 _ _ F M =>
  xA (v:=.int .i64 0) F rf rf rf fun _ F =>
  wpList_nil <|
  hK1 _ _ ?_
 refine wp_seq_k fun K2 hK2 =>
  wp_seq_k fun K3 hK3=>?_
 refine rd 9 [4,5,6,7,8,9,10,11,3] [isV (.agg #[c0,c1,c2,c3,c4,c5,c6,c7,c8,c9,c10,c11,c12,c13,c14,c15,c16]),isV (.int .i64 (classesM p)),isV (.agg #[c0,c1,c2,c3,c4,c5,c6,c7,c8,c9,c10,c11,c12,c13,c14,c15,c16]),isV (.int .i64 (typesM p)),isV (.agg #[c0,c1,c2,c3,c4,c5,c6,c7,c8,c9,c10,c11,c12,c13,c14,c15,c16]),isV (.int .i64 (rolesM p)),(Made M.wd (fun n=>.slice (some ⟨n,0,none⟩) 3 3) 42 #[.int .i64 (classesM p),.int .i64 (typesM p),.int .i64 (rolesM p)]),isV (.int .i64 (firstL [classesM p,typesM p,rolesM p])),isV (.int .i64 (firstL [classesM p,typesM p,rolesM p]))] (by kernel_rfl) (by kernel_rfl) (by kernel_rfl) rfl (by decide) rfl rfl F ⟨lasts_is _,lasts_is _,lasts_is _,lasts_is _,lasts_is _,lasts_is _,lasts_made _ _ _ _,lasts_is _,lasts_is _,trivial⟩ ⟨?_,?_,?_,?_,?_,?_,?_,?_,?_,trivial⟩ ?_
 ·intro a w Q' hf hi H G hK
  exact dv (on rfl) (e_loadW rfl (G 1 _ rfl (F.g 1 rfl)).ev u39 rfl ((M.keep hi).b 0 rfl) sz39 rfl) rfl hf rfl hK rfl
 ·intro a w Q' hf hi H G hK
  obtain⟨_,h4,rfl⟩:=H 0 ⟨.data,by simp,rfl⟩ _ _ rfl rfl
  exact dc (on rfl) (e_call rfl Tryz.func41 nm41 rfl (args1 h4.ev)) (classes_any _ _ _ _ _ _ _ _ _ _ _ _ _ _ _ _ _ _ p (hp.keep (M.keep hi).below) hok) rfl hf rfl hK (fun _=>rfl)
 ·intro a w Q' hf hi H G hK
  exact dv (on rfl) (e_loadW rfl (G 1 _ rfl (F.g 1 rfl)).ev u39 rfl ((M.keep hi).b 0 rfl) sz39 rfl) rfl hf rfl hK rfl
 ·intro a w Q' hf hi H G hK
  obtain⟨_,h6,rfl⟩:=H 2 ⟨.data,by simp,rfl⟩ _ _ rfl rfl
  exact dc (on rfl) (e_call rfl Tryz.func42 nm42 rfl (args1 h6.ev)) (types_any _ _ _ _ _ _ _ _ _ _ _ _ _ _ _ _ _ _ p (hp.keep (M.keep hi).below) hok hsm) rfl hf rfl hK (fun _=>rfl)
 ·intro a w Q' hf hi H G hK
  exact dv (on rfl) (e_loadW rfl (G 1 _ rfl (F.g 1 rfl)).ev u39 rfl ((M.keep hi).b 0 rfl) sz39 rfl) rfl hf rfl hK rfl
 ·intro a w Q' hf hi H G hK
  obtain⟨_,h8,rfl⟩:=H 4 ⟨.data,by simp,rfl⟩ _ _ rfl rfl
  exact dc (on rfl) (e_call rfl Tryz.func43 nm43 rfl (args1 h8.ev)) (roles_any _ _ _ _ _ _ _ _ _ _ _ _ _ _ _ _ _ _ p (hp.keep (M.keep hi).below) hok) rfl hf rfl hK (fun _=>rfl)
 ·intro a w Q' hf hi H G hK
  obtain⟨_,h5,rfl⟩:=H 1 ⟨.data,by simp,rfl⟩ _ _ rfl rfl
  obtain⟨_,h7,rfl⟩:=H 3 ⟨.data,by simp,rfl⟩ _ _ rfl rfl
  obtain⟨_,h9,rfl⟩:=H 5 ⟨.data,by simp,rfl⟩ _ _ rfl rfl
  exact dn (f:=fun n=>.slice (some ⟨n,0,none⟩) 3 3) (on rfl) (e_buildSlice rfl u178 sz42 zr42 (by decide) (by decide) (pv:=#[(0,.int .i64 (classesM p)),(1,.int .i64 (typesM p)),(2,.int .i64 (rolesM p))]) (by simp[h5.ev,h7.ev,h9.ev]) (cells:=#[.int .i64 (classesM p),.int .i64 (typesM p),.int .i64 (rolesM p)]) (by kernel_rfl)) rfl hf rfl hK (made_new hi)
 ·intro a w Q' hf hi H G hK
  obtain⟨_,h10,g2,rfl,hWg2,hgg2⟩:=H 6 ⟨.data,by simp,rfl⟩ _ _ rfl rfl
  exact dq (on rfl) (e_call rfl Tryz.func40 nm40 rfl (args1 h10.ev)) (first_any _ _ [classesM p,typesM p,rolesM p] (SliceAt.of_whole (k:=1) (n:=3) hWg2 rfl rfl (by simp[maxLen]))) rfl hf rfl hK rfl
 ·intro a w Q' hf hi H G hK
  obtain⟨_,h11,rfl⟩:=H 7 ⟨.data,by simp,rfl⟩ _ _ rfl rfl
  exact dv (on rfl) (e_assign rfl h11.ev) rfl hf rfl hK rfl
 (repeat clear F);intro _ _ hbq F D
 obtain⟨_,h,rfl⟩:=D 8 _ _ rfl rfl;have F:=F.add h
 have M:=M.keep hbq
 clear D hbq
 refine hK3 _ _ ?_
 refine wp_seq_k fun K4 hK4 =>
  wk_region <|
  xM F rf rf rf fun _ F =>
  kz F rf (e_neI rfl (F.u rf) rfl) fun _ F =>
  wpList_nil <|
  hK4 _ _ ?_
 refine wp_cond_split (F.e 13 rfl) (fun hc4=>?_) (fun hc4=>?_)
 ·
  have hd5:=of_decide_eq_false (show decide (firstL [classesM p,typesM p,rolesM p]=0)=false by simpa using hc4)
  have hk6:(decide (firstL [classesM p,typesM p,rolesM p]=0))=false:=by simpa using hc4
  refine wp_seq_k fun K5 hK5 =>
   wk_region <|
   xM F rf rf rf fun _ F =>
   xA F rf rf rf fun _ F =>
   wpList_nil <|
   hK5 _ _ ?_
  refine wp_ret <|
   HRET _ _ _ _ F rfl ?_
  exact⟨ret_int (by refine Eq.symm ?_;unfold checkM;repeat (first | with_reducible rfl | assumption | (with_reducible refine Eq.trans (if_pos ?_) ?_;focus (first | assumption | (refine wk_nf ?_;assumption) | (refine wk_nt ?_;assumption) | omega | (simp[hd5];done))) | (with_reducible refine Eq.trans (if_neg ?_) ?_;focus (first | assumption | (refine wk_nf ?_;assumption) | (refine wk_nt ?_;assumption) | omega | (simp[hd5];done))) | omega)),M.below⟩
 ·
  have hd7:=of_decide_eq_true (show decide (firstL [classesM p,typesM p,rolesM p]=0)=true by simpa using hc4)
  have hk8:(decide (firstL [classesM p,typesM p,rolesM p]=0))=true:=by simpa using hc4
  refine wp_skip <|
   hK2 _ _ ?_
  refine wp_seq_k fun K6 hK6=>?_
  refine rd 19 [15,16,17,18,19,20,21,22,23,24,25,26,27,28,29,30,31,32,2] [isV (.agg #[c0,c1,c2,c3,c4,c5,c6,c7,c8,c9,c10,c11,c12,c13,c14,c15,c16]),isV (.int .i64 (usersM p)),isV (.agg #[c0,c1,c2,c3,c4,c5,c6,c7,c8,c9,c10,c11,c12,c13,c14,c15,c16]),isV (.int .i64 (othersM p)),isV (.agg #[c0,c1,c2,c3,c4,c5,c6,c7,c8,c9,c10,c11,c12,c13,c14,c15,c16]),isV (.int .i64 (rulesM p)),isV (.agg #[c0,c1,c2,c3,c4,c5,c6,c7,c8,c9,c10,c11,c12,c13,c14,c15,c16]),isV (.int .i64 (transM p)),isV (.agg #[c0,c1,c2,c3,c4,c5,c6,c7,c8,c9,c10,c11,c12,c13,c14,c15,c16]),isV (.int .i64 (changesM p)),isV (.agg #[c0,c1,c2,c3,c4,c5,c6,c7,c8,c9,c10,c11,c12,c13,c14,c15,c16]),isV (.int .i64 (consM p)),isV (.agg #[c0,c1,c2,c3,c4,c5,c6,c7,c8,c9,c10,c11,c12,c13,c14,c15,c16]),isV (.int .i64 (labelsM p)),isV (.agg #[c0,c1,c2,c3,c4,c5,c6,c7,c8,c9,c10,c11,c12,c13,c14,c15,c16]),isV (.int .i64 (assertsM p)),(Made M.wd (fun n=>.slice (some ⟨n,0,none⟩) 8 8) 42 #[.int .i64 (usersM p),.int .i64 (othersM p),.int .i64 (rulesM p),.int .i64 (transM p),.int .i64 (changesM p),.int .i64 (consM p),.int .i64 (labelsM p),.int .i64 (assertsM p)]),isV (.int .i64 (firstL [usersM p,othersM p,rulesM p,transM p,changesM p,consM p,labelsM p,assertsM p])),isV (.int .i64 (firstL [usersM p,othersM p,rulesM p,transM p,changesM p,consM p,labelsM p,assertsM p]))] (by kernel_rfl) (by kernel_rfl) (by kernel_rfl) rfl (by decide) rfl rfl F ⟨lasts_is _,lasts_is _,lasts_is _,lasts_is _,lasts_is _,lasts_is _,lasts_is _,lasts_is _,lasts_is _,lasts_is _,lasts_is _,lasts_is _,lasts_is _,lasts_is _,lasts_is _,lasts_is _,lasts_made _ _ _ _,lasts_is _,lasts_is _,trivial⟩ ⟨?_,?_,?_,?_,?_,?_,?_,?_,?_,?_,?_,?_,?_,?_,?_,?_,?_,?_,?_,trivial⟩ ?_
  ·intro a w Q' hf hi H G hK
   exact dv (on rfl) (e_loadW rfl (G 1 _ rfl (F.g 1 rfl)).ev u39 rfl ((M.keep hi).b 0 rfl) sz39 rfl) rfl hf rfl hK rfl
  ·intro a w Q' hf hi H G hK
   obtain⟨_,h15,rfl⟩:=H 0 ⟨.data,by simp,rfl⟩ _ _ rfl rfl
   exact dc (on rfl) (e_call rfl Tryz.func44 nm44 rfl (args1 h15.ev)) (users_any _ _ _ _ _ _ _ _ _ _ _ _ _ _ _ _ _ _ p (hp.keep (M.keep hi).below) hok) rfl hf rfl hK (fun _=>rfl)
  ·intro a w Q' hf hi H G hK
   exact dv (on rfl) (e_loadW rfl (G 1 _ rfl (F.g 1 rfl)).ev u39 rfl ((M.keep hi).b 0 rfl) sz39 rfl) rfl hf rfl hK rfl
  ·intro a w Q' hf hi H G hK
   obtain⟨_,h17,rfl⟩:=H 2 ⟨.data,by simp,rfl⟩ _ _ rfl rfl
   exact dc (on rfl) (e_call rfl Tryz.func45 nm45 rfl (args1 h17.ev)) (others_any _ _ _ _ _ _ _ _ _ _ _ _ _ _ _ _ _ _ p (hp.keep (M.keep hi).below) hok) rfl hf rfl hK (fun _=>rfl)
  ·intro a w Q' hf hi H G hK
   exact dv (on rfl) (e_loadW rfl (G 1 _ rfl (F.g 1 rfl)).ev u39 rfl ((M.keep hi).b 0 rfl) sz39 rfl) rfl hf rfl hK rfl
  ·intro a w Q' hf hi H G hK
   obtain⟨_,h19,rfl⟩:=H 4 ⟨.data,by simp,rfl⟩ _ _ rfl rfl
   exact dc (on rfl) (e_call rfl Tryz.func46 nm46 rfl (args1 h19.ev)) (rules_any _ _ _ _ _ _ _ _ _ _ _ _ _ _ _ _ _ _ p (hp.keep (M.keep hi).below) hok) rfl hf rfl hK (fun _=>rfl)
  ·intro a w Q' hf hi H G hK
   exact dv (on rfl) (e_loadW rfl (G 1 _ rfl (F.g 1 rfl)).ev u39 rfl ((M.keep hi).b 0 rfl) sz39 rfl) rfl hf rfl hK rfl
  ·intro a w Q' hf hi H G hK
   obtain⟨_,h21,rfl⟩:=H 6 ⟨.data,by simp,rfl⟩ _ _ rfl rfl
   exact dc (on rfl) (e_call rfl Tryz.func47 nm47 rfl (args1 h21.ev)) (trans_any _ _ _ _ _ _ _ _ _ _ _ _ _ _ _ _ _ _ p (hp.keep (M.keep hi).below) hok) rfl hf rfl hK (fun _=>rfl)
  ·intro a w Q' hf hi H G hK
   exact dv (on rfl) (e_loadW rfl (G 1 _ rfl (F.g 1 rfl)).ev u39 rfl ((M.keep hi).b 0 rfl) sz39 rfl) rfl hf rfl hK rfl
  ·intro a w Q' hf hi H G hK
   obtain⟨_,h23,rfl⟩:=H 8 ⟨.data,by simp,rfl⟩ _ _ rfl rfl
   exact dc (on rfl) (e_call rfl Tryz.func48 nm48 rfl (args1 h23.ev)) (changes_any _ _ _ _ _ _ _ _ _ _ _ _ _ _ _ _ _ _ p (hp.keep (M.keep hi).below) hok) rfl hf rfl hK (fun _=>rfl)
  ·intro a w Q' hf hi H G hK
   exact dv (on rfl) (e_loadW rfl (G 1 _ rfl (F.g 1 rfl)).ev u39 rfl ((M.keep hi).b 0 rfl) sz39 rfl) rfl hf rfl hK rfl
  ·intro a w Q' hf hi H G hK
   obtain⟨_,h25,rfl⟩:=H 10 ⟨.data,by simp,rfl⟩ _ _ rfl rfl
   exact dc (on rfl) (e_call rfl Tryz.func49 nm49 rfl (args1 h25.ev)) (constraints_any _ _ _ _ _ _ _ _ _ _ _ _ _ _ _ _ _ _ p (hp.keep (M.keep hi).below) hok) rfl hf rfl hK (fun _=>rfl)
  ·intro a w Q' hf hi H G hK
   exact dv (on rfl) (e_loadW rfl (G 1 _ rfl (F.g 1 rfl)).ev u39 rfl ((M.keep hi).b 0 rfl) sz39 rfl) rfl hf rfl hK rfl
  ·intro a w Q' hf hi H G hK
   obtain⟨_,h27,rfl⟩:=H 12 ⟨.data,by simp,rfl⟩ _ _ rfl rfl
   exact dc (on rfl) (e_call rfl Tryz.func50 nm50 rfl (args1 h27.ev)) (labels_any _ _ _ _ _ _ _ _ _ _ _ _ _ _ _ _ _ _ p (hp.keep (M.keep hi).below) hok) rfl hf rfl hK (fun _=>rfl)
  ·intro a w Q' hf hi H G hK
   exact dv (on rfl) (e_loadW rfl (G 1 _ rfl (F.g 1 rfl)).ev u39 rfl ((M.keep hi).b 0 rfl) sz39 rfl) rfl hf rfl hK rfl
  ·intro a w Q' hf hi H G hK
   obtain⟨_,h29,rfl⟩:=H 14 ⟨.data,by simp,rfl⟩ _ _ rfl rfl
   exact dc (on rfl) (e_call rfl Tryz.func51 nm51 rfl (args1 h29.ev)) (asserts_any _ _ _ _ _ _ _ _ _ _ _ _ _ _ _ _ _ _ p (hp.keep (M.keep hi).below) hok) rfl hf rfl hK (fun _=>rfl)
  ·intro a w Q' hf hi H G hK
   obtain⟨_,h16,rfl⟩:=H 1 ⟨.data,by simp,rfl⟩ _ _ rfl rfl
   obtain⟨_,h18,rfl⟩:=H 3 ⟨.data,by simp,rfl⟩ _ _ rfl rfl
   obtain⟨_,h20,rfl⟩:=H 5 ⟨.data,by simp,rfl⟩ _ _ rfl rfl
   obtain⟨_,h22,rfl⟩:=H 7 ⟨.data,by simp,rfl⟩ _ _ rfl rfl
   obtain⟨_,h24,rfl⟩:=H 9 ⟨.data,by simp,rfl⟩ _ _ rfl rfl
   obtain⟨_,h26,rfl⟩:=H 11 ⟨.data,by simp,rfl⟩ _ _ rfl rfl
   obtain⟨_,h28,rfl⟩:=H 13 ⟨.data,by simp,rfl⟩ _ _ rfl rfl
   obtain⟨_,h30,rfl⟩:=H 15 ⟨.data,by simp,rfl⟩ _ _ rfl rfl
   exact dn (f:=fun n=>.slice (some ⟨n,0,none⟩) 8 8) (on rfl) (e_buildSlice rfl u178 sz42 zr42 (by decide) (by decide) (pv:=#[(0,.int .i64 (usersM p)),(1,.int .i64 (othersM p)),(2,.int .i64 (rulesM p)),(3,.int .i64 (transM p)),(4,.int .i64 (changesM p)),(5,.int .i64 (consM p)),(6,.int .i64 (labelsM p)),(7,.int .i64 (assertsM p))]) (by simp[h16.ev,h18.ev,h20.ev,h22.ev,h24.ev,h26.ev,h28.ev,h30.ev]) (cells:=#[.int .i64 (usersM p),.int .i64 (othersM p),.int .i64 (rulesM p),.int .i64 (transM p),.int .i64 (changesM p),.int .i64 (consM p),.int .i64 (labelsM p),.int .i64 (assertsM p)]) (by kernel_rfl)) rfl hf rfl hK (made_new hi)
  ·intro a w Q' hf hi H G hK
   obtain⟨_,h31,g9,rfl,hWg9,hgg9⟩:=H 16 ⟨.data,by simp,rfl⟩ _ _ rfl rfl
   exact dq (on rfl) (e_call rfl Tryz.func40 nm40 rfl (args1 h31.ev)) (first_any _ _ [usersM p,othersM p,rulesM p,transM p,changesM p,consM p,labelsM p,assertsM p] (SliceAt.of_whole (k:=1) (n:=8) hWg9 rfl rfl (by simp[maxLen]))) rfl hf rfl hK rfl
  ·intro a w Q' hf hi H G hK
   obtain⟨_,h32,rfl⟩:=H 17 ⟨.data,by simp,rfl⟩ _ _ rfl rfl
   exact dv (on rfl) (e_assign rfl h32.ev) rfl hf rfl hK rfl
  (repeat clear F);intro _ _ hbq F D
  obtain⟨_,h,rfl⟩:=D 18 _ _ rfl rfl;have F:=F.add h
  have M:=M.keep hbq
  clear D hbq
  refine hK6 _ _ ?_
  refine wp_ret <|
   HRET _ _ _ _ F rfl ?_
  exact⟨ret_int (by refine Eq.symm ?_;unfold checkM;repeat (first | with_reducible rfl | assumption | (with_reducible refine Eq.trans (if_pos ?_) ?_;focus (first | assumption | (refine wk_nf ?_;assumption) | (refine wk_nt ?_;assumption) | omega | (simp[hd7];done))) | (with_reducible refine Eq.trans (if_neg ?_) ?_;focus (first | assumption | (refine wk_nf ?_;assumption) | (refine wk_nt ?_;assumption) | omega | (simp[hd7];done))) | omega)),M.below⟩
end Go.Proofs.YtdcofoaihmongaaGreat
namespace Go.Proofs.YtdcofoaihmongaaGreat
open Go Go.RowKit
structure APol.SizesP (p:APol):Prop where
 types:p.types.length≤12
 attrs:p.attrs.length≤6
 classes:p.classes.length≤6
 rules:p.rules.length≤40
 conds:p.conds.length≤6
 bools:p.bools.length≤6
 cons:p.cons.length≤12
 users:p.users.length≤8
 roles:p.roles.length≤8
 trans:p.trans.length≤36
 rtrans:p.rtrans.length≤12
 ranges:p.ranges.length≤12
 sens:p.sens.length≤6
 cats:p.cats.length≤10
 sids:p.sids.length≤8
 files:p.files.length≤12
 asserts:p.asserts.length≤8
structure APol.SmallP (p:APol):Prop where
 sizes:p.SizesP
 als:∀ x∈p.types,x.als.length≤4
 conds:∀ x∈p.conds,levelsM 13 x≤6
 cons:∀ x∈p.cons,levelsM 13 x.expr≤6
theorem APol.SmallP.few {p:APol} (h:p.SmallP):p.Few:=⟨h.sizes.types,h.als⟩
set_option maxRecDepth 100000 in
set_option maxHeartbeats 4000000 in
theorem small_any (w0:World) (c0 c1 c2 c3 c4 c5 c6 c7 c8 c9 c10 c11 c12 c13 c14 c15 c16:Value) (p:APol) (hp:PolAt w0 c0 c1 c2 c3 c4 c5 c6 c7 c8 c9 c10 c11 c12 c13 c14 c15 c16 p) (hok:p.Ok):Calls Tryz.prog 11 #[.agg #[c0,c1,c2,c3,c4,c5,c6,c7,c8,c9,c10,c11,c12,c13,c14,c15,c16]] w0 (fun(e:Ending) (w':World)=>∃ v,e=.returned v∧∃ b:Bool,v=.bool b∧(b=true→p.SmallP)∧RowKit.Below w0.heap.size w0 w'):=by
 obtain⟨la0,lk0,rfl,hk0,hm0,hcell0⟩:=RowsAt.form hp.classes (by decide)
 obtain⟨la1,lk1,rfl,hk1,hm1,hcell1⟩:=RowsAt.form hp.types (by decide)
 obtain⟨la2,lk2,rfl,hk2,hm2,hcell2⟩:=SliceAt.form hp.attrs (by decide)
 obtain⟨la3,lk3,rfl,hk3,hm3,hcell3⟩:=SliceAt.form hp.roles (by decide)
 obtain⟨la4,lk4,rfl,hk4,hm4,hcell4⟩:=SliceAt.form hp.users (by decide)
 obtain⟨la5,lk5,rfl,hk5,hm5,hcell5⟩:=SliceAt.form hp.bools (by decide)
 obtain⟨la6,lk6,rfl,hk6,hm6,hcell6⟩:=SliceAt.form hp.sens (by decide)
 obtain⟨la7,lk7,rfl,hk7,hm7,hcell7⟩:=SliceAt.form hp.cats (by decide)
 obtain⟨la8,lk8,rfl,hk8,hm8,hcell8⟩:=RowsAt.form hp.conds (by decide)
 obtain⟨la9,lk9,rfl,hk9,hm9,hcell9⟩:=SliceAt.form hp.rules (by decide)
 obtain⟨la10,lk10,rfl,hk10,hm10,hcell10⟩:=SliceAt.form hp.trans (by decide)
 obtain⟨la11,lk11,rfl,hk11,hm11,hcell11⟩:=SliceAt.form hp.rtrans (by decide)
 obtain⟨la12,lk12,rfl,hk12,hm12,hcell12⟩:=SliceAt.form hp.ranges (by decide)
 obtain⟨la13,lk13,rfl,hk13,hm13,hcell13⟩:=RowsAt.form hp.cons (by decide)
 obtain⟨la14,lk14,rfl,hk14,hm14,hcell14⟩:=SliceAt.form hp.sids (by decide)
 obtain⟨la15,lk15,rfl,hk15,hm15,hcell15⟩:=SliceAt.form hp.files (by decide)
 obtain⟨la16,lk16,rfl,hk16,hm16,hcell16⟩:=SliceAt.form hp.asserts (by decide)
 have HRET:=hr1 Tryz.prog Tryz.f11 (fun(e:Ending) (w':World)=>∃ v,e=.returned v∧∃ b:Bool,v=.bool b∧(b=true→p.SmallP)∧RowKit.Below w0.heap.size w0 w') 188 2 rfl
 refine en Tryz.func11 rfl Tryz.ntmps11 rfl (vs:=[.agg #[.slice la0 p.classes.length lk0,.slice la1 p.types.length lk1,.slice la2 p.attrs.length lk2,.slice la3 p.roles.length lk3,.slice la4 p.users.length lk4,.slice la5 p.bools.length lk5,.slice la6 p.sens.length lk6,.slice la7 p.cats.length lk7,.slice la8 p.conds.length lk8,.slice la9 p.rules.length lk9,.slice la10 p.trans.length lk10,.slice la11 p.rtrans.length lk11,.slice la12 p.ranges.length lk12,.slice la13 p.cons.length lk13,.slice la14 p.sids.length lk14,.slice la15 p.files.length lk15,.slice la16 p.asserts.length lk16]]) rfl fun _ F=>?_
 have M:=Mm.start w0
 refine wp_seq_k fun K1 hK1 =>
  wk_region <|
  kbA (on rfl) rfl (F.u rf) rfl F rfl M fun g1 _ _ F M =>
  xA (v:=.bool false) F rf rf rf fun _ F =>
  wpList_nil <|
  hK1 _ _ ?_
 refine wp_seq_k fun K2 hK2 =>
  wp_seq_k fun K3 hK3 =>
  wk_region <|
  xF 1 F rf rf rf u39 rf sz23 rf fun _ F =>
  xL F (M.b 0 rfl) rf rf rf u23 rf rf fun _ F =>
  kz F rf (e_lenSl rfl (F.u rf) u23) fun _ F =>
  kz F rf (e_gtr rfl (F.u rf) rfl) fun _ F =>
  xM F rf rf rf fun _ F=>?_
 cases hq2:(decide (12<(p.types.length:Int)):Bool) with
 | true =>
  have F:=F.eq 13 rfl (congrArg Value.bool hq2)
  have hd3:=of_decide_eq_true hq2
  refine ko rfl rfl rfl (F.g 13 rfl) rfl F rfl fun _ F =>
   ko rfl rfl rfl (F.g 13 rfl) rfl F rfl fun _ F =>
   ko rfl rfl rfl (F.g 13 rfl) rfl F rfl fun _ F =>
   ko rfl rfl rfl (F.g 13 rfl) rfl F rfl fun _ F =>
   ke (u:=.bool true) (on rfl) (e_pick rfl (F.u rf) rfl (F.u rf)) rfl F rfl rfl fun _ F =>
   xM F rf rf rf fun _ F =>
   ko rfl rfl rfl (F.g 19 rfl) rfl F rfl fun _ F =>
   ko rfl rfl rfl (F.g 19 rfl) rfl F rfl fun _ F =>
   ko rfl rfl rfl (F.g 19 rfl) rfl F rfl fun _ F =>
   ko rfl rfl rfl (F.g 19 rfl) rfl F rfl fun _ F =>
   ke (u:=.bool true) (on rfl) (e_pick rfl (F.u rf) rfl (F.u rf)) rfl F rfl rfl fun _ F =>
   xM F rf rf rf fun _ F =>
   ko rfl rfl rfl (F.g 25 rfl) rfl F rfl fun _ F =>
   ko rfl rfl rfl (F.g 25 rfl) rfl F rfl fun _ F =>
   ko rfl rfl rfl (F.g 25 rfl) rfl F rfl fun _ F =>
   ko rfl rfl rfl (F.g 25 rfl) rfl F rfl fun _ F =>
   ke (u:=.bool true) (on rfl) (e_pick rfl (F.u rf) rfl (F.u rf)) rfl F rfl rfl fun _ F =>
   xM F rf rf rf fun _ F =>
   ko rfl rfl rfl (F.g 31 rfl) rfl F rfl fun _ F =>
   ko rfl rfl rfl (F.g 31 rfl) rfl F rfl fun _ F =>
   ko rfl rfl rfl (F.g 31 rfl) rfl F rfl fun _ F =>
   ko rfl rfl rfl (F.g 31 rfl) rfl F rfl fun _ F =>
   ke (u:=.bool true) (on rfl) (e_pick rfl (F.u rf) rfl (F.u rf)) rfl F rfl rfl fun _ F =>
   xM F rf rf rf fun _ F =>
   ko rfl rfl rfl (F.g 37 rfl) rfl F rfl fun _ F =>
   ko rfl rfl rfl (F.g 37 rfl) rfl F rfl fun _ F =>
   ko rfl rfl rfl (F.g 37 rfl) rfl F rfl fun _ F =>
   ko rfl rfl rfl (F.g 37 rfl) rfl F rfl fun _ F =>
   ke (u:=.bool true) (on rfl) (e_pick rfl (F.u rf) rfl (F.u rf)) rfl F rfl rfl fun _ F =>
   xM F rf rf rf fun _ F =>
   ko rfl rfl rfl (F.g 43 rfl) rfl F rfl fun _ F =>
   ko rfl rfl rfl (F.g 43 rfl) rfl F rfl fun _ F =>
   ko rfl rfl rfl (F.g 43 rfl) rfl F rfl fun _ F =>
   ko rfl rfl rfl (F.g 43 rfl) rfl F rfl fun _ F =>
   ke (u:=.bool true) (on rfl) (e_pick rfl (F.u rf) rfl (F.u rf)) rfl F rfl rfl fun _ F =>
   xM F rf rf rf fun _ F =>
   ko rfl rfl rfl (F.g 49 rfl) rfl F rfl fun _ F =>
   ko rfl rfl rfl (F.g 49 rfl) rfl F rfl fun _ F =>
   ko rfl rfl rfl (F.g 49 rfl) rfl F rfl fun _ F =>
   ko rfl rfl rfl (F.g 49 rfl) rfl F rfl fun _ F =>
   ke (u:=.bool true) (on rfl) (e_pick rfl (F.u rf) rfl (F.u rf)) rfl F rfl rfl fun _ F =>
   xM F rf rf rf fun _ F =>
   ko rfl rfl rfl (F.g 55 rfl) rfl F rfl fun _ F =>
   ko rfl rfl rfl (F.g 55 rfl) rfl F rfl fun _ F =>
   ko rfl rfl rfl (F.g 55 rfl) rfl F rfl fun _ F =>
   ko rfl rfl rfl (F.g 55 rfl) rfl F rfl fun _ F =>
   ke (u:=.bool true) (on rfl) (e_pick rfl (F.u rf) rfl (F.u rf)) rfl F rfl rfl fun _ F =>
   wpList_nil <|
   hK3 _ _ ?_
  refine wp_cond_true (F.e 60 rfl) ?_
  refine wp_seq_k fun K4 hK4 =>
   wk_region <|
   xA (v:=.bool false) F rf rf rf fun _ F =>
   wpList_nil <|
   hK4 _ _ ?_
  refine wp_ret <|
   HRET _ _ _ _ F rfl ?_
  exact⟨_,rfl,false,rfl,(fun h=>by cases h),M.below⟩
 | false =>
  have F:=F.eq 13 rfl (congrArg Value.bool hq2)
  have hd4:=of_decide_eq_false hq2
  refine ke (u:=.pointer (some ⟨g1,2,none⟩)) (gn rfl rfl (F.g 13 rfl)) (e_field rfl (F.u rf) u39 rfl sz24) rfl F rfl rfl fun _ F =>
   kv (gn rfl rfl (F.g 13 rfl)) (e_load1 rfl (F.u rf) u24 rfl ((M.b 0 rfl).c1 2)) rfl F rfl fun _ F =>
   kv (gn rfl rfl (F.g 13 rfl)) (e_lenSl rfl (F.u rf) u24) rfl F rfl fun _ F =>
   kv (gn rfl rfl (F.g 13 rfl)) (e_gtr rfl (F.u rf) rfl) rfl F rfl fun _ F =>
   ke (u:=.bool (decide (6<(p.attrs.length:Int)))) (on rfl) (e_pick rfl (F.u rf) rfl (F.u rf)) rfl F rfl rfl fun _ F =>
   xM F rf rf rf fun _ F=>?_
  cases hq5:(decide (6<(p.attrs.length:Int)):Bool) with
  | true =>
   have F:=F.eq 19 rfl (congrArg Value.bool hq5)
   have hd6:=of_decide_eq_true hq5
   refine ko rfl rfl rfl (F.g 19 rfl) rfl F rfl fun _ F =>
    ko rfl rfl rfl (F.g 19 rfl) rfl F rfl fun _ F =>
    ko rfl rfl rfl (F.g 19 rfl) rfl F rfl fun _ F =>
    ko rfl rfl rfl (F.g 19 rfl) rfl F rfl fun _ F =>
    ke (u:=.bool true) (on rfl) (e_pick rfl (F.u rf) rfl (F.u rf)) rfl F rfl rfl fun _ F =>
    xM F rf rf rf fun _ F =>
    ko rfl rfl rfl (F.g 25 rfl) rfl F rfl fun _ F =>
    ko rfl rfl rfl (F.g 25 rfl) rfl F rfl fun _ F =>
    ko rfl rfl rfl (F.g 25 rfl) rfl F rfl fun _ F =>
    ko rfl rfl rfl (F.g 25 rfl) rfl F rfl fun _ F =>
    ke (u:=.bool true) (on rfl) (e_pick rfl (F.u rf) rfl (F.u rf)) rfl F rfl rfl fun _ F =>
    xM F rf rf rf fun _ F =>
    ko rfl rfl rfl (F.g 31 rfl) rfl F rfl fun _ F =>
    ko rfl rfl rfl (F.g 31 rfl) rfl F rfl fun _ F =>
    ko rfl rfl rfl (F.g 31 rfl) rfl F rfl fun _ F =>
    ko rfl rfl rfl (F.g 31 rfl) rfl F rfl fun _ F =>
    ke (u:=.bool true) (on rfl) (e_pick rfl (F.u rf) rfl (F.u rf)) rfl F rfl rfl fun _ F =>
    xM F rf rf rf fun _ F =>
    ko rfl rfl rfl (F.g 37 rfl) rfl F rfl fun _ F =>
    ko rfl rfl rfl (F.g 37 rfl) rfl F rfl fun _ F =>
    ko rfl rfl rfl (F.g 37 rfl) rfl F rfl fun _ F =>
    ko rfl rfl rfl (F.g 37 rfl) rfl F rfl fun _ F =>
    ke (u:=.bool true) (on rfl) (e_pick rfl (F.u rf) rfl (F.u rf)) rfl F rfl rfl fun _ F =>
    xM F rf rf rf fun _ F =>
    ko rfl rfl rfl (F.g 43 rfl) rfl F rfl fun _ F =>
    ko rfl rfl rfl (F.g 43 rfl) rfl F rfl fun _ F =>
    ko rfl rfl rfl (F.g 43 rfl) rfl F rfl fun _ F =>
    ko rfl rfl rfl (F.g 43 rfl) rfl F rfl fun _ F =>
    ke (u:=.bool true) (on rfl) (e_pick rfl (F.u rf) rfl (F.u rf)) rfl F rfl rfl fun _ F =>
    xM F rf rf rf fun _ F =>
    ko rfl rfl rfl (F.g 49 rfl) rfl F rfl fun _ F =>
    ko rfl rfl rfl (F.g 49 rfl) rfl F rfl fun _ F =>
    ko rfl rfl rfl (F.g 49 rfl) rfl F rfl fun _ F =>
    ko rfl rfl rfl (F.g 49 rfl) rfl F rfl fun _ F =>
    ke (u:=.bool true) (on rfl) (e_pick rfl (F.u rf) rfl (F.u rf)) rfl F rfl rfl fun _ F =>
    xM F rf rf rf fun _ F =>
    ko rfl rfl rfl (F.g 55 rfl) rfl F rfl fun _ F =>
    ko rfl rfl rfl (F.g 55 rfl) rfl F rfl fun _ F =>
    ko rfl rfl rfl (F.g 55 rfl) rfl F rfl fun _ F =>
    ko rfl rfl rfl (F.g 55 rfl) rfl F rfl fun _ F =>
    ke (u:=.bool true) (on rfl) (e_pick rfl (F.u rf) rfl (F.u rf)) rfl F rfl rfl fun _ F =>
    wpList_nil <|
    hK3 _ _ ?_
   refine wp_cond_true (F.e 60 rfl) ?_
   refine wp_seq_k fun K5 hK5 =>
    wk_region <|
    xA (v:=.bool false) F rf rf rf fun _ F =>
    wpList_nil <|
    hK5 _ _ ?_
   refine wp_ret <|
    HRET _ _ _ _ F rfl ?_
   exact⟨_,rfl,false,rfl,(fun h=>by cases h),M.below⟩
  | false =>
   have F:=F.eq 19 rfl (congrArg Value.bool hq5)
   have hd7:=of_decide_eq_false hq5
   refine ke (u:=.pointer (some ⟨g1,0,none⟩)) (gn rfl rfl (F.g 19 rfl)) (e_field rfl (F.u rf) u39 rfl sz22) rfl F rfl rfl fun _ F =>
    kv (gn rfl rfl (F.g 19 rfl)) (e_load1 rfl (F.u rf) u22 rfl ((M.b 0 rfl).c1 0)) rfl F rfl fun _ F =>
    kv (gn rfl rfl (F.g 19 rfl)) (e_lenSl rfl (F.u rf) u22) rfl F rfl fun _ F =>
    kv (gn rfl rfl (F.g 19 rfl)) (e_gtr rfl (F.u rf) rfl) rfl F rfl fun _ F =>
    ke (u:=.bool (decide (6<(p.classes.length:Int)))) (on rfl) (e_pick rfl (F.u rf) rfl (F.u rf)) rfl F rfl rfl fun _ F =>
    xM F rf rf rf fun _ F=>?_
   cases hq8:(decide (6<(p.classes.length:Int)):Bool) with
   | true =>
    have F:=F.eq 25 rfl (congrArg Value.bool hq8)
    have hd9:=of_decide_eq_true hq8
    refine ko rfl rfl rfl (F.g 25 rfl) rfl F rfl fun _ F =>
     ko rfl rfl rfl (F.g 25 rfl) rfl F rfl fun _ F =>
     ko rfl rfl rfl (F.g 25 rfl) rfl F rfl fun _ F =>
     ko rfl rfl rfl (F.g 25 rfl) rfl F rfl fun _ F =>
     ke (u:=.bool true) (on rfl) (e_pick rfl (F.u rf) rfl (F.u rf)) rfl F rfl rfl fun _ F =>
     xM F rf rf rf fun _ F =>
     ko rfl rfl rfl (F.g 31 rfl) rfl F rfl fun _ F =>
     ko rfl rfl rfl (F.g 31 rfl) rfl F rfl fun _ F =>
     ko rfl rfl rfl (F.g 31 rfl) rfl F rfl fun _ F =>
     ko rfl rfl rfl (F.g 31 rfl) rfl F rfl fun _ F =>
     ke (u:=.bool true) (on rfl) (e_pick rfl (F.u rf) rfl (F.u rf)) rfl F rfl rfl fun _ F =>
     xM F rf rf rf fun _ F =>
     ko rfl rfl rfl (F.g 37 rfl) rfl F rfl fun _ F =>
     ko rfl rfl rfl (F.g 37 rfl) rfl F rfl fun _ F =>
     ko rfl rfl rfl (F.g 37 rfl) rfl F rfl fun _ F =>
     ko rfl rfl rfl (F.g 37 rfl) rfl F rfl fun _ F =>
     ke (u:=.bool true) (on rfl) (e_pick rfl (F.u rf) rfl (F.u rf)) rfl F rfl rfl fun _ F =>
     xM F rf rf rf fun _ F =>
     ko rfl rfl rfl (F.g 43 rfl) rfl F rfl fun _ F =>
     ko rfl rfl rfl (F.g 43 rfl) rfl F rfl fun _ F =>
     ko rfl rfl rfl (F.g 43 rfl) rfl F rfl fun _ F =>
     ko rfl rfl rfl (F.g 43 rfl) rfl F rfl fun _ F =>
     ke (u:=.bool true) (on rfl) (e_pick rfl (F.u rf) rfl (F.u rf)) rfl F rfl rfl fun _ F =>
     xM F rf rf rf fun _ F =>
     ko rfl rfl rfl (F.g 49 rfl) rfl F rfl fun _ F =>
     ko rfl rfl rfl (F.g 49 rfl) rfl F rfl fun _ F =>
     ko rfl rfl rfl (F.g 49 rfl) rfl F rfl fun _ F =>
     ko rfl rfl rfl (F.g 49 rfl) rfl F rfl fun _ F =>
     ke (u:=.bool true) (on rfl) (e_pick rfl (F.u rf) rfl (F.u rf)) rfl F rfl rfl fun _ F =>
     xM F rf rf rf fun _ F =>
     ko rfl rfl rfl (F.g 55 rfl) rfl F rfl fun _ F =>
     ko rfl rfl rfl (F.g 55 rfl) rfl F rfl fun _ F =>
     ko rfl rfl rfl (F.g 55 rfl) rfl F rfl fun _ F =>
     ko rfl rfl rfl (F.g 55 rfl) rfl F rfl fun _ F =>
     ke (u:=.bool true) (on rfl) (e_pick rfl (F.u rf) rfl (F.u rf)) rfl F rfl rfl fun _ F =>
     wpList_nil <|
     hK3 _ _ ?_
    refine wp_cond_true (F.e 60 rfl) ?_
    refine wp_seq_k fun K6 hK6 =>
     wk_region <|
     xA (v:=.bool false) F rf rf rf fun _ F =>
     wpList_nil <|
     hK6 _ _ ?_
    refine wp_ret <|
     HRET _ _ _ _ F rfl ?_
    exact⟨_,rfl,false,rfl,(fun h=>by cases h),M.below⟩
   | false =>
    have F:=F.eq 25 rfl (congrArg Value.bool hq8)
    have hd10:=of_decide_eq_false hq8
    refine ke (u:=.pointer (some ⟨g1,9,none⟩)) (gn rfl rfl (F.g 25 rfl)) (e_field rfl (F.u rf) u39 rfl sz30) rfl F rfl rfl fun _ F =>
     kv (gn rfl rfl (F.g 25 rfl)) (e_load1 rfl (F.u rf) u30 rfl ((M.b 0 rfl).c1 9)) rfl F rfl fun _ F =>
     kv (gn rfl rfl (F.g 25 rfl)) (e_lenSl rfl (F.u rf) u30) rfl F rfl fun _ F =>
     kv (gn rfl rfl (F.g 25 rfl)) (e_gtr rfl (F.u rf) rfl) rfl F rfl fun _ F =>
     ke (u:=.bool (decide (40<(p.rules.length:Int)))) (on rfl) (e_pick rfl (F.u rf) rfl (F.u rf)) rfl F rfl rfl fun _ F =>
     xM F rf rf rf fun _ F=>?_
    cases hq11:(decide (40<(p.rules.length:Int)):Bool) with
    | true =>
     have F:=F.eq 31 rfl (congrArg Value.bool hq11)
     have hd12:=of_decide_eq_true hq11
     refine ko rfl rfl rfl (F.g 31 rfl) rfl F rfl fun _ F =>
      ko rfl rfl rfl (F.g 31 rfl) rfl F rfl fun _ F =>
      ko rfl rfl rfl (F.g 31 rfl) rfl F rfl fun _ F =>
      ko rfl rfl rfl (F.g 31 rfl) rfl F rfl fun _ F =>
      ke (u:=.bool true) (on rfl) (e_pick rfl (F.u rf) rfl (F.u rf)) rfl F rfl rfl fun _ F =>
      xM F rf rf rf fun _ F =>
      ko rfl rfl rfl (F.g 37 rfl) rfl F rfl fun _ F =>
      ko rfl rfl rfl (F.g 37 rfl) rfl F rfl fun _ F =>
      ko rfl rfl rfl (F.g 37 rfl) rfl F rfl fun _ F =>
      ko rfl rfl rfl (F.g 37 rfl) rfl F rfl fun _ F =>
      ke (u:=.bool true) (on rfl) (e_pick rfl (F.u rf) rfl (F.u rf)) rfl F rfl rfl fun _ F =>
      xM F rf rf rf fun _ F =>
      ko rfl rfl rfl (F.g 43 rfl) rfl F rfl fun _ F =>
      ko rfl rfl rfl (F.g 43 rfl) rfl F rfl fun _ F =>
      ko rfl rfl rfl (F.g 43 rfl) rfl F rfl fun _ F =>
      ko rfl rfl rfl (F.g 43 rfl) rfl F rfl fun _ F =>
      ke (u:=.bool true) (on rfl) (e_pick rfl (F.u rf) rfl (F.u rf)) rfl F rfl rfl fun _ F =>
      xM F rf rf rf fun _ F =>
      ko rfl rfl rfl (F.g 49 rfl) rfl F rfl fun _ F =>
      ko rfl rfl rfl (F.g 49 rfl) rfl F rfl fun _ F =>
      ko rfl rfl rfl (F.g 49 rfl) rfl F rfl fun _ F =>
      ko rfl rfl rfl (F.g 49 rfl) rfl F rfl fun _ F =>
      ke (u:=.bool true) (on rfl) (e_pick rfl (F.u rf) rfl (F.u rf)) rfl F rfl rfl fun _ F =>
      xM F rf rf rf fun _ F =>
      ko rfl rfl rfl (F.g 55 rfl) rfl F rfl fun _ F =>
      ko rfl rfl rfl (F.g 55 rfl) rfl F rfl fun _ F =>
      ko rfl rfl rfl (F.g 55 rfl) rfl F rfl fun _ F =>
      ko rfl rfl rfl (F.g 55 rfl) rfl F rfl fun _ F =>
      ke (u:=.bool true) (on rfl) (e_pick rfl (F.u rf) rfl (F.u rf)) rfl F rfl rfl fun _ F =>
      wpList_nil <|
      hK3 _ _ ?_
     refine wp_cond_true (F.e 60 rfl) ?_
     refine wp_seq_k fun K7 hK7 =>
      wk_region <|
      xA (v:=.bool false) F rf rf rf fun _ F =>
      wpList_nil <|
      hK7 _ _ ?_
     refine wp_ret <|
      HRET _ _ _ _ F rfl ?_
     exact⟨_,rfl,false,rfl,(fun h=>by cases h),M.below⟩
    | false =>
     have F:=F.eq 31 rfl (congrArg Value.bool hq11)
     have hd13:=of_decide_eq_false hq11
     refine ke (u:=.pointer (some ⟨g1,8,none⟩)) (gn rfl rfl (F.g 31 rfl)) (e_field rfl (F.u rf) u39 rfl sz29) rfl F rfl rfl fun _ F =>
      kv (gn rfl rfl (F.g 31 rfl)) (e_load1 rfl (F.u rf) u29 rfl ((M.b 0 rfl).c1 8)) rfl F rfl fun _ F =>
      kv (gn rfl rfl (F.g 31 rfl)) (e_lenSl rfl (F.u rf) u29) rfl F rfl fun _ F =>
      kv (gn rfl rfl (F.g 31 rfl)) (e_gtr rfl (F.u rf) rfl) rfl F rfl fun _ F =>
      ke (u:=.bool (decide (6<(p.conds.length:Int)))) (on rfl) (e_pick rfl (F.u rf) rfl (F.u rf)) rfl F rfl rfl fun _ F =>
      xM F rf rf rf fun _ F=>?_
     cases hq14:(decide (6<(p.conds.length:Int)):Bool) with
     | true =>
      have F:=F.eq 37 rfl (congrArg Value.bool hq14)
      have hd15:=of_decide_eq_true hq14
      refine ko rfl rfl rfl (F.g 37 rfl) rfl F rfl fun _ F =>
       ko rfl rfl rfl (F.g 37 rfl) rfl F rfl fun _ F =>
       ko rfl rfl rfl (F.g 37 rfl) rfl F rfl fun _ F =>
       ko rfl rfl rfl (F.g 37 rfl) rfl F rfl fun _ F =>
       ke (u:=.bool true) (on rfl) (e_pick rfl (F.u rf) rfl (F.u rf)) rfl F rfl rfl fun _ F =>
       xM F rf rf rf fun _ F =>
       ko rfl rfl rfl (F.g 43 rfl) rfl F rfl fun _ F =>
       ko rfl rfl rfl (F.g 43 rfl) rfl F rfl fun _ F =>
       ko rfl rfl rfl (F.g 43 rfl) rfl F rfl fun _ F =>
       ko rfl rfl rfl (F.g 43 rfl) rfl F rfl fun _ F =>
       ke (u:=.bool true) (on rfl) (e_pick rfl (F.u rf) rfl (F.u rf)) rfl F rfl rfl fun _ F =>
       xM F rf rf rf fun _ F =>
       ko rfl rfl rfl (F.g 49 rfl) rfl F rfl fun _ F =>
       ko rfl rfl rfl (F.g 49 rfl) rfl F rfl fun _ F =>
       ko rfl rfl rfl (F.g 49 rfl) rfl F rfl fun _ F =>
       ko rfl rfl rfl (F.g 49 rfl) rfl F rfl fun _ F =>
       ke (u:=.bool true) (on rfl) (e_pick rfl (F.u rf) rfl (F.u rf)) rfl F rfl rfl fun _ F =>
       xM F rf rf rf fun _ F =>
       ko rfl rfl rfl (F.g 55 rfl) rfl F rfl fun _ F =>
       ko rfl rfl rfl (F.g 55 rfl) rfl F rfl fun _ F =>
       ko rfl rfl rfl (F.g 55 rfl) rfl F rfl fun _ F =>
       ko rfl rfl rfl (F.g 55 rfl) rfl F rfl fun _ F =>
       ke (u:=.bool true) (on rfl) (e_pick rfl (F.u rf) rfl (F.u rf)) rfl F rfl rfl fun _ F =>
       wpList_nil <|
       hK3 _ _ ?_
      refine wp_cond_true (F.e 60 rfl) ?_
      refine wp_seq_k fun K8 hK8 =>
       wk_region <|
       xA (v:=.bool false) F rf rf rf fun _ F =>
       wpList_nil <|
       hK8 _ _ ?_
      refine wp_ret <|
       HRET _ _ _ _ F rfl ?_
      exact⟨_,rfl,false,rfl,(fun h=>by cases h),M.below⟩
     | false =>
      have F:=F.eq 37 rfl (congrArg Value.bool hq14)
      have hd16:=of_decide_eq_false hq14
      refine ke (u:=.pointer (some ⟨g1,5,none⟩)) (gn rfl rfl (F.g 37 rfl)) (e_field rfl (F.u rf) u39 rfl sz27) rfl F rfl rfl fun _ F =>
       kv (gn rfl rfl (F.g 37 rfl)) (e_load1 rfl (F.u rf) u27 rfl ((M.b 0 rfl).c1 5)) rfl F rfl fun _ F =>
       kv (gn rfl rfl (F.g 37 rfl)) (e_lenSl rfl (F.u rf) u27) rfl F rfl fun _ F =>
       kv (gn rfl rfl (F.g 37 rfl)) (e_gtr rfl (F.u rf) rfl) rfl F rfl fun _ F =>
       ke (u:=.bool (decide (6<(p.bools.length:Int)))) (on rfl) (e_pick rfl (F.u rf) rfl (F.u rf)) rfl F rfl rfl fun _ F =>
       xM F rf rf rf fun _ F=>?_
      cases hq17:(decide (6<(p.bools.length:Int)):Bool) with
      | true =>
       have F:=F.eq 43 rfl (congrArg Value.bool hq17)
       have hd18:=of_decide_eq_true hq17
       refine ko rfl rfl rfl (F.g 43 rfl) rfl F rfl fun _ F =>
        ko rfl rfl rfl (F.g 43 rfl) rfl F rfl fun _ F =>
        ko rfl rfl rfl (F.g 43 rfl) rfl F rfl fun _ F =>
        ko rfl rfl rfl (F.g 43 rfl) rfl F rfl fun _ F =>
        ke (u:=.bool true) (on rfl) (e_pick rfl (F.u rf) rfl (F.u rf)) rfl F rfl rfl fun _ F =>
        xM F rf rf rf fun _ F =>
        ko rfl rfl rfl (F.g 49 rfl) rfl F rfl fun _ F =>
        ko rfl rfl rfl (F.g 49 rfl) rfl F rfl fun _ F =>
        ko rfl rfl rfl (F.g 49 rfl) rfl F rfl fun _ F =>
        ko rfl rfl rfl (F.g 49 rfl) rfl F rfl fun _ F =>
        ke (u:=.bool true) (on rfl) (e_pick rfl (F.u rf) rfl (F.u rf)) rfl F rfl rfl fun _ F =>
        xM F rf rf rf fun _ F =>
        ko rfl rfl rfl (F.g 55 rfl) rfl F rfl fun _ F =>
        ko rfl rfl rfl (F.g 55 rfl) rfl F rfl fun _ F =>
        ko rfl rfl rfl (F.g 55 rfl) rfl F rfl fun _ F =>
        ko rfl rfl rfl (F.g 55 rfl) rfl F rfl fun _ F =>
        ke (u:=.bool true) (on rfl) (e_pick rfl (F.u rf) rfl (F.u rf)) rfl F rfl rfl fun _ F =>
        wpList_nil <|
        hK3 _ _ ?_
       refine wp_cond_true (F.e 60 rfl) ?_
       refine wp_seq_k fun K9 hK9 =>
        wk_region <|
        xA (v:=.bool false) F rf rf rf fun _ F =>
        wpList_nil <|
        hK9 _ _ ?_
       refine wp_ret <|
        HRET _ _ _ _ F rfl ?_
       exact⟨_,rfl,false,rfl,(fun h=>by cases h),M.below⟩
      | false =>
       have F:=F.eq 43 rfl (congrArg Value.bool hq17)
       have hd19:=of_decide_eq_false hq17
       refine ke (u:=.pointer (some ⟨g1,13,none⟩)) (gn rfl rfl (F.g 43 rfl)) (e_field rfl (F.u rf) u39 rfl sz34) rfl F rfl rfl fun _ F =>
        kv (gn rfl rfl (F.g 43 rfl)) (e_load1 rfl (F.u rf) u34 rfl ((M.b 0 rfl).c1 13)) rfl F rfl fun _ F =>
        kv (gn rfl rfl (F.g 43 rfl)) (e_lenSl rfl (F.u rf) u34) rfl F rfl fun _ F =>
        kv (gn rfl rfl (F.g 43 rfl)) (e_gtr rfl (F.u rf) rfl) rfl F rfl fun _ F =>
        ke (u:=.bool (decide (12<(p.cons.length:Int)))) (on rfl) (e_pick rfl (F.u rf) rfl (F.u rf)) rfl F rfl rfl fun _ F =>
        xM F rf rf rf fun _ F=>?_
       cases hq20:(decide (12<(p.cons.length:Int)):Bool) with
       | true =>
        have F:=F.eq 49 rfl (congrArg Value.bool hq20)
        have hd21:=of_decide_eq_true hq20
        refine ko rfl rfl rfl (F.g 49 rfl) rfl F rfl fun _ F =>
         ko rfl rfl rfl (F.g 49 rfl) rfl F rfl fun _ F =>
         ko rfl rfl rfl (F.g 49 rfl) rfl F rfl fun _ F =>
         ko rfl rfl rfl (F.g 49 rfl) rfl F rfl fun _ F =>
         ke (u:=.bool true) (on rfl) (e_pick rfl (F.u rf) rfl (F.u rf)) rfl F rfl rfl fun _ F =>
         xM F rf rf rf fun _ F =>
         ko rfl rfl rfl (F.g 55 rfl) rfl F rfl fun _ F =>
         ko rfl rfl rfl (F.g 55 rfl) rfl F rfl fun _ F =>
         ko rfl rfl rfl (F.g 55 rfl) rfl F rfl fun _ F =>
         ko rfl rfl rfl (F.g 55 rfl) rfl F rfl fun _ F =>
         ke (u:=.bool true) (on rfl) (e_pick rfl (F.u rf) rfl (F.u rf)) rfl F rfl rfl fun _ F =>
         wpList_nil <|
         hK3 _ _ ?_
        refine wp_cond_true (F.e 60 rfl) ?_
        refine wp_seq_k fun K10 hK10 =>
         wk_region <|
         xA (v:=.bool false) F rf rf rf fun _ F =>
         wpList_nil <|
         hK10 _ _ ?_
        refine wp_ret <|
         HRET _ _ _ _ F rfl ?_
        exact⟨_,rfl,false,rfl,(fun h=>by cases h),M.below⟩
       | false =>
        have F:=F.eq 49 rfl (congrArg Value.bool hq20)
        have hd22:=of_decide_eq_false hq20
        refine ke (u:=.pointer (some ⟨g1,4,none⟩)) (gn rfl rfl (F.g 49 rfl)) (e_field rfl (F.u rf) u39 rfl sz26) rfl F rfl rfl fun _ F =>
         kv (gn rfl rfl (F.g 49 rfl)) (e_load1 rfl (F.u rf) u26 rfl ((M.b 0 rfl).c1 4)) rfl F rfl fun _ F =>
         kv (gn rfl rfl (F.g 49 rfl)) (e_lenSl rfl (F.u rf) u26) rfl F rfl fun _ F =>
         kv (gn rfl rfl (F.g 49 rfl)) (e_gtr rfl (F.u rf) rfl) rfl F rfl fun _ F =>
         ke (u:=.bool (decide (8<(p.users.length:Int)))) (on rfl) (e_pick rfl (F.u rf) rfl (F.u rf)) rfl F rfl rfl fun _ F =>
         xM F rf rf rf fun _ F=>?_
        cases hq23:(decide (8<(p.users.length:Int)):Bool) with
        | true =>
         have F:=F.eq 55 rfl (congrArg Value.bool hq23)
         have hd24:=of_decide_eq_true hq23
         refine ko rfl rfl rfl (F.g 55 rfl) rfl F rfl fun _ F =>
          ko rfl rfl rfl (F.g 55 rfl) rfl F rfl fun _ F =>
          ko rfl rfl rfl (F.g 55 rfl) rfl F rfl fun _ F =>
          ko rfl rfl rfl (F.g 55 rfl) rfl F rfl fun _ F =>
          ke (u:=.bool true) (on rfl) (e_pick rfl (F.u rf) rfl (F.u rf)) rfl F rfl rfl fun _ F =>
          wpList_nil <|
          hK3 _ _ ?_
         refine wp_cond_true (F.e 60 rfl) ?_
         refine wp_seq_k fun K11 hK11 =>
          wk_region <|
          xA (v:=.bool false) F rf rf rf fun _ F =>
          wpList_nil <|
          hK11 _ _ ?_
         refine wp_ret <|
          HRET _ _ _ _ F rfl ?_
         exact⟨_,rfl,false,rfl,(fun h=>by cases h),M.below⟩
        | false =>
         have F:=F.eq 55 rfl (congrArg Value.bool hq23)
         have hd25:=of_decide_eq_false hq23
         refine ke (u:=.pointer (some ⟨g1,3,none⟩)) (gn rfl rfl (F.g 55 rfl)) (e_field rfl (F.u rf) u39 rfl sz25) rfl F rfl rfl fun _ F =>
          kv (gn rfl rfl (F.g 55 rfl)) (e_load1 rfl (F.u rf) u25 rfl ((M.b 0 rfl).c1 3)) rfl F rfl fun _ F =>
          kv (gn rfl rfl (F.g 55 rfl)) (e_lenSl rfl (F.u rf) u25) rfl F rfl fun _ F =>
          kv (gn rfl rfl (F.g 55 rfl)) (e_gtr rfl (F.u rf) rfl) rfl F rfl fun _ F =>
          ke (u:=.bool (decide (8<(p.roles.length:Int)))) (on rfl) (e_pick rfl (F.u rf) rfl (F.u rf)) rfl F rfl rfl fun _ F =>
          wpList_nil <|
          hK3 _ _ ?_
         refine wp_cond_split (F.e 60 rfl) (fun hc26=>?_) (fun hc26=>?_)
         ·
          have hd27:=of_decide_eq_true hc26
          refine wp_seq_k fun K12 hK12 =>
           wk_region <|
           xA (v:=.bool false) F rf rf rf fun _ F =>
           wpList_nil <|
           hK12 _ _ ?_
          refine wp_ret <|
           HRET _ _ _ _ F rfl ?_
          exact⟨_,rfl,false,rfl,(fun h=>by cases h),M.below⟩
         ·
          have hd28:=of_decide_eq_false hc26
          refine wp_skip <|
           hK2 _ _ ?_
          refine wp_seq_k fun K13 hK13 =>
           wp_seq_k fun K14 hK14 =>
           wk_region <|
           xF 10 F rf rf rf u39 rf sz31 rf fun _ F =>
           xL F (M.b 0 rfl) rf rf rf u31 rf rf fun _ F =>
           kz F rf (e_lenSl rfl (F.u rf) u31) fun _ F =>
           kz F rf (e_gtr rfl (F.u rf) rfl) fun _ F =>
           xM F rf rf rf fun _ F=>?_
          cases hq29:(decide (36<(p.trans.length:Int)):Bool) with
          | true =>
           have F:=F.eq 65 rfl (congrArg Value.bool hq29)
           have hd30:=of_decide_eq_true hq29
           refine ko rfl rfl rfl (F.g 65 rfl) rfl F rfl fun _ F =>
            ko rfl rfl rfl (F.g 65 rfl) rfl F rfl fun _ F =>
            ko rfl rfl rfl (F.g 65 rfl) rfl F rfl fun _ F =>
            ko rfl rfl rfl (F.g 65 rfl) rfl F rfl fun _ F =>
            ke (u:=.bool true) (on rfl) (e_pick rfl (F.u rf) rfl (F.u rf)) rfl F rfl rfl fun _ F =>
            xM F rf rf rf fun _ F =>
            ko rfl rfl rfl (F.g 71 rfl) rfl F rfl fun _ F =>
            ko rfl rfl rfl (F.g 71 rfl) rfl F rfl fun _ F =>
            ko rfl rfl rfl (F.g 71 rfl) rfl F rfl fun _ F =>
            ko rfl rfl rfl (F.g 71 rfl) rfl F rfl fun _ F =>
            ke (u:=.bool true) (on rfl) (e_pick rfl (F.u rf) rfl (F.u rf)) rfl F rfl rfl fun _ F =>
            xM F rf rf rf fun _ F =>
            ko rfl rfl rfl (F.g 77 rfl) rfl F rfl fun _ F =>
            ko rfl rfl rfl (F.g 77 rfl) rfl F rfl fun _ F =>
            ko rfl rfl rfl (F.g 77 rfl) rfl F rfl fun _ F =>
            ko rfl rfl rfl (F.g 77 rfl) rfl F rfl fun _ F =>
            ke (u:=.bool true) (on rfl) (e_pick rfl (F.u rf) rfl (F.u rf)) rfl F rfl rfl fun _ F =>
            xM F rf rf rf fun _ F =>
            ko rfl rfl rfl (F.g 83 rfl) rfl F rfl fun _ F =>
            ko rfl rfl rfl (F.g 83 rfl) rfl F rfl fun _ F =>
            ko rfl rfl rfl (F.g 83 rfl) rfl F rfl fun _ F =>
            ko rfl rfl rfl (F.g 83 rfl) rfl F rfl fun _ F =>
            ke (u:=.bool true) (on rfl) (e_pick rfl (F.u rf) rfl (F.u rf)) rfl F rfl rfl fun _ F =>
            xM F rf rf rf fun _ F =>
            ko rfl rfl rfl (F.g 89 rfl) rfl F rfl fun _ F =>
            ko rfl rfl rfl (F.g 89 rfl) rfl F rfl fun _ F =>
            ko rfl rfl rfl (F.g 89 rfl) rfl F rfl fun _ F =>
            ko rfl rfl rfl (F.g 89 rfl) rfl F rfl fun _ F =>
            ke (u:=.bool true) (on rfl) (e_pick rfl (F.u rf) rfl (F.u rf)) rfl F rfl rfl fun _ F =>
            xM F rf rf rf fun _ F =>
            ko rfl rfl rfl (F.g 95 rfl) rfl F rfl fun _ F =>
            ko rfl rfl rfl (F.g 95 rfl) rfl F rfl fun _ F =>
            ko rfl rfl rfl (F.g 95 rfl) rfl F rfl fun _ F =>
            ko rfl rfl rfl (F.g 95 rfl) rfl F rfl fun _ F =>
            ke (u:=.bool true) (on rfl) (e_pick rfl (F.u rf) rfl (F.u rf)) rfl F rfl rfl fun _ F =>
            xM F rf rf rf fun _ F =>
            ko rfl rfl rfl (F.g 101 rfl) rfl F rfl fun _ F =>
            ko rfl rfl rfl (F.g 101 rfl) rfl F rfl fun _ F =>
            ko rfl rfl rfl (F.g 101 rfl) rfl F rfl fun _ F =>
            ko rfl rfl rfl (F.g 101 rfl) rfl F rfl fun _ F =>
            ke (u:=.bool true) (on rfl) (e_pick rfl (F.u rf) rfl (F.u rf)) rfl F rfl rfl fun _ F =>
            wpList_nil <|
            hK14 _ _ ?_
           refine wp_cond_true (F.e 106 rfl) ?_
           refine wp_seq_k fun K15 hK15 =>
            wk_region <|
            xA (v:=.bool false) F rf rf rf fun _ F =>
            wpList_nil <|
            hK15 _ _ ?_
           refine wp_ret <|
            HRET _ _ _ _ F rfl ?_
           exact⟨_,rfl,false,rfl,(fun h=>by cases h),M.below⟩
          | false =>
           have F:=F.eq 65 rfl (congrArg Value.bool hq29)
           have hd31:=of_decide_eq_false hq29
           refine ke (u:=.pointer (some ⟨g1,11,none⟩)) (gn rfl rfl (F.g 65 rfl)) (e_field rfl (F.u rf) u39 rfl sz32) rfl F rfl rfl fun _ F =>
            kv (gn rfl rfl (F.g 65 rfl)) (e_load1 rfl (F.u rf) u32 rfl ((M.b 0 rfl).c1 11)) rfl F rfl fun _ F =>
            kv (gn rfl rfl (F.g 65 rfl)) (e_lenSl rfl (F.u rf) u32) rfl F rfl fun _ F =>
            kv (gn rfl rfl (F.g 65 rfl)) (e_gtr rfl (F.u rf) rfl) rfl F rfl fun _ F =>
            ke (u:=.bool (decide (12<(p.rtrans.length:Int)))) (on rfl) (e_pick rfl (F.u rf) rfl (F.u rf)) rfl F rfl rfl fun _ F =>
            xM F rf rf rf fun _ F=>?_
           cases hq32:(decide (12<(p.rtrans.length:Int)):Bool) with
           | true =>
            have F:=F.eq 71 rfl (congrArg Value.bool hq32)
            have hd33:=of_decide_eq_true hq32
            refine ko rfl rfl rfl (F.g 71 rfl) rfl F rfl fun _ F =>
             ko rfl rfl rfl (F.g 71 rfl) rfl F rfl fun _ F =>
             ko rfl rfl rfl (F.g 71 rfl) rfl F rfl fun _ F =>
             ko rfl rfl rfl (F.g 71 rfl) rfl F rfl fun _ F =>
             ke (u:=.bool true) (on rfl) (e_pick rfl (F.u rf) rfl (F.u rf)) rfl F rfl rfl fun _ F =>
             xM F rf rf rf fun _ F =>
             ko rfl rfl rfl (F.g 77 rfl) rfl F rfl fun _ F =>
             ko rfl rfl rfl (F.g 77 rfl) rfl F rfl fun _ F =>
             ko rfl rfl rfl (F.g 77 rfl) rfl F rfl fun _ F =>
             ko rfl rfl rfl (F.g 77 rfl) rfl F rfl fun _ F =>
             ke (u:=.bool true) (on rfl) (e_pick rfl (F.u rf) rfl (F.u rf)) rfl F rfl rfl fun _ F =>
             xM F rf rf rf fun _ F =>
             ko rfl rfl rfl (F.g 83 rfl) rfl F rfl fun _ F =>
             ko rfl rfl rfl (F.g 83 rfl) rfl F rfl fun _ F =>
             ko rfl rfl rfl (F.g 83 rfl) rfl F rfl fun _ F =>
             ko rfl rfl rfl (F.g 83 rfl) rfl F rfl fun _ F =>
             ke (u:=.bool true) (on rfl) (e_pick rfl (F.u rf) rfl (F.u rf)) rfl F rfl rfl fun _ F =>
             xM F rf rf rf fun _ F =>
             ko rfl rfl rfl (F.g 89 rfl) rfl F rfl fun _ F =>
             ko rfl rfl rfl (F.g 89 rfl) rfl F rfl fun _ F =>
             ko rfl rfl rfl (F.g 89 rfl) rfl F rfl fun _ F =>
             ko rfl rfl rfl (F.g 89 rfl) rfl F rfl fun _ F =>
             ke (u:=.bool true) (on rfl) (e_pick rfl (F.u rf) rfl (F.u rf)) rfl F rfl rfl fun _ F =>
             xM F rf rf rf fun _ F =>
             ko rfl rfl rfl (F.g 95 rfl) rfl F rfl fun _ F =>
             ko rfl rfl rfl (F.g 95 rfl) rfl F rfl fun _ F =>
             ko rfl rfl rfl (F.g 95 rfl) rfl F rfl fun _ F =>
             ko rfl rfl rfl (F.g 95 rfl) rfl F rfl fun _ F =>
             ke (u:=.bool true) (on rfl) (e_pick rfl (F.u rf) rfl (F.u rf)) rfl F rfl rfl fun _ F =>
             xM F rf rf rf fun _ F =>
             ko rfl rfl rfl (F.g 101 rfl) rfl F rfl fun _ F =>
             ko rfl rfl rfl (F.g 101 rfl) rfl F rfl fun _ F =>
             ko rfl rfl rfl (F.g 101 rfl) rfl F rfl fun _ F =>
             ko rfl rfl rfl (F.g 101 rfl) rfl F rfl fun _ F =>
             ke (u:=.bool true) (on rfl) (e_pick rfl (F.u rf) rfl (F.u rf)) rfl F rfl rfl fun _ F =>
             wpList_nil <|
             hK14 _ _ ?_
            refine wp_cond_true (F.e 106 rfl) ?_
            refine wp_seq_k fun K16 hK16 =>
             wk_region <|
             xA (v:=.bool false) F rf rf rf fun _ F =>
             wpList_nil <|
             hK16 _ _ ?_
            refine wp_ret <|
             HRET _ _ _ _ F rfl ?_
            exact⟨_,rfl,false,rfl,(fun h=>by cases h),M.below⟩
           | false =>
            have F:=F.eq 71 rfl (congrArg Value.bool hq32)
            have hd34:=of_decide_eq_false hq32
            refine ke (u:=.pointer (some ⟨g1,12,none⟩)) (gn rfl rfl (F.g 71 rfl)) (e_field rfl (F.u rf) u39 rfl sz33) rfl F rfl rfl fun _ F =>
             kv (gn rfl rfl (F.g 71 rfl)) (e_load1 rfl (F.u rf) u33 rfl ((M.b 0 rfl).c1 12)) rfl F rfl fun _ F =>
             kv (gn rfl rfl (F.g 71 rfl)) (e_lenSl rfl (F.u rf) u33) rfl F rfl fun _ F =>
             kv (gn rfl rfl (F.g 71 rfl)) (e_gtr rfl (F.u rf) rfl) rfl F rfl fun _ F =>
             ke (u:=.bool (decide (12<(p.ranges.length:Int)))) (on rfl) (e_pick rfl (F.u rf) rfl (F.u rf)) rfl F rfl rfl fun _ F =>
             xM F rf rf rf fun _ F=>?_
            cases hq35:(decide (12<(p.ranges.length:Int)):Bool) with
            | true =>
             have F:=F.eq 77 rfl (congrArg Value.bool hq35)
             have hd36:=of_decide_eq_true hq35
             refine ko rfl rfl rfl (F.g 77 rfl) rfl F rfl fun _ F =>
              ko rfl rfl rfl (F.g 77 rfl) rfl F rfl fun _ F =>
              ko rfl rfl rfl (F.g 77 rfl) rfl F rfl fun _ F =>
              ko rfl rfl rfl (F.g 77 rfl) rfl F rfl fun _ F =>
              ke (u:=.bool true) (on rfl) (e_pick rfl (F.u rf) rfl (F.u rf)) rfl F rfl rfl fun _ F =>
              xM F rf rf rf fun _ F =>
              ko rfl rfl rfl (F.g 83 rfl) rfl F rfl fun _ F =>
              ko rfl rfl rfl (F.g 83 rfl) rfl F rfl fun _ F =>
              ko rfl rfl rfl (F.g 83 rfl) rfl F rfl fun _ F =>
              ko rfl rfl rfl (F.g 83 rfl) rfl F rfl fun _ F =>
              ke (u:=.bool true) (on rfl) (e_pick rfl (F.u rf) rfl (F.u rf)) rfl F rfl rfl fun _ F =>
              xM F rf rf rf fun _ F =>
              ko rfl rfl rfl (F.g 89 rfl) rfl F rfl fun _ F =>
              ko rfl rfl rfl (F.g 89 rfl) rfl F rfl fun _ F =>
              ko rfl rfl rfl (F.g 89 rfl) rfl F rfl fun _ F =>
              ko rfl rfl rfl (F.g 89 rfl) rfl F rfl fun _ F =>
              ke (u:=.bool true) (on rfl) (e_pick rfl (F.u rf) rfl (F.u rf)) rfl F rfl rfl fun _ F =>
              xM F rf rf rf fun _ F =>
              ko rfl rfl rfl (F.g 95 rfl) rfl F rfl fun _ F =>
              ko rfl rfl rfl (F.g 95 rfl) rfl F rfl fun _ F =>
              ko rfl rfl rfl (F.g 95 rfl) rfl F rfl fun _ F =>
              ko rfl rfl rfl (F.g 95 rfl) rfl F rfl fun _ F =>
              ke (u:=.bool true) (on rfl) (e_pick rfl (F.u rf) rfl (F.u rf)) rfl F rfl rfl fun _ F =>
              xM F rf rf rf fun _ F =>
              ko rfl rfl rfl (F.g 101 rfl) rfl F rfl fun _ F =>
              ko rfl rfl rfl (F.g 101 rfl) rfl F rfl fun _ F =>
              ko rfl rfl rfl (F.g 101 rfl) rfl F rfl fun _ F =>
              ko rfl rfl rfl (F.g 101 rfl) rfl F rfl fun _ F =>
              ke (u:=.bool true) (on rfl) (e_pick rfl (F.u rf) rfl (F.u rf)) rfl F rfl rfl fun _ F =>
              wpList_nil <|
              hK14 _ _ ?_
             refine wp_cond_true (F.e 106 rfl) ?_
             refine wp_seq_k fun K17 hK17 =>
              wk_region <|
              xA (v:=.bool false) F rf rf rf fun _ F =>
              wpList_nil <|
              hK17 _ _ ?_
             refine wp_ret <|
              HRET _ _ _ _ F rfl ?_
             exact⟨_,rfl,false,rfl,(fun h=>by cases h),M.below⟩
            | false =>
             have F:=F.eq 77 rfl (congrArg Value.bool hq35)
             have hd37:=of_decide_eq_false hq35
             refine ke (u:=.pointer (some ⟨g1,6,none⟩)) (gn rfl rfl (F.g 77 rfl)) (e_field rfl (F.u rf) u39 rfl sz28) rfl F rfl rfl fun _ F =>
              kv (gn rfl rfl (F.g 77 rfl)) (e_load1 rfl (F.u rf) u28 rfl ((M.b 0 rfl).c1 6)) rfl F rfl fun _ F =>
              kv (gn rfl rfl (F.g 77 rfl)) (e_lenSl rfl (F.u rf) u28) rfl F rfl fun _ F =>
              kv (gn rfl rfl (F.g 77 rfl)) (e_gtr rfl (F.u rf) rfl) rfl F rfl fun _ F =>
              ke (u:=.bool (decide (6<(p.sens.length:Int)))) (on rfl) (e_pick rfl (F.u rf) rfl (F.u rf)) rfl F rfl rfl fun _ F =>
              xM F rf rf rf fun _ F=>?_
             cases hq38:(decide (6<(p.sens.length:Int)):Bool) with
             | true =>
              have F:=F.eq 83 rfl (congrArg Value.bool hq38)
              have hd39:=of_decide_eq_true hq38
              refine ko rfl rfl rfl (F.g 83 rfl) rfl F rfl fun _ F =>
               ko rfl rfl rfl (F.g 83 rfl) rfl F rfl fun _ F =>
               ko rfl rfl rfl (F.g 83 rfl) rfl F rfl fun _ F =>
               ko rfl rfl rfl (F.g 83 rfl) rfl F rfl fun _ F =>
               ke (u:=.bool true) (on rfl) (e_pick rfl (F.u rf) rfl (F.u rf)) rfl F rfl rfl fun _ F =>
               xM F rf rf rf fun _ F =>
               ko rfl rfl rfl (F.g 89 rfl) rfl F rfl fun _ F =>
               ko rfl rfl rfl (F.g 89 rfl) rfl F rfl fun _ F =>
               ko rfl rfl rfl (F.g 89 rfl) rfl F rfl fun _ F =>
               ko rfl rfl rfl (F.g 89 rfl) rfl F rfl fun _ F =>
               ke (u:=.bool true) (on rfl) (e_pick rfl (F.u rf) rfl (F.u rf)) rfl F rfl rfl fun _ F =>
               xM F rf rf rf fun _ F =>
               ko rfl rfl rfl (F.g 95 rfl) rfl F rfl fun _ F =>
               ko rfl rfl rfl (F.g 95 rfl) rfl F rfl fun _ F =>
               ko rfl rfl rfl (F.g 95 rfl) rfl F rfl fun _ F =>
               ko rfl rfl rfl (F.g 95 rfl) rfl F rfl fun _ F =>
               ke (u:=.bool true) (on rfl) (e_pick rfl (F.u rf) rfl (F.u rf)) rfl F rfl rfl fun _ F =>
               xM F rf rf rf fun _ F =>
               ko rfl rfl rfl (F.g 101 rfl) rfl F rfl fun _ F =>
               ko rfl rfl rfl (F.g 101 rfl) rfl F rfl fun _ F =>
               ko rfl rfl rfl (F.g 101 rfl) rfl F rfl fun _ F =>
               ko rfl rfl rfl (F.g 101 rfl) rfl F rfl fun _ F =>
               ke (u:=.bool true) (on rfl) (e_pick rfl (F.u rf) rfl (F.u rf)) rfl F rfl rfl fun _ F =>
               wpList_nil <|
               hK14 _ _ ?_
              refine wp_cond_true (F.e 106 rfl) ?_
              refine wp_seq_k fun K18 hK18 =>
               wk_region <|
               xA (v:=.bool false) F rf rf rf fun _ F =>
               wpList_nil <|
               hK18 _ _ ?_
              refine wp_ret <|
               HRET _ _ _ _ F rfl ?_
              exact⟨_,rfl,false,rfl,(fun h=>by cases h),M.below⟩
             | false =>
              have F:=F.eq 83 rfl (congrArg Value.bool hq38)
              have hd40:=of_decide_eq_false hq38
              refine ke (u:=.pointer (some ⟨g1,7,none⟩)) (gn rfl rfl (F.g 83 rfl)) (e_field rfl (F.u rf) u39 rfl sz28) rfl F rfl rfl fun _ F =>
               kv (gn rfl rfl (F.g 83 rfl)) (e_load1 rfl (F.u rf) u28 rfl ((M.b 0 rfl).c1 7)) rfl F rfl fun _ F =>
               kv (gn rfl rfl (F.g 83 rfl)) (e_lenSl rfl (F.u rf) u28) rfl F rfl fun _ F =>
               kv (gn rfl rfl (F.g 83 rfl)) (e_gtr rfl (F.u rf) rfl) rfl F rfl fun _ F =>
               ke (u:=.bool (decide (10<(p.cats.length:Int)))) (on rfl) (e_pick rfl (F.u rf) rfl (F.u rf)) rfl F rfl rfl fun _ F =>
               xM F rf rf rf fun _ F=>?_
              cases hq41:(decide (10<(p.cats.length:Int)):Bool) with
              | true =>
               have F:=F.eq 89 rfl (congrArg Value.bool hq41)
               have hd42:=of_decide_eq_true hq41
               refine ko rfl rfl rfl (F.g 89 rfl) rfl F rfl fun _ F =>
                ko rfl rfl rfl (F.g 89 rfl) rfl F rfl fun _ F =>
                ko rfl rfl rfl (F.g 89 rfl) rfl F rfl fun _ F =>
                ko rfl rfl rfl (F.g 89 rfl) rfl F rfl fun _ F =>
                ke (u:=.bool true) (on rfl) (e_pick rfl (F.u rf) rfl (F.u rf)) rfl F rfl rfl fun _ F =>
                xM F rf rf rf fun _ F =>
                ko rfl rfl rfl (F.g 95 rfl) rfl F rfl fun _ F =>
                ko rfl rfl rfl (F.g 95 rfl) rfl F rfl fun _ F =>
                ko rfl rfl rfl (F.g 95 rfl) rfl F rfl fun _ F =>
                ko rfl rfl rfl (F.g 95 rfl) rfl F rfl fun _ F =>
                ke (u:=.bool true) (on rfl) (e_pick rfl (F.u rf) rfl (F.u rf)) rfl F rfl rfl fun _ F =>
                xM F rf rf rf fun _ F =>
                ko rfl rfl rfl (F.g 101 rfl) rfl F rfl fun _ F =>
                ko rfl rfl rfl (F.g 101 rfl) rfl F rfl fun _ F =>
                ko rfl rfl rfl (F.g 101 rfl) rfl F rfl fun _ F =>
                ko rfl rfl rfl (F.g 101 rfl) rfl F rfl fun _ F =>
                ke (u:=.bool true) (on rfl) (e_pick rfl (F.u rf) rfl (F.u rf)) rfl F rfl rfl fun _ F =>
                wpList_nil <|
                hK14 _ _ ?_
               refine wp_cond_true (F.e 106 rfl) ?_
               refine wp_seq_k fun K19 hK19 =>
                wk_region <|
                xA (v:=.bool false) F rf rf rf fun _ F =>
                wpList_nil <|
                hK19 _ _ ?_
               refine wp_ret <|
                HRET _ _ _ _ F rfl ?_
               exact⟨_,rfl,false,rfl,(fun h=>by cases h),M.below⟩
              | false =>
               have F:=F.eq 89 rfl (congrArg Value.bool hq41)
               have hd43:=of_decide_eq_false hq41
               refine ke (u:=.pointer (some ⟨g1,14,none⟩)) (gn rfl rfl (F.g 89 rfl)) (e_field rfl (F.u rf) u39 rfl sz35) rfl F rfl rfl fun _ F =>
                kv (gn rfl rfl (F.g 89 rfl)) (e_load1 rfl (F.u rf) u35 rfl ((M.b 0 rfl).c1 14)) rfl F rfl fun _ F =>
                kv (gn rfl rfl (F.g 89 rfl)) (e_lenSl rfl (F.u rf) u35) rfl F rfl fun _ F =>
                kv (gn rfl rfl (F.g 89 rfl)) (e_gtr rfl (F.u rf) rfl) rfl F rfl fun _ F =>
                ke (u:=.bool (decide (8<(p.sids.length:Int)))) (on rfl) (e_pick rfl (F.u rf) rfl (F.u rf)) rfl F rfl rfl fun _ F =>
                xM F rf rf rf fun _ F=>?_
               cases hq44:(decide (8<(p.sids.length:Int)):Bool) with
               | true =>
                have F:=F.eq 95 rfl (congrArg Value.bool hq44)
                have hd45:=of_decide_eq_true hq44
                refine ko rfl rfl rfl (F.g 95 rfl) rfl F rfl fun _ F =>
                 ko rfl rfl rfl (F.g 95 rfl) rfl F rfl fun _ F =>
                 ko rfl rfl rfl (F.g 95 rfl) rfl F rfl fun _ F =>
                 ko rfl rfl rfl (F.g 95 rfl) rfl F rfl fun _ F =>
                 ke (u:=.bool true) (on rfl) (e_pick rfl (F.u rf) rfl (F.u rf)) rfl F rfl rfl fun _ F =>
                 xM F rf rf rf fun _ F =>
                 ko rfl rfl rfl (F.g 101 rfl) rfl F rfl fun _ F =>
                 ko rfl rfl rfl (F.g 101 rfl) rfl F rfl fun _ F =>
                 ko rfl rfl rfl (F.g 101 rfl) rfl F rfl fun _ F =>
                 ko rfl rfl rfl (F.g 101 rfl) rfl F rfl fun _ F =>
                 ke (u:=.bool true) (on rfl) (e_pick rfl (F.u rf) rfl (F.u rf)) rfl F rfl rfl fun _ F =>
                 wpList_nil <|
                 hK14 _ _ ?_
                refine wp_cond_true (F.e 106 rfl) ?_
                refine wp_seq_k fun K20 hK20 =>
                 wk_region <|
                 xA (v:=.bool false) F rf rf rf fun _ F =>
                 wpList_nil <|
                 hK20 _ _ ?_
                refine wp_ret <|
                 HRET _ _ _ _ F rfl ?_
                exact⟨_,rfl,false,rfl,(fun h=>by cases h),M.below⟩
               | false =>
                have F:=F.eq 95 rfl (congrArg Value.bool hq44)
                have hd46:=of_decide_eq_false hq44
                refine ke (u:=.pointer (some ⟨g1,15,none⟩)) (gn rfl rfl (F.g 95 rfl)) (e_field rfl (F.u rf) u39 rfl sz36) rfl F rfl rfl fun _ F =>
                 kv (gn rfl rfl (F.g 95 rfl)) (e_load1 rfl (F.u rf) u36 rfl ((M.b 0 rfl).c1 15)) rfl F rfl fun _ F =>
                 kv (gn rfl rfl (F.g 95 rfl)) (e_lenSl rfl (F.u rf) u36) rfl F rfl fun _ F =>
                 kv (gn rfl rfl (F.g 95 rfl)) (e_gtr rfl (F.u rf) rfl) rfl F rfl fun _ F =>
                 ke (u:=.bool (decide (12<(p.files.length:Int)))) (on rfl) (e_pick rfl (F.u rf) rfl (F.u rf)) rfl F rfl rfl fun _ F =>
                 xM F rf rf rf fun _ F=>?_
                cases hq47:(decide (12<(p.files.length:Int)):Bool) with
                | true =>
                 have F:=F.eq 101 rfl (congrArg Value.bool hq47)
                 have hd48:=of_decide_eq_true hq47
                 refine ko rfl rfl rfl (F.g 101 rfl) rfl F rfl fun _ F =>
                  ko rfl rfl rfl (F.g 101 rfl) rfl F rfl fun _ F =>
                  ko rfl rfl rfl (F.g 101 rfl) rfl F rfl fun _ F =>
                  ko rfl rfl rfl (F.g 101 rfl) rfl F rfl fun _ F =>
                  ke (u:=.bool true) (on rfl) (e_pick rfl (F.u rf) rfl (F.u rf)) rfl F rfl rfl fun _ F =>
                  wpList_nil <|
                  hK14 _ _ ?_
                 refine wp_cond_true (F.e 106 rfl) ?_
                 refine wp_seq_k fun K21 hK21 =>
                  wk_region <|
                  xA (v:=.bool false) F rf rf rf fun _ F =>
                  wpList_nil <|
                  hK21 _ _ ?_
                 refine wp_ret <|
                  HRET _ _ _ _ F rfl ?_
                 exact⟨_,rfl,false,rfl,(fun h=>by cases h),M.below⟩
                | false =>
                 have F:=F.eq 101 rfl (congrArg Value.bool hq47)
                 have hd49:=of_decide_eq_false hq47
                 refine ke (u:=.pointer (some ⟨g1,16,none⟩)) (gn rfl rfl (F.g 101 rfl)) (e_field rfl (F.u rf) u39 rfl sz37) rfl F rfl rfl fun _ F =>
                  kv (gn rfl rfl (F.g 101 rfl)) (e_load1 rfl (F.u rf) u37 rfl ((M.b 0 rfl).c1 16)) rfl F rfl fun _ F =>
                  kv (gn rfl rfl (F.g 101 rfl)) (e_lenSl rfl (F.u rf) u37) rfl F rfl fun _ F =>
                  kv (gn rfl rfl (F.g 101 rfl)) (e_gtr rfl (F.u rf) rfl) rfl F rfl fun _ F =>
                  ke (u:=.bool (decide (8<(p.asserts.length:Int)))) (on rfl) (e_pick rfl (F.u rf) rfl (F.u rf)) rfl F rfl rfl fun _ F =>
                  wpList_nil <|
                  hK14 _ _ ?_
                 refine wp_cond_split (F.e 106 rfl) (fun hc50=>?_) (fun hc50=>?_)
                 ·
                  have hd51:=of_decide_eq_true hc50
                  refine wp_seq_k fun K22 hK22 =>
                   wk_region <|
                   xA (v:=.bool false) F rf rf rf fun _ F =>
                   wpList_nil <|
                   hK22 _ _ ?_
                  refine wp_ret <|
                   HRET _ _ _ _ F rfl ?_
                  exact⟨_,rfl,false,rfl,(fun h=>by cases h),M.below⟩
                 ·
                  have hd52:=of_decide_eq_false hc50
                  refine wp_skip <|
                   hK13 _ _ ?_
                  refine wp_seq_k fun K23 hK23 =>
                   wk_region <|
                   kaA (on rfl) rfl zr82 rfl F rfl M fun g53 _ _ F M =>
                   wpList_nil <|
                   hK23 _ _ ?_
                  refine wp_seq_k fun K24 hK24 =>
                   wp_seq_k fun K25 hK25 =>
                   wk_region <|
                   xA (v:=.int .i64 0) F rf rf rf fun _ F =>
                   wpList_nil <|
                   hK25 _ _ ?_
                  refine wp_block <| ?_
                  have hsz:p.SizesP:=by constructor<;>omega
                  refine wk_loop (ι:=Nat×Nat×Nat×Nat) (fun | (m,c1,c2,c3),a,w=>Fs a 188 [(1,.pointer (some ⟨g1,0,none⟩)),(3,.pointer (some ⟨g53,0,none⟩)),(4,.int .i64 (m:Int))]∧Mm w0 w [(g53,82,#[.int .i64 0,.int .i64 (c1:Int),.int .i64 (c2:Int),.int .i64 (c3:Int)]),(g1,39,#[.slice la0 p.classes.length lk0,.slice la1 p.types.length lk1,.slice la2 p.attrs.length lk2,.slice la3 p.roles.length lk3,.slice la4 p.users.length lk4,.slice la5 p.bools.length lk5,.slice la6 p.sens.length lk6,.slice la7 p.cats.length lk7,.slice la8 p.conds.length lk8,.slice la9 p.rules.length lk9,.slice la10 p.trans.length lk10,.slice la11 p.rtrans.length lk11,.slice la12 p.ranges.length lk12,.slice la13 p.cons.length lk13,.slice la14 p.sids.length lk14,.slice la15 p.files.length lk15,.slice la16 p.asserts.length lk16])] []∧m≤p.trans.length∧c1≤m∧c2≤m∧c3≤m) (fun | (m,c1,c2,c3)=>p.trans.length-m) (0,0,0,0) ⟨F.sub ⟨rfl,rfl,rfl,trivial⟩,M,Nat.zero_le _,⟨Nat.le_refl _,Nat.le_refl _,Nat.le_refl _⟩⟩ ?_
                  (repeat clear F);(repeat clear M)
                  rintro⟨m,c1,c2,c3⟩ _ _ ⟨F,M,hm,hc⟩
                  refine wp_seq_k fun K26 hK26 =>
                   wp_seq_k fun K27 hK27 =>
                   wk_region <|
                   xM F rf rf rf fun _ F =>
                   xF 10 F rf rf rf u39 rf sz31 rf fun _ F =>
                   xL F (M.b 1 rfl) rf rf rf u31 rf rf fun _ F =>
                   kz F rf (e_lenSl rfl (F.u rf) u31) fun _ F =>
                   kz F rf (e_lss rfl (F.u rf) (F.u rf)) fun _ F =>
                   wpList_nil <|
                   hK27 _ _ ?_
                  refine wp_cond_split (F.e 111 rfl) (fun hc54=>?_) (fun hc54=>?_)
                  ·
                   have hd55:=of_decide_eq_true hc54
                   refine wp_skip <|
                    hK26 _ _ ?_
                   refine wp_seq_k fun K28 hK28 =>
                    wp_block <|
                    wp_seq_k fun K29 hK29=>?_
                   have hlt:m<p.trans.length:=by omega
                   obtain⟨y,hy⟩:∃ y,p.trans[m]?=some y:=⟨_,List.getElem?_eq_getElem hlt⟩
                   obtain⟨b10,ob10,rfl,hcb10⟩:=hcell10 m hlt
                   have hrb10:∀ j uu,[.int .i64 y.kind,.int .u64 y.src.a,.int .u64 y.src.b,.int .u64 y.src.c,.int .u64 y.src.d,.int .u64 y.tgt.a,.int .u64 y.tgt.b,.int .u64 y.tgt.c,.int .u64 y.tgt.d,.int .i64 y.cls,.string y.name,.int .i64 y.res,.int .i64 y.cond][j]?=some uu→w0.cell? ⟨b10,ob10+m*13+j,none⟩=some uu:=fun j u hu=>hcb10 j u (by
                    rw[flat_at ATra.cells_len hy j (List.getElem?_eq_some_iff.1 hu).1]
                    exact hu)
                   clear hcb10
                   have oky:=hok.trans y (List.mem_of_getElem? hy)
                   refine wk_region <|
                    xF 10 F rf rf rf u39 rf sz31 rf fun _ F =>
                    xL F (M.b 1 rfl) rf rf rf u31 rf rf fun _ F =>
                    xM F rf rf rf fun _ F =>
                    kz F rf (e_indexAddr (i:=m) rfl (F.u rf) (F.u rf) (by omega) u31 sz84) fun _ F =>
                    xF (ob10+m*13) F rf rf rf u84 rf sz3 rf fun _ F =>
                    kz F rf (e_load1 rf (F.u rf) u3 rfl ((lat M.below hrb10) 0 _ rfl)) fun _ F =>
                    xA F rf rf rf fun _ F =>
                    wpList_nil <|
                    hK29 _ _ ?_
                   refine wp_seq_k fun K30 hK30 =>
                    wk_region <|
                    xM F rf rf rf fun _ F =>
                    kz F rf (e_gtr rfl (F.u rf) rfl) fun _ F =>
                    xM F rf rf rf fun _ F=>?_
                   cases hq56:(decide (0<y.kind):Bool) with
                   | true =>
                    have F:=F.eq 122 rfl (congrArg Value.bool hq56)
                    have hd57:=of_decide_eq_true hq56
                    refine kv (gn rfl rfl (F.g 122 rfl)) (e_move rfl (F.u rf)) rfl F rfl fun _ F =>
                     kv (gn rfl rfl (F.g 122 rfl)) (e_lss rfl (F.u rf) rfl) rfl F rfl fun _ F =>
                     ke (u:=.bool (decide (y.kind<4))) (on rfl) (e_pick rfl (F.u rf) (F.u rf) rfl) rfl F rfl rfl fun _ F =>
                     wpList_nil <|
                     hK30 _ _ ?_
                    refine wp_cond_split (F.e 125 rfl) (fun hc58=>?_) (fun hc58=>?_)
                    ·
                     have hd59:=of_decide_eq_true hc58
                     rcases(show y.kind=1∨y.kind=2∨y.kind=3 by omega) with hk | hk | hk
                     ·
                      have F:=F.eq 5 rfl (congrArg (Value.int .i64) hk)
                      refine wk_region <|
                       xM F rf rf rf fun _ F =>
                       ke (u:=.pointer (some ⟨g53,1,none⟩)) (on rfl) (e_indexArr (i:=1) rfl (F.u rf) (F.u rf) (by decide) u82 sz3) rfl F rfl rfl fun _ F =>
                       xL F (M.b 0 rfl) rf rf rf u3 rf rf fun _ F =>
                       ke (on rfl) (e_add rfl (F.u rf) rfl) rfl F rfl (congrArg (Value.int .i64) (wrap_i64 (by omega))) fun _ F =>
                       ke (u:=.pointer (some ⟨g53,1,none⟩)) (on rfl) (e_indexArr (i:=1) rfl (F.u rf) (F.u rf) (by decide) u82 sz3) rfl F rfl rfl fun _ F =>
                       ks (on rfl) rfl (F.u rf) (F.u rf) F M 0 (cs':=#[.int .i64 0,.int .i64 ((c1:Int)+1),.int .i64 (c2:Int),.int .i64 (c3:Int)]) rfl rfl rfl sz3 rfl rfl rfl rfl fun _ M =>
                       wpList_nil <|
                       hK28 _ _ ?_
                      refine wk_region <|
                       xM F rf rf rf fun _ F =>
                       ke (on rfl) (e_add rfl (F.u rf) rfl) rfl F rfl (congrArg (Value.int .i64) (wrap_i64 (by omega))) fun _ F =>
                       xA F rf rf rf fun _ F =>
                       wpList_nil <| ?_
                      exact⟨(m+1,c1+1,c2,c3),⟨F.sub ⟨rfl,rfl,rfl,trivial⟩,(M).cast (by rw[show(((c1+1:Nat)):Int)=(c1:Int)+1 by omega]<;>rfl) rfl,by omega,by omega⟩,by show p.trans.length-(m+1)<p.trans.length-m;omega⟩
                     ·
                      have F:=F.eq 5 rfl (congrArg (Value.int .i64) hk)
                      refine wk_region <|
                       xM F rf rf rf fun _ F =>
                       ke (u:=.pointer (some ⟨g53,2,none⟩)) (on rfl) (e_indexArr (i:=2) rfl (F.u rf) (F.u rf) (by decide) u82 sz3) rfl F rfl rfl fun _ F =>
                       xL F (M.b 0 rfl) rf rf rf u3 rf rf fun _ F =>
                       ke (on rfl) (e_add rfl (F.u rf) rfl) rfl F rfl (congrArg (Value.int .i64) (wrap_i64 (by omega))) fun _ F =>
                       ke (u:=.pointer (some ⟨g53,2,none⟩)) (on rfl) (e_indexArr (i:=2) rfl (F.u rf) (F.u rf) (by decide) u82 sz3) rfl F rfl rfl fun _ F =>
                       ks (on rfl) rfl (F.u rf) (F.u rf) F M 0 (cs':=#[.int .i64 0,.int .i64 (c1:Int),.int .i64 ((c2:Int)+1),.int .i64 (c3:Int)]) rfl rfl rfl sz3 rfl rfl rfl rfl fun _ M =>
                       wpList_nil <|
                       hK28 _ _ ?_
                      refine wk_region <|
                       xM F rf rf rf fun _ F =>
                       ke (on rfl) (e_add rfl (F.u rf) rfl) rfl F rfl (congrArg (Value.int .i64) (wrap_i64 (by omega))) fun _ F =>
                       xA F rf rf rf fun _ F =>
                       wpList_nil <| ?_
                      exact⟨(m+1,c1,c2+1,c3),⟨F.sub ⟨rfl,rfl,rfl,trivial⟩,(M).cast (by rw[show(((c2+1:Nat)):Int)=(c2:Int)+1 by omega]<;>rfl) rfl,by omega,by omega⟩,by show p.trans.length-(m+1)<p.trans.length-m;omega⟩
                     ·
                      have F:=F.eq 5 rfl (congrArg (Value.int .i64) hk)
                      refine wk_region <|
                       xM F rf rf rf fun _ F =>
                       ke (u:=.pointer (some ⟨g53,3,none⟩)) (on rfl) (e_indexArr (i:=3) rfl (F.u rf) (F.u rf) (by decide) u82 sz3) rfl F rfl rfl fun _ F =>
                       xL F (M.b 0 rfl) rf rf rf u3 rf rf fun _ F =>
                       ke (on rfl) (e_add rfl (F.u rf) rfl) rfl F rfl (congrArg (Value.int .i64) (wrap_i64 (by omega))) fun _ F =>
                       ke (u:=.pointer (some ⟨g53,3,none⟩)) (on rfl) (e_indexArr (i:=3) rfl (F.u rf) (F.u rf) (by decide) u82 sz3) rfl F rfl rfl fun _ F =>
                       ks (on rfl) rfl (F.u rf) (F.u rf) F M 0 (cs':=#[.int .i64 0,.int .i64 (c1:Int),.int .i64 (c2:Int),.int .i64 ((c3:Int)+1)]) rfl rfl rfl sz3 rfl rfl rfl rfl fun _ M =>
                       wpList_nil <|
                       hK28 _ _ ?_
                      refine wk_region <|
                       xM F rf rf rf fun _ F =>
                       ke (on rfl) (e_add rfl (F.u rf) rfl) rfl F rfl (congrArg (Value.int .i64) (wrap_i64 (by omega))) fun _ F =>
                       xA F rf rf rf fun _ F =>
                       wpList_nil <| ?_
                      exact⟨(m+1,c1,c2,c3+1),⟨F.sub ⟨rfl,rfl,rfl,trivial⟩,(M).cast (by rw[show(((c3+1:Nat)):Int)=(c3:Int)+1 by omega]<;>rfl) rfl,by omega,by omega⟩,by show p.trans.length-(m+1)<p.trans.length-m;omega⟩
                    ·
                     have hd60:=of_decide_eq_false hc58
                     refine wp_skip <|
                      hK28 _ _ ?_
                     refine wk_region <|
                      xM F rf rf rf fun _ F =>
                      ke (on rfl) (e_add rfl (F.u rf) rfl) rfl F rfl (congrArg (Value.int .i64) (wrap_i64 (by omega))) fun _ F =>
                      xA F rf rf rf fun _ F =>
                      wpList_nil <| ?_
                     exact⟨(m+1,c1,c2,c3),⟨F.sub ⟨rfl,rfl,rfl,trivial⟩,M,by omega,by omega⟩,by show p.trans.length-(m+1)<p.trans.length-m;omega⟩
                   | false =>
                    have F:=F.eq 122 rfl (congrArg Value.bool hq56)
                    have hd61:=of_decide_eq_false hq56
                    refine ko rfl rfl rfl (F.g 122 rfl) rfl F rfl fun _ F =>
                     ko rfl rfl rfl (F.g 122 rfl) rfl F rfl fun _ F =>
                     ke (u:=.bool false) (on rfl) (e_pick rfl (F.u rf) (F.u rf) rfl) rfl F rfl rfl fun _ F =>
                     wpList_nil <|
                     hK30 _ _ ?_
                    refine wp_cond_false (F.e 125 rfl) ?_
                    refine wp_skip <|
                     hK28 _ _ ?_
                    refine wk_region <|
                     xM F rf rf rf fun _ F =>
                     ke (on rfl) (e_add rfl (F.u rf) rfl) rfl F rfl (congrArg (Value.int .i64) (wrap_i64 (by omega))) fun _ F =>
                     xA F rf rf rf fun _ F =>
                     wpList_nil <| ?_
                    exact⟨(m+1,c1,c2,c3),⟨F.sub ⟨rfl,rfl,rfl,trivial⟩,M,by omega,by omega⟩,by show p.trans.length-(m+1)<p.trans.length-m;omega⟩
                  ·
                   have hd62:=of_decide_eq_false hc54
                   refine wp_exit <|
                    hK24 _ _ ?_
                   refine wp_seq_k fun K31 hK31 =>
                    wp_seq_k fun K32 hK32 =>
                    wk_region <|
                    xA (v:=.int .i64 0) F rf rf rf fun _ F =>
                    wpList_nil <|
                    hK32 _ _ ?_
                   refine wp_block <| ?_
                   refine wk_loop (ι:=Nat) (fun i a w=>Fs a 188 [(1,.pointer (some ⟨g1,0,none⟩)),(3,.pointer (some ⟨g53,0,none⟩)),(6,.int .i64 (i:Int))]∧Mm w0 w [(g53,82,#[.int .i64 0,.int .i64 (c1:Int),.int .i64 (c2:Int),.int .i64 (c3:Int)]),(g1,39,#[.slice la0 p.classes.length lk0,.slice la1 p.types.length lk1,.slice la2 p.attrs.length lk2,.slice la3 p.roles.length lk3,.slice la4 p.users.length lk4,.slice la5 p.bools.length lk5,.slice la6 p.sens.length lk6,.slice la7 p.cats.length lk7,.slice la8 p.conds.length lk8,.slice la9 p.rules.length lk9,.slice la10 p.trans.length lk10,.slice la11 p.rtrans.length lk11,.slice la12 p.ranges.length lk12,.slice la13 p.cons.length lk13,.slice la14 p.sids.length lk14,.slice la15 p.files.length lk15,.slice la16 p.asserts.length lk16])] []∧i≤p.types.length∧∀ x∈p.types.take i,x.als.length≤4) (fun i=>p.types.length-i) 0 ⟨F.sub ⟨rfl,rfl,rfl,trivial⟩,M,Nat.zero_le _,(by simp)⟩ ?_
                   (repeat clear F);(repeat clear M)
                   rintro i _ _ ⟨F,M,hi,hqi⟩
                   refine wp_seq_k fun K33 hK33 =>
                    wp_seq_k fun K34 hK34 =>
                    wk_region <|
                    xM F rf rf rf fun _ F =>
                    xF 1 F rf rf rf u39 rf sz23 rf fun _ F =>
                    xL F (M.b 1 rfl) rf rf rf u23 rf rf fun _ F =>
                    kz F rf (e_lenSl rfl (F.u rf) u23) fun _ F =>
                    kz F rf (e_lss rfl (F.u rf) (F.u rf)) fun _ F =>
                    wpList_nil <|
                    hK34 _ _ ?_
                   refine wp_cond_split (F.e 135 rfl) (fun hc63=>?_) (fun hc63=>?_)
                   ·
                    have hd64:=of_decide_eq_true hc63
                    refine wp_skip <|
                     hK33 _ _ ?_
                    refine wp_seq_k fun K35 hK35 =>
                     wp_block <|
                     wp_seq_k fun K36 hK36=>?_
                    have hlz:i<p.types.length:=by omega
                    obtain⟨z,hz⟩:∃ z,p.types[i]?=some z:=⟨_,List.getElem?_eq_getElem hlz⟩
                    obtain⟨b1,ob1,csb1,rfl,⟨pvb1,rfl,hvb1⟩,-,hrb1⟩:=hcell1 i z hz
                    obtain⟨pab1,pkb1,rfl,hpkb1,hpmb1,hpcb1⟩:=SliceAt.form hvb1 (by decide)
                    have okz:=hok.types z (List.mem_of_getElem? hz)
                    refine wk_region <|
                     xF 1 F rf rf rf u39 rf sz23 rf fun _ F =>
                     xL F (M.b 1 rfl) rf rf rf u23 rf rf fun _ F =>
                     xM F rf rf rf fun _ F =>
                     kz F rf (e_indexAddr (i:=i) rfl (F.u rf) (F.u rf) (by omega) u23 sz86) fun _ F =>
                     xF (ob1+i*3+1) F rf rf rf u86 rf sz28 rf fun _ F =>
                     kz F rf (e_load1 rf (F.u rf) u28 rfl ((lat M.below hrb1) 1 _ rfl)) fun _ F =>
                     kz F rf (e_lenSl rfl (F.u rf) u28) fun _ F =>
                     kz F rf (e_gtr rfl (F.u rf) rfl) fun _ F =>
                     wpList_nil <|
                     hK36 _ _ ?_
                    refine wp_cond_split (F.e 145 rfl) (fun hc65=>?_) (fun hc65=>?_)
                    ·
                     have hd66:=of_decide_eq_true hc65
                     refine wp_seq_k fun K37 hK37 =>
                      wk_region <|
                      xA (v:=.bool false) F rf rf rf fun _ F =>
                      wpList_nil <|
                      hK37 _ _ ?_
                     refine wp_ret <|
                      HRET _ _ _ _ F rfl ?_
                     exact⟨_,rfl,false,rfl,(fun h=>by cases h),M.below⟩
                    ·
                     have hd67:=of_decide_eq_false hc65
                     refine wp_skip <|
                      hK35 _ _ ?_
                     refine wk_region <|
                      xM F rf rf rf fun _ F =>
                      ke (on rfl) (e_add rfl (F.u rf) rfl) rfl F rfl (congrArg (Value.int .i64) (wrap_i64 (by omega))) fun _ F =>
                      xA F rf rf rf fun _ F =>
                      wpList_nil <| ?_
                     exact⟨i+1,⟨F.sub ⟨rfl,rfl,rfl,trivial⟩,M,by omega,(fun x hx=>by
                      rw[take_snoc hz] at hx
                      rcases List.mem_append.1 hx with hx | hx
                      ·exact hqi x hx
                      ·obtain rfl:=List.mem_singleton.1 hx
                       omega)⟩,by show p.types.length-(i+1)<p.types.length-i;omega⟩
                   ·
                    have hd68:=of_decide_eq_false hc63
                    refine wp_exit <|
                     hK31 _ _ ?_
                    refine wp_seq_k fun K38 hK38 =>
                     wp_seq_k fun K39 hK39 =>
                     wk_region <|
                     xA (v:=.int .i64 0) F rf rf rf fun _ F =>
                     wpList_nil <|
                     hK39 _ _ ?_
                    refine wp_block <| ?_
                    have hals:∀ x∈p.types,x.als.length≤4:=by rw[show i=p.types.length by omega,List.take_length] at hqi;exact hqi
                    refine wk_loop (ι:=Nat) (fun j a w=>Fs a 188 [(1,.pointer (some ⟨g1,0,none⟩)),(3,.pointer (some ⟨g53,0,none⟩)),(7,.int .i64 (j:Int))]∧Mm w0 w [(g53,82,#[.int .i64 0,.int .i64 (c1:Int),.int .i64 (c2:Int),.int .i64 (c3:Int)]),(g1,39,#[.slice la0 p.classes.length lk0,.slice la1 p.types.length lk1,.slice la2 p.attrs.length lk2,.slice la3 p.roles.length lk3,.slice la4 p.users.length lk4,.slice la5 p.bools.length lk5,.slice la6 p.sens.length lk6,.slice la7 p.cats.length lk7,.slice la8 p.conds.length lk8,.slice la9 p.rules.length lk9,.slice la10 p.trans.length lk10,.slice la11 p.rtrans.length lk11,.slice la12 p.ranges.length lk12,.slice la13 p.cons.length lk13,.slice la14 p.sids.length lk14,.slice la15 p.files.length lk15,.slice la16 p.asserts.length lk16])] []∧j≤p.conds.length∧∀ x∈p.conds.take j,levelsM 13 x≤6) (fun j=>p.conds.length-j) 0 ⟨F.sub ⟨rfl,rfl,rfl,trivial⟩,M,Nat.zero_le _,(by simp)⟩ ?_
                    (repeat clear F);(repeat clear M)
                    rintro j _ _ ⟨F,M,hj,hqj⟩
                    refine wp_seq_k fun K40 hK40 =>
                     wp_seq_k fun K41 hK41 =>
                     wk_region <|
                     xM F rf rf rf fun _ F =>
                     xF 8 F rf rf rf u39 rf sz29 rf fun _ F =>
                     xL F (M.b 1 rfl) rf rf rf u29 rf rf fun _ F =>
                     kz F rf (e_lenSl rfl (F.u rf) u29) fun _ F =>
                     kz F rf (e_lss rfl (F.u rf) (F.u rf)) fun _ F =>
                     wpList_nil <|
                     hK41 _ _ ?_
                    refine wp_cond_split (F.e 150 rfl) (fun hc69=>?_) (fun hc69=>?_)
                    ·
                     have hd70:=of_decide_eq_true hc69
                     refine wp_skip <|
                      hK40 _ _ ?_
                     refine wp_seq_k fun K42 hK42 =>
                      wp_block <|
                      wp_seq_k fun K43 hK43=>?_
                     have hlj:j<p.conds.length:=by omega
                     obtain⟨e1,he1⟩:∃ e1,p.conds[j]?=some e1:=⟨_,List.getElem?_eq_getElem hlj⟩
                     obtain⟨b8,ob8,csb8,rfl,heb8,hnb8,hrb8⟩:=hcell8 j e1 he1
                     have oke1:=hok.conds e1 (List.mem_of_getElem? he1)
                     refine wk_region <|
                      xF 8 F rf rf rf u39 rf sz29 rf fun _ F =>
                      xL F (M.b 1 rfl) rf rf rf u29 rf rf fun _ F =>
                      xM F rf rf rf fun _ F =>
                      kz F rf (e_indexAddr (i:=j) rfl (F.u rf) (F.u rf) (by omega) u29 sz89) fun _ F =>
                      kz F rf (e_loadN csb8 rfl (F.u rf) u89 rfl (by rw[hnb8];exact sz89) (lat M.below hrb8)) fun _ F =>
                      xC F M rf rf q39 (args1 (F.u rf)) (Levels_any _ csb8 e1 (ExpAt.keep M.below heb8)) fun _ _ F M =>
                      kz F rf (e_gtr rfl (F.u rf) rfl) fun _ F =>
                      wpList_nil <|
                      hK43 _ _ ?_
                     refine wp_cond_split (F.e 159 rfl) (fun hc71=>?_) (fun hc71=>?_)
                     ·
                      have hd72:=of_decide_eq_true hc71
                      refine wp_seq_k fun K44 hK44 =>
                       wk_region <|
                       xA (v:=.bool false) F rf rf rf fun _ F =>
                       wpList_nil <|
                       hK44 _ _ ?_
                      refine wp_ret <|
                       HRET _ _ _ _ F rfl ?_
                      exact⟨_,rfl,false,rfl,(fun h=>by cases h),M.below⟩
                     ·
                      have hd73:=of_decide_eq_false hc71
                      refine wp_skip <|
                       hK42 _ _ ?_
                      refine wk_region <|
                       xM F rf rf rf fun _ F =>
                       ke (on rfl) (e_add rfl (F.u rf) rfl) rfl F rfl (congrArg (Value.int .i64) (wrap_i64 (by omega))) fun _ F =>
                       xA F rf rf rf fun _ F =>
                       wpList_nil <| ?_
                      exact⟨j+1,⟨F.sub ⟨rfl,rfl,rfl,trivial⟩,M,by omega,(fun x hx=>by
                       rw[take_snoc he1] at hx
                       rcases List.mem_append.1 hx with hx | hx
                       ·exact hqj x hx
                       ·obtain rfl:=List.mem_singleton.1 hx
                        omega)⟩,by show p.conds.length-(j+1)<p.conds.length-j;omega⟩
                    ·
                     have hd74:=of_decide_eq_false hc69
                     refine wp_exit <|
                      hK38 _ _ ?_
                     refine wp_seq_k fun K45 hK45 =>
                      wp_seq_k fun K46 hK46 =>
                      wk_region <|
                      xA (v:=.int .i64 0) F rf rf rf fun _ F =>
                      wpList_nil <|
                      hK46 _ _ ?_
                     refine wp_block <| ?_
                     have hlev:∀ x∈p.conds,levelsM 13 x≤6:=by rw[show j=p.conds.length by omega,List.take_length] at hqj;exact hqj
                     refine wk_loop (ι:=Nat) (fun t a w=>Fs a 188 [(1,.pointer (some ⟨g1,0,none⟩)),(3,.pointer (some ⟨g53,0,none⟩)),(8,.int .i64 (t:Int))]∧Mm w0 w [(g53,82,#[.int .i64 0,.int .i64 (c1:Int),.int .i64 (c2:Int),.int .i64 (c3:Int)]),(g1,39,#[.slice la0 p.classes.length lk0,.slice la1 p.types.length lk1,.slice la2 p.attrs.length lk2,.slice la3 p.roles.length lk3,.slice la4 p.users.length lk4,.slice la5 p.bools.length lk5,.slice la6 p.sens.length lk6,.slice la7 p.cats.length lk7,.slice la8 p.conds.length lk8,.slice la9 p.rules.length lk9,.slice la10 p.trans.length lk10,.slice la11 p.rtrans.length lk11,.slice la12 p.ranges.length lk12,.slice la13 p.cons.length lk13,.slice la14 p.sids.length lk14,.slice la15 p.files.length lk15,.slice la16 p.asserts.length lk16])] []∧t≤p.cons.length∧∀ x∈p.cons.take t,levelsM 13 x.expr≤6) (fun t=>p.cons.length-t) 0 ⟨F.sub ⟨rfl,rfl,rfl,trivial⟩,M,Nat.zero_le _,(by simp)⟩ ?_
                     (repeat clear F);(repeat clear M)
                     rintro t _ _ ⟨F,M,ht,hqt⟩
                     refine wp_seq_k fun K47 hK47 =>
                      wp_seq_k fun K48 hK48 =>
                      wk_region <|
                      xM F rf rf rf fun _ F =>
                      xF 13 F rf rf rf u39 rf sz34 rf fun _ F =>
                      xL F (M.b 1 rfl) rf rf rf u34 rf rf fun _ F =>
                      kz F rf (e_lenSl rfl (F.u rf) u34) fun _ F =>
                      kz F rf (e_lss rfl (F.u rf) (F.u rf)) fun _ F =>
                      wpList_nil <|
                      hK48 _ _ ?_
                     refine wp_cond_split (F.e 164 rfl) (fun hc75=>?_) (fun hc75=>?_)
                     ·
                      have hd76:=of_decide_eq_true hc75
                      refine wp_skip <|
                       hK47 _ _ ?_
                      refine wp_seq_k fun K49 hK49 =>
                       wp_block <|
                       wp_seq_k fun K50 hK50=>?_
                      have hlk:t<p.cons.length:=by omega
                      obtain⟨e2,he2⟩:∃ e2,p.cons[t]?=some e2:=⟨_,List.getElem?_eq_getElem hlk⟩
                      obtain⟨b13,ob13,cqb13,rfl,⟨csb13,rfl,heb13⟩,hnb13,hrb13⟩:=hcell13 t e2 he2
                      have hmb13:csb13.length=10:=by simpa using hnb13
                      have hsb13:∀ j u,csb13[j]?=some u→w0.cell? ⟨b13,ob13+t*13+3+j,none⟩=some u:=fun j u hu=>by
                       have h:=hrb13 (3+j) u (by simpa[Nat.add_comm] using hu)
                       rwa [← Nat.add_assoc] at h
                      have oke2:=hok.cons e2 (List.mem_of_getElem? he2)
                      refine wk_region <|
                       xF 13 F rf rf rf u39 rf sz34 rf fun _ F =>
                       xL F (M.b 1 rfl) rf rf rf u34 rf rf fun _ F =>
                       xM F rf rf rf fun _ F =>
                       kz F rf (e_indexAddr (i:=t) rfl (F.u rf) (F.u rf) (by omega) u34 sz91) fun _ F =>
                       xF (ob13+t*13+3) F rf rf rf u91 rf sz89 rf fun _ F =>
                       kz F rf (e_loadN csb13 rfl (F.u rf) u89 rfl (by rw[hmb13];exact sz89) (lat M.below hsb13)) fun _ F =>
                       xC F M rf rf q39 (args1 (F.u rf)) (Levels_any _ csb13 e2.expr (ExpAt.keep M.below heb13)) fun _ _ F M =>
                       kz F rf (e_gtr rfl (F.u rf) rfl) fun _ F =>
                       wpList_nil <|
                       hK50 _ _ ?_
                      refine wp_cond_split (F.e 174 rfl) (fun hc77=>?_) (fun hc77=>?_)
                      ·
                       have hd78:=of_decide_eq_true hc77
                       refine wp_seq_k fun K51 hK51 =>
                        wk_region <|
                        xA (v:=.bool false) F rf rf rf fun _ F =>
                        wpList_nil <|
                        hK51 _ _ ?_
                       refine wp_ret <|
                        HRET _ _ _ _ F rfl ?_
                       exact⟨_,rfl,false,rfl,(fun h=>by cases h),M.below⟩
                      ·
                       have hd79:=of_decide_eq_false hc77
                       refine wp_skip <|
                        hK49 _ _ ?_
                       refine wk_region <|
                        xM F rf rf rf fun _ F =>
                        ke (on rfl) (e_add rfl (F.u rf) rfl) rfl F rfl (congrArg (Value.int .i64) (wrap_i64 (by omega))) fun _ F =>
                        xA F rf rf rf fun _ F =>
                        wpList_nil <| ?_
                       exact⟨t+1,⟨F.sub ⟨rfl,rfl,rfl,trivial⟩,M,by omega,(fun x hx=>by
                        rw[take_snoc he2] at hx
                        rcases List.mem_append.1 hx with hx | hx
                        ·exact hqt x hx
                        ·obtain rfl:=List.mem_singleton.1 hx
                         omega)⟩,by show p.cons.length-(t+1)<p.cons.length-t;omega⟩
                     ·
                      have hd80:=of_decide_eq_false hc75
                      refine wp_exit <|
                       hK45 _ _ ?_
                      refine wp_seq_k fun K52 hK52 =>
                       wk_region <|
                       ke (u:=.pointer (some ⟨g53,1,none⟩)) (on rfl) (e_indexArr (i:=1) rfl (F.u rf) rfl (by decide) u82 sz3) rfl F rfl rfl fun _ F =>
                       xL F (M.b 0 rfl) rf rf rf u3 rf rf fun _ F =>
                       kz F rf (e_leq rfl (F.u rf) rfl) fun _ F =>
                       xM F rf rf rf fun _ F=>?_
                      cases hq81:(decide ((c1:Int)≤12):Bool) with
                      | true =>
                       have F:=F.eq 178 rfl (congrArg Value.bool hq81)
                       have hd82:=of_decide_eq_true hq81
                       refine ke (u:=.pointer (some ⟨g53,2,none⟩)) (gn rfl rfl (F.g 178 rfl)) (e_indexArr (i:=2) rfl (F.u rf) rfl (by decide) u82 sz3) rfl F rfl rfl fun _ F =>
                        kv (gn rfl rfl (F.g 178 rfl)) (e_load1 rfl (F.u rf) u3 rfl ((M.b 0 rfl).c1 2)) rfl F rfl fun _ F =>
                        kv (gn rfl rfl (F.g 178 rfl)) (e_leq rfl (F.u rf) rfl) rfl F rfl fun _ F =>
                        ke (u:=.bool (decide ((c2:Int)≤12))) (on rfl) (e_pick rfl (F.u rf) (F.u rf) rfl) rfl F rfl rfl fun _ F =>
                        xM F rf rf rf fun _ F=>?_
                       cases hq83:(decide ((c2:Int)≤12):Bool) with
                       | true =>
                        have F:=F.eq 183 rfl (congrArg Value.bool hq83)
                        have hd84:=of_decide_eq_true hq83
                        refine ke (u:=.pointer (some ⟨g53,3,none⟩)) (gn rfl rfl (F.g 183 rfl)) (e_indexArr (i:=3) rfl (F.u rf) rfl (by decide) u82 sz3) rfl F rfl rfl fun _ F =>
                         kv (gn rfl rfl (F.g 183 rfl)) (e_load1 rfl (F.u rf) u3 rfl ((M.b 0 rfl).c1 3)) rfl F rfl fun _ F =>
                         kv (gn rfl rfl (F.g 183 rfl)) (e_leq rfl (F.u rf) rfl) rfl F rfl fun _ F =>
                         ke (u:=.bool (decide ((c3:Int)≤12))) (on rfl) (e_pick rfl (F.u rf) (F.u rf) rfl) rfl F rfl rfl fun _ F =>
                         xA F rf rf rf fun _ F =>
                         wpList_nil <|
                         hK52 _ _ ?_
                        refine wp_ret <|
                         HRET _ _ _ _ F rfl ?_
                        exact⟨_,rfl,_,rfl,(fun _=>⟨hsz,hals,hlev,(by rw[show t=p.cons.length by omega,List.take_length] at hqt;exact hqt)⟩),M.below⟩
                       | false =>
                        have F:=F.eq 183 rfl (congrArg Value.bool hq83)
                        have hd85:=of_decide_eq_false hq83
                        refine ko rfl rfl rfl (F.g 183 rfl) rfl F rfl fun _ F =>
                         ko rfl rfl rfl (F.g 183 rfl) rfl F rfl fun _ F =>
                         ko rfl rfl rfl (F.g 183 rfl) rfl F rfl fun _ F =>
                         ke (u:=.bool false) (on rfl) (e_pick rfl (F.u rf) (F.u rf) rfl) rfl F rfl rfl fun _ F =>
                         xA F rf rf rf fun _ F =>
                         wpList_nil <|
                         hK52 _ _ ?_
                        refine wp_ret <|
                         HRET _ _ _ _ F rfl ?_
                        exact⟨_,rfl,false,rfl,(fun h=>by cases h),M.below⟩
                      | false =>
                       have F:=F.eq 178 rfl (congrArg Value.bool hq81)
                       have hd86:=of_decide_eq_false hq81
                       refine ko rfl rfl rfl (F.g 178 rfl) rfl F rfl fun _ F =>
                        ko rfl rfl rfl (F.g 178 rfl) rfl F rfl fun _ F =>
                        ko rfl rfl rfl (F.g 178 rfl) rfl F rfl fun _ F =>
                        ke (u:=.bool false) (on rfl) (e_pick rfl (F.u rf) (F.u rf) rfl) rfl F rfl rfl fun _ F =>
                        xM F rf rf rf fun _ F =>
                        ko rfl rfl rfl (F.g 183 rfl) rfl F rfl fun _ F =>
                        ko rfl rfl rfl (F.g 183 rfl) rfl F rfl fun _ F =>
                        ko rfl rfl rfl (F.g 183 rfl) rfl F rfl fun _ F =>
                        ke (u:=.bool false) (on rfl) (e_pick rfl (F.u rf) (F.u rf) rfl) rfl F rfl rfl fun _ F =>
                        xA F rf rf rf fun _ F =>
                        wpList_nil <|
                        hK52 _ _ ?_
                       refine wp_ret <|
                        HRET _ _ _ _ F rfl ?_
                       exact⟨_,rfl,false,rfl,(fun h=>by cases h),M.below⟩
end Go.Proofs.YtdcofoaihmongaaGreat
namespace Go.Proofs.YtdcofoaihmongaaGreat.V
open Go Go.WideMaps Go.RowKit
set_option maxRecDepth 100000 in
set_option maxHeartbeats 4000000 in
theorem new5 (w:World) (tb eb sa:Nat) (y:AEntry) (Post:World→World→Prop) (x0 x1 x2 x4 x6 x7 x8 x9 x10 x11 x12 x13 x14 x15 x16 x17 x18 x19 x20 x21 x22 x23 x24 x25 x26 x27 x28 x29 x30 x31 x32 x33 x34 x35 x36 x37 x38 x39:Value) (HT:Hid (Whole w tb 100 #[.pointer (some ⟨sa,0,none⟩),.pointer none,.slice none 0 0])) (HE:Hid (Whole w eb 94 #[.int .i64 y.src,.int .i64 y.tgt,.int .i64 y.cls,.int .i64 y.cond,.int .u32 y.allow,.int .u32 y.audit,.int .u32 y.dont])) (HC:Hid (∀ W,RowKit.Below w.heap.size w W→Calls Tryz.prog 56 #[.pointer (some ⟨sa,0,none⟩),.agg #[.int .i64 y.src,.int .i64 y.tgt,.int .i64 y.cls,.int .i64 y.cond],.agg #[.int .u32 y.allow,.int .u32 y.audit,.int .u32 y.dont]] W fun e w'=>e=.returned (.tuple #[])∧Post W w'))
 {Q':Exit→Act→World→Prop} (hend:∀ (v15 v16 v17 v18 v19 v20 v21 v22 v23 v24 v25 v26 v27 v28 v29 v30 v31 v32 v33 v34 v35:Value) (W w':World),(RowKit.Below w.heap.size w W∧Post W w')→Q' .normal ⟨#[x0,x1,x2,.pointer (some ⟨tb,0,none⟩),x4,.pointer (some ⟨eb,0,none⟩),x6,x7,x8,x9,x10,x11,x12,x13,x14,v15,v16,v17,v18,v19,v20,v21,v22,v23,v24,v25,v26,v27,v28,v29,v30,v31,v32,v33,v34,v35,x36,x37,x38,x39],[]⟩ w') :
 Code.wp Tryz.prog (findRegion7 5 ((Tryz.f14.body).getD .skip)) Q' ⟨#[x0,x1,x2,.pointer (some ⟨tb,0,none⟩),x4,.pointer (some ⟨eb,0,none⟩),x6,x7,x8,x9,x10,x11,x12,x13,x14,x15,x16,x17,x18,x19,x20,x21,x22,x23,x24,x25,x26,x27,x28,x29,x30,x31,x32,x33,x34,x35,x36,x37,x38,x39],[]⟩ w:=by
 have HEND:=Lib.hid hend
 clear hend
 conv=>arg 2;whnf
 conv=>arg 4;dsimp only
 refine wp_region_goods [some 15,some 16,some 17,some 18,some 19,some 20,some 21,some 22,some 23,some 24,some 25,some 26,some 27,some 28,some 29,some 30,some 31,some 32,some 33,some 34] [isW (.pointer (some ⟨tb,0,none⟩)),isW (.pointer (some ⟨tb,0,none⟩)),isW (.pointer (some ⟨tb,0,none⟩)),isW (.pointer (some ⟨sa,0,none⟩)),isW (.pointer (some ⟨eb,0,none⟩)),isW (.int .i64 y.src),isW (.pointer (some ⟨eb,1,none⟩)),isW (.int .i64 y.tgt),isW (.pointer (some ⟨eb,2,none⟩)),isW (.int .i64 y.cls),isW (.pointer (some ⟨eb,3,none⟩)),isW (.int .i64 y.cond),isW (.agg #[.int .i64 y.src,.int .i64 y.tgt,.int .i64 y.cls,.int .i64 y.cond]),isW (.pointer (some ⟨eb,4,none⟩)),isW (.int .u32 y.allow),isW (.pointer (some ⟨eb,5,none⟩)),isW (.int .u32 y.audit),isW (.pointer (some ⟨eb,6,none⟩)),isW (.int .u32 y.dont),isW (.agg #[.int .u32 y.allow,.int .u32 y.audit,.int .u32 y.dont])] (fun _ w'=>RowKit.Below w.heap.size w w') [] (by kernel_rfl) (by kernel_rfl) (by kernel_rfl) rfl (by decide) rfl rfl ((Below.refl _ _).drew) ⟨lastsW_is _,lastsW_is _,lastsW_is _,lastsW_is _,lastsW_is _,lastsW_is _,lastsW_is _,lastsW_is _,lastsW_is _,lastsW_is _,lastsW_is _,lastsW_is _,lastsW_is _,lastsW_is _,lastsW_is _,lastsW_is _,lastsW_is _,lastsW_is _,lastsW_is _,lastsW_is _,trivial⟩ ⟨?_,?_,?_,?_,?_,?_,?_,?_,?_,?_,?_,?_,?_,?_,?_,?_,?_,?_,?_,?_,?_⟩
 ·intro L a wy Q' hL hi H F hK
  try dsimp only at hi
  have h3:a.tmps[3]?=some (.pointer (some ⟨tb,0,none⟩)):=F 3 rfl
  have HI:=Lib.hid hi
  clear H F hi hL
  go_wp2_with fail
  exact hK _ _ (Below.refl _ _) HI.out rfl
 ·intro L a wy Q' hL hi H F hK
  try dsimp only at hi
  obtain⟨_,h15,rfl⟩:=H 0 ⟨.data,by simp,rfl⟩ _ rfl
  replace h15:=h15 _ rfl
  have HI:=Lib.hid hi
  clear H F hi hL
  go_wp2_with fail
  exact hK _ _ (Below.refl _ _) HI.out rfl
 ·intro L a wy Q' hL hi H F hK
  try dsimp only at hi
  obtain⟨_,h16,rfl⟩:=H 1 ⟨.data,by simp,rfl⟩ _ rfl
  replace h16:=h16 _ rfl
  have HI:=Lib.hid hi
  clear H F hi hL
  go_wp2_with fail
  exact hK _ _ (Below.refl _ _) HI.out rfl
 ·intro L a wy Q' hL hi H F hK
  try dsimp only at hi
  obtain⟨_,h17,rfl⟩:=H 2 ⟨.data,by simp,rfl⟩ _ rfl
  replace h17:=h17 _ rfl
  have HI:=Lib.hid hi
  clear H F hi hL
  have kq0:wy.cell? ⟨tb,0,none⟩=some (.pointer (some ⟨sa,0,none⟩)):=(Whole.under HI.out HT.out (Whole.lt HT.out)).cell 0
  go_wp2_with fail
  exact hK _ _ (Below.refl _ _) HI.out rfl
 ·intro L a wy Q' hL hi H F hK
  try dsimp only at hi
  have h5:a.tmps[5]?=some (.pointer (some ⟨eb,0,none⟩)):=F 5 rfl
  have HI:=Lib.hid hi
  clear H F hi hL
  go_wp2_with fail
  exact hK _ _ (Below.refl _ _) HI.out rfl
 ·intro L a wy Q' hL hi H F hK
  try dsimp only at hi
  obtain⟨_,h19,rfl⟩:=H 4 ⟨.data,by simp,rfl⟩ _ rfl
  replace h19:=h19 _ rfl
  have HI:=Lib.hid hi
  clear H F hi hL
  have kq0:wy.cell? ⟨eb,0,none⟩=some (.int .i64 y.src):=(Whole.under HI.out HE.out (Whole.lt HE.out)).cell 0
  go_wp2_with fail
  exact hK _ _ (Below.refl _ _) HI.out rfl
 ·intro L a wy Q' hL hi H F hK
  try dsimp only at hi
  have h5:a.tmps[5]?=some (.pointer (some ⟨eb,0,none⟩)):=F 5 rfl
  have HI:=Lib.hid hi
  clear H F hi hL
  go_wp2_with fail
  exact hK _ _ (Below.refl _ _) HI.out rfl
 ·intro L a wy Q' hL hi H F hK
  try dsimp only at hi
  obtain⟨_,h21,rfl⟩:=H 6 ⟨.data,by simp,rfl⟩ _ rfl
  replace h21:=h21 _ rfl
  have HI:=Lib.hid hi
  clear H F hi hL
  have kq0:wy.cell? ⟨eb,1,none⟩=some (.int .i64 y.tgt):=(Whole.under HI.out HE.out (Whole.lt HE.out)).cell 1
  go_wp2_with fail
  exact hK _ _ (Below.refl _ _) HI.out rfl
 ·intro L a wy Q' hL hi H F hK
  try dsimp only at hi
  have h5:a.tmps[5]?=some (.pointer (some ⟨eb,0,none⟩)):=F 5 rfl
  have HI:=Lib.hid hi
  clear H F hi hL
  go_wp2_with fail
  exact hK _ _ (Below.refl _ _) HI.out rfl
 ·intro L a wy Q' hL hi H F hK
  try dsimp only at hi
  obtain⟨_,h23,rfl⟩:=H 8 ⟨.data,by simp,rfl⟩ _ rfl
  replace h23:=h23 _ rfl
  have HI:=Lib.hid hi
  clear H F hi hL
  have kq0:wy.cell? ⟨eb,2,none⟩=some (.int .i64 y.cls):=(Whole.under HI.out HE.out (Whole.lt HE.out)).cell 2
  go_wp2_with fail
  exact hK _ _ (Below.refl _ _) HI.out rfl
 ·intro L a wy Q' hL hi H F hK
  try dsimp only at hi
  have h5:a.tmps[5]?=some (.pointer (some ⟨eb,0,none⟩)):=F 5 rfl
  have HI:=Lib.hid hi
  clear H F hi hL
  go_wp2_with fail
  exact hK _ _ (Below.refl _ _) HI.out rfl
 ·intro L a wy Q' hL hi H F hK
  try dsimp only at hi
  obtain⟨_,h25,rfl⟩:=H 10 ⟨.data,by simp,rfl⟩ _ rfl
  replace h25:=h25 _ rfl
  have HI:=Lib.hid hi
  clear H F hi hL
  have kq0:wy.cell? ⟨eb,3,none⟩=some (.int .i64 y.cond):=(Whole.under HI.out HE.out (Whole.lt HE.out)).cell 3
  go_wp2_with fail
  exact hK _ _ (Below.refl _ _) HI.out rfl
 ·intro L a wy Q' hL hi H F hK
  try dsimp only at hi
  obtain⟨_,h20,rfl⟩:=H 5 ⟨.data,by simp,rfl⟩ _ rfl
  replace h20:=h20 _ rfl
  obtain⟨_,h22,rfl⟩:=H 7 ⟨.data,by simp,rfl⟩ _ rfl
  replace h22:=h22 _ rfl
  obtain⟨_,h24,rfl⟩:=H 9 ⟨.data,by simp,rfl⟩ _ rfl
  replace h24:=h24 _ rfl
  obtain⟨_,h26,rfl⟩:=H 11 ⟨.data,by simp,rfl⟩ _ rfl
  replace h26:=h26 _ rfl
  have HI:=Lib.hid hi
  clear H F hi hL
  go_wp2_with fail
  exact hK _ _ (Below.refl _ _) HI.out rfl
 ·intro L a wy Q' hL hi H F hK
  try dsimp only at hi
  have h5:a.tmps[5]?=some (.pointer (some ⟨eb,0,none⟩)):=F 5 rfl
  have HI:=Lib.hid hi
  clear H F hi hL
  go_wp2_with fail
  exact hK _ _ (Below.refl _ _) HI.out rfl
 ·intro L a wy Q' hL hi H F hK
  try dsimp only at hi
  obtain⟨_,h28,rfl⟩:=H 13 ⟨.data,by simp,rfl⟩ _ rfl
  replace h28:=h28 _ rfl
  have HI:=Lib.hid hi
  clear H F hi hL
  have kq0:wy.cell? ⟨eb,4,none⟩=some (.int .u32 y.allow):=(Whole.under HI.out HE.out (Whole.lt HE.out)).cell 4
  go_wp2_with fail
  exact hK _ _ (Below.refl _ _) HI.out rfl
 ·intro L a wy Q' hL hi H F hK
  try dsimp only at hi
  have h5:a.tmps[5]?=some (.pointer (some ⟨eb,0,none⟩)):=F 5 rfl
  have HI:=Lib.hid hi
  clear H F hi hL
  go_wp2_with fail
  exact hK _ _ (Below.refl _ _) HI.out rfl
 ·intro L a wy Q' hL hi H F hK
  try dsimp only at hi
  obtain⟨_,h30,rfl⟩:=H 15 ⟨.data,by simp,rfl⟩ _ rfl
  replace h30:=h30 _ rfl
  have HI:=Lib.hid hi
  clear H F hi hL
  have kq0:wy.cell? ⟨eb,5,none⟩=some (.int .u32 y.audit):=(Whole.under HI.out HE.out (Whole.lt HE.out)).cell 5
  go_wp2_with fail
  exact hK _ _ (Below.refl _ _) HI.out rfl
 ·intro L a wy Q' hL hi H F hK
  try dsimp only at hi
  have h5:a.tmps[5]?=some (.pointer (some ⟨eb,0,none⟩)):=F 5 rfl
  have HI:=Lib.hid hi
  clear H F hi hL
  go_wp2_with fail
  exact hK _ _ (Below.refl _ _) HI.out rfl
 ·intro L a wy Q' hL hi H F hK
  try dsimp only at hi
  obtain⟨_,h32,rfl⟩:=H 17 ⟨.data,by simp,rfl⟩ _ rfl
  replace h32:=h32 _ rfl
  have HI:=Lib.hid hi
  clear H F hi hL
  have kq0:wy.cell? ⟨eb,6,none⟩=some (.int .u32 y.dont):=(Whole.under HI.out HE.out (Whole.lt HE.out)).cell 6
  go_wp2_with fail
  exact hK _ _ (Below.refl _ _) HI.out rfl
 ·intro L a wy Q' hL hi H F hK
  try dsimp only at hi
  obtain⟨_,h29,rfl⟩:=H 14 ⟨.data,by simp,rfl⟩ _ rfl
  replace h29:=h29 _ rfl
  obtain⟨_,h31,rfl⟩:=H 16 ⟨.data,by simp,rfl⟩ _ rfl
  replace h31:=h31 _ rfl
  obtain⟨_,h33,rfl⟩:=H 18 ⟨.data,by simp,rfl⟩ _ rfl
  replace h33:=h33 _ rfl
  have HI:=Lib.hid hi
  clear H F hi hL
  go_wp2_with fail
  exact hK _ _ (Below.refl _ _) HI.out rfl
 ·intro a wy L hl hi hL Q' hK
  try dsimp only at hi
  have HB:=Lib.hid hi
  clear hi hL
  obtain⟨_,rfl,_,rfl,_,rfl,_,rfl,_,rfl,_,rfl,_,rfl,_,rfl,_,rfl,_,rfl,_,rfl,_,rfl,_,rfl,_,rfl,_,rfl,_,rfl,_,rfl,_,rfl,_,rfl,_,rfl,rfl⟩:=hl
  simp only[List.setIfInBounds_toArray,List.set_cons_zero,List.set_cons_succ]
  go_wp2_with (go_at_call 56;go_must (refine(HC.out wy HB.out).mono ?_;rintro e w9 ⟨rfl,h9⟩;have HP9:=Lib.hid h9;clear h9))
  exact HEND.out _ _ _ _ _ _ _ _ _ _ _ _ _ _ _ _ _ _ _ _ _ wy w9 ⟨HB.out,HP9.out⟩
set_option maxRecDepth 100000 in
set_option maxHeartbeats 4000000 in
theorem find4 (w:World) (g:Nat) (fa fb fc:Int) (x0 x1 x2 x3 x4 x5 x6 x7 x8 x9 x10 x12 x13 x14 x15 x16 x17 x18 x19 x20 x21 x22 x23 x24 x25 x26 x27 x28 x29 x30 x31 x32:Value) (HG:Hid (Whole w g 104 #[.int .u32 fa,.int .u32 fb,.int .u32 fc]))
 {Q':Exit→Act→World→Prop} (hend:∀ (v27 v28 v29 v30 v31 v32:Value) (w':World),RowKit.Below w.heap.size w w'→Q' .normal ⟨#[x0,x1,x2,x3,x4,x5,x6,x7,.int .u32 fa,.int .u32 fb,.int .u32 fc,.pointer (some ⟨g,0,none⟩),x12,x13,x14,x15,x16,x17,x18,x19,x20,x21,x22,x23,x24,x25,x26,v27,v28,v29,v30,v31,v32],[]⟩ w') :
 Code.wp Tryz.prog (findRegion7 4 ((Tryz.f19.body).getD .skip)) Q' ⟨#[x0,x1,x2,x3,x4,x5,x6,x7,x8,x9,x10,.pointer (some ⟨g,0,none⟩),x12,x13,x14,x15,x16,x17,x18,x19,x20,x21,x22,x23,x24,x25,x26,x27,x28,x29,x30,x31,x32],[]⟩ w:=by
 have HEND:=Lib.hid hend
 clear hend
 conv=>arg 2;whnf
 conv=>arg 4;dsimp only
 refine wp_region_goods [some 27,some 28,some 29,some 30,some 31,some 32,some 8,some 9] [isW (.pointer (some ⟨g,0,none⟩)),isW (.int .u32 fa),isW (.pointer (some ⟨g,1,none⟩)),isW (.int .u32 fb),isW (.pointer (some ⟨g,2,none⟩)),isW (.int .u32 fc),isW (.int .u32 fa),isW (.int .u32 fb)] (fun _ w'=>RowKit.Below w.heap.size w w') [] (by kernel_rfl) (by kernel_rfl) (by kernel_rfl) rfl (by decide) rfl rfl ((Below.refl _ _).drew) ⟨lastsW_is _,lastsW_is _,lastsW_is _,lastsW_is _,lastsW_is _,lastsW_is _,lastsW_is _,lastsW_is _,trivial⟩ ⟨?_,?_,?_,?_,?_,?_,?_,?_,?_⟩
 ·intro L a wy Q' hL hi H F hK
  try dsimp only at hi
  have h11:a.tmps[11]?=some (.pointer (some ⟨g,0,none⟩)):=F 11 rfl
  have HI:=Lib.hid hi
  clear H F hi hL
  go_wp2_with fail
  exact hK _ _ (Below.refl _ _) HI.out rfl
 ·intro L a wy Q' hL hi H F hK
  try dsimp only at hi
  obtain⟨_,h27,rfl⟩:=H 0 ⟨.data,by simp,rfl⟩ _ rfl
  replace h27:=h27 _ rfl
  have HI:=Lib.hid hi
  clear H F hi hL
  have kq0:wy.cell? ⟨g,0,none⟩=some (.int .u32 fa):=(Whole.under HI.out HG.out (Whole.lt HG.out)).cell 0
  go_wp2_with fail
  exact hK _ _ (Below.refl _ _) HI.out rfl
 ·intro L a wy Q' hL hi H F hK
  try dsimp only at hi
  have h11:a.tmps[11]?=some (.pointer (some ⟨g,0,none⟩)):=F 11 rfl
  have HI:=Lib.hid hi
  clear H F hi hL
  go_wp2_with fail
  exact hK _ _ (Below.refl _ _) HI.out rfl
 ·intro L a wy Q' hL hi H F hK
  try dsimp only at hi
  obtain⟨_,h29,rfl⟩:=H 2 ⟨.data,by simp,rfl⟩ _ rfl
  replace h29:=h29 _ rfl
  have HI:=Lib.hid hi
  clear H F hi hL
  have kq0:wy.cell? ⟨g,1,none⟩=some (.int .u32 fb):=(Whole.under HI.out HG.out (Whole.lt HG.out)).cell 1
  go_wp2_with fail
  exact hK _ _ (Below.refl _ _) HI.out rfl
 ·intro L a wy Q' hL hi H F hK
  try dsimp only at hi
  have h11:a.tmps[11]?=some (.pointer (some ⟨g,0,none⟩)):=F 11 rfl
  have HI:=Lib.hid hi
  clear H F hi hL
  go_wp2_with fail
  exact hK _ _ (Below.refl _ _) HI.out rfl
 ·intro L a wy Q' hL hi H F hK
  try dsimp only at hi
  obtain⟨_,h31,rfl⟩:=H 4 ⟨.data,by simp,rfl⟩ _ rfl
  replace h31:=h31 _ rfl
  have HI:=Lib.hid hi
  clear H F hi hL
  have kq0:wy.cell? ⟨g,2,none⟩=some (.int .u32 fc):=(Whole.under HI.out HG.out (Whole.lt HG.out)).cell 2
  go_wp2_with fail
  exact hK _ _ (Below.refl _ _) HI.out rfl
 ·intro L a wy Q' hL hi H F hK
  try dsimp only at hi
  obtain⟨_,h28,rfl⟩:=H 1 ⟨.data,by simp,rfl⟩ _ rfl
  replace h28:=h28 _ rfl
  have HI:=Lib.hid hi
  clear H F hi hL
  go_wp2_with fail
  exact hK _ _ (Below.refl _ _) HI.out rfl
 ·intro L a wy Q' hL hi H F hK
  try dsimp only at hi
  obtain⟨_,h30,rfl⟩:=H 3 ⟨.data,by simp,rfl⟩ _ rfl
  replace h30:=h30 _ rfl
  have HI:=Lib.hid hi
  clear H F hi hL
  go_wp2_with fail
  exact hK _ _ (Below.refl _ _) HI.out rfl
 ·intro a wy L hl hi hL Q' hK
  try dsimp only at hi
  have HB:=Lib.hid hi
  clear hi hL
  obtain⟨_,rfl,_,rfl,_,rfl,_,rfl,_,rfl,_,rfl,_,rfl,_,rfl,rfl⟩:=hl
  simp only[List.setIfInBounds_toArray,List.set_cons_zero,List.set_cons_succ]
  go_wp2_with fail
  exact HEND.out _ _ _ _ _ _ _ HB.out
set_option maxRecDepth 100000 in
set_option maxHeartbeats 4000000 in
theorem new_any (w:World) (v:Value) (l:List AEntry) (h:SliceAt w v 7 l.length (l.flatMap AEntry.cells)) (hok:∀ x∈l,x.Ok) (hlen:l.length≤100000000) :
 Calls Tryz.prog 14 #[v] w fun e w'=>∃ tb,e=.returned (.pointer (some ⟨tb,0,none⟩))∧TabAt w' w.heap.size tb (joinL l) (seenL (joinL l) []) []∧RowKit.Below w.heap.size w w':=by
 obtain⟨n,hn⟩:∃ n,n=l.length:=⟨_,rfl⟩
 rw[← hn] at h
 obtain⟨a,c,rfl,hac,hmx,hcell⟩:=h.form (by decide)
 have HN:=Lib.hid hn
 have HC:=Lib.hid hcell
 have HOK:=Lib.hid hok
 rw[← hn] at hlen
 have HLEN:=Lib.hid hlen
 clear hn hcell h hok
 go_enter Tryz.func14,Tryz.ntmps14
 go_upto_region 2 with(go_at_call 55;go_must (refine(fresh_any w).mono ?_;rintro e w1 ⟨sa,rfl,hs1,hb1⟩;have HS1:=Lib.hid hs1;have HB1:=Lib.hid hb1;clear hs1 hb1))
 obtain⟨wt,hwt⟩:∃ wt,wt=w1.alloc (.cells #[.pointer (some ⟨sa,0,none⟩),.pointer none,.slice none 0 0] 100):=⟨_,rfl⟩
 rw[← hwt]
 have HBt:=Lib.hid (show RowKit.Below w1.heap.size w1 wt by rw[hwt];exact(Below.refl _ w1).alloc (Nat.le_refl _) _)
 have HTt:=Lib.hid (show Whole wt w1.heap.size 100 #[.pointer (some ⟨sa,0,none⟩),.pointer none,.slice none 0 0] by rw[hwt];exact Whole.new w1 100 _)
 have HSt:=Lib.hid (HS1.out.keep HBt.out)
 have HBw:=Lib.hid (HB1.out.trans (HBt.out.mono HB1.out.size))
 obtain⟨tb,htb⟩:∃ tb,tb=w1.heap.size:=⟨_,rfl⟩
 rw[← htb] at HTt ⊢
 have HTB:=Lib.hid (show w.heap.size≤tb by rw[htb];exact HB1.out.size)
 clear hwt HS1 HB1 HBt htb
 go_wp2_with fail
 go_loopw [11] (fun i wr=>∃ m:Nat,m≤n∧i=.int .i64 m∧Whole wr tb 100 #[.pointer (some ⟨sa,0,none⟩),.pointer none,.slice none 0 0]∧StoreAt wr w.heap.size sa (joinL (l.take m))∧RowKit.Below w.heap.size w wr) (fun i _=>n-(intOf i).toNat)
 case atStart=>exact⟨0,Nat.zero_le _,rfl,HTt.out,by simpa[joinL] using HSt.out,HBw.out⟩
 case round =>
  obtain⟨m,hm,rfl,hTr,hSr,hBr⟩:=hrel
  have HTr:=Lib.hid hTr
  have HSr:=Lib.hid hSr
  have HBr:=Lib.hid hBr
  clear hTr hSr hBr
  by_cases hlt:m<n
  ·obtain⟨y,hy⟩:∃ y,l[m]?=some y:=⟨_,List.getElem?_eq_getElem (by rw[← HN.out];exact hlt)⟩
   obtain⟨b,off,rfl,hcl⟩:=HC.out m hlt
   have hk0:wr.cell? ⟨b,off+m*7,none⟩=some (.int .i64 y.src):=cell_later HBr.out (hcl 0 _ (by rw[flat_at entry_len hy 0 (by decide)];rfl))
   have hk1:wr.cell? ⟨b,off+m*7+1,none⟩=some (.int .i64 y.tgt):=cell_later HBr.out (hcl 1 _ (by rw[flat_at entry_len hy 1 (by decide)];rfl))
   have hk2:wr.cell? ⟨b,off+m*7+2,none⟩=some (.int .i64 y.cls):=cell_later HBr.out (hcl 2 _ (by rw[flat_at entry_len hy 2 (by decide)];rfl))
   have hk3:wr.cell? ⟨b,off+m*7+3,none⟩=some (.int .i64 y.cond):=cell_later HBr.out (hcl 3 _ (by rw[flat_at entry_len hy 3 (by decide)];rfl))
   have hk4:wr.cell? ⟨b,off+m*7+4,none⟩=some (.int .u32 y.allow):=cell_later HBr.out (hcl 4 _ (by rw[flat_at entry_len hy 4 (by decide)];rfl))
   have hk5:wr.cell? ⟨b,off+m*7+5,none⟩=some (.int .u32 y.audit):=cell_later HBr.out (hcl 5 _ (by rw[flat_at entry_len hy 5 (by decide)];rfl))
   have hk6:wr.cell? ⟨b,off+m*7+6,none⟩=some (.int .u32 y.dont):=cell_later HBr.out (hcl 6 _ (by rw[flat_at entry_len hy 6 (by decide)];rfl))
   have HYO:=Lib.hid (HOK.out y (List.mem_of_getElem? hy))
   have HTK:=Lib.hid (show l.take (m+1)=l.take m++[y] from take_snoc hy)
   clear hcl hy
   go_upto_region 5 with(refine wpList_store_blk rfl 94 _ _ rfl wr.heap.size 0 (.agg #[.int .i64 y.src,.int .i64 y.tgt,.int .i64 y.cls,.int .i64 y.cond,.int .u32 y.allow,.int .u32 y.audit,.int .u32 y.dont]) rfl rfl 94 _ (Whole.new wr 94 _) (by simp[Value.cells]) size94 rfl ?_;intro w3 S3 W3;rw[splice_all _ _ (by rfl)] at W3;have HS3:=Lib.hid S3;have HW3:=Lib.hid (show Whole w3 wr.heap.size 94 #[.int .i64 y.src,.int .i64 y.tgt,.int .i64 y.cls,.int .i64 y.cond,.int .u32 y.allow,.int .u32 y.audit,.int .u32 y.dont] from W3);clear S3 W3)
   clear hk0 hk1 hk2 hk3 hk4 hk5 hk6
   have HB3:=Lib.hid (show RowKit.Below wr.heap.size wr w3 from((Below.refl _ wr).alloc (Nat.le_refl _) _).trans (HS3.out.below (Nat.le_refl _)))
   have HT3:=Lib.hid (Whole.under HB3.out HTr.out HTr.out.lt)
   have HBw3:=Lib.hid (HBr.out.trans (HB3.out.mono HBr.out.size))
   refine new5 w3 tb wr.heap.size sa y (fun W w'=>StoreAt w' w.heap.size sa (joinL (l.take (m+1)))∧Chg w.heap.size W w') _ _ _ _ _ _ _ _ _ _ _ _ _ _ _ _ _ _ _ _ _ _ _ _ _ _ _ _ _ _ _ _ _ _ _ _ _ _ HT3 HW3 (Lib.hid fun W hW=>by
    have hst:=(HSr.out.keep HB3.out).keep hW
    have hlen':(joinL (l.take m)).length≤100000000:=by
     have h1:=joinL_length (l.take m)
     have h3:(l.take m).length≤l.length:=by rw[List.length_take];omega
     have:=HLEN.out
     have:=HN.out
     omega
    refine(add_any W w.heap.size sa _ y.key y.vecs hst (Nat.le_trans HBw3.out.size hW.size) HYO.out.1 HYO.out.2 hlen').mono ?_
    rintro e w' ⟨h1,h2,h3⟩
    refine⟨h1,?_,h3⟩
    rw[HTK.out,joinL_snoc]
    exact h2) ?_
   intro v15 v16 v17 v18 v19 v20 v21 v22 v23 v24 v25 v26 v27 v28 v29 v30 v31 v32 v33 v34 v35 W w5 hf
   have HW5:=Lib.hid hf.1
   have HST5:=Lib.hid hf.2.1
   have HCH5:=Lib.hid hf.2.2
   clear hf
   go_wp2_with fail
   go_roundw
   case rel=>exact⟨m+1,by omega,by go_num,HCH5.out.kept _ _ _ (Whole.under HW5.out HT3.out HT3.out.lt) (by decide) (by decide),HST5.out,(HBw3.out.trans (HW5.out.mono HBw3.out.size)).trans HCH5.out.blw⟩
   case measure=>simp[intOf];omega
  ·obtain rfl:m=n:=by omega
   have hfull:l.take m=l:=List.take_of_length_le (by rw[HN.out];exact Nat.le_refl _)
   rw[hfull] at HSr
   clear hfull
   have HSH:=Lib.hid (show_any wr w.heap.size tb sa _ (.slice none 0 0) (joinL l) [] HTr.out HSr.out (World.ownsRow_nil _ _ _ _) (by have h1:=joinL_length l;have:=HLEN.out;have:=HN.out;omega) (by simp))
   go_wp2_with (go_at_call 57;go_must (refine HSH.out.mono ?_;rintro e w4 ⟨rfl,ss,h1,h2,h3⟩;have H1:=Lib.hid h1;have H2:=Lib.hid h2;have H3:=Lib.hid h3;clear h1 h2 h3))
   go_ret
   refine⟨tb,ret_val rfl,⟨⟨sa,ss,_,H1.out,HSr.out.grown H3.out HTr.out (by decide) (by decide),H2.out.low HBr.out.size,World.ownsRow_nil _ _ _ _⟩,HTB.out⟩,HBr.out.grown H3.out HBr.out.size (fun q hq=>by cases hq;exact HTB.out)⟩
set_option maxRecDepth 100000 in
set_option maxHeartbeats 4000000 in
theorem activate_any (w:World) (base tb:Nat) (v:Value) (L S:List AEntry) (vals vals':List Bool) (h:TabAt w base tb L S vals) (hv:SliceAt w v 1 vals'.length (vals'.map aBool)) (hlen:L.length≤100000000) (hbig:vals'.length≤1000000) :
 Calls Tryz.prog 16 #[.pointer (some ⟨tb,0,none⟩),v] w fun e w'=>e=.returned (.tuple #[])∧TabAt w' base tb L (seenL L vals') vals'∧w.grownBy w' (some tb):=by
 obtain⟨sa,ss,vv,hT,hA,hB,hV⟩:=h.ex
 obtain⟨va,vc,rfl⟩:=hv.shape
 have HT:=Lib.hid hT
 have HA:=Lib.hid hA
 have HLO:=Lib.hid h.lo
 have HLT:=Lib.hid (Nat.le_of_lt (Nat.lt_of_le_of_lt h.lo hT.lt))
 have HLEN:=Lib.hid hlen
 have HBIG:=Lib.hid hbig
 have HCLN:=Lib.hid (clone_any w _ vals' hv hbig)
 have HMD:=Lib.hid (made_any w tb sa _ _ hT)
 clear h hT hA hB hV hv hlen hbig
 go_enter Tryz.func16,Tryz.ntmps16
 go_upto_region 2 with(first | (go_at_call 62;go_must (refine HMD.out.mono ?_;rintro e w1 ⟨rfl,rfl⟩)) | (go_at_call 63;go_must (refine HCLN.out.mono ?_;rintro e w1 ⟨v',rfl,ho,hb⟩;obtain⟨xa,xc,rfl⟩:=own_shape ho;have HO:=Lib.hid ho;have HB1:=Lib.hid hb;have HT1:=Lib.hid (Whole.under hb HT.out HT.out.lt);clear ho hb)) | (refine wpList_store_blk rfl 40 _ _ rfl tb 2 (.slice xa vals'.length xc) rfl rfl 100 _ HT1.out (by simp[Value.cells]) size40 rfl ?_;intro w2 S2 W2;have HS2:=Lib.hid S2;have HT2:=Lib.hid (show Whole w2 tb 100 #[.pointer (some ⟨sa,0,none⟩),.pointer (some ⟨ss,0,none⟩),.slice xa vals'.length xc] from W2);clear S2 W2))
 have HG2:=Lib.hid (grown_trans (below_grown HB1.out (some tb)) HS2.out.grown)
 have HO2:=Lib.hid (HS2.out.own HO.out (own_blk_far HO.out HT1.out (by decide)))
 have HA2:=Lib.hid (HA.out.grown HG2.out HT.out (by decide) (by decide))
 have HSH:=Lib.hid (show_any w2 base tb sa _ _ L vals' HT2.out HA2.out (own_low HO2.out HLT.out) HLEN.out HBIG.out)
 go_wp2_with (go_at_call 57;go_must (refine HSH.out.mono ?_;rintro e w4 ⟨rfl,ss',h1,h2,h3⟩;have H1:=Lib.hid h1;have H2:=Lib.hid h2;have H3:=Lib.hid h3;clear h1 h2 h3))
 go_returns
 exact⟨rfl,⟨⟨sa,ss',_,H1.out,HA2.out.grown H3.out HT2.out (by decide) (by decide),H2.out.low (Nat.le_trans HLT.out HG2.out.size),(own_low HO2.out HLT.out).kept H3.out (.inr (own_blk_far HO2.out HT2.out (by decide)))⟩,HLO.out⟩,grown_trans HG2.out H3.out⟩
set_option maxRecDepth 100000 in
set_option maxHeartbeats 4000000 in
theorem find_any (w:World) (base tb:Nat) (L S:List AEntry) (vals:List Bool) (s t c:Int) (h:TabAt w base tb L S vals) (hs:I64 s) (ht:I64 t) (hc:I64 c) :
 Calls Tryz.prog 19 #[.pointer (some ⟨tb,0,none⟩),.int .i64 s,.int .i64 t,.int .i64 c] w fun e w'=>e=.returned (.tuple #[.int .u32 (lookV S ⟨s,t,c,0⟩).allow,.int .u32 (lookV S ⟨s,t,c,0⟩).audit,.int .u32 (lookV S ⟨s,t,c,0⟩).dont])∧RowKit.Below w.heap.size w w':=by
 obtain⟨sa,ss,vv,hT,hA,hB,hV⟩:=h.ex
 obtain⟨mb,kv,hSs,hM,-,-,-⟩:=hB.ex
 have HMD:=Lib.hid (made_any w tb sa _ _ hT)
 have t1:w.cell? ⟨tb,1,none⟩=some (.pointer (some ⟨ss,0,none⟩)):=hT.cell 1
 have s0:w.cell? ⟨ss,0,none⟩=some (.map (some mb)):=hSs.cell 0
 obtain⟨u,hu⟩:∃ u,u=lookV S ⟨s,t,c,0⟩:=⟨_,rfl⟩
 have hl:(Instr.lookup 118 (.map (some mb)) (.agg #[.int .i64 s,.int .i64 t,.int .i64 c,.int .i64 0]) false).run Tryz.prog w=.ok (.agg #[.int .u32 u.allow,.int .u32 u.audit,.int .u32 u.dont]) w:=by
  rw[hu]
  exact store_look hM hB.ord (k:=⟨s,t,c,0⟩) ⟨hs,ht,hc,(⟨by decide,by decide⟩:I64 0)⟩
 rw[← hu]
 clear h hT hA hB hV hSs hM hs ht hc hu
 go_enter Tryz.func19,Tryz.ntmps19
 go_upto_region 4 with(first | (go_at_call 62;go_must (refine HMD.out.mono ?_;rintro e w1 ⟨rfl,rfl⟩)) | (refine wpList_store_blk rfl 104 _ _ rfl w.heap.size 0 (.agg #[.int .u32 u.allow,.int .u32 u.audit,.int .u32 u.dont]) rfl rfl 104 _ (Whole.new w 104 _) (by simp[Value.cells]) size104 rfl ?_;intro w3 S3 W3;rw[splice_all _ _ (by rfl)] at W3;have HS3:=Lib.hid S3;have HW3:=Lib.hid (show Whole w3 w.heap.size 104 #[.int .u32 u.allow,.int .u32 u.audit,.int .u32 u.dont] from W3);clear S3 W3))
 have HB3:=Lib.hid (show RowKit.Below w.heap.size w w3 from((Below.refl _ w).alloc (Nat.le_refl _) _).trans (HS3.out.below (Nat.le_refl _)))
 refine find4 w3 w.heap.size u.allow u.audit u.dont _ _ _ _ _ _ _ _ _ _ _ _ _ _ _ _ _ _ _ _ _ _ _ _ _ _ _ _ _ _ _ _ HW3 ?_
 intro v27 v28 v29 v30 v31 v32 w4 hb4
 have HB4:=Lib.hid (HB3.out.trans (hb4.mono HB3.out.size))
 clear hb4
 go_wp2
 go_ret3
 exact⟨rfl,HB4.out⟩
end Go.Proofs.YtdcofoaihmongaaGreat.V
namespace Go.Proofs.YtdcofoaihmongaaGreat.V
open Go Go.WideMaps Go.RowKit
theorem own_alloc {w:World} {b:Nat} {e:TypeId} {k n:Nat} {v:Value} {xs:List Value} (h:w.ownsRow b e k v n xs) (o:Obj):(w.alloc o).ownsRow b e k v n xs:=own_keep ((Below.refl _ w).alloc (Nat.le_refl _) o) h (Nat.le_refl _)
theorem row_new (w:World) (cs:List Value) (t:TypeId):∀ j u,cs[j]?=some u→(w.alloc (.cells cs.toArray t)).cell? ((⟨w.heap.size,0,none⟩:Addr).add j)=some u:=fun j u hj=>by
 rw[Addr.add_mid,(Whole.new w t cs.toArray).cell,Nat.zero_add]
 simpa using hj
theorem len_any (w:World) (base tb:Nat) (L S:List AEntry) (vals:List Bool) (h:TabAt w base tb L S vals) :
 Calls Tryz.prog 52 #[.pointer (some ⟨tb,0,none⟩)] w fun e w'=>e=.returned (.int .i64 L.length)∧w=w':=by
 obtain⟨sa,ss,vv,hT,hA,hB,hV⟩:=h.ex
 obtain⟨mb,kv,hS,hM,hO,-,-⟩:=hA.ex
 obtain⟨ka,kc,rfl⟩:=own_shape hO
 have HMD:=Lib.hid (made_any w tb sa _ _ hT)
 have t0:w.cell? ⟨tb,0,none⟩=some (.pointer (some ⟨sa,0,none⟩)):=hT.cell 0
 have k1:w.cell? ⟨sa,1,none⟩=some (.slice ka L.length kc):=hS.cell 1
 obtain⟨n,hn⟩:∃ n,n=L.length:=⟨_,rfl⟩
 rw[← hn] at k1 ⊢
 clear h hT hA hB hV hS hM hO hn
 go_enter Tryz.func52,Tryz.ntmps52
 go_wp2_with (go_at_call 62;go_must (refine HMD.out.mono ?_;rintro e w1 ⟨rfl,rfl⟩))
 go_ret
 exact⟨ret_val rfl,rfl⟩
end Go.Proofs.YtdcofoaihmongaaGreat.V

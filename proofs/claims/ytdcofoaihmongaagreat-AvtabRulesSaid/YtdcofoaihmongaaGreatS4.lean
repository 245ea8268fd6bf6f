import Derived.Test.YtdcofoaihmongaaGreatS3
namespace Go.Proofs.YtdcofoaihmongaaGreat
open Go Go.RowKit
def objRole:ARol:=⟨⟨#[111,98,106,101,99,116,95,114]⟩,ASet.zero,ASet.zero⟩
theorem eq_objRole (r:ARol) (w:World):(Op.equalIn 10000 188 (.agg #[.string r.name,.int .u64 r.types.a,.int .u64 r.types.b,.int .u64 r.types.c,.int .u64 r.types.d,.int .u64 r.next.a,.int .u64 r.next.b,.int .u64 r.next.c,.int .u64 r.next.d]) (.agg #[.string ⟨#[111,98,106,101,99,116,95,114]⟩,.int .u64 0,.int .u64 0,.int .u64 0,.int .u64 0,.int .u64 0,.int .u64 0,.int .u64 0,.int .u64 0])).run Tryz.prog w=.ok (decide (r=objRole)) w:=by
 rw[show(10000:Nat)=9997+3 from rfl,eqT188]
 congr 1
 rw[Bool.eq_iff_iff]
 obtain⟨n,⟨a,b,c,d⟩,⟨a',b',c',d'⟩⟩:=r
 simp only[decide_eq_true_eq,objRole,ASet.zero,ASet.mk.injEq,ARol.mk.injEq,and_assoc]
 refine and_congr_right fun _=>?_
 omega
def roleM (nT nR:Nat) (before:List ByteArray) (y:ARol):Int :=
 if namesM [y.name] before=0 then
  (if y.types.within (ASet.all nT)=false then 3 else if rolesB nR y.next=false then 3 else 0)
 else namesM [y.name] before
def roleF (p:APol) (i:Nat):Int:=match p.roles[i]? with
 | some y=>roleM p.types.length p.roles.length ((p.roles.take i).map (·.name)) y
 | none=>0
def rolesM (p:APol):Int:=if 32<p.roles.length then 4 else if p.roles[0]?≠some objRole then 2 else firstE (roleF p) (p.roles.length-1) 1
theorem head_none {p:APol} (h:p.roles.length=0):p.roles[0]?≠some objRole:=by
 rw[List.getElem?_eq_none (by omega)];simp
theorem head_ne {p:APol} {r:ARol} (h:p.roles[0]?=some r) (hn:¬ r=objRole):p.roles[0]?≠some objRole:=by
 rw[h];simpa using hn
theorem head_eq {p:APol} {r:ARol} (h:p.roles[0]?=some r) (hn:r=objRole):¬ p.roles[0]?≠some objRole:=by
 rw[h];simpa using hn
theorem roles_head {p:APol} {r:ARol} (h:p.roles[0]?=some r) (hn:r=objRole):[(⟨#[111,98,106,101,99,116,95,114]⟩:ByteArray)]=(p.roles.take 1).map (·.name):=by
 cases hp:p.roles with
 | nil=>rw[hp] at h;simp at h
 | cons x l=>rw[hp] at h;simp at h;subst h hn;rfl
set_option maxRecDepth 100000 in
set_option maxHeartbeats 4000000 in
theorem roles_any (w0:World) (c0 c1 c2 c3 c4 c5 c6 c7 c8 c9 c10 c11 c12 c13 c14 c15 c16:Value) (p:APol) (hp:PolAt w0 c0 c1 c2 c3 c4 c5 c6 c7 c8 c9 c10 c11 c12 c13 c14 c15 c16 p) (hok:p.Ok):Calls Tryz.prog 43 #[.agg #[c0,c1,c2,c3,c4,c5,c6,c7,c8,c9,c10,c11,c12,c13,c14,c15,c16]] w0 (RI w0 (rolesM p)):=by
 obtain⟨la1,lk1,rfl,hk1,hm1,hcell1⟩:=RowsAt.form hp.types (by decide)
 obtain⟨la3,lk3,rfl,hk3,hm3,hcell3⟩:=SliceAt.form hp.roles (by decide)
 have HRET:=hr1 Tryz.prog Tryz.f43 (RI w0 (rolesM p)) 66 2 rfl
 refine en Tryz.func43 rfl Tryz.ntmps43 rfl (vs:=[.agg #[c0,.slice la1 p.types.length lk1,c2,.slice la3 p.roles.length lk3,c4,c5,c6,c7,c8,c9,c10,c11,c12,c13,c14,c15,c16]]) rfl fun _ F=>?_
 have M:=Mm.start w0
 refine wp_seq_k fun K1 hK1 =>
  wk_region <|
  kbA (on rfl) rfl (F.u rf) rfl F rfl M fun g1 _ _ F M =>
  xA (v:=.int .i64 0) F rf rf rf fun _ F =>
  wpList_nil <|
  hK1 _ _ ?_
 refine wp_seq_k fun K2 hK2 =>
  wp_seq_k fun K3 hK3 =>
  wk_region <|
  xF 3 F rf rf rf u39 rf sz25 rf fun _ F =>
  xL F (M.b 0 rfl) rf rf rf u25 rf rf fun _ F =>
  kz F rf (e_lenSl rfl (F.u rf) u25) fun _ F =>
  kz F rf (e_gtr rfl (F.u rf) rfl) fun _ F =>
  wpList_nil <|
  hK3 _ _ ?_
 refine wp_cond_split (F.e 11 rfl) (fun hc2=>?_) (fun hc2=>?_)
 ·
  have hd3:=of_decide_eq_true hc2
  refine wp_seq_k fun K4 hK4 =>
   wk_region <|
   xA (v:=.int .i64 4) F rf rf rf fun _ F =>
   wpList_nil <|
   hK4 _ _ ?_
  refine wp_ret <|
   HRET _ _ _ _ F rfl ?_
  exact⟨ret_int (by unfold rolesM;rw[if_pos (by omega)]),M.below⟩
 ·
  have hd4:=of_decide_eq_false hc2
  refine wp_skip <|
   hK2 _ _ ?_
  refine wp_seq_k fun K5 hK5 =>
   wk_region <|
   xF 1 F rf rf rf u39 rf sz23 rf fun _ F =>
   xL F (M.b 0 rfl) rf rf rf u23 rf rf fun _ F =>
   kz F rf (e_lenSl rfl (F.u rf) u23) fun _ F =>
   xC F M rf rf q104 (args1 (F.u rf)) (rall_any _ p.types.length hok.typesL) fun _ _ F M =>
   kaA (on rfl) rfl zr54 rfl F rfl M fun g5 _ _ F M =>
   ksA (on rfl) rfl (F.u rf) (F.u rf) F M 0 rfl sz54 rfl rfl rfl fun _ M =>
   wpList_nil <|
   hK5 _ _ ?_
  refine wp_seq_k fun K6 hK6 =>
   wp_seq_k fun K7 hK7 =>
   wk_region <|
   xF 3 F rf rf rf u39 rf sz25 rf fun _ F =>
   xL F (M.b 1 rfl) rf rf rf u25 rf rf fun _ F =>
   kz F rf (e_lenSl rfl (F.u rf) u25) fun _ F =>
   kz F rf (e_eqI rfl (F.u rf) rfl) fun _ F =>
   xM F rf rf rf fun _ F=>?_
  cases hq6:(decide ((p.roles.length:Int)=0):Bool) with
  | true =>
   have F:=F.eq 20 rfl (congrArg Value.bool hq6)
   have hd7:=of_decide_eq_true hq6
   refine ko rfl rfl rfl (F.g 20 rfl) rfl F rfl fun _ F =>
    ko rfl rfl rfl (F.g 20 rfl) rfl F rfl fun _ F =>
    ko rfl rfl rfl (F.g 20 rfl) rfl F rfl fun _ F =>
    ko rfl rfl rfl (F.g 20 rfl) rfl F rfl fun _ F =>
    ko rfl rfl rfl (F.g 20 rfl) rfl F rfl fun _ F =>
    ko rfl rfl rfl (F.g 20 rfl) rfl F rfl fun _ F =>
    ke (u:=.bool true) (on rfl) (e_pick rfl (F.u rf) rfl (F.u rf)) rfl F rfl rfl fun _ F =>
    wpList_nil <|
    hK7 _ _ ?_
   refine wp_cond_true (F.e 27 rfl) ?_
   refine wp_seq_k fun K8 hK8 =>
    wk_region <|
    xA (v:=.int .i64 2) F rf rf rf fun _ F =>
    wpList_nil <|
    hK8 _ _ ?_
   refine wp_ret <|
    HRET _ _ _ _ F rfl ?_
   exact⟨ret_int (by unfold rolesM;rw[if_neg (by omega),if_pos (head_none (by omega))]),M.below⟩
  | false =>
   have F:=F.eq 20 rfl (congrArg Value.bool hq6)
   have hd8:=of_decide_eq_false hq6
   refine ke (u:=.pointer (some ⟨g1,3,none⟩)) (gn rfl rfl (F.g 20 rfl)) (e_field rfl (F.u rf) u39 rfl sz25) rfl F rfl rfl fun _ F=>?_
   have h0:0<p.roles.length:=by omega
   obtain⟨r0,hr0⟩:∃ r0,p.roles[0]?=some r0:=⟨_,List.getElem?_eq_getElem h0⟩
   obtain⟨q3,oq3,rfl,hcq3⟩:=hcell3 0 h0
   have hrq3:∀ j uu,[.string r0.name,.int .u64 r0.types.a,.int .u64 r0.types.b,.int .u64 r0.types.c,.int .u64 r0.types.d,.int .u64 r0.next.a,.int .u64 r0.next.b,.int .u64 r0.next.c,.int .u64 r0.next.d][j]?=some uu→w0.cell? ⟨q3,oq3+0*9+j,none⟩=some uu:=fun j u hu=>hcq3 j u (by
    rw[flat_at ARol.cells_len hr0 j (List.getElem?_eq_some_iff.1 hu).1]
    exact hu)
   clear hcq3
   have okr0:=hok.roles r0 (List.mem_of_getElem? hr0)
   refine kv (gn rfl rfl (F.g 20 rfl)) (e_load1 rfl (F.u rf) u25 rfl ((M.b 1 rfl).c1 3)) rfl F rfl fun _ F =>
    ke (u:=.pointer (some ⟨q3,oq3+0*9,none⟩)) (gn rfl rfl (F.g 20 rfl)) (e_indexAddr (i:=0) rfl (F.u rf) rfl (by omega) u25 sz188) rfl F rfl rfl fun _ F =>
    kv (gn rfl rfl (F.g 20 rfl)) (e_loadN [.string r0.name,.int .u64 r0.types.a,.int .u64 r0.types.b,.int .u64 r0.types.c,.int .u64 r0.types.d,.int .u64 r0.next.a,.int .u64 r0.next.b,.int .u64 r0.next.c,.int .u64 r0.next.d] rfl (F.u rf) u188 rfl sz188 (lat M.below hrq3)) rfl F rfl fun _ F =>
    kv (gn rfl rfl (F.g 20 rfl)) (e_build rfl (pv:=#[(0,.string (⟨#[111,98,106,101,99,116,95,114]⟩))]) (by simp[BigFrame.eval_const]) (cells:=#[.string (⟨#[111,98,106,101,99,116,95,114]⟩),.int .u64 0,.int .u64 0,.int .u64 0,.int .u64 0,.int .u64 0,.int .u64 0,.int .u64 0,.int .u64 0]) (by kernel_rfl)) rfl F rfl fun _ F =>
    kv (gn rfl rfl (F.g 20 rfl)) (e_neAg rfl (F.u rf) (F.u rf) eg188 (eq_objRole _ _)) rfl F rfl fun _ F =>
    ke (u:=.bool (!(decide (r0=objRole)))) (on rfl) (e_pick rfl (F.u rf) rfl (F.u rf)) rfl F rfl rfl fun _ F =>
    wpList_nil <|
    hK7 _ _ ?_
   refine wp_cond_split (F.e 27 rfl) (fun hc9=>?_) (fun hc9=>?_)
   ·
    have hd10:=of_decide_eq_false (show decide (r0=objRole)=false by simpa using hc9)
    have hk11:(decide (r0=objRole))=false:=by simpa using hc9
    refine wp_seq_k fun K9 hK9 =>
     wk_region <|
     xA (v:=.int .i64 2) F rf rf rf fun _ F =>
     wpList_nil <|
     hK9 _ _ ?_
    refine wp_ret <|
     HRET _ _ _ _ F rfl ?_
    exact⟨ret_int (by unfold rolesM;rw[if_neg (by omega),if_pos (head_ne hr0 hd10)]),M.below⟩
   ·
    have hd12:=of_decide_eq_true (show decide (r0=objRole)=true by simpa using hc9)
    have hk13:(decide (r0=objRole))=true:=by simpa using hc9
    have hobj:r0=objRole:=hd12
    refine wp_skip <|
     hK6 _ _ ?_
    refine wp_seq_k fun K10 hK10 =>
     wk_region <|
     xS F M rf rf rf u28 sz9 zr9 rf rf fun g14 _ _ F M =>
     xA F rf rf rf fun _ F =>
     wpList_nil <| ?_
    have M:=M.boxRow 1 1 (by simp[maxLen]) rfl
    refine hK10 _ _ ?_
    refine wp_seq_k fun K11 hK11 =>
     wp_seq_k fun K12 hK12 =>
     wk_region <|
     xA (v:=.int .i64 1) F rf rf rf fun _ F =>
     wpList_nil <|
     hK12 _ _ ?_
    refine wp_block <| ?_
    refine wk_loop (ι:=Nat×Value×List ByteArray) (fun | (m,v,l),a,w=>Fs a 66 [(1,.pointer (some ⟨g1,0,none⟩)),(3,.pointer (some ⟨g5,0,none⟩)),(4,v),(5,.int .i64 (m:Int))]∧Mm w0 w [(g5,54,#[.int .u64 ((ASet.all p.types.length).a),.int .u64 ((ASet.all p.types.length).b),.int .u64 ((ASet.all p.types.length).c),.int .u64 ((ASet.all p.types.length).d)]),(g1,39,#[c0,.slice la1 p.types.length lk1,c2,.slice (some ⟨q3,oq3,none⟩) p.roles.length lk3,c4,c5,c6,c7,c8,c9,c10,c11,c12,c13,c14,c15,c16])] [⟨v,9,1,l.length,l.flatMap strCell⟩]∧m≤p.roles.length∧1≤m∧l=(p.roles.take m).map (·.name)∧firstE (roleF p) (p.roles.length-1) 1=firstE (roleF p) (p.roles.length-m) m) (fun | (m,v,l)=>p.roles.length-m) (1,.slice (some ⟨g14,0,none⟩) 1 1,[⟨#[111,98,106,101,99,116,95,114]⟩]) ⟨F.sub ⟨rfl,rfl,rfl,rfl,trivial⟩,M,(by omega),(Nat.le_refl _),(by rw[roles_head hr0 hobj]),rfl⟩ ?_
    (repeat clear F);(repeat clear M)
    rintro⟨m,v,l⟩ _ _ ⟨F,M,hm,hm1,hl,hinv⟩
    refine wp_seq_k fun K13 hK13 =>
     wp_seq_k fun K14 hK14 =>
     wk_region <|
     xM F rf rf rf fun _ F =>
     xF 3 F rf rf rf u39 rf sz25 rf fun _ F =>
     xL F (M.b 1 rfl) rf rf rf u25 rf rf fun _ F =>
     kz F rf (e_lenSl rfl (F.u rf) u25) fun _ F =>
     kz F rf (e_lss rfl (F.u rf) (F.u rf)) fun _ F =>
     wpList_nil <|
     hK14 _ _ ?_
    refine wp_cond_split (F.e 33 rfl) (fun hc15=>?_) (fun hc15=>?_)
    ·
     have hd16:=of_decide_eq_true hc15
     refine wp_skip <|
      hK13 _ _ ?_
     refine wp_seq_k fun K15 hK15 =>
      wp_block <|
      wp_seq_k fun K16 hK16=>?_
     have hlt:m<p.roles.length:=by omega
     obtain⟨y,hy⟩:∃ y,p.roles[m]?=some y:=⟨_,List.getElem?_eq_getElem hlt⟩
     have hrb3:∀ j u,[.string y.name,.int .u64 y.types.a,.int .u64 y.types.b,.int .u64 y.types.c,.int .u64 y.types.d,.int .u64 y.next.a,.int .u64 y.next.b,.int .u64 y.next.c,.int .u64 y.next.d][j]?=some u→w0.cell? ⟨q3,oq3+m*9+j,none⟩=some u:=fun j u hu=>by
      obtain⟨b,o',hbo,hcb⟩:=hcell3 m hlt
      obtain⟨rfl,rfl⟩:q3=b∧oq3=o':=by injection hbo with e1;injection e1 with e2 e3;exact⟨e2,e3⟩
      exact hcb j u (by
       rw[flat_at ARol.cells_len hy j (List.getElem?_eq_some_iff.1 hu).1]
       exact hu)
     have oky:=hok.roles y (List.mem_of_getElem? hy)
     have hcf:roleF p m=roleM p.types.length p.roles.length l y:=by unfold roleF;rw[hy,hl]
     have hlm:l.length≤4096:=by rw[hl,List.length_map,List.length_take];omega
     refine wk_region <|
      xF 3 F rf rf rf u39 rf sz25 rf fun _ F =>
      xL F (M.b 1 rfl) rf rf rf u25 rf rf fun _ F =>
      xM F rf rf rf fun _ F =>
      kz F rf (e_indexAddr (i:=m) rfl (F.u rf) (F.u rf) (by omega) u25 sz188) fun _ F =>
      kz F rf (e_loadN [.string y.name,.int .u64 y.types.a,.int .u64 y.types.b,.int .u64 y.types.c,.int .u64 y.types.d,.int .u64 y.next.a,.int .u64 y.next.b,.int .u64 y.next.c,.int .u64 y.next.d] rfl (F.u rf) u188 rfl sz188 (lat M.below hrb3)) fun _ F =>
      kaA (on rfl) rfl zr188 rfl F rfl M fun g17 _ _ F M =>
      ksA (on rfl) rfl (F.u rf) (F.u rf) F M 0 rfl sz188 rfl rfl rfl fun _ M =>
      wpList_nil <|
      hK16 _ _ ?_
     refine wp_seq_k fun K17 hK17 =>
      wp_seq_k fun K18 hK18 =>
      wk_region <|
      xF 0 F rf rf rf u188 rf sz9 rf fun _ F =>
      xL F (M.b 0 rfl) rf rf rf u9 rf rf fun _ F =>
      xS F M rf rf rf u28 sz9 zr9 rf rf fun g18 _ _ F M =>
      xM F rf rf rf fun _ F =>
      xC F M rf rf q101 (args2 (F.u rf) (F.u rf)) (names_any _ _ _ ([y.name]) (l) (one_str (M.b 0 rfl)) (own_strs (M.r 0 rfl)) (one_ok oky.name)) fun _ _ F M =>
      xA F rf rf rf fun _ F =>
      wpList_nil <|
      hK18 _ _ ?_
     refine wp_seq_k fun K19 hK19 =>
      wk_region <|
      xM F rf rf rf fun _ F =>
      kz F rf (e_neI rfl (F.u rf) rfl) fun _ F =>
      wpList_nil <|
      hK19 _ _ ?_
     refine wp_cond_split (F.e 47 rfl) (fun hc19=>?_) (fun hc19=>?_)
     ·
      have hd20:=of_decide_eq_false (show decide (namesM [y.name] l=0)=false by simpa using hc19)
      have hk21:(decide (namesM [y.name] l=0))=false:=by simpa using hc19
      refine wp_seq_k fun K20 hK20 =>
       wk_region <|
       xM F rf rf rf fun _ F =>
       xA F rf rf rf fun _ F =>
       wpList_nil <|
       hK20 _ _ ?_
      refine wp_ret <|
       HRET _ _ _ _ F rfl ?_
      have hv:roleF p m=namesM [y.name] l:=by
       rw[hcf];unfold roleM;repeat (first | with_reducible rfl | assumption | (with_reducible refine Eq.trans (if_pos ?_) ?_;focus (first | assumption | (refine wk_nf ?_;assumption) | (refine wk_nt ?_;assumption) | omega | (simp[hd20];done))) | (with_reducible refine Eq.trans (if_neg ?_) ?_;focus (first | assumption | (refine wk_nf ?_;assumption) | (refine wk_nt ?_;assumption) | omega | (simp[hd4,hd8,hd12,hd16,hd20];done))) | omega)
      exact⟨ret_int (by unfold rolesM;rw[if_neg (by omega),if_neg (head_eq hr0 hobj),hinv,firstE_at hlt (by rw[hv];omega),hv]),M.below⟩
     ·
      have hd22:=of_decide_eq_true (show decide (namesM [y.name] l=0)=true by simpa using hc19)
      have hk23:(decide (namesM [y.name] l=0))=true:=by simpa using hc19
      refine wp_skip <|
       hK17 _ _ ?_
      refine wp_seq_k fun K21 hK21 =>
       wk_region <|
       xM F rf rf rf fun _ F =>
       xF 0 F rf rf rf u188 rf sz9 rf fun _ F =>
       xL F (M.b 1 rfl) rf rf rf u9 rf rf fun _ F =>
       xS F M rf rf rf u28 sz9 zr9 rf rf fun g24 _ _ F M =>
       kp (on rfl) rfl u28 inf9 rfl M 0 rfl (F.u rf) (F.u rf) (M.slice 0 rfl rfl rfl (by simp[maxLen])) ⟨by unfold maxLen;omega,by omega⟩ rfl F rfl fun v25 _ _ F M =>
       xA F rf rf rf fun _ F =>
       wpList_nil <|
       hK21 _ _ ?_
      refine wp_seq_k fun K22 hK22 =>
       wk_region <|
       xF 1 F rf rf rf u188 rf sz54 rf fun _ F =>
       kz F rf (e_loadN [.int .u64 y.types.a,.int .u64 y.types.b,.int .u64 y.types.c,.int .u64 y.types.d] rfl (F.u rf) u54 rfl sz54 (whole_part (M.b 2 rfl) rfl)) fun _ F =>
       xW F (M.b 3 rfl) rf rf rf u54 rf sz54 rf fun _ F =>
       xC F M rf rf q105 (args2 (F.u rf) (F.u rf)) (rwithin_any _ y.types (ASet.all p.types.length) oky.types (all_ok _)) fun _ _ F M =>
       kz F rf (e_not rfl (F.u rf)) fun _ F =>
       xM F rf rf rf fun _ F=>?_
      cases hq26:(!(y.types.within (ASet.all p.types.length)):Bool) with
      | true =>
       have F:=F.eq 59 rfl (congrArg Value.bool hq26)
       have hd27:(y.types.within (ASet.all p.types.length))=false:=by simpa using hq26
       refine ko rfl rfl rfl (F.g 59 rfl) rfl F rfl fun _ F =>
        ko rfl rfl rfl (F.g 59 rfl) rfl F rfl fun _ F =>
        ko rfl rfl rfl (F.g 59 rfl) rfl F rfl fun _ F =>
        ko rfl rfl rfl (F.g 59 rfl) rfl F rfl fun _ F =>
        ko rfl rfl rfl (F.g 59 rfl) rfl F rfl fun _ F =>
        ke (u:=.bool true) (on rfl) (e_pick rfl (F.u rf) rfl (F.u rf)) rfl F rfl rfl fun _ F =>
        wpList_nil <|
        hK22 _ _ ?_
       refine wp_cond_true (F.e 65 rfl) ?_
       refine wp_seq_k fun K23 hK23 =>
        wk_region <|
        xA (v:=.int .i64 3) F rf rf rf fun _ F =>
        wpList_nil <|
        hK23 _ _ ?_
       refine wp_ret <|
        HRET _ _ _ _ F rfl ?_
       have hv:roleF p m=3:=by
        rw[hcf];unfold roleM;repeat (first | with_reducible rfl | assumption | (with_reducible refine Eq.trans (if_pos ?_) ?_;focus (first | assumption | (refine wk_nf ?_;assumption) | (refine wk_nt ?_;assumption) | omega | (simp[hd4,hd8,hd12,hd16,hd22,hd27];done))) | (with_reducible refine Eq.trans (if_neg ?_) ?_;focus (first | assumption | (refine wk_nf ?_;assumption) | (refine wk_nt ?_;assumption) | omega | (simp[hd4,hd8,hd12,hd16,hd22,hd27];done))) | omega)
       exact⟨ret_int (by unfold rolesM;rw[if_neg (by omega),if_neg (head_eq hr0 hobj),hinv,firstE_at hlt (by rw[hv];omega),hv]),M.below⟩
      | false =>
       have F:=F.eq 59 rfl (congrArg Value.bool hq26)
       have hd28:(y.types.within (ASet.all p.types.length))=true:=by simpa using hq26
       refine kv (gn rfl rfl (F.g 59 rfl)) (e_loadW rfl (F.u rf) u39 rfl (M.b 4 rfl) sz39 rfl) rfl F rfl fun _ F =>
        ke (u:=.pointer (some ⟨g17,5,none⟩)) (gn rfl rfl (F.g 59 rfl)) (e_field rfl (F.u rf) u188 rfl sz54) rfl F rfl rfl fun _ F =>
        kv (gn rfl rfl (F.g 59 rfl)) (e_loadN [.int .u64 y.next.a,.int .u64 y.next.b,.int .u64 y.next.c,.int .u64 y.next.d] rfl (F.u rf) u54 rfl sz54 (whole_part (M.b 2 rfl) rfl)) rfl F rfl fun _ F =>
        kc (gn rfl rfl (F.g 59 rfl)) (e_call rfl Tryz.func106 nm106 rfl (args2 (F.u rf) (F.u rf))) (processRoles_any _ _ _ _ _ _ _ _ _ _ _ _ _ _ _ _ _ _ p (hp.keep M.below) hok y.next oky.next) rfl F rfl M fun _ _ F M =>
        kv (gn rfl rfl (F.g 59 rfl)) (e_not rfl (F.u rf)) rfl F rfl fun _ F =>
        ke (u:=.bool (!(rolesB p.roles.length y.next))) (on rfl) (e_pick rfl (F.u rf) rfl (F.u rf)) rfl F rfl rfl fun _ F =>
        wpList_nil <|
        hK22 _ _ ?_
       refine wp_cond_split (F.e 65 rfl) (fun hc29=>?_) (fun hc29=>?_)
       ·
        have hd30:(rolesB p.roles.length y.next)=false:=by simpa using hc29
        refine wp_seq_k fun K24 hK24 =>
         wk_region <|
         xA (v:=.int .i64 3) F rf rf rf fun _ F =>
         wpList_nil <|
         hK24 _ _ ?_
        refine wp_ret <|
         HRET _ _ _ _ F rfl ?_
        have hv:roleF p m=3:=by
         rw[hcf];unfold roleM;repeat (first | with_reducible rfl | assumption | (with_reducible refine Eq.trans (if_pos ?_) ?_;focus (first | assumption | (refine wk_nf ?_;assumption) | (refine wk_nt ?_;assumption) | omega | (simp[hd28];done))) | (with_reducible refine Eq.trans (if_neg ?_) ?_;focus (first | assumption | (refine wk_nf ?_;assumption) | (refine wk_nt ?_;assumption) | omega | (simp[hd4,hd8,hd12,hd16,hd22,hd28,hd30];done))) | omega)
        exact⟨ret_int (by unfold rolesM;rw[if_neg (by omega),if_neg (head_eq hr0 hobj),hinv,firstE_at hlt (by rw[hv];omega),hv]),M.below⟩
       ·
        have hd31:(rolesB p.roles.length y.next)=true:=by simpa using hc29
        refine wp_skip <|
         hK15 _ _ ?_
        refine wk_region <|
         xM F rf rf rf fun _ F =>
         ke (on rfl) (e_add rfl (F.u rf) rfl) rfl F rfl (congrArg (Value.int .i64) (wrap_i64 (by omega))) fun _ F =>
         xA F rf rf rf fun _ F =>
         wpList_nil <| ?_
        have hv:roleF p m=0:=by
         rw[hcf];unfold roleM;repeat (first | with_reducible rfl | assumption | (with_reducible refine Eq.trans (if_pos ?_) ?_;focus (first | assumption | (refine wk_nf ?_;assumption) | (refine wk_nt ?_;assumption) | omega | (simp[hd28,hd31];done))) | (with_reducible refine Eq.trans (if_neg ?_) ?_;focus (first | assumption | (refine wk_nf ?_;assumption) | (refine wk_nt ?_;assumption) | omega | (simp[hd4,hd8,hd12,hd16,hd22,hd28,hd31];done))) | omega)
        exact⟨(m+1,v25,l++[y.name]),⟨F.sub ⟨rfl,rfl,rfl,rfl,trivial⟩,((M.only (.cons _ (.cons _ (.cons _ (.cons_cons _ (.cons_cons _ .slnil))))) (.cons_cons _ .slnil))).cast rfl (by rw[List.length_append,List.flatMap_append];rfl),by omega,by omega,by rw[take_snoc hy,List.map_append,← hl];rfl,hinv.trans (firstE_next hlt hv)⟩,by show p.roles.length-(m+1)<p.roles.length-m;omega⟩
    ·
     have hd32:=of_decide_eq_false hc15
     refine wp_exit <|
      hK11 _ _ ?_
     refine wp_seq_k fun K25 hK25 =>
      wk_region <|
      xA (v:=.int .i64 0) F rf rf rf fun _ F =>
      wpList_nil <|
      hK25 _ _ ?_
     refine wp_ret <|
      HRET _ _ _ _ F rfl ?_
     exact⟨ret_int (by unfold rolesM;rw[if_neg (by omega),if_neg (head_eq hr0 hobj),hinv,show m=p.roles.length by omega,firstE_stop]),M.below⟩
end Go.Proofs.YtdcofoaihmongaaGreat
namespace Go.Proofs.YtdcofoaihmongaaGreat
open Go Go.RowKit
structure APol.Few (p:APol):Prop where
 types:p.types.length≤12
 als:∀ t∈p.types,t.als.length≤4
def tnames (l:List ATyp):List ByteArray:=l.flatMap fun t=>t.name::t.als
theorem tnames_le {l:List ATyp} (h:∀ t∈l,t.als.length≤4):(tnames l).length≤l.length*5:=by
 induction l with
 | nil=>simp[tnames]
 | cons t l ih =>
  have h1:=h t (by simp)
  have h2:=ih fun x hx=>h x (by simp[hx])
  unfold tnames at *
  rw[List.flatMap_cons,List.length_append,List.length_cons,List.length_cons]
  omega
theorem tnames_len {p:APol} (h:p.Few) (m:Nat):(tnames (p.types.take m)).length≤m*5:=by
 have h1:=tnames_le (l:=p.types.take m) fun t ht=>h.als t (List.mem_of_mem_take ht)
 have h2:(p.types.take m).length≤m:=List.length_take_le _ _
 omega
theorem type_names_ok {y:ATyp} (h:y.Ok):∀ s∈y.name::y.als,StrOk s:=fun s hs=>by
 rcases List.mem_cons.1 hs with rfl | hs
 ·exact h.name
 ·exact h.als.all s hs
def typeM (before:List ByteArray) (y:ATyp):Int:=namesM (y.name::y.als) before
def typeF (p:APol) (i:Nat):Int:=match p.types[i]? with
 | some y=>typeM (tnames (p.types.take i)) y
 | none=>0
def attrM (nT:Nat) (before:List ByteArray) (y:AAtt):Int :=
 if namesM [y.name] before=0 then (if y.types.within (ASet.all nT)=false then 3 else 0) else namesM [y.name] before
def attrF (p:APol) (i:Nat):Int:=match p.attrs[i]? with
 | some y=>attrM p.types.length (tnames p.types++(p.attrs.take i).map (·.name)) y
 | none=>0
def typesM (p:APol):Int:=if 256<p.types.length then 4 else if firstE (typeF p) p.types.length 0=0 then (if 64<p.attrs.length then 4 else firstE (attrF p) p.attrs.length 0) else firstE (typeF p) p.types.length 0
set_option maxRecDepth 100000 in
set_option maxHeartbeats 4000000 in
theorem typeNames_any (w0:World) (c0 c1 c2 c3 c4 c5 c6 c7 c8 c9 c10 c11 c12 c13 c14 c15 c16:Value) (p:APol) (hp:PolAt w0 c0 c1 c2 c3 c4 c5 c6 c7 c8 c9 c10 c11 c12 c13 c14 c15 c16 p) (hok:p.Ok) (hsm:p.Few) (k:Nat) (hk:k≤p.types.length):Calls Tryz.prog 102 #[.agg #[c0,c1,c2,c3,c4,c5,c6,c7,c8,c9,c10,c11,c12,c13,c14,c15,c16],.int .i64 (k:Int)] w0 (fun(e:Ending) (w':World)=>∃ v,e=.returned v∧(OwnS w' w0.heap.size v (tnames (p.types.take k))∧RowKit.Below w0.heap.size w0 w')):=by
 obtain⟨la1,lk1,rfl,hk1,hm1,hcell1⟩:=RowsAt.form hp.types (by decide)
 have HRET:=hr1 Tryz.prog Tryz.f102 (fun(e:Ending) (w':World)=>∃ v,e=.returned v∧(OwnS w' w0.heap.size v (tnames (p.types.take k))∧RowKit.Below w0.heap.size w0 w')) 30 4 rfl
 refine en Tryz.func102 rfl Tryz.ntmps102 rfl (vs:=[.agg #[c0,.slice la1 p.types.length lk1,c2,c3,c4,c5,c6,c7,c8,c9,c10,c11,c12,c13,c14,c15,c16],.int .i64 (k:Int)]) rfl fun _ F=>?_
 have M:=Mm.start w0
 refine wp_seq_k fun K1 hK1 =>
  wk_region <|
  kbA (on rfl) rfl (F.u rf) rfl F rfl M fun g1 _ _ F M =>
  xA (v:=.slice none 0 0) F rf rf rf fun _ F =>
  wpList_nil <|
  hK1 _ _ ?_
 refine wp_seq_k fun K2 hK2 =>
  wk_region <|
  xA (v:=.slice none 0 0) F rf rf rf fun _ F =>
  wpList_nil <| ?_
 have M:=M.nilRow 9 1
 refine hK2 _ _ ?_
 refine wp_seq_k fun K3 hK3 =>
  wp_seq_k fun K4 hK4 =>
  wk_region <|
  xA (v:=.int .i64 0) F rf rf rf fun _ F =>
  wpList_nil <|
  hK4 _ _ ?_
 refine wp_block <| ?_
 refine wk_loop (ι:=Nat×Value×List ByteArray) (fun | (m,v,l),a,w=>Fs a 30 [(1,.int .i64 (k:Int)),(2,.pointer (some ⟨g1,0,none⟩)),(5,v),(6,.int .i64 (m:Int))]∧Mm w0 w [(g1,39,#[c0,.slice la1 p.types.length lk1,c2,c3,c4,c5,c6,c7,c8,c9,c10,c11,c12,c13,c14,c15,c16])] [⟨v,9,1,l.length,l.flatMap strCell⟩]∧m≤k∧l=tnames (p.types.take m)) (fun | (m,v,l)=>k-m) (0,.slice none 0 0,[]) ⟨F.sub ⟨rfl,rfl,rfl,rfl,trivial⟩,M,Nat.zero_le _,rfl⟩ ?_
 (repeat clear F);(repeat clear M)
 rintro⟨m,v,l⟩ _ _ ⟨F,M,hm,hl⟩
 refine wp_seq_k fun K5 hK5 =>
  wp_seq_k fun K6 hK6 =>
  wk_region <|
  xM F rf rf rf fun _ F =>
  xM F rf rf rf fun _ F =>
  kz F rf (e_lss rfl (F.u rf) (F.u rf)) fun _ F =>
  wpList_nil <|
  hK6 _ _ ?_
 refine wp_cond_split (F.e 9 rfl) (fun hc2=>?_) (fun hc2=>?_)
 ·
  have hd3:=of_decide_eq_true hc2
  refine wp_skip <|
   hK5 _ _ ?_
  refine wp_seq_k fun K7 hK7 =>
   wp_block <|
   wp_seq_k fun K8 hK8=>?_
  have hlt:m<p.types.length:=by omega
  obtain⟨y,hy⟩:∃ y,p.types[m]?=some y:=⟨_,List.getElem?_eq_getElem hlt⟩
  obtain⟨b1,ob1,csb1,rfl,⟨pvb1,rfl,hvb1⟩,-,hrb1⟩:=hcell1 m y hy
  obtain⟨pab1,pkb1,rfl,hpkb1,hpmb1,hpcb1⟩:=SliceAt.form hvb1 (by decide)
  have oky:=hok.types y (List.mem_of_getElem? hy)
  have hal:y.als.length≤4:=hsm.als y (List.mem_of_getElem? hy)
  have hlb:l.length≤m*5:=by rw[hl];exact tnames_len hsm m
  have hn12:p.types.length≤12:=hsm.types
  refine wk_region <|
   xM F rf rf rf fun _ F =>
   xF 1 F rf rf rf u39 rf sz23 rf fun _ F =>
   xL F (M.b 0 rfl) rf rf rf u23 rf rf fun _ F =>
   xM F rf rf rf fun _ F =>
   kz F rf (e_indexAddr (i:=m) rfl (F.u rf) (F.u rf) (by omega) u23 sz86) fun _ F =>
   xF (ob1+m*3) F rf rf rf u86 rf sz9 rf fun _ F =>
   kz F rf (e_load1 rf (F.u rf) u9 rfl ((lat M.below hrb1) 0 _ rfl)) fun _ F =>
   xS F M rf rf rf u28 sz9 zr9 rf rf fun g4 _ _ F M =>
   kp (on rfl) rfl u28 inf9 rfl M 0 rfl (F.u rf) (F.u rf) (M.slice 0 rfl rfl rfl (by simp[maxLen])) ⟨by unfold maxLen;omega,by omega⟩ rfl F rfl fun v5 _ _ F M =>
   xA F rf rf rf fun _ F =>
   wpList_nil <|
   hK8 _ _ ?_
  refine wk_region <|
   xM F rf rf rf fun _ F =>
   xF 1 F rf rf rf u39 rf sz23 rf fun _ F =>
   xL F (M.b 1 rfl) rf rf rf u23 rf rf fun _ F =>
   xM F rf rf rf fun _ F =>
   kz F rf (e_indexAddr (i:=m) rfl (F.u rf) (F.u rf) (by omega) u23 sz86) fun _ F =>
   xF (ob1+m*3+1) F rf rf rf u86 rf sz28 rf fun _ F =>
   kz F rf (e_load1 rf (F.u rf) u28 rfl ((lat M.below hrb1) 1 _ rfl)) fun _ F =>
   kp (on rfl) rfl u28 inf9 rfl M 0 rfl (F.u rf) (F.u rf) (hvb1.keep M.below) ⟨by unfold maxLen;omega,by omega⟩ rfl F rfl fun v6 _ _ F M =>
   xA F rf rf rf fun _ F =>
   wpList_nil <|
   hK7 _ _ ?_
  refine wk_region <|
   xM F rf rf rf fun _ F =>
   ke (on rfl) (e_add rfl (F.u rf) rfl) rfl F rfl (congrArg (Value.int .i64) (wrap_i64 (by omega))) fun _ F =>
   xA F rf rf rf fun _ F =>
   wpList_nil <| ?_
  exact⟨(m+1,v6,l++y.name::y.als),⟨F.sub ⟨rfl,rfl,rfl,rfl,trivial⟩,((M.only (.cons _ (.cons_cons _ .slnil)) (.cons_cons _ .slnil))).cast rfl (by
   rw[show(l++y.name::y.als).length=l.length+1+y.als.length by simp;omega,show(l++y.name::y.als).flatMap strCell=l.flatMap strCell++[Value.string y.name]++y.als.flatMap strCell by simp[strCell]]<;>rfl),by omega,by rw[take_snoc hy];simp[tnames,hl]⟩,by show k-(m+1)<k-m;omega⟩
 ·
  have hd7:=of_decide_eq_false hc2
  refine wp_exit <|
   hK3 _ _ ?_
  refine wp_seq_k fun K9 hK9 =>
   wk_region <|
   xM F rf rf rf fun _ F =>
   xA F rf rf rf fun _ F =>
   wpList_nil <|
   hK9 _ _ ?_
  refine wp_ret <|
   HRET _ _ _ _ F rfl ?_
  exact⟨_,rfl,(by have R1:=M.r 0 rfl;rw[hl,show m=k by omega] at R1;exact R1),M.below⟩
set_option maxRecDepth 100000 in
set_option maxHeartbeats 4000000 in
theorem types_any (w0:World) (c0 c1 c2 c3 c4 c5 c6 c7 c8 c9 c10 c11 c12 c13 c14 c15 c16:Value) (p:APol) (hp:PolAt w0 c0 c1 c2 c3 c4 c5 c6 c7 c8 c9 c10 c11 c12 c13 c14 c15 c16 p) (hok:p.Ok) (hsm:p.Few):Calls Tryz.prog 42 #[.agg #[c0,c1,c2,c3,c4,c5,c6,c7,c8,c9,c10,c11,c12,c13,c14,c15,c16]] w0 (RI w0 (typesM p)):=by
 obtain⟨la1,lk1,rfl,hk1,hm1,hcell1⟩:=RowsAt.form hp.types (by decide)
 obtain⟨la2,lk2,rfl,hk2,hm2,hcell2⟩:=SliceAt.form hp.attrs (by decide)
 have HRET:=hr1 Tryz.prog Tryz.f42 (RI w0 (typesM p)) 96 2 rfl
 refine en Tryz.func42 rfl Tryz.ntmps42 rfl (vs:=[.agg #[c0,.slice la1 p.types.length lk1,.slice la2 p.attrs.length lk2,c3,c4,c5,c6,c7,c8,c9,c10,c11,c12,c13,c14,c15,c16]]) rfl fun _ F=>?_
 have M:=Mm.start w0
 refine wp_seq_k fun K1 hK1 =>
  wk_region <|
  kbA (on rfl) rfl (F.u rf) rfl F rfl M fun g1 _ _ F M =>
  xA (v:=.int .i64 0) F rf rf rf fun _ F =>
  wpList_nil <|
  hK1 _ _ ?_
 refine wp_seq_k fun K2 hK2 =>
  wp_seq_k fun K3 hK3 =>
  wk_region <|
  xF 1 F rf rf rf u39 rf sz23 rf fun _ F =>
  xL F (M.b 0 rfl) rf rf rf u23 rf rf fun _ F =>
  kz F rf (e_lenSl rfl (F.u rf) u23) fun _ F =>
  kz F rf (e_gtr rfl (F.u rf) rfl) fun _ F =>
  wpList_nil <|
  hK3 _ _ ?_
 refine wp_cond_split (F.e 14 rfl) (fun hc2=>?_) (fun hc2=>?_)
 ·
  have hd3:=of_decide_eq_true hc2
  refine wp_seq_k fun K4 hK4 =>
   wk_region <|
   xA (v:=.int .i64 4) F rf rf rf fun _ F =>
   wpList_nil <|
   hK4 _ _ ?_
  refine wp_ret <|
   HRET _ _ _ _ F rfl ?_
  exact⟨ret_int (by unfold typesM;rw[if_pos (by omega)]),M.below⟩
 ·
  have hd4:=of_decide_eq_false hc2
  refine wp_skip <|
   hK2 _ _ ?_
  refine wp_seq_k fun K5 hK5 =>
   wp_seq_k fun K6 hK6 =>
   wk_region <|
   xA (v:=.int .i64 0) F rf rf rf fun _ F =>
   wpList_nil <|
   hK6 _ _ ?_
  refine wp_block <| ?_
  refine wk_loop (ι:=Nat) (fun m a w=>Fs a 96 [(1,.pointer (some ⟨g1,0,none⟩)),(3,.int .i64 (m:Int))]∧Mm w0 w [(g1,39,#[c0,.slice la1 p.types.length lk1,.slice la2 p.attrs.length lk2,c3,c4,c5,c6,c7,c8,c9,c10,c11,c12,c13,c14,c15,c16])] []∧m≤p.types.length∧firstE (typeF p) p.types.length 0=firstE (typeF p) (p.types.length-m) m) (fun m=>p.types.length-m) 0 ⟨F.sub ⟨rfl,rfl,trivial⟩,M,Nat.zero_le _,(by rw[Nat.sub_zero])⟩ ?_
  (repeat clear F);(repeat clear M)
  rintro m _ _ ⟨F,M,hm,hinv⟩
  refine wp_seq_k fun K7 hK7 =>
   wp_seq_k fun K8 hK8 =>
   wk_region <|
   xM F rf rf rf fun _ F =>
   xF 1 F rf rf rf u39 rf sz23 rf fun _ F =>
   xL F (M.b 0 rfl) rf rf rf u23 rf rf fun _ F =>
   kz F rf (e_lenSl rfl (F.u rf) u23) fun _ F =>
   kz F rf (e_lss rfl (F.u rf) (F.u rf)) fun _ F =>
   wpList_nil <|
   hK8 _ _ ?_
  refine wp_cond_split (F.e 19 rfl) (fun hc5=>?_) (fun hc5=>?_)
  ·
   have hd6:=of_decide_eq_true hc5
   refine wp_skip <|
    hK7 _ _ ?_
   refine wp_seq_k fun K9 hK9 =>
    wp_block <|
    wp_seq_k fun K10 hK10=>?_
   have hlt:m<p.types.length:=by omega
   obtain⟨y,hy⟩:∃ y,p.types[m]?=some y:=⟨_,List.getElem?_eq_getElem hlt⟩
   obtain⟨b1,ob1,csb1,rfl,⟨pvb1,rfl,hvb1⟩,-,hrb1⟩:=hcell1 m y hy
   obtain⟨pab1,pkb1,rfl,hpkb1,hpmb1,hpcb1⟩:=SliceAt.form hvb1 (by decide)
   have oky:=hok.types y (List.mem_of_getElem? hy)
   have hcf:typeF p m=typeM (tnames (p.types.take m)) y:=by unfold typeF;rw[hy]
   have hal:y.als.length≤4:=hsm.als y (List.mem_of_getElem? hy)
   refine rd 13 [22,23,24,25,26,27,28,29,30,31,32,33,34] [isV (.pointer (some ⟨g1,1,none⟩)),isV (.slice (some ⟨b1,ob1,none⟩) p.types.length lk1),isV (.int .i64 (m:Int)),isV (.pointer (some ⟨b1,ob1+m*3,none⟩)),isV (.pointer (some ⟨b1,ob1+m*3,none⟩)),isV (.string y.name),(Made M.wd (fun n=>.slice (some ⟨n,0,none⟩) 1 1) 9 #[.string y.name]),isV (.pointer (some ⟨g1,1,none⟩)),isV (.slice (some ⟨b1,ob1,none⟩) p.types.length lk1),isV (.int .i64 (m:Int)),isV (.pointer (some ⟨b1,ob1+m*3,none⟩)),isV (.pointer (some ⟨b1,ob1+m*3+1,none⟩)),isV (.slice pab1 y.als.length pkb1)] (by kernel_rfl) (by kernel_rfl) (by kernel_rfl) rfl (by decide) rfl rfl F ⟨lasts_is _,lasts_is _,lasts_is _,lasts_is _,lasts_is _,lasts_is _,lasts_made _ _ _ _,lasts_is _,lasts_is _,lasts_is _,lasts_is _,lasts_is _,lasts_is _,trivial⟩ ⟨?_,?_,?_,?_,?_,?_,?_,?_,?_,?_,?_,?_,?_,trivial⟩ ?_
   ·intro a w Q' hf hi H G hK
    exact dv (on rfl) (e_field rfl (G 1 _ rfl (F.g 1 rfl)).ev u39 rfl sz23) rfl hf rfl hK rfl
   ·intro a w Q' hf hi H G hK
    obtain⟨_,h22,rfl⟩:=H 0 ⟨.data,by simp,rfl⟩ _ _ rfl rfl
    exact dv (on rfl) (e_load1 rfl h22.ev u23 rfl (((M.keep hi).b 0 rfl).c1 1)) rfl hf rfl hK rfl
   ·intro a w Q' hf hi H G hK
    exact dv (on rfl) (e_move rfl (G 3 _ rfl (F.g 3 rfl)).ev) rfl hf rfl hK rfl
   ·intro a w Q' hf hi H G hK
    obtain⟨_,h23,rfl⟩:=H 1 ⟨.data,by simp,rfl⟩ _ _ rfl rfl
    obtain⟨_,h24,rfl⟩:=H 2 ⟨.data,by simp,rfl⟩ _ _ rfl rfl
    exact dv (on rfl) (e_indexAddr (i:=m) rfl h23.ev h24.ev (by omega) u23 sz86) rfl hf rfl hK rfl
   ·intro a w Q' hf hi H G hK
    obtain⟨_,h25,rfl⟩:=H 3 ⟨.data,by simp,rfl⟩ _ _ rfl rfl
    exact dv (on rfl) (e_field rfl h25.ev u86 rfl sz9) rfl hf rfl hK rfl
   ·intro a w Q' hf hi H G hK
    obtain⟨_,h26,rfl⟩:=H 4 ⟨.data,by simp,rfl⟩ _ _ rfl rfl
    exact dv (on rfl) (e_load1 rfl h26.ev u9 rfl ((lat (M.keep hi).below hrb1) 0 _ rfl)) rfl hf rfl hK rfl
   ·intro a w Q' hf hi H G hK
    obtain⟨_,h27,rfl⟩:=H 5 ⟨.data,by simp,rfl⟩ _ _ rfl rfl
    exact dn (f:=fun n=>.slice (some ⟨n,0,none⟩) 1 1) (on rfl) (e_buildSlice rfl u28 sz9 zr9 (by decide) (by decide) (pv:=#[(0,.string y.name)]) (by simp[h27.ev]) (cells:=#[.string y.name]) (by kernel_rfl)) rfl hf rfl hK (made_new hi)
   ·intro a w Q' hf hi H G hK
    exact dv (on rfl) (e_field rfl (G 1 _ rfl (F.g 1 rfl)).ev u39 rfl sz23) rfl hf rfl hK rfl
   ·intro a w Q' hf hi H G hK
    obtain⟨_,h29,rfl⟩:=H 7 ⟨.data,by simp,rfl⟩ _ _ rfl rfl
    exact dv (on rfl) (e_load1 rfl h29.ev u23 rfl (((M.keep hi).b 0 rfl).c1 1)) rfl hf rfl hK rfl
   ·intro a w Q' hf hi H G hK
    exact dv (on rfl) (e_move rfl (G 3 _ rfl (F.g 3 rfl)).ev) rfl hf rfl hK rfl
   ·intro a w Q' hf hi H G hK
    obtain⟨_,h30,rfl⟩:=H 8 ⟨.data,by simp,rfl⟩ _ _ rfl rfl
    obtain⟨_,h31,rfl⟩:=H 9 ⟨.data,by simp,rfl⟩ _ _ rfl rfl
    exact dv (on rfl) (e_indexAddr (i:=m) rfl h30.ev h31.ev (by omega) u23 sz86) rfl hf rfl hK rfl
   ·intro a w Q' hf hi H G hK
    obtain⟨_,h32,rfl⟩:=H 10 ⟨.data,by simp,rfl⟩ _ _ rfl rfl
    exact dv (on rfl) (e_field rfl h32.ev u86 rfl sz28) rfl hf rfl hK rfl
   ·intro a w Q' hf hi H G hK
    obtain⟨_,h33,rfl⟩:=H 11 ⟨.data,by simp,rfl⟩ _ _ rfl rfl
    exact dv (on rfl) (e_load1 rfl h33.ev u28 rfl ((lat (M.keep hi).below hrb1) 1 _ rfl)) rfl hf rfl hK rfl
   (repeat clear F);intro _ _ hbq F D
   obtain⟨_,h,g7,rfl,hW,hge⟩:=D 6 _ _ rfl rfl;have F:=F.add h;have M:=M.newAt hbq hW hge
   obtain⟨_,h,rfl⟩:=D 12 _ _ rfl rfl;have F:=F.add h
   clear D hbq
   intro Qt hQt
   have M:=M.boxRow 1 1 (by simp[maxLen]) rfl
   refine kp (on rfl) rfl u28 inf9 rfl M 0 rfl (F.u rf) (F.u rf) (hvb1.keep M.below) ⟨by unfold maxLen;omega,by omega⟩ rfl F rfl fun v9 _ _ F M =>
    wpList_nil (hQt _ _ ?_)
   intro Qt hQt
   refine xA F rf rf rf fun _ F =>
    wpList_nil (hQt _ _ ?_)
   refine hK10 _ _ ?_
   refine wp_seq_k fun K11 hK11 =>
    wk_region <|
    xM F rf rf rf fun _ F =>
    xW F (M.b 0 rfl) rf rf rf u39 rf sz39 rf fun _ F =>
    xM F rf rf rf fun _ F =>
    kx (on rfl) (e_call rfl Tryz.func102 nm102 rfl (args2 (F.u rf) (F.u rf))) (typeNames_any _ _ _ _ _ _ _ _ _ _ _ _ _ _ _ _ _ _ p (hp.keep M.below) hok hsm m (by omega)) rfl F rfl M fun tv _ _ hot hB F _=>?_
   have M:=M.gotRow (r:=⟨tv,9,1,(tnames (p.types.take m)).length,(tnames (p.types.take m)).flatMap strCell⟩) hB hot
   refine xC F M rf rf q101 (args2 (F.u rf) (F.u rf)) (names_any _ _ _ (y.name::y.als) (tnames (p.types.take m)) (own_strs (show OwnS _ _ _ (y.name::y.als) from(by have h:=M.r 1 rfl;rwa [show 1+y.als.length=(y.name::y.als).length by simp;omega,show[Value.string y.name]++y.als.flatMap strCell=(y.name::y.als).flatMap strCell by simp[strCell]] at h))) (own_strs (M.r 0 rfl)) (type_names_ok oky)) fun _ _ F M =>
    xA F rf rf rf fun _ F =>
    wpList_nil <|
    hK11 _ _ ?_
   refine wp_seq_k fun K12 hK12 =>
    wk_region <|
    xM F rf rf rf fun _ F =>
    kz F rf (e_neI rfl (F.u rf) rfl) fun _ F =>
    wpList_nil <|
    hK12 _ _ ?_
   refine wp_cond_split (F.e 42 rfl) (fun hc10=>?_) (fun hc10=>?_)
   ·
    have hd11:=of_decide_eq_false (show decide (namesM (y.name::y.als) (tnames (p.types.take m))=0)=false by simpa using hc10)
    have hk12:(decide (namesM (y.name::y.als) (tnames (p.types.take m))=0))=false:=by simpa using hc10
    refine wp_seq_k fun K13 hK13 =>
     wk_region <|
     xM F rf rf rf fun _ F =>
     xA F rf rf rf fun _ F =>
     wpList_nil <|
     hK13 _ _ ?_
    refine wp_ret <|
     HRET _ _ _ _ F rfl ?_
    have hv:typeF p m=namesM (y.name::y.als) (tnames (p.types.take m)):=by
     rw[hcf];rfl
    exact⟨ret_int (by unfold typesM;rw[if_neg (by omega),if_neg (by rw[hinv,firstE_at hlt (by rw[hv];omega),hv];omega),hinv,firstE_at hlt (by rw[hv];omega),hv]),M.below⟩
   ·
    have hd13:=of_decide_eq_true (show decide (namesM (y.name::y.als) (tnames (p.types.take m))=0)=true by simpa using hc10)
    have hk14:(decide (namesM (y.name::y.als) (tnames (p.types.take m))=0))=true:=by simpa using hc10
    refine wp_skip <|
     hK9 _ _ ?_
    refine wk_region <|
     xM F rf rf rf fun _ F =>
     ke (on rfl) (e_add rfl (F.u rf) rfl) rfl F rfl (congrArg (Value.int .i64) (wrap_i64 (by omega))) fun _ F =>
     xA F rf rf rf fun _ F =>
     wpList_nil <| ?_
    have hv:typeF p m=0:=by
     rw[hcf];unfold typeM;omega
    exact⟨m+1,⟨F.sub ⟨rfl,rfl,trivial⟩,(M.only (.cons_cons _ .slnil) (.cons _ (.cons _ .slnil))),by omega,hinv.trans (firstE_next hlt hv)⟩,by show p.types.length-(m+1)<p.types.length-m;omega⟩
  ·
   have hd15:=of_decide_eq_false hc5
   refine wp_exit <|
    hK5 _ _ ?_
   refine wp_seq_k fun K14 hK14 =>
    wp_seq_k fun K15 hK15 =>
    wk_region <|
    xF 2 F rf rf rf u39 rf sz24 rf fun _ F =>
    xL F (M.b 0 rfl) rf rf rf u24 rf rf fun _ F =>
    kz F rf (e_lenSl rfl (F.u rf) u24) fun _ F =>
    kz F rf (e_gtr rfl (F.u rf) rfl) fun _ F =>
    wpList_nil <|
    hK15 _ _ ?_
   refine wp_cond_split (F.e 47 rfl) (fun hc16=>?_) (fun hc16=>?_)
   ·
    have hd17:=of_decide_eq_true hc16
    refine wp_seq_k fun K16 hK16 =>
     wk_region <|
     xA (v:=.int .i64 4) F rf rf rf fun _ F =>
     wpList_nil <|
     hK16 _ _ ?_
    refine wp_ret <|
     HRET _ _ _ _ F rfl ?_
    exact⟨ret_int (by unfold typesM;rw[if_neg (by omega),if_pos (by rw[hinv,show m=p.types.length by omega,firstE_stop]),if_pos (by omega)]),M.below⟩
   ·
    have hd18:=of_decide_eq_false hc16
    refine wp_skip <|
     hK14 _ _ ?_
    refine wp_seq_k fun K17 hK17 =>
     wk_region <|
     xW F (M.b 0 rfl) rf rf rf u39 rf sz39 rf fun _ F =>
     xF 1 F rf rf rf u39 rf sz23 rf fun _ F =>
     xL F (M.b 0 rfl) rf rf rf u23 rf rf fun _ F =>
     kz F rf (e_lenSl rfl (F.u rf) u23) fun _ F =>
     kx (on rfl) (e_call rfl Tryz.func102 nm102 rfl (args2 (F.u rf) (F.u rf))) (typeNames_any _ _ _ _ _ _ _ _ _ _ _ _ _ _ _ _ _ _ p (hp.keep M.below) hok hsm p.types.length (by omega)) rfl F rfl M fun tv _ _ hot hB F _=>?_
    have M:=M.gotRow (r:=⟨tv,9,1,(tnames (p.types.take p.types.length)).length,(tnames (p.types.take p.types.length)).flatMap strCell⟩) hB hot
    refine xA F rf rf rf fun _ F =>
     wpList_nil <|
     hK17 _ _ ?_
    refine wp_seq_k fun K18 hK18 =>
     wp_seq_k fun K19 hK19 =>
     wk_region <|
     xA (v:=.int .i64 0) F rf rf rf fun _ F =>
     wpList_nil <|
     hK19 _ _ ?_
    refine wp_block <| ?_
    have hz0:firstE (typeF p) p.types.length 0=0:=by rw[hinv,show m=p.types.length by omega,firstE_stop]
    refine wk_loop (ι:=Nat×Value×List ByteArray) (fun | (i,v,l),a,w=>Fs a 96 [(1,.pointer (some ⟨g1,0,none⟩)),(6,v),(7,.int .i64 (i:Int))]∧Mm w0 w [(g1,39,#[c0,.slice la1 p.types.length lk1,.slice la2 p.attrs.length lk2,c3,c4,c5,c6,c7,c8,c9,c10,c11,c12,c13,c14,c15,c16])] [⟨v,9,1,l.length,l.flatMap strCell⟩]∧i≤p.attrs.length∧l=tnames p.types++(p.attrs.take i).map (·.name)∧firstE (attrF p) p.attrs.length 0=firstE (attrF p) (p.attrs.length-i) i) (fun | (i,v,l)=>p.attrs.length-i) (0,tv,tnames (p.types.take p.types.length)) ⟨F.sub ⟨rfl,rfl,rfl,trivial⟩,M,Nat.zero_le _,(by simp),(by rw[Nat.sub_zero])⟩ ?_
    (repeat clear F);(repeat clear M)
    rintro⟨i,v,l⟩ _ _ ⟨F,M,him,hl,hinz⟩
    refine wp_seq_k fun K20 hK20 =>
     wp_seq_k fun K21 hK21 =>
     wk_region <|
     xM F rf rf rf fun _ F =>
     xF 2 F rf rf rf u39 rf sz24 rf fun _ F =>
     xL F (M.b 0 rfl) rf rf rf u24 rf rf fun _ F =>
     kz F rf (e_lenSl rfl (F.u rf) u24) fun _ F =>
     kz F rf (e_lss rfl (F.u rf) (F.u rf)) fun _ F =>
     wpList_nil <|
     hK21 _ _ ?_
    refine wp_cond_split (F.e 57 rfl) (fun hc19=>?_) (fun hc19=>?_)
    ·
     have hd20:=of_decide_eq_true hc19
     refine wp_skip <|
      hK20 _ _ ?_
     refine wp_seq_k fun K22 hK22 =>
      wp_block <|
      wp_seq_k fun K23 hK23 =>
      wp_seq_k fun K24 hK24=>?_
     have hlz:i<p.attrs.length:=by omega
     obtain⟨z,hz⟩:∃ z,p.attrs[i]?=some z:=⟨_,List.getElem?_eq_getElem hlz⟩
     obtain⟨b2,ob2,rfl,hcb2⟩:=hcell2 i hlz
     have hrb2:∀ j uu,[.string z.name,.int .u64 z.types.a,.int .u64 z.types.b,.int .u64 z.types.c,.int .u64 z.types.d][j]?=some uu→w0.cell? ⟨b2,ob2+i*5+j,none⟩=some uu:=fun j u hu=>hcb2 j u (by
      rw[flat_at AAtt.cells_len hz j (List.getElem?_eq_some_iff.1 hu).1]
      exact hu)
     clear hcb2
     have okz:=hok.attrs z (List.mem_of_getElem? hz)
     have hcg:attrF p i=attrM p.types.length l z:=by unfold attrF;rw[hz,hl]
     have hlm:l.length≤4096:=by
      have h:=tnames_len hsm p.types.length
      have h2:=hsm.types
      rw[List.take_length] at h
      rw[hl,List.length_append,List.length_map,List.length_take];omega
     refine wk_region <|
      xF 2 F rf rf rf u39 rf sz24 rf fun _ F =>
      xL F (M.b 0 rfl) rf rf rf u24 rf rf fun _ F =>
      xM F rf rf rf fun _ F =>
      kz F rf (e_indexAddr (i:=i) rfl (F.u rf) (F.u rf) (by omega) u24 sz184) fun _ F =>
      xF (ob2+i*5) F rf rf rf u184 rf sz9 rf fun _ F =>
      kz F rf (e_load1 rf (F.u rf) u9 rfl ((lat M.below hrb2) 0 _ rfl)) fun _ F =>
      xS F M rf rf rf u28 sz9 zr9 rf rf fun g21 _ _ F M =>
      xM F rf rf rf fun _ F =>
      xC F M rf rf q101 (args2 (F.u rf) (F.u rf)) (names_any _ _ _ [z.name] l (one_str (M.b 0 rfl)) (own_strs (M.r 0 rfl)) (one_ok okz.name)) fun _ _ F M =>
      xA F rf rf rf fun _ F =>
      wpList_nil <|
      hK24 _ _ ?_
     refine wp_seq_k fun K25 hK25 =>
      wk_region <|
      xM F rf rf rf fun _ F =>
      kz F rf (e_neI rfl (F.u rf) rfl) fun _ F =>
      wpList_nil <|
      hK25 _ _ ?_
     refine wp_cond_split (F.e 70 rfl) (fun hc22=>?_) (fun hc22=>?_)
     ·
      have hd23:=of_decide_eq_false (show decide (namesM [z.name] l=0)=false by simpa using hc22)
      have hk24:(decide (namesM [z.name] l=0))=false:=by simpa using hc22
      refine wp_seq_k fun K26 hK26 =>
       wk_region <|
       xM F rf rf rf fun _ F =>
       xA F rf rf rf fun _ F =>
       wpList_nil <|
       hK26 _ _ ?_
      refine wp_ret <|
       HRET _ _ _ _ F rfl ?_
      have hv:attrF p i=namesM [z.name] l:=by
       rw[hcg];unfold attrM;repeat (first | with_reducible rfl | assumption | (with_reducible refine Eq.trans (if_pos ?_) ?_;focus (first | assumption | (refine wk_nf ?_;assumption) | (refine wk_nt ?_;assumption) | omega | (simp[hd23];done))) | (with_reducible refine Eq.trans (if_neg ?_) ?_;focus (first | assumption | (refine wk_nf ?_;assumption) | (refine wk_nt ?_;assumption) | omega | (simp[hd4,hd15,hd18,hd20,hd23];done))) | omega)
      exact⟨ret_int (by unfold typesM;rw[if_neg (by omega),if_pos hz0,if_neg (by omega),hinz,firstE_at hlz (by rw[hv];omega),hv]),M.below⟩
     ·
      have hd25:=of_decide_eq_true (show decide (namesM [z.name] l=0)=true by simpa using hc22)
      have hk26:(decide (namesM [z.name] l=0))=true:=by simpa using hc22
      refine wp_skip <|
       hK23 _ _ ?_
      refine wp_seq_k fun K27 hK27 =>
       wk_region <|
       xM F rf rf rf fun _ F =>
       xF 2 F rf rf rf u39 rf sz24 rf fun _ F =>
       xL F (M.b 1 rfl) rf rf rf u24 rf rf fun _ F =>
       xM F rf rf rf fun _ F =>
       kz F rf (e_indexAddr (i:=i) rfl (F.u rf) (F.u rf) (by omega) u24 sz184) fun _ F =>
       xF (ob2+i*5) F rf rf rf u184 rf sz9 rf fun _ F =>
       kz F rf (e_load1 rf (F.u rf) u9 rfl ((lat M.below hrb2) 0 _ rfl)) fun _ F =>
       xS F M rf rf rf u28 sz9 zr9 rf rf fun g27 _ _ F M =>
       kp (on rfl) rfl u28 inf9 rfl M 0 rfl (F.u rf) (F.u rf) (M.slice 0 rfl rfl rfl (by simp[maxLen])) ⟨by unfold maxLen;omega,by omega⟩ rfl F rfl fun v28 _ _ F M =>
       xA F rf rf rf fun _ F =>
       wpList_nil <|
       hK27 _ _ ?_
      refine wp_seq_k fun K28 hK28=>?_
      refine rd 15 [82,83,84,85,86,87,88,89,90,91,81,92,93,9,10] [isV (.pointer (some ⟨g1,2,none⟩)),isV (.slice (some ⟨b2,ob2,none⟩) p.attrs.length lk2),isV (.int .i64 (i:Int)),isV (.pointer (some ⟨b2,ob2+i*5,none⟩)),isV (.pointer (some ⟨b2,ob2+i*5+1,none⟩)),isV (.agg #[.int .u64 z.types.a,.int .u64 z.types.b,.int .u64 z.types.c,.int .u64 z.types.d]),isV (.pointer (some ⟨g1,1,none⟩)),isV (.slice la1 p.types.length lk1),isV (.int .i64 (p.types.length:Int)),isV (.tuple #[.bool (someB z.types),.bool (z.types.within (ASet.all p.types.length))]),isV (.tuple #[.bool (someB z.types),.bool (z.types.within (ASet.all p.types.length))]),isV (.bool (someB z.types)),isV (.bool (z.types.within (ASet.all p.types.length))),isV (.bool (someB z.types)),isV (.bool (z.types.within (ASet.all p.types.length)))] (by kernel_rfl) (by kernel_rfl) (by kernel_rfl) rfl (by decide) rfl rfl F ⟨lasts_is _,lasts_is _,lasts_is _,lasts_is _,lasts_is _,lasts_is _,lasts_is _,lasts_is _,lasts_is _,lasts_is _,lasts_is _,lasts_is _,lasts_is _,lasts_is _,lasts_is _,trivial⟩ ⟨?_,?_,?_,?_,?_,?_,?_,?_,?_,?_,?_,?_,?_,?_,?_,trivial⟩ ?_
      ·intro a w Q' hf hi H G hK
       exact dv (on rfl) (e_field rfl (G 1 _ rfl (F.g 1 rfl)).ev u39 rfl sz24) rfl hf rfl hK rfl
      ·intro a w Q' hf hi H G hK
       obtain⟨_,h82,rfl⟩:=H 0 ⟨.data,by simp,rfl⟩ _ _ rfl rfl
       exact dv (on rfl) (e_load1 rfl h82.ev u24 rfl (((M.keep hi).b 2 rfl).c1 2)) rfl hf rfl hK rfl
      ·intro a w Q' hf hi H G hK
       exact dv (on rfl) (e_move rfl (G 7 _ rfl (F.g 7 rfl)).ev) rfl hf rfl hK rfl
      ·intro a w Q' hf hi H G hK
       obtain⟨_,h83,rfl⟩:=H 1 ⟨.data,by simp,rfl⟩ _ _ rfl rfl
       obtain⟨_,h84,rfl⟩:=H 2 ⟨.data,by simp,rfl⟩ _ _ rfl rfl
       exact dv (on rfl) (e_indexAddr (i:=i) rfl h83.ev h84.ev (by omega) u24 sz184) rfl hf rfl hK rfl
      ·intro a w Q' hf hi H G hK
       obtain⟨_,h85,rfl⟩:=H 3 ⟨.data,by simp,rfl⟩ _ _ rfl rfl
       exact dv (on rfl) (e_field rfl h85.ev u184 rfl sz54) rfl hf rfl hK rfl
      ·intro a w Q' hf hi H G hK
       obtain⟨_,h86,rfl⟩:=H 4 ⟨.data,by simp,rfl⟩ _ _ rfl rfl
       exact dv (on rfl) (e_loadN [.int .u64 z.types.a,.int .u64 z.types.b,.int .u64 z.types.c,.int .u64 z.types.d] rfl h86.ev u54 rfl sz54 (run_part (lat (M.keep hi).below hrb2) rfl)) rfl hf rfl hK rfl
      ·intro a w Q' hf hi H G hK
       exact dv (on rfl) (e_field rfl (G 1 _ rfl (F.g 1 rfl)).ev u39 rfl sz23) rfl hf rfl hK rfl
      ·intro a w Q' hf hi H G hK
       obtain⟨_,h88,rfl⟩:=H 6 ⟨.data,by simp,rfl⟩ _ _ rfl rfl
       exact dv (on rfl) (e_load1 rfl h88.ev u23 rfl (((M.keep hi).b 2 rfl).c1 1)) rfl hf rfl hK rfl
      ·intro a w Q' hf hi H G hK
       obtain⟨_,h89,rfl⟩:=H 7 ⟨.data,by simp,rfl⟩ _ _ rfl rfl
       exact dv (on rfl) (e_lenSl rfl h89.ev u23) rfl hf rfl hK rfl
      ·intro a w Q' hf hi H G hK
       obtain⟨_,h87,rfl⟩:=H 5 ⟨.data,by simp,rfl⟩ _ _ rfl rfl
       obtain⟨_,h90,rfl⟩:=H 8 ⟨.data,by simp,rfl⟩ _ _ rfl rfl
       exact dc (on rfl) (e_call rfl Tryz.func103 nm103 rfl (args2 h87.ev h90.ev)) (some_any _ z.types okz.types p.types.length hok.typesL) rfl hf rfl hK (fun _=>rfl)
      ·intro a w Q' hf hi H G hK
       obtain⟨_,h91,rfl⟩:=H 9 ⟨.data,by simp,rfl⟩ _ _ rfl rfl
       exact dv (on rfl) (e_move rfl h91.ev) rfl hf rfl hK rfl
      ·intro a w Q' hf hi H G hK
       obtain⟨_,h81,rfl⟩:=H 10 ⟨.data,by simp,rfl⟩ _ _ rfl rfl
       exact dv (on rfl) (e_extract rfl h81.ev rfl) rfl hf rfl hK rfl
      ·intro a w Q' hf hi H G hK
       obtain⟨_,h81,rfl⟩:=H 10 ⟨.data,by simp,rfl⟩ _ _ rfl rfl
       exact dv (on rfl) (e_extract rfl h81.ev rfl) rfl hf rfl hK rfl
      ·intro a w Q' hf hi H G hK
       obtain⟨_,h92,rfl⟩:=H 11 ⟨.data,by simp,rfl⟩ _ _ rfl rfl
       exact dv (on rfl) (e_assign rfl h92.ev) rfl hf rfl hK rfl
      ·intro a w Q' hf hi H G hK
       obtain⟨_,h93,rfl⟩:=H 12 ⟨.data,by simp,rfl⟩ _ _ rfl rfl
       exact dv (on rfl) (e_assign rfl h93.ev) rfl hf rfl hK rfl
      (repeat clear F);intro _ _ hbq F D
      obtain⟨_,h,rfl⟩:=D 14 _ _ rfl rfl;have F:=F.add h
      have M:=M.keep hbq
      clear D hbq
      refine hK28 _ _ ?_
      refine wp_seq_k fun K29 hK29 =>
       wk_region <|
       xM F rf rf rf fun _ F =>
       kz F rf (e_not rfl (F.u rf)) fun _ F =>
       wpList_nil <|
       hK29 _ _ ?_
      refine wp_cond_split (F.e 95 rfl) (fun hc29=>?_) (fun hc29=>?_)
      ·
       have hd30:(z.types.within (ASet.all p.types.length))=false:=by simpa using hc29
       refine wp_seq_k fun K30 hK30 =>
        wk_region <|
        xA (v:=.int .i64 3) F rf rf rf fun _ F =>
        wpList_nil <|
        hK30 _ _ ?_
       refine wp_ret <|
        HRET _ _ _ _ F rfl ?_
       have hv:attrF p i=3:=by
        rw[hcg];unfold attrM;repeat (first | with_reducible rfl | assumption | (with_reducible refine Eq.trans (if_pos ?_) ?_;focus (first | assumption | (refine wk_nf ?_;assumption) | (refine wk_nt ?_;assumption) | omega | (simp[hd4,hd15,hd18,hd20,hd25,hd30];done))) | (with_reducible refine Eq.trans (if_neg ?_) ?_;focus (first | assumption | (refine wk_nf ?_;assumption) | (refine wk_nt ?_;assumption) | omega | (simp[hd4,hd15,hd18,hd20,hd25,hd30];done))) | omega)
       exact⟨ret_int (by unfold typesM;rw[if_neg (by omega),if_pos hz0,if_neg (by omega),hinz,firstE_at hlz (by rw[hv];omega),hv]),M.below⟩
      ·
       have hd31:(z.types.within (ASet.all p.types.length))=true:=by simpa using hc29
       refine wp_skip <|
        hK22 _ _ ?_
       refine wk_region <|
        xM F rf rf rf fun _ F =>
        ke (on rfl) (e_add rfl (F.u rf) rfl) rfl F rfl (congrArg (Value.int .i64) (wrap_i64 (by omega))) fun _ F =>
        xA F rf rf rf fun _ F =>
        wpList_nil <| ?_
       have hv:attrF p i=0:=by
        rw[hcg];unfold attrM;repeat (first | with_reducible rfl | assumption | (with_reducible refine Eq.trans (if_pos ?_) ?_;focus (first | assumption | (refine wk_nf ?_;assumption) | (refine wk_nt ?_;assumption) | omega | (simp[hd31];done))) | (with_reducible refine Eq.trans (if_neg ?_) ?_;focus (first | assumption | (refine wk_nf ?_;assumption) | (refine wk_nt ?_;assumption) | omega | (simp[hd4,hd15,hd18,hd20,hd25,hd31];done))) | omega)
       exact⟨(i+1,v28,l++[z.name]),⟨F.sub ⟨rfl,rfl,rfl,trivial⟩,((M.only (.cons _ (.cons _ (.cons_cons _ .slnil))) (.cons_cons _ .slnil))).cast rfl (by rw[List.length_append,List.flatMap_append];rfl),by omega,by rw[take_snoc hz,List.map_append,← List.append_assoc,← hl];rfl,hinz.trans (firstE_next hlz hv)⟩,by show p.attrs.length-(i+1)<p.attrs.length-i;omega⟩
    ·
     have hd32:=of_decide_eq_false hc19
     refine wp_exit <|
      hK18 _ _ ?_
     refine wp_seq_k fun K31 hK31 =>
      wk_region <|
      xA (v:=.int .i64 0) F rf rf rf fun _ F =>
      wpList_nil <|
      hK31 _ _ ?_
     refine wp_ret <|
      HRET _ _ _ _ F rfl ?_
     exact⟨ret_int (by unfold typesM;rw[if_neg (by omega),if_pos hz0,if_neg (by omega),hinz,show i=p.attrs.length by omega,firstE_stop]),M.below⟩
end Go.Proofs.YtdcofoaihmongaaGreat
namespace Go.Proofs.YtdcofoaihmongaaGreat
open Go Go.RowKit
def kindCnt (l:List ATra) (k:Int):Nat:=(l.filter fun t=>decide (t.kind=k)).length
theorem kindCnt_snoc (l:List ATra) (t:ATra) (k:Int):kindCnt (l++[t]) k=kindCnt l k+(if t.kind=k then 1 else 0):=by
 unfold kindCnt
 rw[List.filter_append,List.length_append]
 by_cases h:t.kind=k<;>simp[h]
theorem kindCnt_take (l:List ATra) (m:Nat) (k:Int):kindCnt (l.take m) k≤kindCnt l k:=by
 have h:=kindCnt (l.drop m) k
 unfold kindCnt
 conv=>rhs;rw[← List.take_append_drop m l,List.filter_append,List.length_append]
 omega
def tranM (nT nC nK:Nat) (y:ATra):Int :=
 if y.kind<1 then 13 else if 3<y.kind then 13
 else if y.src.within (ASet.all nT)=false then 3 else if y.tgt.within (ASet.all nT)=false then 3
 else if belowB y.cls (nC:Int)=false then 3 else if belowB y.res (nT:Int)=false then 3 else if condB nK y.cond=false then 3
 else if someB y.src=false then 2 else if someB y.tgt=false then 2
 else if y.kind≠1∧emptyB y.name=false then 2
 else if emptyB y.name=false∧objectB y.name=false then 10 else 0
def tranF (p:APol) (i:Nat):Int:=match p.trans[i]? with
 | some y=>tranM p.types.length p.classes.length p.conds.length y
 | none=>0
def transM (p:APol):Int:=if kindCnt p.trans 1≤1024∧kindCnt p.trans 2≤1024∧kindCnt p.trans 3≤1024 then firstE (tranF p) p.trans.length 0 else 4
theorem transM_few {p:APol} (h:∀ q:Int,1≤q→q≤3→kindCnt p.trans q≤1024):transM p=firstE (tranF p) p.trans.length 0 :=
 if_pos ⟨h 1 (by omega) (by omega),h 2 (by omega) (by omega),h 3 (by omega) (by omega)⟩
theorem transM_many {p:APol} {q:Int} {m:Nat} (h1:1≤q) (h2:q≤3) (h:1024<kindCnt (p.trans.take m) q):transM p=4:=by
 have h3:=kindCnt_take p.trans m q
 refine if_neg fun⟨a,b,c⟩=>?_
 rcases(show q=1∨q=2∨q=3 by omega) with rfl | rfl | rfl<;>omega
set_option maxRecDepth 100000 in
set_option maxHeartbeats 4000000 in
theorem trans_any (w0:World) (c0 c1 c2 c3 c4 c5 c6 c7 c8 c9 c10 c11 c12 c13 c14 c15 c16:Value) (p:APol) (hp:PolAt w0 c0 c1 c2 c3 c4 c5 c6 c7 c8 c9 c10 c11 c12 c13 c14 c15 c16 p) (hok:p.Ok):Calls Tryz.prog 47 #[.agg #[c0,c1,c2,c3,c4,c5,c6,c7,c8,c9,c10,c11,c12,c13,c14,c15,c16]] w0 (RI w0 (transM p)):=by
 obtain⟨la0,lk0,rfl,hk0,hm0,hcell0⟩:=RowsAt.form hp.classes (by decide)
 obtain⟨la1,lk1,rfl,hk1,hm1,hcell1⟩:=RowsAt.form hp.types (by decide)
 obtain⟨la10,lk10,rfl,hk10,hm10,hcell10⟩:=SliceAt.form hp.trans (by decide)
 have HRET:=hr1 Tryz.prog Tryz.f47 (RI w0 (transM p)) 134 2 rfl
 refine en Tryz.func47 rfl Tryz.ntmps47 rfl (vs:=[.agg #[.slice la0 p.classes.length lk0,.slice la1 p.types.length lk1,c2,c3,c4,c5,c6,c7,c8,c9,.slice la10 p.trans.length lk10,c11,c12,c13,c14,c15,c16]]) rfl fun _ F=>?_
 have M:=Mm.start w0
 refine wp_seq_k fun K1 hK1 =>
  wk_region <|
  kbA (on rfl) rfl (F.u rf) rfl F rfl M fun g1 _ _ F M =>
  xA (v:=.int .i64 0) F rf rf rf fun _ F =>
  wpList_nil <|
  hK1 _ _ ?_
 refine wp_seq_k fun K2 hK2 =>
  wk_region <|
  kaA (on rfl) rfl zr82 rfl F rfl M fun g2 _ _ F M =>
  wpList_nil <|
  hK2 _ _ ?_
 refine wp_seq_k fun K3 hK3 =>
  wp_seq_k fun K4 hK4 =>
  wk_region <|
  xA (v:=.int .i64 0) F rf rf rf fun _ F =>
  wpList_nil <|
  hK4 _ _ ?_
 refine wp_block <| ?_
 refine wk_loop (ι:=Nat) (fun m a w=>Fs a 134 [(1,.pointer (some ⟨g1,0,none⟩)),(3,.pointer (some ⟨g2,0,none⟩)),(4,.int .i64 (m:Int))]∧Mm w0 w [(g2,82,#[.int .i64 0,.int .i64 ((kindCnt (p.trans.take m) 1:Nat):Int),.int .i64 ((kindCnt (p.trans.take m) 2:Nat):Int),.int .i64 ((kindCnt (p.trans.take m) 3:Nat):Int)]),(g1,39,#[.slice la0 p.classes.length lk0,.slice la1 p.types.length lk1,c2,c3,c4,c5,c6,c7,c8,c9,.slice la10 p.trans.length lk10,c11,c12,c13,c14,c15,c16])] []∧m≤p.trans.length∧∀ q:Int,1≤q→q≤3→kindCnt (p.trans.take m) q≤1024) (fun m=>p.trans.length-m) 0 ⟨F.sub ⟨rfl,rfl,rfl,trivial⟩,M,Nat.zero_le _,(fun _ _ _=>by simp[kindCnt])⟩ ?_
 (repeat clear F);(repeat clear M)
 rintro m _ _ ⟨F,M,hm,hle⟩
 refine wp_seq_k fun K5 hK5 =>
  wp_seq_k fun K6 hK6 =>
  wk_region <|
  xM F rf rf rf fun _ F =>
  xF 10 F rf rf rf u39 rf sz31 rf fun _ F =>
  xL F (M.b 1 rfl) rf rf rf u31 rf rf fun _ F =>
  kz F rf (e_lenSl rfl (F.u rf) u31) fun _ F =>
  kz F rf (e_lss rfl (F.u rf) (F.u rf)) fun _ F =>
  wpList_nil <|
  hK6 _ _ ?_
 refine wp_cond_split (F.e 16 rfl) (fun hc3=>?_) (fun hc3=>?_)
 ·
  have hd4:=of_decide_eq_true hc3
  refine wp_skip <|
   hK5 _ _ ?_
  refine wp_seq_k fun K7 hK7 =>
   wp_block <|
   wp_seq_k fun K8 hK8=>?_
  have hlt:m<p.trans.length:=by omega
  obtain⟨y,hy⟩:∃ y,p.trans[m]?=some y:=⟨_,List.getElem?_eq_getElem hlt⟩
  obtain⟨b10,ob10,rfl,hcb10⟩:=hcell10 m hlt
  have hrb10:∀ j uu,[.int .i64 y.kind,.int .u64 y.src.a,.int .u64 y.src.b,.int .u64 y.src.c,.int .u64 y.src.d,.int .u64 y.tgt.a,.int .u64 y.tgt.b,.int .u64 y.tgt.c,.int .u64 y.tgt.d,.int .i64 y.cls,.string y.name,.int .i64 y.res,.int .i64 y.cond][j]?=some uu→w0.cell? ⟨b10,ob10+m*13+j,none⟩=some uu:=fun j u hu=>hcb10 j u (by
   rw[flat_at ATra.cells_len hy j (List.getElem?_eq_some_iff.1 hu).1]
   exact hu)
  clear hcb10
  have oky:=hok.trans y (List.mem_of_getElem? hy)
  refine wk_region <|
   xF 10 F rf rf rf u39 rf sz31 rf fun _ F =>
   xL F (M.b 1 rfl) rf rf rf u31 rf rf fun _ F =>
   xM F rf rf rf fun _ F =>
   kz F rf (e_indexAddr (i:=m) rfl (F.u rf) (F.u rf) (by omega) u31 sz84) fun _ F =>
   xF (ob10+m*13) F rf rf rf u84 rf sz3 rf fun _ F =>
   kz F rf (e_load1 rf (F.u rf) u3 rfl ((lat M.below hrb10) 0 _ rfl)) fun _ F =>
   xA F rf rf rf fun _ F =>
   wpList_nil <|
   hK8 _ _ ?_
  refine wp_seq_k fun K9 hK9 =>
   wk_region <|
   xM F rf rf rf fun _ F =>
   kz F rf (e_geq rfl (F.u rf) rfl) fun _ F =>
   xM F rf rf rf fun _ F=>?_
  cases hq5:(decide (1≤y.kind):Bool) with
  | true =>
   have F:=F.eq 27 rfl (congrArg Value.bool hq5)
   have hd6:=of_decide_eq_true hq5
   refine kv (gn rfl rfl (F.g 27 rfl)) (e_move rfl (F.u rf)) rfl F rfl fun _ F =>
    kv (gn rfl rfl (F.g 27 rfl)) (e_leq rfl (F.u rf) rfl) rfl F rfl fun _ F =>
    ke (u:=.bool (decide (y.kind≤3))) (on rfl) (e_pick rfl (F.u rf) (F.u rf) rfl) rfl F rfl rfl fun _ F =>
    wpList_nil <|
    hK9 _ _ ?_
   refine wp_cond_split (F.e 30 rfl) (fun hc7=>?_) (fun hc7=>?_)
   ·
    have hd8:=of_decide_eq_true hc7
    refine wp_seq_k fun K10 hK10=>?_
    rcases(show y.kind=1∨y.kind=2∨y.kind=3 by omega) with hk | hk | hk
    ·
     have F:=F.eq 5 rfl (congrArg (Value.int .i64) hk)
     have hq:=hle 1 (by omega) (by omega)
     refine wk_region <|
      xM F rf rf rf fun _ F =>
      ke (u:=.pointer (some ⟨g2,1,none⟩)) (on rfl) (e_indexArr (i:=1) rfl (F.u rf) (F.u rf) (by decide) u82 sz3) rfl F rfl rfl fun _ F =>
      xL F (M.b 0 rfl) rf rf rf u3 rf rf fun _ F =>
      ke (on rfl) (e_add rfl (F.u rf) rfl) rfl F rfl (congrArg (Value.int .i64) (wrap_i64 (by omega))) fun _ F =>
      ke (u:=.pointer (some ⟨g2,1,none⟩)) (on rfl) (e_indexArr (i:=1) rfl (F.u rf) (F.u rf) (by decide) u82 sz3) rfl F rfl rfl fun _ F =>
      ks (on rfl) rfl (F.u rf) (F.u rf) F M 0 (cs':=#[.int .i64 0,.int .i64 (((kindCnt (p.trans.take m) 1:Nat):Int)+1),.int .i64 ((kindCnt (p.trans.take m) 2:Nat):Int),.int .i64 ((kindCnt (p.trans.take m) 3:Nat):Int)]) rfl rfl rfl sz3 rfl rfl rfl rfl fun _ M =>
      wpList_nil <|
      hK10 _ _ ?_
     refine wp_seq_k fun K11 hK11 =>
      wk_region <|
      xM F rf rf rf fun _ F =>
      ke (u:=.pointer (some ⟨g2,1,none⟩)) (on rfl) (e_indexArr (i:=1) rfl (F.u rf) (F.u rf) (by decide) u82 sz3) rfl F rfl rfl fun _ F =>
      xL F (M.b 0 rfl) rf rf rf u3 rf rf fun _ F =>
      kz F rf (e_gtr rfl (F.u rf) rfl) fun _ F =>
      wpList_nil <|
      hK11 _ _ ?_
     refine wp_cond_split (F.e 39 rfl) (fun hc9=>?_) (fun hc9=>?_)
     ·
      have hd10:=of_decide_eq_true hc9
      refine wp_seq_k fun K12 hK12 =>
       wk_region <|
       xA (v:=.int .i64 4) F rf rf rf fun _ F =>
       wpList_nil <|
       hK12 _ _ ?_
      refine wp_ret <|
       HRET _ _ _ _ F rfl ?_
      exact⟨ret_int (transM_many (q:=1) (m:=m+1) (by omega) (by omega) (by rw[take_snoc hy,kindCnt_snoc,if_pos hk];omega)).symm,M.below⟩
     ·
      have hd11:=of_decide_eq_false hc9
      refine wp_skip <|
       hK7 _ _ ?_
      refine wk_region <|
       xM F rf rf rf fun _ F =>
       ke (on rfl) (e_add rfl (F.u rf) rfl) rfl F rfl (congrArg (Value.int .i64) (wrap_i64 (by omega))) fun _ F =>
       xA F rf rf rf fun _ F =>
       wpList_nil <| ?_
      have hk1:kindCnt (p.trans.take (m+1)) 1=kindCnt (p.trans.take m) 1+1:=by rw[take_snoc hy,kindCnt_snoc,if_pos hk]
      have hno:∀ q:Int,q≠1→kindCnt (p.trans.take (m+1)) q=kindCnt (p.trans.take m) q:=fun q h1=>by rw[take_snoc hy,kindCnt_snoc,if_neg (by omega)];rfl
      exact⟨m+1,⟨F.sub ⟨rfl,rfl,rfl,trivial⟩,(M).cast (by rw[hk1,hno 2 (by omega),hno 3 (by omega)]<;>rfl) rfl,by omega,(fun q h1 h2=>by
       by_cases e:q=1
       ·subst e;rw[hk1];omega
       ·rw[hno q e];exact hle q h1 h2)⟩,by show p.trans.length-(m+1)<p.trans.length-m;omega⟩
    ·
     have F:=F.eq 5 rfl (congrArg (Value.int .i64) hk)
     have hq:=hle 2 (by omega) (by omega)
     refine wk_region <|
      xM F rf rf rf fun _ F =>
      ke (u:=.pointer (some ⟨g2,2,none⟩)) (on rfl) (e_indexArr (i:=2) rfl (F.u rf) (F.u rf) (by decide) u82 sz3) rfl F rfl rfl fun _ F =>
      xL F (M.b 0 rfl) rf rf rf u3 rf rf fun _ F =>
      ke (on rfl) (e_add rfl (F.u rf) rfl) rfl F rfl (congrArg (Value.int .i64) (wrap_i64 (by omega))) fun _ F =>
      ke (u:=.pointer (some ⟨g2,2,none⟩)) (on rfl) (e_indexArr (i:=2) rfl (F.u rf) (F.u rf) (by decide) u82 sz3) rfl F rfl rfl fun _ F =>
      ks (on rfl) rfl (F.u rf) (F.u rf) F M 0 (cs':=#[.int .i64 0,.int .i64 ((kindCnt (p.trans.take m) 1:Nat):Int),.int .i64 (((kindCnt (p.trans.take m) 2:Nat):Int)+1),.int .i64 ((kindCnt (p.trans.take m) 3:Nat):Int)]) rfl rfl rfl sz3 rfl rfl rfl rfl fun _ M =>
      wpList_nil <|
      hK10 _ _ ?_
     refine wp_seq_k fun K13 hK13 =>
      wk_region <|
      xM F rf rf rf fun _ F =>
      ke (u:=.pointer (some ⟨g2,2,none⟩)) (on rfl) (e_indexArr (i:=2) rfl (F.u rf) (F.u rf) (by decide) u82 sz3) rfl F rfl rfl fun _ F =>
      xL F (M.b 0 rfl) rf rf rf u3 rf rf fun _ F =>
      kz F rf (e_gtr rfl (F.u rf) rfl) fun _ F =>
      wpList_nil <|
      hK13 _ _ ?_
     refine wp_cond_split (F.e 39 rfl) (fun hc12=>?_) (fun hc12=>?_)
     ·
      have hd13:=of_decide_eq_true hc12
      refine wp_seq_k fun K14 hK14 =>
       wk_region <|
       xA (v:=.int .i64 4) F rf rf rf fun _ F =>
       wpList_nil <|
       hK14 _ _ ?_
      refine wp_ret <|
       HRET _ _ _ _ F rfl ?_
      exact⟨ret_int (transM_many (q:=2) (m:=m+1) (by omega) (by omega) (by rw[take_snoc hy,kindCnt_snoc,if_pos hk];omega)).symm,M.below⟩
     ·
      have hd14:=of_decide_eq_false hc12
      refine wp_skip <|
       hK7 _ _ ?_
      refine wk_region <|
       xM F rf rf rf fun _ F =>
       ke (on rfl) (e_add rfl (F.u rf) rfl) rfl F rfl (congrArg (Value.int .i64) (wrap_i64 (by omega))) fun _ F =>
       xA F rf rf rf fun _ F =>
       wpList_nil <| ?_
      have hk1:kindCnt (p.trans.take (m+1)) 2=kindCnt (p.trans.take m) 2+1:=by rw[take_snoc hy,kindCnt_snoc,if_pos hk]
      have hno:∀ q:Int,q≠2→kindCnt (p.trans.take (m+1)) q=kindCnt (p.trans.take m) q:=fun q h1=>by rw[take_snoc hy,kindCnt_snoc,if_neg (by omega)];rfl
      exact⟨m+1,⟨F.sub ⟨rfl,rfl,rfl,trivial⟩,(M).cast (by rw[hk1,hno 1 (by omega),hno 3 (by omega)]<;>rfl) rfl,by omega,(fun q h1 h2=>by
       by_cases e:q=2
       ·subst e;rw[hk1];omega
       ·rw[hno q e];exact hle q h1 h2)⟩,by show p.trans.length-(m+1)<p.trans.length-m;omega⟩
    ·
     have F:=F.eq 5 rfl (congrArg (Value.int .i64) hk)
     have hq:=hle 3 (by omega) (by omega)
     refine wk_region <|
      xM F rf rf rf fun _ F =>
      ke (u:=.pointer (some ⟨g2,3,none⟩)) (on rfl) (e_indexArr (i:=3) rfl (F.u rf) (F.u rf) (by decide) u82 sz3) rfl F rfl rfl fun _ F =>
      xL F (M.b 0 rfl) rf rf rf u3 rf rf fun _ F =>
      ke (on rfl) (e_add rfl (F.u rf) rfl) rfl F rfl (congrArg (Value.int .i64) (wrap_i64 (by omega))) fun _ F =>
      ke (u:=.pointer (some ⟨g2,3,none⟩)) (on rfl) (e_indexArr (i:=3) rfl (F.u rf) (F.u rf) (by decide) u82 sz3) rfl F rfl rfl fun _ F =>
      ks (on rfl) rfl (F.u rf) (F.u rf) F M 0 (cs':=#[.int .i64 0,.int .i64 ((kindCnt (p.trans.take m) 1:Nat):Int),.int .i64 ((kindCnt (p.trans.take m) 2:Nat):Int),.int .i64 (((kindCnt (p.trans.take m) 3:Nat):Int)+1)]) rfl rfl rfl sz3 rfl rfl rfl rfl fun _ M =>
      wpList_nil <|
      hK10 _ _ ?_
     refine wp_seq_k fun K15 hK15 =>
      wk_region <|
      xM F rf rf rf fun _ F =>
      ke (u:=.pointer (some ⟨g2,3,none⟩)) (on rfl) (e_indexArr (i:=3) rfl (F.u rf) (F.u rf) (by decide) u82 sz3) rfl F rfl rfl fun _ F =>
      xL F (M.b 0 rfl) rf rf rf u3 rf rf fun _ F =>
      kz F rf (e_gtr rfl (F.u rf) rfl) fun _ F =>
      wpList_nil <|
      hK15 _ _ ?_
     refine wp_cond_split (F.e 39 rfl) (fun hc15=>?_) (fun hc15=>?_)
     ·
      have hd16:=of_decide_eq_true hc15
      refine wp_seq_k fun K16 hK16 =>
       wk_region <|
       xA (v:=.int .i64 4) F rf rf rf fun _ F =>
       wpList_nil <|
       hK16 _ _ ?_
      refine wp_ret <|
       HRET _ _ _ _ F rfl ?_
      exact⟨ret_int (transM_many (q:=3) (m:=m+1) (by omega) (by omega) (by rw[take_snoc hy,kindCnt_snoc,if_pos hk];omega)).symm,M.below⟩
     ·
      have hd17:=of_decide_eq_false hc15
      refine wp_skip <|
       hK7 _ _ ?_
      refine wk_region <|
       xM F rf rf rf fun _ F =>
       ke (on rfl) (e_add rfl (F.u rf) rfl) rfl F rfl (congrArg (Value.int .i64) (wrap_i64 (by omega))) fun _ F =>
       xA F rf rf rf fun _ F =>
       wpList_nil <| ?_
      have hk1:kindCnt (p.trans.take (m+1)) 3=kindCnt (p.trans.take m) 3+1:=by rw[take_snoc hy,kindCnt_snoc,if_pos hk]
      have hno:∀ q:Int,q≠3→kindCnt (p.trans.take (m+1)) q=kindCnt (p.trans.take m) q:=fun q h1=>by rw[take_snoc hy,kindCnt_snoc,if_neg (by omega)];rfl
      exact⟨m+1,⟨F.sub ⟨rfl,rfl,rfl,trivial⟩,(M).cast (by rw[hk1,hno 1 (by omega),hno 2 (by omega)]<;>rfl) rfl,by omega,(fun q h1 h2=>by
       by_cases e:q=3
       ·subst e;rw[hk1];omega
       ·rw[hno q e];exact hle q h1 h2)⟩,by show p.trans.length-(m+1)<p.trans.length-m;omega⟩
   ·
    have hd18:=of_decide_eq_false hc7
    refine wp_skip <|
     hK7 _ _ ?_
    refine wk_region <|
     xM F rf rf rf fun _ F =>
     ke (on rfl) (e_add rfl (F.u rf) rfl) rfl F rfl (congrArg (Value.int .i64) (wrap_i64 (by omega))) fun _ F =>
     xA F rf rf rf fun _ F =>
     wpList_nil <| ?_
    have hno:∀ q:Int,1≤q→q≤3→kindCnt (p.trans.take (m+1)) q=kindCnt (p.trans.take m) q:=fun q h1 h2=>by rw[take_snoc hy,kindCnt_snoc,if_neg (by omega)];rfl
    exact⟨m+1,⟨F.sub ⟨rfl,rfl,rfl,trivial⟩,(M).cast (by rw[hno 1 (by omega) (by omega),hno 2 (by omega) (by omega),hno 3 (by omega) (by omega)]<;>rfl) rfl,by omega,(fun q h1 h2=>by rw[hno q h1 h2];exact hle q h1 h2)⟩,by show p.trans.length-(m+1)<p.trans.length-m;omega⟩
  | false =>
   have F:=F.eq 27 rfl (congrArg Value.bool hq5)
   have hd19:=of_decide_eq_false hq5
   refine ko rfl rfl rfl (F.g 27 rfl) rfl F rfl fun _ F =>
    ko rfl rfl rfl (F.g 27 rfl) rfl F rfl fun _ F =>
    ke (u:=.bool false) (on rfl) (e_pick rfl (F.u rf) (F.u rf) rfl) rfl F rfl rfl fun _ F =>
    wpList_nil <|
    hK9 _ _ ?_
   refine wp_cond_false (F.e 30 rfl) ?_
   refine wp_skip <|
    hK7 _ _ ?_
   refine wk_region <|
    xM F rf rf rf fun _ F =>
    ke (on rfl) (e_add rfl (F.u rf) rfl) rfl F rfl (congrArg (Value.int .i64) (wrap_i64 (by omega))) fun _ F =>
    xA F rf rf rf fun _ F =>
    wpList_nil <| ?_
   have hno:∀ q:Int,1≤q→q≤3→kindCnt (p.trans.take (m+1)) q=kindCnt (p.trans.take m) q:=fun q h1 h2=>by rw[take_snoc hy,kindCnt_snoc,if_neg (by omega)];rfl
   exact⟨m+1,⟨F.sub ⟨rfl,rfl,rfl,trivial⟩,(M).cast (by rw[hno 1 (by omega) (by omega),hno 2 (by omega) (by omega),hno 3 (by omega) (by omega)]<;>rfl) rfl,by omega,(fun q h1 h2=>by rw[hno q h1 h2];exact hle q h1 h2)⟩,by show p.trans.length-(m+1)<p.trans.length-m;omega⟩
 ·
  have hd20:=of_decide_eq_false hc3
  refine wp_exit <|
   hK3 _ _ ?_
  refine wp_seq_k fun K17 hK17 =>
   wp_seq_k fun K18 hK18 =>
   wk_region <|
   xA (v:=.int .i64 0) F rf rf rf fun _ F =>
   wpList_nil <|
   hK18 _ _ ?_
  refine wp_block <| ?_
  have htot:∀ q:Int,1≤q→q≤3→kindCnt p.trans q≤1024:=fun q h1 h2=>by have:=hle q h1 h2;rwa [show m=p.trans.length by omega,List.take_length] at this
  refine wk_loop (ι:=Nat) (fun i a w=>Fs a 134 [(1,.pointer (some ⟨g1,0,none⟩)),(6,.int .i64 (i:Int))]∧Mm w0 w [(g1,39,#[.slice la0 p.classes.length lk0,.slice la1 p.types.length lk1,c2,c3,c4,c5,c6,c7,c8,c9,.slice la10 p.trans.length lk10,c11,c12,c13,c14,c15,c16])] []∧i≤p.trans.length∧firstE (tranF p) p.trans.length 0=firstE (tranF p) (p.trans.length-i) i) (fun i=>p.trans.length-i) 0 ⟨F.sub ⟨rfl,rfl,trivial⟩,M.only (.cons _ (.cons_cons _ .slnil)) .slnil,Nat.zero_le _,(by rw[Nat.sub_zero])⟩ ?_
  (repeat clear F);(repeat clear M)
  rintro i _ _ ⟨F,M,him,hinv⟩
  refine wp_seq_k fun K19 hK19 =>
   wp_seq_k fun K20 hK20 =>
   wk_region <|
   xM F rf rf rf fun _ F =>
   xF 10 F rf rf rf u39 rf sz31 rf fun _ F =>
   xL F (M.b 0 rfl) rf rf rf u31 rf rf fun _ F =>
   kz F rf (e_lenSl rfl (F.u rf) u31) fun _ F =>
   kz F rf (e_lss rfl (F.u rf) (F.u rf)) fun _ F =>
   wpList_nil <|
   hK20 _ _ ?_
  refine wp_cond_split (F.e 44 rfl) (fun hc21=>?_) (fun hc21=>?_)
  ·
   have hd22:=of_decide_eq_true hc21
   refine wp_skip <|
    hK19 _ _ ?_
   refine wp_seq_k fun K21 hK21 =>
    wp_block <|
    wp_seq_k fun K22 hK22=>?_
   have hlz:i<p.trans.length:=by omega
   obtain⟨z,hz⟩:∃ z,p.trans[i]?=some z:=⟨_,List.getElem?_eq_getElem hlz⟩
   obtain⟨zb,zo,rfl,hczb⟩:=hcell10 i hlz
   have hrzb:∀ j u,[.int .i64 z.kind,.int .u64 z.src.a,.int .u64 z.src.b,.int .u64 z.src.c,.int .u64 z.src.d,.int .u64 z.tgt.a,.int .u64 z.tgt.b,.int .u64 z.tgt.c,.int .u64 z.tgt.d,.int .i64 z.cls,.string z.name,.int .i64 z.res,.int .i64 z.cond][j]?=some u→w0.cell? ⟨zb,zo+i*13+j,none⟩=some u:=fun j u hu=>hczb j u (by
    rw[flat_at ATra.cells_len hz j (List.getElem?_eq_some_iff.1 hu).1]
    exact hu)
   clear hczb
   have okz:=hok.trans z (List.mem_of_getElem? hz)
   have hcf:tranF p i=tranM p.types.length p.classes.length p.conds.length z:=by unfold tranF;rw[hz]
   refine wk_region <|
    xF 10 F rf rf rf u39 rf sz31 rf fun _ F =>
    xL F (M.b 0 rfl) rf rf rf u31 rf rf fun _ F =>
    xM F rf rf rf fun _ F =>
    kz F rf (e_indexAddr (i:=i) rfl (F.u rf) (F.u rf) (by omega) u31 sz84) fun _ F =>
    kz F rf (e_loadN [.int .i64 z.kind,.int .u64 z.src.a,.int .u64 z.src.b,.int .u64 z.src.c,.int .u64 z.src.d,.int .u64 z.tgt.a,.int .u64 z.tgt.b,.int .u64 z.tgt.c,.int .u64 z.tgt.d,.int .i64 z.cls,.string z.name,.int .i64 z.res,.int .i64 z.cond] rfl (F.u rf) u84 rfl sz84 (lat M.below hrzb)) fun _ F =>
    kaA (on rfl) rfl zr84 rfl F rfl M fun g23 _ _ F M =>
    ksA (on rfl) rfl (F.u rf) (F.u rf) F M 0 rfl sz84 rfl rfl rfl fun _ M =>
    wpList_nil <|
    hK22 _ _ ?_
   refine wp_seq_k fun K23 hK23 =>
    wp_seq_k fun K24 hK24 =>
    wk_region <|
    xF 0 F rf rf rf u84 rf sz3 rf fun _ F =>
    xL F (M.b 0 rfl) rf rf rf u3 rf rf fun _ F =>
    kz F rf (e_lss rfl (F.u rf) rfl) fun _ F =>
    xM F rf rf rf fun _ F=>?_
   cases hq24:(decide (z.kind<1):Bool) with
   | true =>
    have F:=F.eq 55 rfl (congrArg Value.bool hq24)
    have hd25:=of_decide_eq_true hq24
    refine ko rfl rfl rfl (F.g 55 rfl) rfl F rfl fun _ F =>
     ko rfl rfl rfl (F.g 55 rfl) rfl F rfl fun _ F =>
     ko rfl rfl rfl (F.g 55 rfl) rfl F rfl fun _ F =>
     ke (u:=.bool true) (on rfl) (e_pick rfl (F.u rf) rfl (F.u rf)) rfl F rfl rfl fun _ F =>
     wpList_nil <|
     hK24 _ _ ?_
    refine wp_cond_true (F.e 59 rfl) ?_
    refine wp_seq_k fun K25 hK25 =>
     wk_region <|
     xA (v:=.int .i64 13) F rf rf rf fun _ F =>
     wpList_nil <|
     hK25 _ _ ?_
    refine wp_ret <|
     HRET _ _ _ _ F rfl ?_
    have hv:tranF p i=13:=by
     rw[hcf];unfold tranM;repeat (first | with_reducible rfl | assumption | (with_reducible refine Eq.trans (if_pos ?_) ?_;focus (first | assumption | (refine wk_nf ?_;assumption) | (refine wk_nt ?_;assumption) | omega | (simp[hd20,hd22,hd25];done))) | (with_reducible refine Eq.trans (if_neg ?_) ?_;focus (first | assumption | (refine wk_nf ?_;assumption) | (refine wk_nt ?_;assumption) | omega | (simp[hd20,hd22,hd25];done))) | omega)
    exact⟨ret_int (by rw[transM_few htot,hinv,firstE_at hlz (by rw[hv];omega),hv]),M.below⟩
   | false =>
    have F:=F.eq 55 rfl (congrArg Value.bool hq24)
    have hd26:=of_decide_eq_false hq24
    refine ke (u:=.pointer (some ⟨g23,0,none⟩)) (gn rfl rfl (F.g 55 rfl)) (e_field rfl (F.u rf) u84 rfl sz3) rfl F rfl rfl fun _ F =>
     kv (gn rfl rfl (F.g 55 rfl)) (e_load1 rfl (F.u rf) u3 rfl ((M.b 0 rfl).c1 0)) rfl F rfl fun _ F =>
     kv (gn rfl rfl (F.g 55 rfl)) (e_gtr rfl (F.u rf) rfl) rfl F rfl fun _ F =>
     ke (u:=.bool (decide (3<z.kind))) (on rfl) (e_pick rfl (F.u rf) rfl (F.u rf)) rfl F rfl rfl fun _ F =>
     wpList_nil <|
     hK24 _ _ ?_
    refine wp_cond_split (F.e 59 rfl) (fun hc27=>?_) (fun hc27=>?_)
    ·
     have hd28:=of_decide_eq_true hc27
     refine wp_seq_k fun K26 hK26 =>
      wk_region <|
      xA (v:=.int .i64 13) F rf rf rf fun _ F =>
      wpList_nil <|
      hK26 _ _ ?_
     refine wp_ret <|
      HRET _ _ _ _ F rfl ?_
     have hv:tranF p i=13:=by
      rw[hcf];unfold tranM;repeat (first | with_reducible rfl | assumption | (with_reducible refine Eq.trans (if_pos ?_) ?_;focus (first | assumption | (refine wk_nf ?_;assumption) | (refine wk_nt ?_;assumption) | omega | (simp[hd26];done))) | (with_reducible refine Eq.trans (if_neg ?_) ?_;focus (first | assumption | (refine wk_nf ?_;assumption) | (refine wk_nt ?_;assumption) | omega | (simp[hd20,hd22,hd26,hd28];done))) | omega)
     exact⟨ret_int (by rw[transM_few htot,hinv,firstE_at hlz (by rw[hv];omega),hv]),M.below⟩
    ·
     have hd29:=of_decide_eq_false hc27
     refine wp_skip <|
      hK23 _ _ ?_
     refine wp_seq_k fun K27 hK27 =>
      wk_region <|
      xF 1 F rf rf rf u84 rf sz54 rf fun _ F =>
      kz F rf (e_loadN [.int .u64 z.src.a,.int .u64 z.src.b,.int .u64 z.src.c,.int .u64 z.src.d] rfl (F.u rf) u54 rfl sz54 (whole_part (M.b 0 rfl) rfl)) fun _ F =>
      xF 1 F rf rf rf u39 rf sz23 rf fun _ F =>
      xL F (M.b 1 rfl) rf rf rf u23 rf rf fun _ F =>
      kz F rf (e_lenSl rfl (F.u rf) u23) fun _ F =>
      xC F M rf rf q103 (args2 (F.u rf) (F.u rf)) (some_any _ z.src okz.src p.types.length hok.typesL) fun _ _ F M =>
      xM F rf rf rf fun _ F =>
      kz F rf (e_extract rfl (F.u rf) rfl) fun _ F =>
      kz F rf (e_extract rfl (F.u rf) rfl) fun _ F =>
      xA F rf rf rf fun _ F =>
      xA F rf rf rf fun _ F =>
      wpList_nil <|
      hK27 _ _ ?_
     refine wp_seq_k fun K28 hK28 =>
      wk_region <|
      xF 5 F rf rf rf u84 rf sz54 rf fun _ F =>
      kz F rf (e_loadN [.int .u64 z.tgt.a,.int .u64 z.tgt.b,.int .u64 z.tgt.c,.int .u64 z.tgt.d] rfl (F.u rf) u54 rfl sz54 (whole_part (M.b 0 rfl) rfl)) fun _ F =>
      xF 1 F rf rf rf u39 rf sz23 rf fun _ F =>
      xL F (M.b 1 rfl) rf rf rf u23 rf rf fun _ F =>
      kz F rf (e_lenSl rfl (F.u rf) u23) fun _ F =>
      xC F M rf rf q103 (args2 (F.u rf) (F.u rf)) (some_any _ z.tgt okz.tgt p.types.length hok.typesL) fun _ _ F M =>
      xM F rf rf rf fun _ F =>
      kz F rf (e_extract rfl (F.u rf) rfl) fun _ F =>
      kz F rf (e_extract rfl (F.u rf) rfl) fun _ F =>
      xA F rf rf rf fun _ F =>
      xA F rf rf rf fun _ F =>
      wpList_nil <|
      hK28 _ _ ?_
     refine wp_seq_k fun K29 hK29 =>
      wp_seq_k fun K30 hK30 =>
      wk_region <|
      xM F rf rf rf fun _ F =>
      kz F rf (e_not rfl (F.u rf)) fun _ F =>
      xM F rf rf rf fun _ F=>?_
     cases hq30:(!(z.src.within (ASet.all p.types.length)):Bool) with
     | true =>
      have F:=F.eq 80 rfl (congrArg Value.bool hq30)
      have hd31:(z.src.within (ASet.all p.types.length))=false:=by simpa using hq30
      refine ko rfl rfl rfl (F.g 80 rfl) rfl F rfl fun _ F =>
       ko rfl rfl rfl (F.g 80 rfl) rfl F rfl fun _ F =>
       ke (u:=.bool true) (on rfl) (e_pick rfl (F.u rf) rfl (F.u rf)) rfl F rfl rfl fun _ F =>
       xM F rf rf rf fun _ F =>
       ko rfl rfl rfl (F.g 84 rfl) rfl F rfl fun _ F =>
       ko rfl rfl rfl (F.g 84 rfl) rfl F rfl fun _ F =>
       ko rfl rfl rfl (F.g 84 rfl) rfl F rfl fun _ F =>
       ko rfl rfl rfl (F.g 84 rfl) rfl F rfl fun _ F =>
       ko rfl rfl rfl (F.g 84 rfl) rfl F rfl fun _ F =>
       ko rfl rfl rfl (F.g 84 rfl) rfl F rfl fun _ F =>
       ko rfl rfl rfl (F.g 84 rfl) rfl F rfl fun _ F =>
       ke (u:=.bool true) (on rfl) (e_pick rfl (F.u rf) rfl (F.u rf)) rfl F rfl rfl fun _ F =>
       xM F rf rf rf fun _ F =>
       ko rfl rfl rfl (F.g 93 rfl) rfl F rfl fun _ F =>
       ko rfl rfl rfl (F.g 93 rfl) rfl F rfl fun _ F =>
       ko rfl rfl rfl (F.g 93 rfl) rfl F rfl fun _ F =>
       ko rfl rfl rfl (F.g 93 rfl) rfl F rfl fun _ F =>
       ko rfl rfl rfl (F.g 93 rfl) rfl F rfl fun _ F =>
       ko rfl rfl rfl (F.g 93 rfl) rfl F rfl fun _ F =>
       ko rfl rfl rfl (F.g 93 rfl) rfl F rfl fun _ F =>
       ke (u:=.bool true) (on rfl) (e_pick rfl (F.u rf) rfl (F.u rf)) rfl F rfl rfl fun _ F =>
       xM F rf rf rf fun _ F =>
       ko rfl rfl rfl (F.g 102 rfl) rfl F rfl fun _ F =>
       ko rfl rfl rfl (F.g 102 rfl) rfl F rfl fun _ F =>
       ko rfl rfl rfl (F.g 102 rfl) rfl F rfl fun _ F =>
       ko rfl rfl rfl (F.g 102 rfl) rfl F rfl fun _ F =>
       ko rfl rfl rfl (F.g 102 rfl) rfl F rfl fun _ F =>
       ke (u:=.bool true) (on rfl) (e_pick rfl (F.u rf) rfl (F.u rf)) rfl F rfl rfl fun _ F =>
       wpList_nil <|
       hK30 _ _ ?_
      refine wp_cond_true (F.e 108 rfl) ?_
      refine wp_seq_k fun K31 hK31 =>
       wk_region <|
       xA (v:=.int .i64 3) F rf rf rf fun _ F =>
       wpList_nil <|
       hK31 _ _ ?_
      refine wp_ret <|
       HRET _ _ _ _ F rfl ?_
      have hv:tranF p i=3:=by
       rw[hcf];unfold tranM;repeat (first | with_reducible rfl | assumption | (with_reducible refine Eq.trans (if_pos ?_) ?_;focus (first | assumption | (refine wk_nf ?_;assumption) | (refine wk_nt ?_;assumption) | omega | (simp[hd26,hd29];done))) | (with_reducible refine Eq.trans (if_neg ?_) ?_;focus (first | assumption | (refine wk_nf ?_;assumption) | (refine wk_nt ?_;assumption) | omega | (simp[hd20,hd22,hd26,hd29,hd31];done))) | omega)
      exact⟨ret_int (by rw[transM_few htot,hinv,firstE_at hlz (by rw[hv];omega),hv]),M.below⟩
     | false =>
      have F:=F.eq 80 rfl (congrArg Value.bool hq30)
      have hd32:(z.src.within (ASet.all p.types.length))=true:=by simpa using hq30
      refine kv (gn rfl rfl (F.g 80 rfl)) (e_move rfl (F.u rf)) rfl F rfl fun _ F =>
       kv (gn rfl rfl (F.g 80 rfl)) (e_not rfl (F.u rf)) rfl F rfl fun _ F =>
       ke (u:=.bool (!(z.tgt.within (ASet.all p.types.length)))) (on rfl) (e_pick rfl (F.u rf) rfl (F.u rf)) rfl F rfl rfl fun _ F =>
       xM F rf rf rf fun _ F=>?_
      cases hq33:(!(z.tgt.within (ASet.all p.types.length)):Bool) with
      | true =>
       have F:=F.eq 84 rfl (congrArg Value.bool hq33)
       have hd34:(z.tgt.within (ASet.all p.types.length))=false:=by simpa using hq33
       refine ko rfl rfl rfl (F.g 84 rfl) rfl F rfl fun _ F =>
        ko rfl rfl rfl (F.g 84 rfl) rfl F rfl fun _ F =>
        ko rfl rfl rfl (F.g 84 rfl) rfl F rfl fun _ F =>
        ko rfl rfl rfl (F.g 84 rfl) rfl F rfl fun _ F =>
        ko rfl rfl rfl (F.g 84 rfl) rfl F rfl fun _ F =>
        ko rfl rfl rfl (F.g 84 rfl) rfl F rfl fun _ F =>
        ko rfl rfl rfl (F.g 84 rfl) rfl F rfl fun _ F =>
        ke (u:=.bool true) (on rfl) (e_pick rfl (F.u rf) rfl (F.u rf)) rfl F rfl rfl fun _ F =>
        xM F rf rf rf fun _ F =>
        ko rfl rfl rfl (F.g 93 rfl) rfl F rfl fun _ F =>
        ko rfl rfl rfl (F.g 93 rfl) rfl F rfl fun _ F =>
        ko rfl rfl rfl (F.g 93 rfl) rfl F rfl fun _ F =>
        ko rfl rfl rfl (F.g 93 rfl) rfl F rfl fun _ F =>
        ko rfl rfl rfl (F.g 93 rfl) rfl F rfl fun _ F =>
        ko rfl rfl rfl (F.g 93 rfl) rfl F rfl fun _ F =>
        ko rfl rfl rfl (F.g 93 rfl) rfl F rfl fun _ F =>
        ke (u:=.bool true) (on rfl) (e_pick rfl (F.u rf) rfl (F.u rf)) rfl F rfl rfl fun _ F =>
        xM F rf rf rf fun _ F =>
        ko rfl rfl rfl (F.g 102 rfl) rfl F rfl fun _ F =>
        ko rfl rfl rfl (F.g 102 rfl) rfl F rfl fun _ F =>
        ko rfl rfl rfl (F.g 102 rfl) rfl F rfl fun _ F =>
        ko rfl rfl rfl (F.g 102 rfl) rfl F rfl fun _ F =>
        ko rfl rfl rfl (F.g 102 rfl) rfl F rfl fun _ F =>
        ke (u:=.bool true) (on rfl) (e_pick rfl (F.u rf) rfl (F.u rf)) rfl F rfl rfl fun _ F =>
        wpList_nil <|
        hK30 _ _ ?_
       refine wp_cond_true (F.e 108 rfl) ?_
       refine wp_seq_k fun K32 hK32 =>
        wk_region <|
        xA (v:=.int .i64 3) F rf rf rf fun _ F =>
        wpList_nil <|
        hK32 _ _ ?_
       refine wp_ret <|
        HRET _ _ _ _ F rfl ?_
       have hv:tranF p i=3:=by
        rw[hcf];unfold tranM;repeat (first | with_reducible rfl | assumption | (with_reducible refine Eq.trans (if_pos ?_) ?_;focus (first | assumption | (refine wk_nf ?_;assumption) | (refine wk_nt ?_;assumption) | omega | (simp[hd26,hd29,hd32];done))) | (with_reducible refine Eq.trans (if_neg ?_) ?_;focus (first | assumption | (refine wk_nf ?_;assumption) | (refine wk_nt ?_;assumption) | omega | (simp[hd20,hd22,hd26,hd29,hd32,hd34];done))) | omega)
       exact⟨ret_int (by rw[transM_few htot,hinv,firstE_at hlz (by rw[hv];omega),hv]),M.below⟩
      | false =>
       have F:=F.eq 84 rfl (congrArg Value.bool hq33)
       have hd35:(z.tgt.within (ASet.all p.types.length))=true:=by simpa using hq33
       refine ke (u:=.pointer (some ⟨g23,9,none⟩)) (gn rfl rfl (F.g 84 rfl)) (e_field rfl (F.u rf) u84 rfl sz3) rfl F rfl rfl fun _ F =>
        kv (gn rfl rfl (F.g 84 rfl)) (e_load1 rfl (F.u rf) u3 rfl ((M.b 0 rfl).c1 9)) rfl F rfl fun _ F =>
        ke (u:=.pointer (some ⟨g1,0,none⟩)) (gn rfl rfl (F.g 84 rfl)) (e_field rfl (F.u rf) u39 rfl sz22) rfl F rfl rfl fun _ F =>
        kv (gn rfl rfl (F.g 84 rfl)) (e_load1 rfl (F.u rf) u22 rfl ((M.b 1 rfl).c1 0)) rfl F rfl fun _ F =>
        kv (gn rfl rfl (F.g 84 rfl)) (e_lenSl rfl (F.u rf) u22) rfl F rfl fun _ F =>
        kq (gn rfl rfl (F.g 84 rfl)) (e_call rfl Tryz.func113 nm113 rfl (args2 (F.u rf) (F.u rf))) (below_any _ z.cls (p.classes.length:Int)) rfl F rfl fun _ F =>
        kv (gn rfl rfl (F.g 84 rfl)) (e_not rfl (F.u rf)) rfl F rfl fun _ F =>
        ke (u:=.bool (!(belowB z.cls (p.classes.length:Int)))) (on rfl) (e_pick rfl (F.u rf) rfl (F.u rf)) rfl F rfl rfl fun _ F =>
        xM F rf rf rf fun _ F=>?_
       cases hq36:(!(belowB z.cls (p.classes.length:Int)):Bool) with
       | true =>
        have F:=F.eq 93 rfl (congrArg Value.bool hq36)
        have hd37:(belowB z.cls (p.classes.length:Int))=false:=by simpa using hq36
        refine ko rfl rfl rfl (F.g 93 rfl) rfl F rfl fun _ F =>
         ko rfl rfl rfl (F.g 93 rfl) rfl F rfl fun _ F =>
         ko rfl rfl rfl (F.g 93 rfl) rfl F rfl fun _ F =>
         ko rfl rfl rfl (F.g 93 rfl) rfl F rfl fun _ F =>
         ko rfl rfl rfl (F.g 93 rfl) rfl F rfl fun _ F =>
         ko rfl rfl rfl (F.g 93 rfl) rfl F rfl fun _ F =>
         ko rfl rfl rfl (F.g 93 rfl) rfl F rfl fun _ F =>
         ke (u:=.bool true) (on rfl) (e_pick rfl (F.u rf) rfl (F.u rf)) rfl F rfl rfl fun _ F =>
         xM F rf rf rf fun _ F =>
         ko rfl rfl rfl (F.g 102 rfl) rfl F rfl fun _ F =>
         ko rfl rfl rfl (F.g 102 rfl) rfl F rfl fun _ F =>
         ko rfl rfl rfl (F.g 102 rfl) rfl F rfl fun _ F =>
         ko rfl rfl rfl (F.g 102 rfl) rfl F rfl fun _ F =>
         ko rfl rfl rfl (F.g 102 rfl) rfl F rfl fun _ F =>
         ke (u:=.bool true) (on rfl) (e_pick rfl (F.u rf) rfl (F.u rf)) rfl F rfl rfl fun _ F =>
         wpList_nil <|
         hK30 _ _ ?_
        refine wp_cond_true (F.e 108 rfl) ?_
        refine wp_seq_k fun K33 hK33 =>
         wk_region <|
         xA (v:=.int .i64 3) F rf rf rf fun _ F =>
         wpList_nil <|
         hK33 _ _ ?_
        refine wp_ret <|
         HRET _ _ _ _ F rfl ?_
        have hv:tranF p i=3:=by
         rw[hcf];unfold tranM;repeat (first | with_reducible rfl | assumption | (with_reducible refine Eq.trans (if_pos ?_) ?_;focus (first | assumption | (refine wk_nf ?_;assumption) | (refine wk_nt ?_;assumption) | omega | (simp[hd26,hd29,hd32,hd35];done))) | (with_reducible refine Eq.trans (if_neg ?_) ?_;focus (first | assumption | (refine wk_nf ?_;assumption) | (refine wk_nt ?_;assumption) | omega | (simp[hd20,hd22,hd26,hd29,hd32,hd35,hd37];done))) | omega)
        exact⟨ret_int (by rw[transM_few htot,hinv,firstE_at hlz (by rw[hv];omega),hv]),M.below⟩
       | false =>
        have F:=F.eq 93 rfl (congrArg Value.bool hq36)
        have hd38:(belowB z.cls (p.classes.length:Int))=true:=by simpa using hq36
        refine ke (u:=.pointer (some ⟨g23,11,none⟩)) (gn rfl rfl (F.g 93 rfl)) (e_field rfl (F.u rf) u84 rfl sz3) rfl F rfl rfl fun _ F =>
         kv (gn rfl rfl (F.g 93 rfl)) (e_load1 rfl (F.u rf) u3 rfl ((M.b 0 rfl).c1 11)) rfl F rfl fun _ F =>
         ke (u:=.pointer (some ⟨g1,1,none⟩)) (gn rfl rfl (F.g 93 rfl)) (e_field rfl (F.u rf) u39 rfl sz23) rfl F rfl rfl fun _ F =>
         kv (gn rfl rfl (F.g 93 rfl)) (e_load1 rfl (F.u rf) u23 rfl ((M.b 1 rfl).c1 1)) rfl F rfl fun _ F =>
         kv (gn rfl rfl (F.g 93 rfl)) (e_lenSl rfl (F.u rf) u23) rfl F rfl fun _ F =>
         kq (gn rfl rfl (F.g 93 rfl)) (e_call rfl Tryz.func113 nm113 rfl (args2 (F.u rf) (F.u rf))) (below_any _ z.res (p.types.length:Int)) rfl F rfl fun _ F =>
         kv (gn rfl rfl (F.g 93 rfl)) (e_not rfl (F.u rf)) rfl F rfl fun _ F =>
         ke (u:=.bool (!(belowB z.res (p.types.length:Int)))) (on rfl) (e_pick rfl (F.u rf) rfl (F.u rf)) rfl F rfl rfl fun _ F =>
         xM F rf rf rf fun _ F=>?_
        cases hq39:(!(belowB z.res (p.types.length:Int)):Bool) with
        | true =>
         have F:=F.eq 102 rfl (congrArg Value.bool hq39)
         have hd40:(belowB z.res (p.types.length:Int))=false:=by simpa using hq39
         refine ko rfl rfl rfl (F.g 102 rfl) rfl F rfl fun _ F =>
          ko rfl rfl rfl (F.g 102 rfl) rfl F rfl fun _ F =>
          ko rfl rfl rfl (F.g 102 rfl) rfl F rfl fun _ F =>
          ko rfl rfl rfl (F.g 102 rfl) rfl F rfl fun _ F =>
          ko rfl rfl rfl (F.g 102 rfl) rfl F rfl fun _ F =>
          ke (u:=.bool true) (on rfl) (e_pick rfl (F.u rf) rfl (F.u rf)) rfl F rfl rfl fun _ F =>
          wpList_nil <|
          hK30 _ _ ?_
         refine wp_cond_true (F.e 108 rfl) ?_
         refine wp_seq_k fun K34 hK34 =>
          wk_region <|
          xA (v:=.int .i64 3) F rf rf rf fun _ F =>
          wpList_nil <|
          hK34 _ _ ?_
         refine wp_ret <|
          HRET _ _ _ _ F rfl ?_
         have hv:tranF p i=3:=by
          rw[hcf];unfold tranM;repeat (first | with_reducible rfl | assumption | (with_reducible refine Eq.trans (if_pos ?_) ?_;focus (first | assumption | (refine wk_nf ?_;assumption) | (refine wk_nt ?_;assumption) | omega | (simp[hd26,hd29,hd32,hd35,hd38];done))) | (with_reducible refine Eq.trans (if_neg ?_) ?_;focus (first | assumption | (refine wk_nf ?_;assumption) | (refine wk_nt ?_;assumption) | omega | (simp[hd20,hd22,hd26,hd29,hd32,hd35,hd38,hd40];done))) | omega)
         exact⟨ret_int (by rw[transM_few htot,hinv,firstE_at hlz (by rw[hv];omega),hv]),M.below⟩
        | false =>
         have F:=F.eq 102 rfl (congrArg Value.bool hq39)
         have hd41:(belowB z.res (p.types.length:Int))=true:=by simpa using hq39
         refine kv (gn rfl rfl (F.g 102 rfl)) (e_loadW rfl (F.u rf) u39 rfl (M.b 1 rfl) sz39 rfl) rfl F rfl fun _ F =>
          ke (u:=.pointer (some ⟨g23,12,none⟩)) (gn rfl rfl (F.g 102 rfl)) (e_field rfl (F.u rf) u84 rfl sz3) rfl F rfl rfl fun _ F =>
          kv (gn rfl rfl (F.g 102 rfl)) (e_load1 rfl (F.u rf) u3 rfl ((M.b 0 rfl).c1 12)) rfl F rfl fun _ F =>
          kc (gn rfl rfl (F.g 102 rfl)) (e_call rfl Tryz.func112 nm112 rfl (args2 (F.u rf) (F.u rf))) (cond_any _ _ _ _ _ _ _ _ _ _ _ _ _ _ _ _ _ _ p (hp.keep M.below) z.cond) rfl F rfl M fun _ _ F M =>
          kv (gn rfl rfl (F.g 102 rfl)) (e_not rfl (F.u rf)) rfl F rfl fun _ F =>
          ke (u:=.bool (!(condB p.conds.length z.cond))) (on rfl) (e_pick rfl (F.u rf) rfl (F.u rf)) rfl F rfl rfl fun _ F =>
          wpList_nil <|
          hK30 _ _ ?_
         refine wp_cond_split (F.e 108 rfl) (fun hc42=>?_) (fun hc42=>?_)
         ·
          have hd43:(condB p.conds.length z.cond)=false:=by simpa using hc42
          refine wp_seq_k fun K35 hK35 =>
           wk_region <|
           xA (v:=.int .i64 3) F rf rf rf fun _ F =>
           wpList_nil <|
           hK35 _ _ ?_
          refine wp_ret <|
           HRET _ _ _ _ F rfl ?_
          have hv:tranF p i=3:=by
           rw[hcf];unfold tranM;repeat (first | with_reducible rfl | assumption | (with_reducible refine Eq.trans (if_pos ?_) ?_;focus (first | assumption | (refine wk_nf ?_;assumption) | (refine wk_nt ?_;assumption) | omega | (simp[hd26,hd29,hd32,hd35,hd38,hd41];done))) | (with_reducible refine Eq.trans (if_neg ?_) ?_;focus (first | assumption | (refine wk_nf ?_;assumption) | (refine wk_nt ?_;assumption) | omega | (simp[hd20,hd22,hd26,hd29,hd32,hd35,hd38,hd41,hd43];done))) | omega)
          exact⟨ret_int (by rw[transM_few htot,hinv,firstE_at hlz (by rw[hv];omega),hv]),M.below⟩
         ·
          have hd44:(condB p.conds.length z.cond)=true:=by simpa using hc42
          refine wp_skip <|
           hK29 _ _ ?_
          refine wp_seq_k fun K36 hK36 =>
           wp_seq_k fun K37 hK37 =>
           wk_region <|
           xM F rf rf rf fun _ F =>
           kz F rf (e_not rfl (F.u rf)) fun _ F =>
           xM F rf rf rf fun _ F=>?_
          cases hq45:(!(someB z.src):Bool) with
          | true =>
           have F:=F.eq 111 rfl (congrArg Value.bool hq45)
           have hd46:(someB z.src)=false:=by simpa using hq45
           refine ko rfl rfl rfl (F.g 111 rfl) rfl F rfl fun _ F =>
            ko rfl rfl rfl (F.g 111 rfl) rfl F rfl fun _ F =>
            ke (u:=.bool true) (on rfl) (e_pick rfl (F.u rf) rfl (F.u rf)) rfl F rfl rfl fun _ F =>
            xM F rf rf rf fun _ F =>
            ko rfl rfl rfl (F.g 115 rfl) rfl F rfl fun _ F =>
            ko rfl rfl rfl (F.g 115 rfl) rfl F rfl fun _ F =>
            ko rfl rfl rfl (F.g 115 rfl) rfl F rfl fun _ F =>
            ko rfl rfl rfl (F.g 115 rfl) rfl F rfl fun _ F =>
            ku rfl rfl rfl (F.g 119 rfl) F rfl fun _ F =>
            ku rfl rfl rfl (F.g 119 rfl) F rfl fun _ F =>
            ku rfl rfl rfl (F.g 119 rfl) F rfl fun _ F =>
            ko rfl rfl rfl (F.g 115 rfl) rfl F rfl fun _ F =>
            ke (u:=.bool true) (on rfl) (e_pick rfl (F.u rf) rfl (F.u rf)) rfl F rfl rfl fun _ F =>
            wpList_nil <|
            hK37 _ _ ?_
           refine wp_cond_true (F.e 124 rfl) ?_
           refine wp_seq_k fun K38 hK38 =>
            wk_region <|
            xA (v:=.int .i64 2) F rf rf rf fun _ F =>
            wpList_nil <|
            hK38 _ _ ?_
           refine wp_ret <|
            HRET _ _ _ _ F rfl ?_
           have hv:tranF p i=2:=by
            rw[hcf];unfold tranM;repeat (first | with_reducible rfl | assumption | (with_reducible refine Eq.trans (if_pos ?_) ?_;focus (first | assumption | (refine wk_nf ?_;assumption) | (refine wk_nt ?_;assumption) | omega | (simp[hd26,hd29,hd32,hd35,hd38,hd41,hd44];done))) | (with_reducible refine Eq.trans (if_neg ?_) ?_;focus (first | assumption | (refine wk_nf ?_;assumption) | (refine wk_nt ?_;assumption) | omega | (simp[hd20,hd22,hd26,hd29,hd32,hd35,hd38,hd41,hd44,hd46];done))) | omega)
           exact⟨ret_int (by rw[transM_few htot,hinv,firstE_at hlz (by rw[hv];omega),hv]),M.below⟩
          | false =>
           have F:=F.eq 111 rfl (congrArg Value.bool hq45)
           have hd47:(someB z.src)=true:=by simpa using hq45
           refine kv (gn rfl rfl (F.g 111 rfl)) (e_move rfl (F.u rf)) rfl F rfl fun _ F =>
            kv (gn rfl rfl (F.g 111 rfl)) (e_not rfl (F.u rf)) rfl F rfl fun _ F =>
            ke (u:=.bool (!(someB z.tgt))) (on rfl) (e_pick rfl (F.u rf) rfl (F.u rf)) rfl F rfl rfl fun _ F =>
            xM F rf rf rf fun _ F=>?_
           cases hq48:(!(someB z.tgt):Bool) with
           | true =>
            have F:=F.eq 115 rfl (congrArg Value.bool hq48)
            have hd49:(someB z.tgt)=false:=by simpa using hq48
            refine ko rfl rfl rfl (F.g 115 rfl) rfl F rfl fun _ F =>
             ko rfl rfl rfl (F.g 115 rfl) rfl F rfl fun _ F =>
             ko rfl rfl rfl (F.g 115 rfl) rfl F rfl fun _ F =>
             ko rfl rfl rfl (F.g 115 rfl) rfl F rfl fun _ F =>
             ku rfl rfl rfl (F.g 119 rfl) F rfl fun _ F =>
             ku rfl rfl rfl (F.g 119 rfl) F rfl fun _ F =>
             ku rfl rfl rfl (F.g 119 rfl) F rfl fun _ F =>
             ko rfl rfl rfl (F.g 115 rfl) rfl F rfl fun _ F =>
             ke (u:=.bool true) (on rfl) (e_pick rfl (F.u rf) rfl (F.u rf)) rfl F rfl rfl fun _ F =>
             wpList_nil <|
             hK37 _ _ ?_
            refine wp_cond_true (F.e 124 rfl) ?_
            refine wp_seq_k fun K39 hK39 =>
             wk_region <|
             xA (v:=.int .i64 2) F rf rf rf fun _ F =>
             wpList_nil <|
             hK39 _ _ ?_
            refine wp_ret <|
             HRET _ _ _ _ F rfl ?_
            have hv:tranF p i=2:=by
             rw[hcf];unfold tranM;repeat (first | with_reducible rfl | assumption | (with_reducible refine Eq.trans (if_pos ?_) ?_;focus (first | assumption | (refine wk_nf ?_;assumption) | (refine wk_nt ?_;assumption) | omega | (simp[hd26,hd29,hd32,hd35,hd38,hd41,hd44,hd47];done))) | (with_reducible refine Eq.trans (if_neg ?_) ?_;focus (first | assumption | (refine wk_nf ?_;assumption) | (refine wk_nt ?_;assumption) | omega | (simp[hd20,hd22,hd26,hd29,hd32,hd35,hd38,hd41,hd44,hd47,hd49];done))) | omega)
            exact⟨ret_int (by rw[transM_few htot,hinv,firstE_at hlz (by rw[hv];omega),hv]),M.below⟩
           | false =>
            have F:=F.eq 115 rfl (congrArg Value.bool hq48)
            have hd50:(someB z.tgt)=true:=by simpa using hq48
            refine ke (u:=.pointer (some ⟨g23,0,none⟩)) (gn rfl rfl (F.g 115 rfl)) (e_field rfl (F.u rf) u84 rfl sz3) rfl F rfl rfl fun _ F =>
             kv (gn rfl rfl (F.g 115 rfl)) (e_load1 rfl (F.u rf) u3 rfl ((M.b 0 rfl).c1 0)) rfl F rfl fun _ F =>
             kv (gn rfl rfl (F.g 115 rfl)) (e_neI rfl (F.u rf) rfl) rfl F rfl fun _ F =>
             kv (gn rfl rfl (F.g 115 rfl)) (e_move rfl (F.u rf)) rfl F rfl fun _ F=>?_
            cases hq51:(!decide (z.kind=1):Bool) with
            | true =>
             have F:=F.eq 119 rfl (congrArg Value.bool hq51)
             have hd52:=of_decide_eq_false (show decide (z.kind=1)=false by simpa using hq51)
             have hk53:(decide (z.kind=1))=false:=by simpa using hq51
             refine ke (u:=.pointer (some ⟨g23,10,none⟩)) (gn rfl rfl (F.g 119 rfl)) (e_field rfl (F.u rf) u84 rfl sz9) rfl F rfl rfl fun _ F =>
              kv (gn rfl rfl (F.g 119 rfl)) (e_load1 rfl (F.u rf) u9 rfl ((M.b 0 rfl).c1 10)) rfl F rfl fun _ F =>
              kv (gn rfl rfl (F.g 119 rfl)) (e_neE rfl (F.u rf) rfl) rfl F rfl fun _ F =>
              ke (u:=.bool (!emptyB z.name)) (gn rfl rfl (F.g 115 rfl)) (e_pick rfl (F.u rf) (F.u rf) rfl) rfl F rfl rfl fun _ F =>
              ke (u:=.bool (!emptyB z.name)) (on rfl) (e_pick rfl (F.u rf) rfl (F.u rf)) rfl F rfl rfl fun _ F =>
              wpList_nil <|
              hK37 _ _ ?_
             refine wp_cond_split (F.e 124 rfl) (fun hc54=>?_) (fun hc54=>?_)
             ·
              have hd55:(emptyB z.name)=false:=by simpa using hc54
              refine wp_seq_k fun K40 hK40 =>
               wk_region <|
               xA (v:=.int .i64 2) F rf rf rf fun _ F =>
               wpList_nil <|
               hK40 _ _ ?_
              refine wp_ret <|
               HRET _ _ _ _ F rfl ?_
              have hv:tranF p i=2:=by
               rw[hcf];unfold tranM;repeat (first | with_reducible rfl | assumption | (with_reducible refine Eq.trans (if_pos ?_) ?_;focus (first | assumption | (refine wk_nf ?_;assumption) | (refine wk_nt ?_;assumption) | omega | (simp[hd26,hd29,hd32,hd35,hd38,hd41,hd44,hd47,hd50,hd52,hd55];done))) | (with_reducible refine Eq.trans (if_neg ?_) ?_;focus (first | assumption | (refine wk_nf ?_;assumption) | (refine wk_nt ?_;assumption) | omega | (simp[hd20,hd22,hd26,hd29,hd32,hd35,hd38,hd41,hd44,hd47,hd50,hd52,hd55];done))) | omega)
              exact⟨ret_int (by rw[transM_few htot,hinv,firstE_at hlz (by rw[hv];omega),hv]),M.below⟩
             ·
              have hd56:(emptyB z.name)=true:=by simpa using hc54
              refine wp_skip <|
               hK36 _ _ ?_
              refine wp_seq_k fun K41 hK41 =>
               wk_region <|
               xF 10 F rf rf rf u84 rf sz9 rf fun _ F =>
               xL F (M.b 0 rfl) rf rf rf u9 rf rf fun _ F =>
               ke (on rfl) (e_neE rfl (F.u rf) rfl) rfl F rfl (congrArg Value.bool (show(!emptyB z.name)=false by simp[hd56])) fun _ F =>
               xM F rf rf rf fun _ F =>
               ko rfl rfl rfl (F.g 128 rfl) rfl F rfl fun _ F =>
               ko rfl rfl rfl (F.g 128 rfl) rfl F rfl fun _ F =>
               ko rfl rfl rfl (F.g 128 rfl) rfl F rfl fun _ F =>
               ko rfl rfl rfl (F.g 128 rfl) rfl F rfl fun _ F =>
               ke (u:=.bool false) (on rfl) (e_pick rfl (F.u rf) (F.u rf) rfl) rfl F rfl rfl fun _ F =>
               wpList_nil <|
               hK41 _ _ ?_
              refine wp_cond_false (F.e 133 rfl) ?_
              refine wp_skip <|
               hK21 _ _ ?_
              refine wk_region <|
               xM F rf rf rf fun _ F =>
               ke (on rfl) (e_add rfl (F.u rf) rfl) rfl F rfl (congrArg (Value.int .i64) (wrap_i64 (by omega))) fun _ F =>
               xA F rf rf rf fun _ F =>
               wpList_nil <| ?_
              have hv:tranF p i=0:=by
               rw[hcf];unfold tranM;repeat (first | with_reducible rfl | assumption | (with_reducible refine Eq.trans (if_pos ?_) ?_;focus (first | assumption | (refine wk_nf ?_;assumption) | (refine wk_nt ?_;assumption) | omega | (simp[hd26,hd29,hd32,hd35,hd38,hd41,hd44,hd47,hd50,hd52,hd56];done))) | (with_reducible refine Eq.trans (if_neg ?_) ?_;focus (first | assumption | (refine wk_nf ?_;assumption) | (refine wk_nt ?_;assumption) | omega | (simp[hd52,hd56];done))) | omega)
              exact⟨i+1,⟨F.sub ⟨rfl,rfl,trivial⟩,(M.only (.cons _ (.cons_cons _ .slnil)) .slnil),by omega,hinv.trans (firstE_next hlz hv)⟩,by show p.trans.length-(i+1)<p.trans.length-i;omega⟩
            | false =>
             have F:=F.eq 119 rfl (congrArg Value.bool hq51)
             have hd57:=of_decide_eq_true (show decide (z.kind=1)=true by simpa using hq51)
             have hk58:(decide (z.kind=1))=true:=by simpa using hq51
             refine ko rfl rfl rfl (F.g 119 rfl) rfl F rfl fun _ F =>
              ko rfl rfl rfl (F.g 119 rfl) rfl F rfl fun _ F =>
              ko rfl rfl rfl (F.g 119 rfl) rfl F rfl fun _ F =>
              ke (u:=.bool false) (gn rfl rfl (F.g 115 rfl)) (e_pick rfl (F.u rf) (F.u rf) rfl) rfl F rfl rfl fun _ F =>
              ke (u:=.bool false) (on rfl) (e_pick rfl (F.u rf) rfl (F.u rf)) rfl F rfl rfl fun _ F =>
              wpList_nil <|
              hK37 _ _ ?_
             refine wp_cond_false (F.e 124 rfl) ?_
             refine wp_skip <|
              hK36 _ _ ?_
             refine wp_seq_k fun K42 hK42 =>
              wk_region <|
              xF 10 F rf rf rf u84 rf sz9 rf fun _ F =>
              xL F (M.b 0 rfl) rf rf rf u9 rf rf fun _ F =>
              kz F rf (e_neE rfl (F.u rf) rfl) fun _ F =>
              xM F rf rf rf fun _ F=>?_
             cases hq59:(!emptyB z.name:Bool) with
             | true =>
              have F:=F.eq 128 rfl (congrArg Value.bool hq59)
              have hd60:(emptyB z.name)=false:=by simpa using hq59
              refine ke (u:=.pointer (some ⟨g23,10,none⟩)) (gn rfl rfl (F.g 128 rfl)) (e_field rfl (F.u rf) u84 rfl sz9) rfl F rfl rfl fun _ F =>
               kv (gn rfl rfl (F.g 128 rfl)) (e_load1 rfl (F.u rf) u9 rfl ((M.b 0 rfl).c1 10)) rfl F rfl fun _ F =>
               kq (gn rfl rfl (F.g 128 rfl)) (e_call rfl Tryz.func114 nm114 rfl (args1 (F.u rf))) (object_any _ z.name okz.name) rfl F rfl fun _ F =>
               kv (gn rfl rfl (F.g 128 rfl)) (e_not rfl (F.u rf)) rfl F rfl fun _ F =>
               ke (u:=.bool (!(objectB z.name))) (on rfl) (e_pick rfl (F.u rf) (F.u rf) rfl) rfl F rfl rfl fun _ F =>
               wpList_nil <|
               hK42 _ _ ?_
              refine wp_cond_split (F.e 133 rfl) (fun hc61=>?_) (fun hc61=>?_)
              ·
               have hd62:(objectB z.name)=false:=by simpa using hc61
               refine wp_seq_k fun K43 hK43 =>
                wk_region <|
                xA (v:=.int .i64 10) F rf rf rf fun _ F =>
                wpList_nil <|
                hK43 _ _ ?_
               refine wp_ret <|
                HRET _ _ _ _ F rfl ?_
               have hv:tranF p i=10:=by
                rw[hcf];unfold tranM;repeat (first | with_reducible rfl | assumption | (with_reducible refine Eq.trans (if_pos ?_) ?_;focus (first | assumption | (refine wk_nf ?_;assumption) | (refine wk_nt ?_;assumption) | omega | (simp[hd32,hd35,hd38,hd41,hd44,hd47,hd50,hd57,hd60,hd62];done))) | (with_reducible refine Eq.trans (if_neg ?_) ?_;focus (first | assumption | (refine wk_nf ?_;assumption) | (refine wk_nt ?_;assumption) | omega | (simp[hd20,hd22,hd26,hd29,hd32,hd35,hd38,hd41,hd44,hd47,hd50,hd57,hd60,hd62];done))) | omega)
               exact⟨ret_int (by rw[transM_few htot,hinv,firstE_at hlz (by rw[hv];omega),hv]),M.below⟩
              ·
               have hd63:(objectB z.name)=true:=by simpa using hc61
               refine wp_skip <|
                hK21 _ _ ?_
               refine wk_region <|
                xM F rf rf rf fun _ F =>
                ke (on rfl) (e_add rfl (F.u rf) rfl) rfl F rfl (congrArg (Value.int .i64) (wrap_i64 (by omega))) fun _ F =>
                xA F rf rf rf fun _ F =>
                wpList_nil <| ?_
               have hv:tranF p i=0:=by
                rw[hcf];unfold tranM;repeat (first | with_reducible rfl | assumption | (with_reducible refine Eq.trans (if_pos ?_) ?_;focus (first | assumption | (refine wk_nf ?_;assumption) | (refine wk_nt ?_;assumption) | omega | (simp[hd32,hd35,hd38,hd41,hd44,hd47,hd50,hd57,hd60,hd63];done))) | (with_reducible refine Eq.trans (if_neg ?_) ?_;focus (first | assumption | (refine wk_nf ?_;assumption) | (refine wk_nt ?_;assumption) | omega | (simp[hd60,hd63];done))) | omega)
               exact⟨i+1,⟨F.sub ⟨rfl,rfl,trivial⟩,(M.only (.cons _ (.cons_cons _ .slnil)) .slnil),by omega,hinv.trans (firstE_next hlz hv)⟩,by show p.trans.length-(i+1)<p.trans.length-i;omega⟩
             | false =>
              have F:=F.eq 128 rfl (congrArg Value.bool hq59)
              have hd64:(emptyB z.name)=true:=by simpa using hq59
              refine ko rfl rfl rfl (F.g 128 rfl) rfl F rfl fun _ F =>
               ko rfl rfl rfl (F.g 128 rfl) rfl F rfl fun _ F =>
               ko rfl rfl rfl (F.g 128 rfl) rfl F rfl fun _ F =>
               ko rfl rfl rfl (F.g 128 rfl) rfl F rfl fun _ F =>
               ke (u:=.bool false) (on rfl) (e_pick rfl (F.u rf) (F.u rf) rfl) rfl F rfl rfl fun _ F =>
               wpList_nil <|
               hK42 _ _ ?_
              refine wp_cond_false (F.e 133 rfl) ?_
              refine wp_skip <|
               hK21 _ _ ?_
              refine wk_region <|
               xM F rf rf rf fun _ F =>
               ke (on rfl) (e_add rfl (F.u rf) rfl) rfl F rfl (congrArg (Value.int .i64) (wrap_i64 (by omega))) fun _ F =>
               xA F rf rf rf fun _ F =>
               wpList_nil <| ?_
              have hv:tranF p i=0:=by
               rw[hcf];unfold tranM;repeat (first | with_reducible rfl | assumption | (with_reducible refine Eq.trans (if_pos ?_) ?_;focus (first | assumption | (refine wk_nf ?_;assumption) | (refine wk_nt ?_;assumption) | omega | (simp[hd32,hd35,hd38,hd41,hd44,hd47,hd50,hd57,hd64];done))) | (with_reducible refine Eq.trans (if_neg ?_) ?_;focus (first | assumption | (refine wk_nf ?_;assumption) | (refine wk_nt ?_;assumption) | omega | (simp[hd64];done))) | omega)
              exact⟨i+1,⟨F.sub ⟨rfl,rfl,trivial⟩,(M.only (.cons _ (.cons_cons _ .slnil)) .slnil),by omega,hinv.trans (firstE_next hlz hv)⟩,by show p.trans.length-(i+1)<p.trans.length-i;omega⟩
  ·
   have hd65:=of_decide_eq_false hc21
   refine wp_exit <|
    hK17 _ _ ?_
   refine wp_seq_k fun K44 hK44 =>
    wk_region <|
    xA (v:=.int .i64 0) F rf rf rf fun _ F =>
    wpList_nil <|
    hK44 _ _ ?_
   refine wp_ret <|
    HRET _ _ _ _ F rfl ?_
   exact⟨ret_int (by rw[transM_few htot,hinv,show i=p.trans.length by omega,firstE_stop]),M.below⟩
end Go.Proofs.YtdcofoaihmongaaGreat
namespace Go.Proofs.YtdcofoaihmongaaGreat
open Go Go.RowKit
theorem belowB_iff {i n:Int}:belowB i n=true↔0≤i∧i<n:=by
 unfold belowB;simp
def placeIn (p:APol) (c:ACtx):Int:=match p.users[c.user.toNat]?,p.roles[c.role.toNat]? with
 | some u,some r=>if domB c.rng.low u.rng.low=false then 19 else if domB u.rng.high c.rng.high=false then 19
  else if u.roles.mem c.role=false then 19 else if r.types.mem c.typ=false then 19 else 0
 | _,_=>0
def placeM (p:APol) (c:ACtx):Int :=
 if belowB c.user (p.users.length:Int)=false then 3 else if belowB c.role (p.roles.length:Int)=false then 3 else if belowB c.typ (p.types.length:Int)=false then 3
 else if rangeB p.sens.length p.cats.length c.rng=false then 18 else if c.role=0 then 0 else placeIn p c
theorem placeIn_eq {p:APol} {c:ACtx} {u:AUsr} {r:ARol} (hu:p.users[c.user.toNat]?=some u) (hr:p.roles[c.role.toNat]?=some r):placeIn p c=if domB c.rng.low u.rng.low=false then 19 else if domB u.rng.high c.rng.high=false then 19
 else if u.roles.mem c.role=false then 19 else if r.types.mem c.typ=false then 19 else 0:=by
 unfold placeIn;rw[hu,hr]
set_option maxRecDepth 100000 in
set_option maxHeartbeats 4000000 in
theorem place_any (w0:World) (c0 c1 c2 c3 c4 c5 c6 c7 c8 c9 c10 c11 c12 c13 c14 c15 c16:Value) (p:APol) (hp:PolAt w0 c0 c1 c2 c3 c4 c5 c6 c7 c8 c9 c10 c11 c12 c13 c14 c15 c16 p) (hok:p.Ok) (c:ACtx) (hc:c.Ok):Calls Tryz.prog 116 #[.agg #[c0,c1,c2,c3,c4,c5,c6,c7,c8,c9,c10,c11,c12,c13,c14,c15,c16],.agg #[.int .i64 c.user,.int .i64 c.role,.int .i64 c.typ,.int .i64 c.rng.low.sens,.int .u64 c.rng.low.cats,.int .i64 c.rng.high.sens,.int .u64 c.rng.high.cats]] w0 (fun(e:Ending) (w':World)=>e=.returned (.int .i64 (placeM p c))∧RowKit.Below w0.heap.size w0 w'):=by
 obtain⟨la1,lk1,rfl,hk1,hm1,hcell1⟩:=RowsAt.form hp.types (by decide)
 obtain⟨la3,lk3,rfl,hk3,hm3,hcell3⟩:=SliceAt.form hp.roles (by decide)
 obtain⟨la4,lk4,rfl,hk4,hm4,hcell4⟩:=SliceAt.form hp.users (by decide)
 have HRET:=hr1 Tryz.prog Tryz.f116 (fun(e:Ending) (w':World)=>e=.returned (.int .i64 (placeM p c))∧RowKit.Below w0.heap.size w0 w') 85 4 rfl
 refine en Tryz.func116 rfl Tryz.ntmps116 rfl (vs:=[.agg #[c0,.slice la1 p.types.length lk1,c2,.slice la3 p.roles.length lk3,.slice la4 p.users.length lk4,c5,c6,c7,c8,c9,c10,c11,c12,c13,c14,c15,c16],.agg #[.int .i64 c.user,.int .i64 c.role,.int .i64 c.typ,.int .i64 c.rng.low.sens,.int .u64 c.rng.low.cats,.int .i64 c.rng.high.sens,.int .u64 c.rng.high.cats]]) rfl fun _ F=>?_
 have M:=Mm.start w0
 refine wp_seq_k fun K1 hK1 =>
  wk_region <|
  kbA (on rfl) rfl (F.u rf) rfl F rfl M fun g1 _ _ F M =>
  kbA (on rfl) rfl (F.u rf) rfl F rfl M fun g2 _ _ F M =>
  xA (v:=.int .i64 0) F rf rf rf fun _ F =>
  wpList_nil <|
  hK1 _ _ ?_
 refine wp_seq_k fun K2 hK2 =>
  wp_seq_k fun K3 hK3 =>
  wk_region <|
  xF 0 F rf rf rf u74 rf sz3 rf fun _ F =>
  xL F (M.b 0 rfl) rf rf rf u3 rf rf fun _ F =>
  xF 4 F rf rf rf u39 rf sz26 rf fun _ F =>
  xL F (M.b 1 rfl) rf rf rf u26 rf rf fun _ F =>
  kz F rf (e_lenSl rfl (F.u rf) u26) fun _ F =>
  xQ F rf rf q113 (args2 (F.u rf) (F.u rf)) (below_any _ c.user (p.users.length:Int)) fun _ F =>
  kz F rf (e_not rfl (F.u rf)) fun _ F =>
  xM F rf rf rf fun _ F=>?_
 cases hq3:(!(belowB c.user (p.users.length:Int)):Bool) with
 | true =>
  have F:=F.eq 14 rfl (congrArg Value.bool hq3)
  have hd4:(belowB c.user (p.users.length:Int))=false:=by simpa using hq3
  refine ko rfl rfl rfl (F.g 14 rfl) rfl F rfl fun _ F =>
   ko rfl rfl rfl (F.g 14 rfl) rfl F rfl fun _ F =>
   ko rfl rfl rfl (F.g 14 rfl) rfl F rfl fun _ F =>
   ko rfl rfl rfl (F.g 14 rfl) rfl F rfl fun _ F =>
   ko rfl rfl rfl (F.g 14 rfl) rfl F rfl fun _ F =>
   ko rfl rfl rfl (F.g 14 rfl) rfl F rfl fun _ F =>
   ko rfl rfl rfl (F.g 14 rfl) rfl F rfl fun _ F =>
   ke (u:=.bool true) (on rfl) (e_pick rfl (F.u rf) rfl (F.u rf)) rfl F rfl rfl fun _ F =>
   xM F rf rf rf fun _ F =>
   ko rfl rfl rfl (F.g 23 rfl) rfl F rfl fun _ F =>
   ko rfl rfl rfl (F.g 23 rfl) rfl F rfl fun _ F =>
   ko rfl rfl rfl (F.g 23 rfl) rfl F rfl fun _ F =>
   ko rfl rfl rfl (F.g 23 rfl) rfl F rfl fun _ F =>
   ko rfl rfl rfl (F.g 23 rfl) rfl F rfl fun _ F =>
   ko rfl rfl rfl (F.g 23 rfl) rfl F rfl fun _ F =>
   ko rfl rfl rfl (F.g 23 rfl) rfl F rfl fun _ F =>
   ke (u:=.bool true) (on rfl) (e_pick rfl (F.u rf) rfl (F.u rf)) rfl F rfl rfl fun _ F =>
   wpList_nil <|
   hK3 _ _ ?_
  refine wp_cond_true (F.e 31 rfl) ?_
  refine wp_seq_k fun K4 hK4 =>
   wk_region <|
   xA (v:=.int .i64 3) F rf rf rf fun _ F =>
   wpList_nil <|
   hK4 _ _ ?_
  refine wp_ret <|
   HRET _ _ _ _ F rfl ?_
  exact⟨ret_int (by refine Eq.symm ?_;unfold placeM;repeat (first | with_reducible rfl | assumption | (with_reducible refine Eq.trans (if_pos ?_) ?_;focus (first | assumption | (refine wk_nf ?_;assumption) | (refine wk_nt ?_;assumption) | omega | (simp[hd4];done))) | (with_reducible refine Eq.trans (if_neg ?_) ?_;focus (first | assumption | (refine wk_nf ?_;assumption) | (refine wk_nt ?_;assumption) | omega | (simp[hd4];done))) | omega)),M.below⟩
 | false =>
  have F:=F.eq 14 rfl (congrArg Value.bool hq3)
  have hd5:(belowB c.user (p.users.length:Int))=true:=by simpa using hq3
  refine ke (u:=.pointer (some ⟨g2,1,none⟩)) (gn rfl rfl (F.g 14 rfl)) (e_field rfl (F.u rf) u74 rfl sz3) rfl F rfl rfl fun _ F =>
   kv (gn rfl rfl (F.g 14 rfl)) (e_load1 rfl (F.u rf) u3 rfl ((M.b 0 rfl).c1 1)) rfl F rfl fun _ F =>
   ke (u:=.pointer (some ⟨g1,3,none⟩)) (gn rfl rfl (F.g 14 rfl)) (e_field rfl (F.u rf) u39 rfl sz25) rfl F rfl rfl fun _ F =>
   kv (gn rfl rfl (F.g 14 rfl)) (e_load1 rfl (F.u rf) u25 rfl ((M.b 1 rfl).c1 3)) rfl F rfl fun _ F =>
   kv (gn rfl rfl (F.g 14 rfl)) (e_lenSl rfl (F.u rf) u25) rfl F rfl fun _ F =>
   kq (gn rfl rfl (F.g 14 rfl)) (e_call rfl Tryz.func113 nm113 rfl (args2 (F.u rf) (F.u rf))) (below_any _ c.role (p.roles.length:Int)) rfl F rfl fun _ F =>
   kv (gn rfl rfl (F.g 14 rfl)) (e_not rfl (F.u rf)) rfl F rfl fun _ F =>
   ke (u:=.bool (!(belowB c.role (p.roles.length:Int)))) (on rfl) (e_pick rfl (F.u rf) rfl (F.u rf)) rfl F rfl rfl fun _ F =>
   xM F rf rf rf fun _ F=>?_
  cases hq6:(!(belowB c.role (p.roles.length:Int)):Bool) with
  | true =>
   have F:=F.eq 23 rfl (congrArg Value.bool hq6)
   have hd7:(belowB c.role (p.roles.length:Int))=false:=by simpa using hq6
   refine ko rfl rfl rfl (F.g 23 rfl) rfl F rfl fun _ F =>
    ko rfl rfl rfl (F.g 23 rfl) rfl F rfl fun _ F =>
    ko rfl rfl rfl (F.g 23 rfl) rfl F rfl fun _ F =>
    ko rfl rfl rfl (F.g 23 rfl) rfl F rfl fun _ F =>
    ko rfl rfl rfl (F.g 23 rfl) rfl F rfl fun _ F =>
    ko rfl rfl rfl (F.g 23 rfl) rfl F rfl fun _ F =>
    ko rfl rfl rfl (F.g 23 rfl) rfl F rfl fun _ F =>
    ke (u:=.bool true) (on rfl) (e_pick rfl (F.u rf) rfl (F.u rf)) rfl F rfl rfl fun _ F =>
    wpList_nil <|
    hK3 _ _ ?_
   refine wp_cond_true (F.e 31 rfl) ?_
   refine wp_seq_k fun K5 hK5 =>
    wk_region <|
    xA (v:=.int .i64 3) F rf rf rf fun _ F =>
    wpList_nil <|
    hK5 _ _ ?_
   refine wp_ret <|
    HRET _ _ _ _ F rfl ?_
   exact⟨ret_int (by refine Eq.symm ?_;unfold placeM;repeat (first | with_reducible rfl | assumption | (with_reducible refine Eq.trans (if_pos ?_) ?_;focus (first | assumption | (refine wk_nf ?_;assumption) | (refine wk_nt ?_;assumption) | omega | (simp[hd5];done))) | (with_reducible refine Eq.trans (if_neg ?_) ?_;focus (first | assumption | (refine wk_nf ?_;assumption) | (refine wk_nt ?_;assumption) | omega | (simp[hd5,hd7];done))) | omega)),M.below⟩
  | false =>
   have F:=F.eq 23 rfl (congrArg Value.bool hq6)
   have hd8:(belowB c.role (p.roles.length:Int))=true:=by simpa using hq6
   refine ke (u:=.pointer (some ⟨g2,2,none⟩)) (gn rfl rfl (F.g 23 rfl)) (e_field rfl (F.u rf) u74 rfl sz3) rfl F rfl rfl fun _ F =>
    kv (gn rfl rfl (F.g 23 rfl)) (e_load1 rfl (F.u rf) u3 rfl ((M.b 0 rfl).c1 2)) rfl F rfl fun _ F =>
    ke (u:=.pointer (some ⟨g1,1,none⟩)) (gn rfl rfl (F.g 23 rfl)) (e_field rfl (F.u rf) u39 rfl sz23) rfl F rfl rfl fun _ F =>
    kv (gn rfl rfl (F.g 23 rfl)) (e_load1 rfl (F.u rf) u23 rfl ((M.b 1 rfl).c1 1)) rfl F rfl fun _ F =>
    kv (gn rfl rfl (F.g 23 rfl)) (e_lenSl rfl (F.u rf) u23) rfl F rfl fun _ F =>
    kq (gn rfl rfl (F.g 23 rfl)) (e_call rfl Tryz.func113 nm113 rfl (args2 (F.u rf) (F.u rf))) (below_any _ c.typ (p.types.length:Int)) rfl F rfl fun _ F =>
    kv (gn rfl rfl (F.g 23 rfl)) (e_not rfl (F.u rf)) rfl F rfl fun _ F =>
    ke (u:=.bool (!(belowB c.typ (p.types.length:Int)))) (on rfl) (e_pick rfl (F.u rf) rfl (F.u rf)) rfl F rfl rfl fun _ F =>
    wpList_nil <|
    hK3 _ _ ?_
   refine wp_cond_split (F.e 31 rfl) (fun hc9=>?_) (fun hc9=>?_)
   ·
    have hd10:(belowB c.typ (p.types.length:Int))=false:=by simpa using hc9
    refine wp_seq_k fun K6 hK6 =>
     wk_region <|
     xA (v:=.int .i64 3) F rf rf rf fun _ F =>
     wpList_nil <|
     hK6 _ _ ?_
    refine wp_ret <|
     HRET _ _ _ _ F rfl ?_
    exact⟨ret_int (by refine Eq.symm ?_;unfold placeM;repeat (first | with_reducible rfl | assumption | (with_reducible refine Eq.trans (if_pos ?_) ?_;focus (first | assumption | (refine wk_nf ?_;assumption) | (refine wk_nt ?_;assumption) | omega | (simp[hd5,hd8];done))) | (with_reducible refine Eq.trans (if_neg ?_) ?_;focus (first | assumption | (refine wk_nf ?_;assumption) | (refine wk_nt ?_;assumption) | omega | (simp[hd5,hd8,hd10];done))) | omega)),M.below⟩
   ·
    have hd11:(belowB c.typ (p.types.length:Int))=true:=by simpa using hc9
    refine wp_skip <|
     hK2 _ _ ?_
    refine wp_seq_k fun K7 hK7 =>
     wp_seq_k fun K8 hK8 =>
     wk_region <|
     xW F (M.b 1 rfl) rf rf rf u39 rf sz39 rf fun _ F =>
     xF 3 F rf rf rf u74 rf sz72 rf fun _ F =>
     kz F rf (e_loadN [.int .i64 c.rng.low.sens,.int .u64 c.rng.low.cats,.int .i64 c.rng.high.sens,.int .u64 c.rng.high.cats] rfl (F.u rf) u72 rfl sz72 (whole_part (M.b 0 rfl) rfl)) fun _ F =>
     xC F M rf rf q107 (args2 (F.u rf) (F.u rf)) (range_any _ _ _ _ _ _ _ _ _ _ _ _ _ _ _ _ _ _ p (hp.keep M.below) c.rng hc.rng) fun _ _ F M =>
     kz F rf (e_not rfl (F.u rf)) fun _ F =>
     wpList_nil <|
     hK8 _ _ ?_
    refine wp_cond_split (F.e 36 rfl) (fun hc12=>?_) (fun hc12=>?_)
    ·
     have hd13:(rangeB p.sens.length p.cats.length c.rng)=false:=by simpa using hc12
     refine wp_seq_k fun K9 hK9 =>
      wk_region <|
      xA (v:=.int .i64 18) F rf rf rf fun _ F =>
      wpList_nil <|
      hK9 _ _ ?_
     refine wp_ret <|
      HRET _ _ _ _ F rfl ?_
     exact⟨ret_int (by refine Eq.symm ?_;unfold placeM;repeat (first | with_reducible rfl | assumption | (with_reducible refine Eq.trans (if_pos ?_) ?_;focus (first | assumption | (refine wk_nf ?_;assumption) | (refine wk_nt ?_;assumption) | omega | (simp[hd5,hd8,hd11];done))) | (with_reducible refine Eq.trans (if_neg ?_) ?_;focus (first | assumption | (refine wk_nf ?_;assumption) | (refine wk_nt ?_;assumption) | omega | (simp[hd5,hd8,hd11,hd13];done))) | omega)),M.below⟩
    ·
     have hd14:(rangeB p.sens.length p.cats.length c.rng)=true:=by simpa using hc12
     refine wp_skip <|
      hK7 _ _ ?_
     refine wp_seq_k fun K10 hK10 =>
      wp_seq_k fun K11 hK11 =>
      wk_region <|
      xF 1 F rf rf rf u74 rf sz3 rf fun _ F =>
      xL F (M.b 0 rfl) rf rf rf u3 rf rf fun _ F =>
      kz F rf (e_eqI rfl (F.u rf) rfl) fun _ F =>
      wpList_nil <|
      hK11 _ _ ?_
     refine wp_cond_split (F.e 39 rfl) (fun hc15=>?_) (fun hc15=>?_)
     ·
      have hd16:=of_decide_eq_true hc15
      refine wp_seq_k fun K12 hK12 =>
       wk_region <|
       xA (v:=.int .i64 0) F rf rf rf fun _ F =>
       wpList_nil <|
       hK12 _ _ ?_
      refine wp_ret <|
       HRET _ _ _ _ F rfl ?_
      exact⟨ret_int (by refine Eq.symm ?_;unfold placeM;repeat (first | with_reducible rfl | assumption | (with_reducible refine Eq.trans (if_pos ?_) ?_;focus (first | assumption | (refine wk_nf ?_;assumption) | (refine wk_nt ?_;assumption) | omega | (simp[hd5,hd11,hd14,hd16];done))) | (with_reducible refine Eq.trans (if_neg ?_) ?_;focus (first | assumption | (refine wk_nf ?_;assumption) | (refine wk_nt ?_;assumption) | omega | (simp[hd5,hd8,hd11,hd14,hd16];done))) | omega)),M.below⟩
     ·
      have hd17:=of_decide_eq_false hc15
      refine wp_skip <|
       hK10 _ _ ?_
      refine wp_seq_k fun K13 hK13=>?_
      have hu0:0≤c.user∧c.user<(p.users.length:Int):=belowB_iff.1 (by assumption)
      have hr0:0≤c.role∧c.role<(p.roles.length:Int):=belowB_iff.1 (by assumption)
      have ht0:0≤c.typ∧c.typ<(p.types.length:Int):=belowB_iff.1 (by assumption)
      have hun:((c.user.toNat:Nat):Int)=c.user:=by omega
      have hlt:c.user.toNat<p.users.length:=by omega
      obtain⟨us,hus⟩:∃ us,p.users[c.user.toNat]?=some us:=⟨_,List.getElem?_eq_getElem hlt⟩
      obtain⟨b4,ob4,rfl,hcb4⟩:=hcell4 c.user.toNat hlt
      have hrb4:∀ j uu,[.string us.name,.int .u64 us.roles.a,.int .u64 us.roles.b,.int .u64 us.roles.c,.int .u64 us.roles.d,.int .i64 us.dflt.sens,.int .u64 us.dflt.cats,.int .i64 us.rng.low.sens,.int .u64 us.rng.low.cats,.int .i64 us.rng.high.sens,.int .u64 us.rng.high.cats][j]?=some uu→w0.cell? ⟨b4,ob4+c.user.toNat*11+j,none⟩=some uu:=fun j u hu=>hcb4 j u (by
       rw[flat_at AUsr.cells_len hus j (List.getElem?_eq_some_iff.1 hu).1]
       exact hu)
      clear hcb4
      have okus:=hok.users us (List.mem_of_getElem? hus)
      refine wk_region <|
       xF 4 F rf rf rf u39 rf sz26 rf fun _ F =>
       xL F (M.b 1 rfl) rf rf rf u26 rf rf fun _ F =>
       xF 0 F rf rf rf u74 rf sz3 rf fun _ F =>
       xL F (M.b 0 rfl) rf rf rf u3 rf rf fun _ F=>?_
      have F:=F.eq 43 rfl (congrArg (Value.int .i64) hun.symm)
      refine kz F rf (e_indexAddr (i:=c.user.toNat) rfl (F.u rf) (F.u rf) (by omega) u26 sz192) fun _ F =>
       kz F rf (e_loadN [.string us.name,.int .u64 us.roles.a,.int .u64 us.roles.b,.int .u64 us.roles.c,.int .u64 us.roles.d,.int .i64 us.dflt.sens,.int .u64 us.dflt.cats,.int .i64 us.rng.low.sens,.int .u64 us.rng.low.cats,.int .i64 us.rng.high.sens,.int .u64 us.rng.high.cats] rfl (F.u rf) u192 rfl sz192 (lat M.below hrb4)) fun _ F =>
       kaA (on rfl) rfl zr192 rfl F rfl M fun g18 _ _ F M =>
       ksA (on rfl) rfl (F.u rf) (F.u rf) F M 0 rfl sz192 rfl rfl rfl fun _ M =>
       wpList_nil <|
       hK13 _ _ ?_
      refine wp_seq_k fun K14 hK14 =>
       wk_region <|
       xF 3 F rf rf rf u74 rf sz72 rf fun _ F =>
       xF 3 F rf rf rf u72 rf sz70 rf fun _ F =>
       kz F rf (e_loadN [.int .i64 c.rng.low.sens,.int .u64 c.rng.low.cats] rfl (F.u rf) u70 rfl sz70 (whole_part (M.b 1 rfl) rfl)) fun _ F =>
       xF 7 F rf rf rf u192 rf sz72 rf fun _ F =>
       xF 7 F rf rf rf u72 rf sz70 rf fun _ F =>
       kz F rf (e_loadN [.int .i64 us.rng.low.sens,.int .u64 us.rng.low.cats] rfl (F.u rf) u70 rfl sz70 (whole_part (M.b 0 rfl) rfl)) fun _ F =>
       xC F M rf rf q109 (args2 (F.u rf) (F.u rf)) (dom_any _ c.rng.low us.rng.low hc.rng.low okus.rng.low) fun _ _ F M =>
       xM F rf rf rf fun _ F=>?_
      cases hq19:(domB c.rng.low us.rng.low:Bool) with
      | true =>
       have F:=F.eq 53 rfl (congrArg Value.bool hq19)
       refine ke (u:=.pointer (some ⟨g18,7,none⟩)) (gn rfl rfl (F.g 53 rfl)) (e_field rfl (F.u rf) u192 rfl sz72) rfl F rfl rfl fun _ F =>
        ke (u:=.pointer (some ⟨g18,9,none⟩)) (gn rfl rfl (F.g 53 rfl)) (e_field rfl (F.u rf) u72 rfl sz70) rfl F rfl rfl fun _ F =>
        kv (gn rfl rfl (F.g 53 rfl)) (e_loadN [.int .i64 us.rng.high.sens,.int .u64 us.rng.high.cats] rfl (F.u rf) u70 rfl sz70 (whole_part (M.b 0 rfl) rfl)) rfl F rfl fun _ F =>
        ke (u:=.pointer (some ⟨g2,3,none⟩)) (gn rfl rfl (F.g 53 rfl)) (e_field rfl (F.u rf) u74 rfl sz72) rfl F rfl rfl fun _ F =>
        ke (u:=.pointer (some ⟨g2,5,none⟩)) (gn rfl rfl (F.g 53 rfl)) (e_field rfl (F.u rf) u72 rfl sz70) rfl F rfl rfl fun _ F =>
        kv (gn rfl rfl (F.g 53 rfl)) (e_loadN [.int .i64 c.rng.high.sens,.int .u64 c.rng.high.cats] rfl (F.u rf) u70 rfl sz70 (whole_part (M.b 1 rfl) rfl)) rfl F rfl fun _ F =>
        kc (gn rfl rfl (F.g 53 rfl)) (e_call rfl Tryz.func109 nm109 rfl (args2 (F.u rf) (F.u rf))) (dom_any _ us.rng.high c.rng.high okus.rng.high hc.rng.high) rfl F rfl M fun _ _ F M =>
        ke (u:=.bool (domB us.rng.high c.rng.high)) (on rfl) (e_pick rfl (F.u rf) (F.u rf) rfl) rfl F rfl rfl fun _ F =>
        xA F rf rf rf fun _ F =>
        wpList_nil <|
        hK14 _ _ ?_
       refine wp_seq_k fun K15 hK15 =>
        wp_seq_k fun K16 hK16=>?_
       have hrn:((c.role.toNat:Nat):Int)=c.role:=by omega
       have hlr:c.role.toNat<p.roles.length:=by omega
       obtain⟨rl,hrl⟩:∃ rl,p.roles[c.role.toNat]?=some rl:=⟨_,List.getElem?_eq_getElem hlr⟩
       obtain⟨b3,ob3,rfl,hcb3⟩:=hcell3 c.role.toNat hlr
       have hrb3:∀ j uu,[.string rl.name,.int .u64 rl.types.a,.int .u64 rl.types.b,.int .u64 rl.types.c,.int .u64 rl.types.d,.int .u64 rl.next.a,.int .u64 rl.next.b,.int .u64 rl.next.c,.int .u64 rl.next.d][j]?=some uu→w0.cell? ⟨b3,ob3+c.role.toNat*9+j,none⟩=some uu:=fun j u hu=>hcb3 j u (by
        rw[flat_at ARol.cells_len hrl j (List.getElem?_eq_some_iff.1 hu).1]
        exact hu)
       clear hcb3
       have okrl:=hok.roles rl (List.mem_of_getElem? hrl)
       refine rd 23 [62,63,64,65,66,67,68,69,70,71,72,73,74,75,76,77,78,79,80,81,82,83,84] [isV (.bool (domB us.rng.high c.rng.high)),isV (.bool (!(domB us.rng.high c.rng.high))),isV (.bool (!(domB us.rng.high c.rng.high))),isV (gd (!(!(domB us.rng.high c.rng.high))) (.pointer (some ⟨g18,1,none⟩))),isV (gd (!(!(domB us.rng.high c.rng.high))) (.agg #[.int .u64 us.roles.a,.int .u64 us.roles.b,.int .u64 us.roles.c,.int .u64 us.roles.d])),isV (gd (!(!(domB us.rng.high c.rng.high))) (.pointer (some ⟨g2,1,none⟩))),isV (gd (!(!(domB us.rng.high c.rng.high))) (.int .i64 c.role)),isV (gd (!(!(domB us.rng.high c.rng.high))) (.bool (us.roles.mem c.role))),isV (gd (!(!(domB us.rng.high c.rng.high))) (.bool (!(us.roles.mem c.role)))),isV (.bool ((!(domB us.rng.high c.rng.high))||(!(us.roles.mem c.role)))),isV (.bool ((!(domB us.rng.high c.rng.high))||(!(us.roles.mem c.role)))),isV (gd (!((!(domB us.rng.high c.rng.high))||(!(us.roles.mem c.role)))) (.pointer (some ⟨g1,3,none⟩))),isV (gd (!((!(domB us.rng.high c.rng.high))||(!(us.roles.mem c.role)))) (.slice (some ⟨b3,ob3,none⟩) p.roles.length lk3)),isV (gd (!((!(domB us.rng.high c.rng.high))||(!(us.roles.mem c.role)))) (.pointer (some ⟨g2,1,none⟩))),isV (gd (!((!(domB us.rng.high c.rng.high))||(!(us.roles.mem c.role)))) (.int .i64 c.role)),isV (gd (!((!(domB us.rng.high c.rng.high))||(!(us.roles.mem c.role)))) (.pointer (some ⟨b3,ob3+c.role.toNat*9,none⟩))),isV (gd (!((!(domB us.rng.high c.rng.high))||(!(us.roles.mem c.role)))) (.pointer (some ⟨b3,ob3+c.role.toNat*9+1,none⟩))),isV (gd (!((!(domB us.rng.high c.rng.high))||(!(us.roles.mem c.role)))) (.agg #[.int .u64 rl.types.a,.int .u64 rl.types.b,.int .u64 rl.types.c,.int .u64 rl.types.d])),isV (gd (!((!(domB us.rng.high c.rng.high))||(!(us.roles.mem c.role)))) (.pointer (some ⟨g2,2,none⟩))),isV (gd (!((!(domB us.rng.high c.rng.high))||(!(us.roles.mem c.role)))) (.int .i64 c.typ)),isV (gd (!((!(domB us.rng.high c.rng.high))||(!(us.roles.mem c.role)))) (.bool (rl.types.mem c.typ))),isV (gd (!((!(domB us.rng.high c.rng.high))||(!(us.roles.mem c.role)))) (.bool (!(rl.types.mem c.typ)))),isV (.bool (((!(domB us.rng.high c.rng.high))||(!(us.roles.mem c.role)))||(!(rl.types.mem c.typ))))] (by kernel_rfl) (by kernel_rfl) (by kernel_rfl) rfl (by decide) rfl rfl F ⟨lasts_is _,lasts_is _,lasts_is _,lasts_is _,lasts_is _,lasts_is _,lasts_is _,lasts_is _,lasts_is _,lasts_is _,lasts_is _,lasts_is _,lasts_is _,lasts_is _,lasts_is _,lasts_is _,lasts_is _,lasts_is _,lasts_is _,lasts_is _,lasts_is _,lasts_is _,lasts_is _,trivial⟩ ⟨?_,?_,?_,?_,?_,?_,?_,?_,?_,?_,?_,?_,?_,?_,?_,?_,?_,?_,?_,?_,?_,?_,?_,trivial⟩ ?_
       ·intro a w Q' hf hi H G hK
        exact dv (on rfl) (e_move rfl (G 6 _ rfl (F.g 6 rfl)).ev) rfl hf rfl hK rfl
       ·intro a w Q' hf hi H G hK
        obtain⟨_,h62,rfl⟩:=H 0 ⟨.data,by simp,rfl⟩ _ _ rfl rfl
        exact dv (on rfl) (e_not rfl h62.ev) rfl hf rfl hK rfl
       ·intro a w Q' hf hi H G hK
        obtain⟨_,h63,rfl⟩:=H 1 ⟨.data,by simp,rfl⟩ _ _ rfl rfl
        exact dv (on rfl) (e_move rfl h63.ev) rfl hf rfl hK rfl
       ·intro a w Q' hf hi H G hK
        obtain⟨_,h64,rfl⟩:=H 2 ⟨.guard,by simp,rfl⟩ _ _ rfl rfl
        exact dg1 rfl rfl h64 (bf _) (fun e=>(e_field rfl (G 5 _ rfl (F.g 5 rfl)).ev u192 rfl sz54)) rfl hf rfl hK rfl
       ·intro a w Q' hf hi H G hK
        obtain⟨_,h64,rfl⟩:=H 2 ⟨.guard,by simp,rfl⟩ _ _ rfl rfl
        obtain⟨_,h65,rfl⟩:=H 3 ⟨.data,by simp,rfl⟩ _ _ rfl rfl
        exact dg1 rfl rfl h64 (bf _) (fun e=>(e_loadN [.int .u64 us.roles.a,.int .u64 us.roles.b,.int .u64 us.roles.c,.int .u64 us.roles.d] rfl (h65.on e).ev u54 rfl sz54 (whole_part ((M.keep hi).b 0 rfl) rfl))) rfl hf rfl hK rfl
       ·intro a w Q' hf hi H G hK
        obtain⟨_,h64,rfl⟩:=H 2 ⟨.guard,by simp,rfl⟩ _ _ rfl rfl
        exact dg1 rfl rfl h64 (bf _) (fun e=>(e_field rfl (G 3 _ rfl (F.g 3 rfl)).ev u74 rfl sz3)) rfl hf rfl hK rfl
       ·intro a w Q' hf hi H G hK
        obtain⟨_,h64,rfl⟩:=H 2 ⟨.guard,by simp,rfl⟩ _ _ rfl rfl
        obtain⟨_,h67,rfl⟩:=H 5 ⟨.data,by simp,rfl⟩ _ _ rfl rfl
        exact dg1 rfl rfl h64 (bf _) (fun e=>(e_load1 rfl (h67.on e).ev u3 rfl (((M.keep hi).b 1 rfl).c1 1))) rfl hf rfl hK rfl
       ·intro a w Q' hf hi H G hK
        obtain⟨_,h64,rfl⟩:=H 2 ⟨.chain,by simp,rfl⟩ _ _ rfl rfl
        obtain⟨_,h66,rfl⟩:=H 4 ⟨.data,by simp,rfl⟩ _ _ rfl rfl
        obtain⟨_,h68,rfl⟩:=H 6 ⟨.data,by simp,rfl⟩ _ _ rfl rfl
        exact dgq1 rfl rfl h64 (bf _) (fun e=>(e_call rfl Tryz.func18 nm18 rfl (args2 (h66.on e).ev (h68.on e).ev))) (fun e=>rhas_any _ us.roles okus.roles c.role) rfl hf rfl hK (fun _=>rfl)
       ·intro a w Q' hf hi H G hK
        obtain⟨_,h64,rfl⟩:=H 2 ⟨.guard,by simp,rfl⟩ _ _ rfl rfl
        obtain⟨_,h69,rfl⟩:=H 7 ⟨.data,by simp,rfl⟩ _ _ rfl rfl
        exact dg1 rfl rfl h64 (bf _) (fun e=>(e_not rfl (h69.on e).ev)) rfl hf rfl hK rfl
       ·intro a w Q' hf hi H G hK
        obtain⟨_,h64,rfl⟩:=H 2 ⟨.data,by simp,rfl⟩ _ _ rfl rfl
        obtain⟨_,h70,rfl⟩:=H 8 ⟨.data,by simp,rfl⟩ _ _ rfl rfl
        exact dv (on rfl) (rq (e_pick rfl h64.ev rfl h70.ev) (pkT _ _)) rfl hf rfl hK rfl
       ·intro a w Q' hf hi H G hK
        obtain⟨_,h71,rfl⟩:=H 9 ⟨.data,by simp,rfl⟩ _ _ rfl rfl
        exact dv (on rfl) (e_move rfl h71.ev) rfl hf rfl hK rfl
       ·intro a w Q' hf hi H G hK
        obtain⟨_,h72,rfl⟩:=H 10 ⟨.guard,by simp,rfl⟩ _ _ rfl rfl
        exact dg1 rfl rfl h72 (bf _) (fun e=>(e_field rfl (G 2 _ rfl (F.g 2 rfl)).ev u39 rfl sz25)) rfl hf rfl hK rfl
       ·intro a w Q' hf hi H G hK
        obtain⟨_,h72,rfl⟩:=H 10 ⟨.guard,by simp,rfl⟩ _ _ rfl rfl
        obtain⟨_,h73,rfl⟩:=H 11 ⟨.data,by simp,rfl⟩ _ _ rfl rfl
        exact dg1 rfl rfl h72 (bf _) (fun e=>(e_load1 rfl (h73.on e).ev u25 rfl (((M.keep hi).b 2 rfl).c1 3))) rfl hf rfl hK rfl
       ·intro a w Q' hf hi H G hK
        obtain⟨_,h72,rfl⟩:=H 10 ⟨.guard,by simp,rfl⟩ _ _ rfl rfl
        exact dg1 rfl rfl h72 (bf _) (fun e=>(e_field rfl (G 3 _ rfl (F.g 3 rfl)).ev u74 rfl sz3)) rfl hf rfl hK rfl
       ·intro a w Q' hf hi H G hK
        obtain⟨_,h72,rfl⟩:=H 10 ⟨.guard,by simp,rfl⟩ _ _ rfl rfl
        obtain⟨_,h75,rfl⟩:=H 13 ⟨.data,by simp,rfl⟩ _ _ rfl rfl
        exact dg1 rfl rfl h72 (bf _) (fun e=>(e_load1 rfl (h75.on e).ev u3 rfl (((M.keep hi).b 1 rfl).c1 1))) rfl hf rfl hK rfl
       ·intro a w Q' hf hi H G hK
        obtain⟨_,h72,rfl⟩:=H 10 ⟨.guard,by simp,rfl⟩ _ _ rfl rfl
        obtain⟨_,h74,rfl⟩:=H 12 ⟨.data,by simp,rfl⟩ _ _ rfl rfl
        obtain⟨_,h76,rfl⟩:=H 14 ⟨.data,by simp,rfl⟩ _ _ rfl rfl
        replace h76:=h76.eq (congrArg (fun x=>gd _ (Value.int .i64 x)) hrn.symm)
        exact dg1 rfl rfl h72 (bf _) (fun e=>(e_indexAddr (i:=c.role.toNat) rfl (h74.on e).ev (h76.on e).ev (by omega) u25 sz188)) rfl hf rfl hK rfl
       ·intro a w Q' hf hi H G hK
        obtain⟨_,h72,rfl⟩:=H 10 ⟨.guard,by simp,rfl⟩ _ _ rfl rfl
        obtain⟨_,h77,rfl⟩:=H 15 ⟨.data,by simp,rfl⟩ _ _ rfl rfl
        exact dg1 rfl rfl h72 (bf _) (fun e=>(e_field rfl (h77.on e).ev u188 rfl sz54)) rfl hf rfl hK rfl
       ·intro a w Q' hf hi H G hK
        obtain⟨_,h72,rfl⟩:=H 10 ⟨.guard,by simp,rfl⟩ _ _ rfl rfl
        obtain⟨_,h78,rfl⟩:=H 16 ⟨.data,by simp,rfl⟩ _ _ rfl rfl
        exact dg1 rfl rfl h72 (bf _) (fun e=>(e_loadN [.int .u64 rl.types.a,.int .u64 rl.types.b,.int .u64 rl.types.c,.int .u64 rl.types.d] rfl (h78.on e).ev u54 rfl sz54 (run_part (lat (M.keep hi).below hrb3) rfl))) rfl hf rfl hK rfl
       ·intro a w Q' hf hi H G hK
        obtain⟨_,h72,rfl⟩:=H 10 ⟨.guard,by simp,rfl⟩ _ _ rfl rfl
        exact dg1 rfl rfl h72 (bf _) (fun e=>(e_field rfl (G 3 _ rfl (F.g 3 rfl)).ev u74 rfl sz3)) rfl hf rfl hK rfl
       ·intro a w Q' hf hi H G hK
        obtain⟨_,h72,rfl⟩:=H 10 ⟨.guard,by simp,rfl⟩ _ _ rfl rfl
        obtain⟨_,h80,rfl⟩:=H 18 ⟨.data,by simp,rfl⟩ _ _ rfl rfl
        exact dg1 rfl rfl h72 (bf _) (fun e=>(e_load1 rfl (h80.on e).ev u3 rfl (((M.keep hi).b 1 rfl).c1 2))) rfl hf rfl hK rfl
       ·intro a w Q' hf hi H G hK
        obtain⟨_,h72,rfl⟩:=H 10 ⟨.chain,by simp,rfl⟩ _ _ rfl rfl
        obtain⟨_,h79,rfl⟩:=H 17 ⟨.data,by simp,rfl⟩ _ _ rfl rfl
        obtain⟨_,h81,rfl⟩:=H 19 ⟨.data,by simp,rfl⟩ _ _ rfl rfl
        exact dgq1 rfl rfl h72 (bf _) (fun e=>(e_call rfl Tryz.func18 nm18 rfl (args2 (h79.on e).ev (h81.on e).ev))) (fun e=>rhas_any _ rl.types okrl.types c.typ) rfl hf rfl hK (fun _=>rfl)
       ·intro a w Q' hf hi H G hK
        obtain⟨_,h72,rfl⟩:=H 10 ⟨.guard,by simp,rfl⟩ _ _ rfl rfl
        obtain⟨_,h82,rfl⟩:=H 20 ⟨.data,by simp,rfl⟩ _ _ rfl rfl
        exact dg1 rfl rfl h72 (bf _) (fun e=>(e_not rfl (h82.on e).ev)) rfl hf rfl hK rfl
       ·intro a w Q' hf hi H G hK
        obtain⟨_,h72,rfl⟩:=H 10 ⟨.data,by simp,rfl⟩ _ _ rfl rfl
        obtain⟨_,h83,rfl⟩:=H 21 ⟨.data,by simp,rfl⟩ _ _ rfl rfl
        exact dv (on rfl) (rq (e_pick rfl h72.ev rfl h83.ev) (pkT _ _)) rfl hf rfl hK rfl
       (repeat clear F);intro _ _ hbq F D
       obtain⟨_,h,rfl⟩:=D 22 _ _ rfl rfl;have F:=F.add h
       have M:=M.keep hbq
       clear D hbq
       refine hK16 _ _ ?_
       cases hq20:(domB us.rng.high c.rng.high:Bool) with
       | true =>
        have F:=F.eq 6 rfl (congrArg Value.bool hq20)
        cases hq21:(us.roles.mem c.role:Bool) with
        | true =>
         cases hq22:(rl.types.mem c.typ:Bool) with
         | true =>
          have F:=F.eq 84 rfl (congrArg Value.bool ((or0 ((or0 (show(!(domB us.rng.high c.rng.high))=false by simp[hq20])).trans (show(!(us.roles.mem c.role))=false by simp[hq21]))).trans (show(!(rl.types.mem c.typ))=false by simp[hq22])))
          refine wp_cond_false (F.e 84 rfl) ?_
          refine wp_skip <|
           hK15 _ _ ?_
          refine wp_seq_k fun K17 hK17 =>
           wk_region <|
           xA (v:=.int .i64 0) F rf rf rf fun _ F =>
           wpList_nil <|
           hK17 _ _ ?_
          refine wp_ret <|
           HRET _ _ _ _ F rfl ?_
          exact⟨ret_int (by refine Eq.symm ?_;unfold placeM;rw[placeIn_eq hus hrl];repeat (first | with_reducible rfl | assumption | (with_reducible refine Eq.trans (if_pos ?_) ?_;focus (first | assumption | (refine wk_nf ?_;assumption) | (refine wk_nt ?_;assumption) | omega | (simp[hd5,hd8,hd11,hd14,hd17,hq19,hq20,hq21,hq22];done))) | (with_reducible refine Eq.trans (if_neg ?_) ?_;focus (first | assumption | (refine wk_nf ?_;assumption) | (refine wk_nt ?_;assumption) | omega | (simp[hd5,hd8,hd11,hd14,hd17,hq19,hq20,hq21,hq22];done))) | omega)),M.below⟩
         | false =>
          have F:=F.eq 84 rfl (congrArg Value.bool ((or0 ((or0 (show(!(domB us.rng.high c.rng.high))=false by simp[hq20])).trans (show(!(us.roles.mem c.role))=false by simp[hq21]))).trans (show(!(rl.types.mem c.typ))=true by simp[hq22])))
          refine wp_cond_true (F.e 84 rfl) ?_
          refine wp_seq_k fun K18 hK18 =>
           wk_region <|
           xA (v:=.int .i64 19) F rf rf rf fun _ F =>
           wpList_nil <|
           hK18 _ _ ?_
          refine wp_ret <|
           HRET _ _ _ _ F rfl ?_
          exact⟨ret_int (by refine Eq.symm ?_;unfold placeM;rw[placeIn_eq hus hrl];repeat (first | with_reducible rfl | assumption | (with_reducible refine Eq.trans (if_pos ?_) ?_;focus (first | assumption | (refine wk_nf ?_;assumption) | (refine wk_nt ?_;assumption) | omega | (simp[hd5,hd8,hd11,hd14,hd17,hq19,hq20,hq21];done))) | (with_reducible refine Eq.trans (if_neg ?_) ?_;focus (first | assumption | (refine wk_nf ?_;assumption) | (refine wk_nt ?_;assumption) | omega | (simp[hd5,hd8,hd11,hd14,hd17,hq19,hq20,hq21,hq22];done))) | omega)),M.below⟩
        | false =>
         have F:=F.eq 84 rfl (congrArg Value.bool (or1 ((or0 (show(!(domB us.rng.high c.rng.high))=false by simp[hq20])).trans (show(!(us.roles.mem c.role))=true by simp[hq21]))))
         refine wp_cond_true (F.e 84 rfl) ?_
         refine wp_seq_k fun K19 hK19 =>
          wk_region <|
          xA (v:=.int .i64 19) F rf rf rf fun _ F =>
          wpList_nil <|
          hK19 _ _ ?_
         refine wp_ret <|
          HRET _ _ _ _ F rfl ?_
         exact⟨ret_int (by refine Eq.symm ?_;unfold placeM;rw[placeIn_eq hus hrl];repeat (first | with_reducible rfl | assumption | (with_reducible refine Eq.trans (if_pos ?_) ?_;focus (first | assumption | (refine wk_nf ?_;assumption) | (refine wk_nt ?_;assumption) | omega | (simp[hd5,hd8,hd11,hd14,hd17,hq19,hq20];done))) | (with_reducible refine Eq.trans (if_neg ?_) ?_;focus (first | assumption | (refine wk_nf ?_;assumption) | (refine wk_nt ?_;assumption) | omega | (simp[hd5,hd8,hd11,hd14,hd17,hq19,hq20,hq21];done))) | omega)),M.below⟩
       | false =>
        have F:=F.eq 84 rfl (congrArg Value.bool (or1 (or1 (show(!(domB us.rng.high c.rng.high))=true by simp[hq20]))))
        refine wp_cond_true (F.e 84 rfl) ?_
        refine wp_seq_k fun K20 hK20 =>
         wk_region <|
         xA (v:=.int .i64 19) F rf rf rf fun _ F =>
         wpList_nil <|
         hK20 _ _ ?_
        refine wp_ret <|
         HRET _ _ _ _ F rfl ?_
        exact⟨ret_int (by refine Eq.symm ?_;unfold placeM;rw[placeIn_eq hus hrl];repeat (first | with_reducible rfl | assumption | (with_reducible refine Eq.trans (if_pos ?_) ?_;focus (first | assumption | (refine wk_nf ?_;assumption) | (refine wk_nt ?_;assumption) | omega | (simp[hd5,hd8,hd11,hd14,hd17,hq19];done))) | (with_reducible refine Eq.trans (if_neg ?_) ?_;focus (first | assumption | (refine wk_nf ?_;assumption) | (refine wk_nt ?_;assumption) | omega | (simp[hd5,hd8,hd11,hd14,hd17,hq19,hq20];done))) | omega)),M.below⟩
      | false =>
       have F:=F.eq 53 rfl (congrArg Value.bool hq19)
       refine ko rfl rfl rfl (F.g 53 rfl) rfl F rfl fun _ F =>
        ko rfl rfl rfl (F.g 53 rfl) rfl F rfl fun _ F =>
        ko rfl rfl rfl (F.g 53 rfl) rfl F rfl fun _ F =>
        ko rfl rfl rfl (F.g 53 rfl) rfl F rfl fun _ F =>
        ko rfl rfl rfl (F.g 53 rfl) rfl F rfl fun _ F =>
        ko rfl rfl rfl (F.g 53 rfl) rfl F rfl fun _ F =>
        ko rfl rfl rfl (F.g 53 rfl) rfl F rfl fun _ F =>
        ke (u:=.bool false) (on rfl) (e_pick rfl (F.u rf) (F.u rf) rfl) rfl F rfl rfl fun _ F =>
        xA F rf rf rf fun _ F =>
        wpList_nil <|
        hK14 _ _ ?_
       refine wp_seq_k fun K21 hK21 =>
        wp_seq_k fun K22 hK22=>?_
       have hrn:((c.role.toNat:Nat):Int)=c.role:=by omega
       have hlr:c.role.toNat<p.roles.length:=by omega
       obtain⟨rl,hrl⟩:∃ rl,p.roles[c.role.toNat]?=some rl:=⟨_,List.getElem?_eq_getElem hlr⟩
       obtain⟨b3,ob3,rfl,hcb3⟩:=hcell3 c.role.toNat hlr
       have hrb3:∀ j uu,[.string rl.name,.int .u64 rl.types.a,.int .u64 rl.types.b,.int .u64 rl.types.c,.int .u64 rl.types.d,.int .u64 rl.next.a,.int .u64 rl.next.b,.int .u64 rl.next.c,.int .u64 rl.next.d][j]?=some uu→w0.cell? ⟨b3,ob3+c.role.toNat*9+j,none⟩=some uu:=fun j u hu=>hcb3 j u (by
        rw[flat_at ARol.cells_len hrl j (List.getElem?_eq_some_iff.1 hu).1]
        exact hu)
       clear hcb3
       have okrl:=hok.roles rl (List.mem_of_getElem? hrl)
       refine rd 23 [62,63,64,65,66,67,68,69,70,71,72,73,74,75,76,77,78,79,80,81,82,83,84] [isV (.bool false),isV (.bool true),isV (.bool true),isV (undef),isV (undef),isV (undef),isV (undef),isV (undef),isV (undef),isV (.bool true),isV (.bool true),isV (undef),isV (undef),isV (undef),isV (undef),isV (undef),isV (undef),isV (undef),isV (undef),isV (undef),isV (undef),isV (undef),isV (.bool true)] (by kernel_rfl) (by kernel_rfl) (by kernel_rfl) rfl (by decide) rfl rfl F ⟨lasts_is _,lasts_is _,lasts_is _,lasts_is _,lasts_is _,lasts_is _,lasts_is _,lasts_is _,lasts_is _,lasts_is _,lasts_is _,lasts_is _,lasts_is _,lasts_is _,lasts_is _,lasts_is _,lasts_is _,lasts_is _,lasts_is _,lasts_is _,lasts_is _,lasts_is _,lasts_is _,trivial⟩ ⟨?_,?_,?_,?_,?_,?_,?_,?_,?_,?_,?_,?_,?_,?_,?_,?_,?_,?_,?_,?_,?_,?_,?_,trivial⟩ ?_
       ·intro a w Q' hf hi H G hK
        exact dv (on rfl) (e_move rfl (G 6 _ rfl (F.g 6 rfl)).ev) rfl hf rfl hK rfl
       ·intro a w Q' hf hi H G hK
        obtain⟨_,h62,rfl⟩:=H 0 ⟨.data,by simp,rfl⟩ _ _ rfl rfl
        exact dv (on rfl) (e_not rfl h62.ev) rfl hf rfl hK rfl
       ·intro a w Q' hf hi H G hK
        obtain⟨_,h63,rfl⟩:=H 1 ⟨.data,by simp,rfl⟩ _ _ rfl rfl
        exact dv (on rfl) (e_move rfl h63.ev) rfl hf rfl hK rfl
       ·intro a w Q' hf hi H G hK
        obtain⟨_,h64,rfl⟩:=H 2 ⟨.guard,by simp,rfl⟩ _ _ rfl rfl
        exact do1 rfl rfl rfl h64 rfl hf rfl hK rfl
       ·intro a w Q' hf hi H G hK
        obtain⟨_,h64,rfl⟩:=H 2 ⟨.guard,by simp,rfl⟩ _ _ rfl rfl
        exact do1 rfl rfl rfl h64 rfl hf rfl hK rfl
       ·intro a w Q' hf hi H G hK
        obtain⟨_,h64,rfl⟩:=H 2 ⟨.guard,by simp,rfl⟩ _ _ rfl rfl
        exact do1 rfl rfl rfl h64 rfl hf rfl hK rfl
       ·intro a w Q' hf hi H G hK
        obtain⟨_,h64,rfl⟩:=H 2 ⟨.guard,by simp,rfl⟩ _ _ rfl rfl
        exact do1 rfl rfl rfl h64 rfl hf rfl hK rfl
       ·intro a w Q' hf hi H G hK
        obtain⟨_,h64,rfl⟩:=H 2 ⟨.chain,by simp,rfl⟩ _ _ rfl rfl
        exact do1 rfl rfl rfl h64 rfl hf rfl hK rfl
       ·intro a w Q' hf hi H G hK
        obtain⟨_,h64,rfl⟩:=H 2 ⟨.guard,by simp,rfl⟩ _ _ rfl rfl
        exact do1 rfl rfl rfl h64 rfl hf rfl hK rfl
       ·intro a w Q' hf hi H G hK
        obtain⟨_,h64,rfl⟩:=H 2 ⟨.data,by simp,rfl⟩ _ _ rfl rfl
        obtain⟨_,h70,rfl⟩:=H 8 ⟨.data,by simp,rfl⟩ _ _ rfl rfl
        exact dv (on rfl) (e_pick rfl h64.ev rfl h70.ev) rfl hf rfl hK rfl
       ·intro a w Q' hf hi H G hK
        obtain⟨_,h71,rfl⟩:=H 9 ⟨.data,by simp,rfl⟩ _ _ rfl rfl
        exact dv (on rfl) (e_move rfl h71.ev) rfl hf rfl hK rfl
       ·intro a w Q' hf hi H G hK
        obtain⟨_,h72,rfl⟩:=H 10 ⟨.guard,by simp,rfl⟩ _ _ rfl rfl
        exact do1 rfl rfl rfl h72 rfl hf rfl hK rfl
       ·intro a w Q' hf hi H G hK
        obtain⟨_,h72,rfl⟩:=H 10 ⟨.guard,by simp,rfl⟩ _ _ rfl rfl
        exact do1 rfl rfl rfl h72 rfl hf rfl hK rfl
       ·intro a w Q' hf hi H G hK
        obtain⟨_,h72,rfl⟩:=H 10 ⟨.guard,by simp,rfl⟩ _ _ rfl rfl
        exact do1 rfl rfl rfl h72 rfl hf rfl hK rfl
       ·intro a w Q' hf hi H G hK
        obtain⟨_,h72,rfl⟩:=H 10 ⟨.guard,by simp,rfl⟩ _ _ rfl rfl
        exact do1 rfl rfl rfl h72 rfl hf rfl hK rfl
       ·intro a w Q' hf hi H G hK
        obtain⟨_,h72,rfl⟩:=H 10 ⟨.guard,by simp,rfl⟩ _ _ rfl rfl
        exact do1 rfl rfl rfl h72 rfl hf rfl hK rfl
       ·intro a w Q' hf hi H G hK
        obtain⟨_,h72,rfl⟩:=H 10 ⟨.guard,by simp,rfl⟩ _ _ rfl rfl
        exact do1 rfl rfl rfl h72 rfl hf rfl hK rfl
       ·intro a w Q' hf hi H G hK
        obtain⟨_,h72,rfl⟩:=H 10 ⟨.guard,by simp,rfl⟩ _ _ rfl rfl
        exact do1 rfl rfl rfl h72 rfl hf rfl hK rfl
       ·intro a w Q' hf hi H G hK
        obtain⟨_,h72,rfl⟩:=H 10 ⟨.guard,by simp,rfl⟩ _ _ rfl rfl
        exact do1 rfl rfl rfl h72 rfl hf rfl hK rfl
       ·intro a w Q' hf hi H G hK
        obtain⟨_,h72,rfl⟩:=H 10 ⟨.guard,by simp,rfl⟩ _ _ rfl rfl
        exact do1 rfl rfl rfl h72 rfl hf rfl hK rfl
       ·intro a w Q' hf hi H G hK
        obtain⟨_,h72,rfl⟩:=H 10 ⟨.chain,by simp,rfl⟩ _ _ rfl rfl
        exact do1 rfl rfl rfl h72 rfl hf rfl hK rfl
       ·intro a w Q' hf hi H G hK
        obtain⟨_,h72,rfl⟩:=H 10 ⟨.guard,by simp,rfl⟩ _ _ rfl rfl
        exact do1 rfl rfl rfl h72 rfl hf rfl hK rfl
       ·intro a w Q' hf hi H G hK
        obtain⟨_,h72,rfl⟩:=H 10 ⟨.data,by simp,rfl⟩ _ _ rfl rfl
        obtain⟨_,h83,rfl⟩:=H 21 ⟨.data,by simp,rfl⟩ _ _ rfl rfl
        exact dv (on rfl) (e_pick rfl h72.ev rfl h83.ev) rfl hf rfl hK rfl
       (repeat clear F);intro _ _ hbq F D
       obtain⟨_,h,rfl⟩:=D 22 _ _ rfl rfl;have F:=F.add h
       have M:=M.keep hbq
       clear D hbq
       refine hK22 _ _ ?_
       refine wp_cond_true (F.e 84 rfl) ?_
       refine wp_seq_k fun K23 hK23 =>
        wk_region <|
        xA (v:=.int .i64 19) F rf rf rf fun _ F =>
        wpList_nil <|
        hK23 _ _ ?_
       refine wp_ret <|
        HRET _ _ _ _ F rfl ?_
       exact⟨ret_int (by refine Eq.symm ?_;unfold placeM;rw[placeIn_eq hus hrl];repeat (first | with_reducible rfl | assumption | (with_reducible refine Eq.trans (if_pos ?_) ?_;focus (first | assumption | (refine wk_nf ?_;assumption) | (refine wk_nt ?_;assumption) | omega | (simp[hd5,hd8,hd11,hd14,hd17];done))) | (with_reducible refine Eq.trans (if_neg ?_) ?_;focus (first | assumption | (refine wk_nf ?_;assumption) | (refine wk_nt ?_;assumption) | omega | (simp[hd5,hd8,hd11,hd14,hd17,hq19];done))) | omega)),M.below⟩
set_option maxRecDepth 100000 in
set_option maxHeartbeats 4000000 in
theorem check02_str (w0:World) (x:ByteArray) (hx:StrOk x):Calls Tryz.prog 117 #[.agg #[.int .i64 3,.string x,.int .i64 0,.int .i64 0]] w0 (fun(e:Ending) (w':World)=>e=.returned (.bool (quotedB x))∧RowKit.Below w0.heap.size w0 w'):=by
 have HRET:=hr1 Tryz.prog Tryz.f117 (fun(e:Ending) (w':World)=>e=.returned (.bool (quotedB x))∧RowKit.Below w0.heap.size w0 w') 30 2 rfl
 refine en Tryz.func117 rfl Tryz.ntmps117 rfl (vs:=[.agg #[.int .i64 3,.string x,.int .i64 0,.int .i64 0]]) rfl fun _ F=>?_
 have M:=Mm.start w0
 refine wp_seq_k fun K1 hK1 =>
  wk_region <|
  kbA (on rfl) rfl (F.u rf) rfl F rfl M fun g1 _ _ F M =>
  xA (v:=.bool false) F rf rf rf fun _ F =>
  wpList_nil <|
  hK1 _ _ ?_
 refine wp_seq_k fun K2 hK2 =>
  wp_seq_k fun K3 hK3 =>
  wk_region <|
  xF 0 F rf rf rf u212 rf sz3 rf fun _ F =>
  xL F (M.b 0 rfl) rf rf rf u3 rf rf fun _ F =>
  wpList_nil <|
  hK3 _ _ ?_
 refine wp_block <|
  wp_seq_k fun K4 hK4 =>
  wk_region <|
  ke (on rfl) (e_eqI rfl (F.u rf) rfl) rfl F rfl (congrArg Value.bool (show decide ((3:Int)=0)=false by decide)) fun _ F =>
  xA F rf rf rf fun _ F =>
  wpList_nil <|
  hK4 _ _ ?_
 refine wp_cond_false (F.e 5 rfl) ?_
 refine wp_seq_k fun K5 hK5 =>
  wk_region <|
  ke (on rfl) (e_eqI rfl (F.u rf) rfl) rfl F rfl (congrArg Value.bool (show decide ((3:Int)=1)=false by decide)) fun _ F =>
  xA F rf rf rf fun _ F =>
  wpList_nil <|
  hK5 _ _ ?_
 refine wp_cond_false (F.e 10 rfl) ?_
 refine wp_seq_k fun K6 hK6 =>
  wk_region <|
  ke (on rfl) (e_eqI rfl (F.u rf) rfl) rfl F rfl (congrArg Value.bool (show decide ((3:Int)=2)=false by decide)) fun _ F =>
  xA F rf rf rf fun _ F =>
  wpList_nil <|
  hK6 _ _ ?_
 refine wp_cond_false (F.e 15 rfl) ?_
 refine wp_seq_k fun K7 hK7 =>
  wk_region <|
  ke (on rfl) (e_eqI rfl (F.u rf) rfl) rfl F rfl (congrArg Value.bool (show decide ((3:Int)=3)=true by decide)) fun _ F =>
  xA F rf rf rf fun _ F =>
  wpList_nil <|
  hK7 _ _ ?_
 refine wp_cond_true (F.e 20 rfl) ?_
 refine wp_seq_k fun K8 hK8 =>
  wk_region <|
  xF 1 F rf rf rf u212 rf sz9 rf fun _ F =>
  xL F (M.b 0 rfl) rf rf rf u9 rf rf fun _ F =>
  xQ F rf rf q200 (args1 (F.u rf)) (quoted_any _ x hx) fun _ F =>
  xA F rf rf rf fun _ F =>
  wpList_nil <|
  hK8 _ _ ?_
 refine wp_ret <|
  HRET _ _ _ _ F rfl ?_
 exact⟨rfl,M.below⟩
def sidM (p:APol) (before:List ByteArray) (y:ASid):Int:=if namesM [y.name] before=0 then placeM p y.ctx else namesM [y.name] before
def sidF (p:APol) (i:Nat):Int:=match p.sids[i]? with
 | some y=>sidM p ((p.sids.take i).map (·.name)) y
 | none=>0
def fileM (p:APol) (y:AFil):Int:=if emptyB y.pat=true then 10 else if quotedB y.pat=false then 10 else if y.kind<0 then 13 else if 4<y.kind then 13 else placeM p y.ctx
def fileF (p:APol) (i:Nat):Int:=match p.files[i]? with
 | some y=>fileM p y
 | none=>0
def labelsM (p:APol):Int:=if 1024<p.sids.length then 4 else if firstE (sidF p) p.sids.length 0=0 then (if 256<p.files.length then 4 else firstE (fileF p) p.files.length 0) else firstE (sidF p) p.sids.length 0
set_option maxRecDepth 100000 in
set_option maxHeartbeats 4000000 in
theorem labels_any (w0:World) (c0 c1 c2 c3 c4 c5 c6 c7 c8 c9 c10 c11 c12 c13 c14 c15 c16:Value) (p:APol) (hp:PolAt w0 c0 c1 c2 c3 c4 c5 c6 c7 c8 c9 c10 c11 c12 c13 c14 c15 c16 p) (hok:p.Ok):Calls Tryz.prog 50 #[.agg #[c0,c1,c2,c3,c4,c5,c6,c7,c8,c9,c10,c11,c12,c13,c14,c15,c16]] w0 (RI w0 (labelsM p)):=by
 obtain⟨la14,lk14,rfl,hk14,hm14,hcell14⟩:=SliceAt.form hp.sids (by decide)
 obtain⟨la15,lk15,rfl,hk15,hm15,hcell15⟩:=SliceAt.form hp.files (by decide)
 have HRET:=hr1 Tryz.prog Tryz.f50 (RI w0 (labelsM p)) 94 2 rfl
 refine en Tryz.func50 rfl Tryz.ntmps50 rfl (vs:=[.agg #[c0,c1,c2,c3,c4,c5,c6,c7,c8,c9,c10,c11,c12,c13,.slice la14 p.sids.length lk14,.slice la15 p.files.length lk15,c16]]) rfl fun _ F=>?_
 have M:=Mm.start w0
 refine wp_seq_k fun K1 hK1 =>
  wk_region <|
  kbA (on rfl) rfl (F.u rf) rfl F rfl M fun g1 _ _ F M =>
  xA (v:=.int .i64 0) F rf rf rf fun _ F =>
  wpList_nil <|
  hK1 _ _ ?_
 refine wp_seq_k fun K2 hK2 =>
  wp_seq_k fun K3 hK3 =>
  wk_region <|
  xF 14 F rf rf rf u39 rf sz35 rf fun _ F =>
  xL F (M.b 0 rfl) rf rf rf u35 rf rf fun _ F =>
  kz F rf (e_lenSl rfl (F.u rf) u35) fun _ F =>
  kz F rf (e_gtr rfl (F.u rf) rfl) fun _ F =>
  wpList_nil <|
  hK3 _ _ ?_
 refine wp_cond_split (F.e 13 rfl) (fun hc2=>?_) (fun hc2=>?_)
 ·
  have hd3:=of_decide_eq_true hc2
  refine wp_seq_k fun K4 hK4 =>
   wk_region <|
   xA (v:=.int .i64 4) F rf rf rf fun _ F =>
   wpList_nil <|
   hK4 _ _ ?_
  refine wp_ret <|
   HRET _ _ _ _ F rfl ?_
  exact⟨ret_int (by unfold labelsM;rw[if_pos (by omega)]),M.below⟩
 ·
  have hd4:=of_decide_eq_false hc2
  refine wp_skip <|
   hK2 _ _ ?_
  refine wp_seq_k fun K5 hK5 =>
   wk_region <|
   xA (v:=.slice none 0 0) F rf rf rf fun _ F =>
   wpList_nil <| ?_
  have M:=M.nilRow 9 1
  refine hK5 _ _ ?_
  refine wp_seq_k fun K6 hK6 =>
   wp_seq_k fun K7 hK7 =>
   wk_region <|
   xA (v:=.int .i64 0) F rf rf rf fun _ F =>
   wpList_nil <|
   hK7 _ _ ?_
  refine wp_block <| ?_
  refine wk_loop (ι:=Nat×Value×List ByteArray) (fun | (m,v,l),a,w=>Fs a 94 [(1,.pointer (some ⟨g1,0,none⟩)),(3,v),(4,.int .i64 (m:Int))]∧Mm w0 w [(g1,39,#[c0,c1,c2,c3,c4,c5,c6,c7,c8,c9,c10,c11,c12,c13,.slice la14 p.sids.length lk14,.slice la15 p.files.length lk15,c16])] [⟨v,9,1,l.length,l.flatMap strCell⟩]∧m≤p.sids.length∧l=(p.sids.take m).map (·.name)∧firstE (sidF p) p.sids.length 0=firstE (sidF p) (p.sids.length-m) m) (fun | (m,v,l)=>p.sids.length-m) (0,.slice none 0 0,[]) ⟨F.sub ⟨rfl,rfl,rfl,trivial⟩,M,Nat.zero_le _,rfl,(by rw[Nat.sub_zero])⟩ ?_
  (repeat clear F);(repeat clear M)
  rintro⟨m,v,l⟩ _ _ ⟨F,M,hm,hl,hinv⟩
  refine wp_seq_k fun K8 hK8 =>
   wp_seq_k fun K9 hK9 =>
   wk_region <|
   xM F rf rf rf fun _ F =>
   xF 14 F rf rf rf u39 rf sz35 rf fun _ F =>
   xL F (M.b 0 rfl) rf rf rf u35 rf rf fun _ F =>
   kz F rf (e_lenSl rfl (F.u rf) u35) fun _ F =>
   kz F rf (e_lss rfl (F.u rf) (F.u rf)) fun _ F =>
   wpList_nil <|
   hK9 _ _ ?_
  refine wp_cond_split (F.e 18 rfl) (fun hc5=>?_) (fun hc5=>?_)
  ·
   have hd6:=of_decide_eq_true hc5
   refine wp_skip <|
    hK8 _ _ ?_
   refine wp_seq_k fun K10 hK10 =>
    wp_block <|
    wp_seq_k fun K11 hK11 =>
    wp_seq_k fun K12 hK12=>?_
   have hlt:m<p.sids.length:=by omega
   obtain⟨y,hy⟩:∃ y,p.sids[m]?=some y:=⟨_,List.getElem?_eq_getElem hlt⟩
   obtain⟨b14,ob14,rfl,hcb14⟩:=hcell14 m hlt
   have hrb14:∀ j uu,[.string y.name,.int .i64 y.ctx.user,.int .i64 y.ctx.role,.int .i64 y.ctx.typ,.int .i64 y.ctx.rng.low.sens,.int .u64 y.ctx.rng.low.cats,.int .i64 y.ctx.rng.high.sens,.int .u64 y.ctx.rng.high.cats][j]?=some uu→w0.cell? ⟨b14,ob14+m*8+j,none⟩=some uu:=fun j u hu=>hcb14 j u (by
    rw[flat_at ASid.cells_len hy j (List.getElem?_eq_some_iff.1 hu).1]
    exact hu)
   clear hcb14
   have oky:=hok.sids y (List.mem_of_getElem? hy)
   have hcf:sidF p m=sidM p l y:=by unfold sidF;rw[hy,hl]
   have hlm:l.length≤4096:=by rw[hl,List.length_map,List.length_take];omega
   have okc:=oky.ctx
   refine wk_region <|
    xF 14 F rf rf rf u39 rf sz35 rf fun _ F =>
    xL F (M.b 0 rfl) rf rf rf u35 rf rf fun _ F =>
    xM F rf rf rf fun _ F =>
    kz F rf (e_indexAddr (i:=m) rfl (F.u rf) (F.u rf) (by omega) u35 sz125) fun _ F =>
    xF (ob14+m*8) F rf rf rf u125 rf sz9 rf fun _ F =>
    kz F rf (e_load1 rf (F.u rf) u9 rfl ((lat M.below hrb14) 0 _ rfl)) fun _ F =>
    xS F M rf rf rf u28 sz9 zr9 rf rf fun g7 _ _ F M =>
    xM F rf rf rf fun _ F =>
    xC F M rf rf q101 (args2 (F.u rf) (F.u rf)) (names_any _ _ _ ([y.name]) (l) (one_str (M.b 0 rfl)) (own_strs (M.r 0 rfl)) (one_ok oky.name)) fun _ _ F M =>
    xA F rf rf rf fun _ F =>
    wpList_nil <|
    hK12 _ _ ?_
   refine wp_seq_k fun K13 hK13 =>
    wk_region <|
    xM F rf rf rf fun _ F =>
    kz F rf (e_neI rfl (F.u rf) rfl) fun _ F =>
    wpList_nil <|
    hK13 _ _ ?_
   refine wp_cond_split (F.e 31 rfl) (fun hc8=>?_) (fun hc8=>?_)
   ·
    have hd9:=of_decide_eq_false (show decide (namesM [y.name] l=0)=false by simpa using hc8)
    have hk10:(decide (namesM [y.name] l=0))=false:=by simpa using hc8
    refine wp_seq_k fun K14 hK14 =>
     wk_region <|
     xM F rf rf rf fun _ F =>
     xA F rf rf rf fun _ F =>
     wpList_nil <|
     hK14 _ _ ?_
    refine wp_ret <|
     HRET _ _ _ _ F rfl ?_
    have hv:sidF p m=namesM [y.name] l:=by
     rw[hcf];unfold sidM;repeat (first | with_reducible rfl | assumption | (with_reducible refine Eq.trans (if_pos ?_) ?_;focus (first | assumption | (refine wk_nf ?_;assumption) | (refine wk_nt ?_;assumption) | omega | (simp[hd9];done))) | (with_reducible refine Eq.trans (if_neg ?_) ?_;focus (first | assumption | (refine wk_nf ?_;assumption) | (refine wk_nt ?_;assumption) | omega | (simp[hd4,hd6,hd9];done))) | omega)
    exact⟨ret_int (by unfold labelsM;rw[if_neg (by omega),if_neg (by rw[hinv,firstE_at hlt (by rw[hv];omega),hv];omega),hinv,firstE_at hlt (by rw[hv];omega),hv]),M.below⟩
   ·
    have hd11:=of_decide_eq_true (show decide (namesM [y.name] l=0)=true by simpa using hc8)
    have hk12:(decide (namesM [y.name] l=0))=true:=by simpa using hc8
    refine wp_skip <|
     hK11 _ _ ?_
    refine wp_seq_k fun K15 hK15 =>
     wk_region <|
     xM F rf rf rf fun _ F =>
     xF 14 F rf rf rf u39 rf sz35 rf fun _ F =>
     xL F (M.b 1 rfl) rf rf rf u35 rf rf fun _ F =>
     xM F rf rf rf fun _ F =>
     kz F rf (e_indexAddr (i:=m) rfl (F.u rf) (F.u rf) (by omega) u35 sz125) fun _ F =>
     xF (ob14+m*8) F rf rf rf u125 rf sz9 rf fun _ F =>
     kz F rf (e_load1 rf (F.u rf) u9 rfl ((lat M.below hrb14) 0 _ rfl)) fun _ F =>
     xS F M rf rf rf u28 sz9 zr9 rf rf fun g13 _ _ F M =>
     kp (on rfl) rfl u28 inf9 rfl M 0 rfl (F.u rf) (F.u rf) (M.slice 0 rfl rfl rfl (by simp[maxLen])) ⟨by unfold maxLen;omega,by omega⟩ rfl F rfl fun v14 _ _ F M =>
     xA F rf rf rf fun _ F =>
     wpList_nil <|
     hK15 _ _ ?_
    refine wp_seq_k fun K16 hK16=>?_
    refine rd 9 [42,43,44,45,46,47,48,49,6] [isV (.agg #[c0,c1,c2,c3,c4,c5,c6,c7,c8,c9,c10,c11,c12,c13,.slice (some ⟨b14,ob14,none⟩) p.sids.length lk14,.slice la15 p.files.length lk15,c16]),isV (.pointer (some ⟨g1,14,none⟩)),isV (.slice (some ⟨b14,ob14,none⟩) p.sids.length lk14),isV (.int .i64 (m:Int)),isV (.pointer (some ⟨b14,ob14+m*8,none⟩)),isV (.pointer (some ⟨b14,ob14+m*8+1,none⟩)),isV (.agg #[.int .i64 y.ctx.user,.int .i64 y.ctx.role,.int .i64 y.ctx.typ,.int .i64 y.ctx.rng.low.sens,.int .u64 y.ctx.rng.low.cats,.int .i64 y.ctx.rng.high.sens,.int .u64 y.ctx.rng.high.cats]),isV (.int .i64 (placeM p y.ctx)),isV (.int .i64 (placeM p y.ctx))] (by kernel_rfl) (by kernel_rfl) (by kernel_rfl) rfl (by decide) rfl rfl F ⟨lasts_is _,lasts_is _,lasts_is _,lasts_is _,lasts_is _,lasts_is _,lasts_is _,lasts_is _,lasts_is _,trivial⟩ ⟨?_,?_,?_,?_,?_,?_,?_,?_,?_,trivial⟩ ?_
    ·intro a w Q' hf hi H G hK
     exact dv (on rfl) (e_loadW rfl (G 1 _ rfl (F.g 1 rfl)).ev u39 rfl ((M.keep hi).b 2 rfl) sz39 rfl) rfl hf rfl hK rfl
    ·intro a w Q' hf hi H G hK
     exact dv (on rfl) (e_field rfl (G 1 _ rfl (F.g 1 rfl)).ev u39 rfl sz35) rfl hf rfl hK rfl
    ·intro a w Q' hf hi H G hK
     obtain⟨_,h43,rfl⟩:=H 1 ⟨.data,by simp,rfl⟩ _ _ rfl rfl
     exact dv (on rfl) (e_load1 rfl h43.ev u35 rfl (((M.keep hi).b 2 rfl).c1 14)) rfl hf rfl hK rfl
    ·intro a w Q' hf hi H G hK
     exact dv (on rfl) (e_move rfl (G 4 _ rfl (F.g 4 rfl)).ev) rfl hf rfl hK rfl
    ·intro a w Q' hf hi H G hK
     obtain⟨_,h44,rfl⟩:=H 2 ⟨.data,by simp,rfl⟩ _ _ rfl rfl
     obtain⟨_,h45,rfl⟩:=H 3 ⟨.data,by simp,rfl⟩ _ _ rfl rfl
     exact dv (on rfl) (e_indexAddr (i:=m) rfl h44.ev h45.ev (by omega) u35 sz125) rfl hf rfl hK rfl
    ·intro a w Q' hf hi H G hK
     obtain⟨_,h46,rfl⟩:=H 4 ⟨.data,by simp,rfl⟩ _ _ rfl rfl
     exact dv (on rfl) (e_field rfl h46.ev u125 rfl sz74) rfl hf rfl hK rfl
    ·intro a w Q' hf hi H G hK
     obtain⟨_,h47,rfl⟩:=H 5 ⟨.data,by simp,rfl⟩ _ _ rfl rfl
     exact dv (on rfl) (e_loadN [.int .i64 y.ctx.user,.int .i64 y.ctx.role,.int .i64 y.ctx.typ,.int .i64 y.ctx.rng.low.sens,.int .u64 y.ctx.rng.low.cats,.int .i64 y.ctx.rng.high.sens,.int .u64 y.ctx.rng.high.cats] rfl h47.ev u74 rfl sz74 (run_part (lat (M.keep hi).below hrb14) rfl)) rfl hf rfl hK rfl
    ·intro a w Q' hf hi H G hK
     obtain⟨_,h42,rfl⟩:=H 0 ⟨.data,by simp,rfl⟩ _ _ rfl rfl
     obtain⟨_,h48,rfl⟩:=H 6 ⟨.data,by simp,rfl⟩ _ _ rfl rfl
     exact dc (on rfl) (e_call rfl Tryz.func116 nm116 rfl (args2 h42.ev h48.ev)) (place_any _ _ _ _ _ _ _ _ _ _ _ _ _ _ _ _ _ _ p (hp.keep (M.keep hi).below) hok y.ctx oky.ctx) rfl hf rfl hK (fun _=>rfl)
    ·intro a w Q' hf hi H G hK
     obtain⟨_,h49,rfl⟩:=H 7 ⟨.data,by simp,rfl⟩ _ _ rfl rfl
     exact dv (on rfl) (e_assign rfl h49.ev) rfl hf rfl hK rfl
    (repeat clear F);intro _ _ hbq F D
    obtain⟨_,h,rfl⟩:=D 8 _ _ rfl rfl;have F:=F.add h
    have M:=M.keep hbq
    clear D hbq
    refine hK16 _ _ ?_
    refine wp_seq_k fun K17 hK17 =>
     wk_region <|
     xM F rf rf rf fun _ F =>
     kz F rf (e_neI rfl (F.u rf) rfl) fun _ F =>
     wpList_nil <|
     hK17 _ _ ?_
    refine wp_cond_split (F.e 51 rfl) (fun hc15=>?_) (fun hc15=>?_)
    ·
     have hd16:=of_decide_eq_false (show decide (placeM p y.ctx=0)=false by simpa using hc15)
     have hk17:(decide (placeM p y.ctx=0))=false:=by simpa using hc15
     refine wp_seq_k fun K18 hK18 =>
      wk_region <|
      xM F rf rf rf fun _ F =>
      xA F rf rf rf fun _ F =>
      wpList_nil <|
      hK18 _ _ ?_
     refine wp_ret <|
      HRET _ _ _ _ F rfl ?_
     have hv:sidF p m=placeM p y.ctx:=by
      rw[hcf];unfold sidM;repeat (first | with_reducible rfl | assumption | (with_reducible refine Eq.trans (if_pos ?_) ?_;focus (first | assumption | (refine wk_nf ?_;assumption) | (refine wk_nt ?_;assumption) | omega | (simp[hd4,hd6,hd11,hd16];done))) | (with_reducible refine Eq.trans (if_neg ?_) ?_;focus (first | assumption | (refine wk_nf ?_;assumption) | (refine wk_nt ?_;assumption) | omega | (simp[hd4,hd6,hd11,hd16];done))) | omega)
     exact⟨ret_int (by unfold labelsM;rw[if_neg (by omega),if_neg (by rw[hinv,firstE_at hlt (by rw[hv];omega),hv];omega),hinv,firstE_at hlt (by rw[hv];omega),hv]),M.below⟩
    ·
     have hd18:=of_decide_eq_true (show decide (placeM p y.ctx=0)=true by simpa using hc15)
     have hk19:(decide (placeM p y.ctx=0))=true:=by simpa using hc15
     refine wp_skip <|
      hK10 _ _ ?_
     refine wk_region <|
      xM F rf rf rf fun _ F =>
      ke (on rfl) (e_add rfl (F.u rf) rfl) rfl F rfl (congrArg (Value.int .i64) (wrap_i64 (by omega))) fun _ F =>
      xA F rf rf rf fun _ F =>
      wpList_nil <| ?_
     have hv:sidF p m=0:=by
      rw[hcf];unfold sidM;repeat (first | with_reducible rfl | assumption | (with_reducible refine Eq.trans (if_pos ?_) ?_;focus (first | assumption | (refine wk_nf ?_;assumption) | (refine wk_nt ?_;assumption) | omega | (simp[hd4,hd6,hd11,hd18];done))) | (with_reducible refine Eq.trans (if_neg ?_) ?_;focus (first | assumption | (refine wk_nf ?_;assumption) | (refine wk_nt ?_;assumption) | omega | (simp[hd4,hd6,hd11,hd18];done))) | omega)
     exact⟨(m+1,v14,l++[y.name]),⟨F.sub ⟨rfl,rfl,rfl,trivial⟩,((M.only (.cons _ (.cons _ (.cons_cons _ .slnil))) (.cons_cons _ .slnil))).cast rfl (by rw[List.length_append,List.flatMap_append];rfl),by omega,by rw[take_snoc hy,List.map_append,← hl];rfl,hinv.trans (firstE_next hlt hv)⟩,by show p.sids.length-(m+1)<p.sids.length-m;omega⟩
  ·
   have hd20:=of_decide_eq_false hc5
   refine wp_exit <|
    hK6 _ _ ?_
   refine wp_seq_k fun K19 hK19 =>
    wp_seq_k fun K20 hK20 =>
    wk_region <|
    xF 15 F rf rf rf u39 rf sz36 rf fun _ F =>
    xL F (M.b 0 rfl) rf rf rf u36 rf rf fun _ F =>
    kz F rf (e_lenSl rfl (F.u rf) u36) fun _ F =>
    kz F rf (e_gtr rfl (F.u rf) rfl) fun _ F =>
    wpList_nil <|
    hK20 _ _ ?_
   refine wp_cond_split (F.e 56 rfl) (fun hc21=>?_) (fun hc21=>?_)
   ·
    have hd22:=of_decide_eq_true hc21
    refine wp_seq_k fun K21 hK21 =>
     wk_region <|
     xA (v:=.int .i64 4) F rf rf rf fun _ F =>
     wpList_nil <|
     hK21 _ _ ?_
    refine wp_ret <|
     HRET _ _ _ _ F rfl ?_
    exact⟨ret_int (by unfold labelsM;rw[if_neg (by omega),if_pos (by rw[hinv,show m=p.sids.length by omega,firstE_stop]),if_pos (by omega)]),M.below⟩
   ·
    have hd23:=of_decide_eq_false hc21
    refine wp_skip <|
     hK19 _ _ ?_
    refine wp_seq_k fun K22 hK22 =>
     wp_seq_k fun K23 hK23 =>
     wk_region <|
     xA (v:=.int .i64 0) F rf rf rf fun _ F =>
     wpList_nil <|
     hK23 _ _ ?_
    refine wp_block <| ?_
    have hz0:firstE (sidF p) p.sids.length 0=0:=by rw[hinv,show m=p.sids.length by omega,firstE_stop]
    refine wk_loop (ι:=Nat) (fun i a w=>Fs a 94 [(1,.pointer (some ⟨g1,0,none⟩)),(7,.int .i64 (i:Int))]∧Mm w0 w [(g1,39,#[c0,c1,c2,c3,c4,c5,c6,c7,c8,c9,c10,c11,c12,c13,.slice la14 p.sids.length lk14,.slice la15 p.files.length lk15,c16])] []∧i≤p.files.length∧firstE (fileF p) p.files.length 0=firstE (fileF p) (p.files.length-i) i) (fun i=>p.files.length-i) 0 ⟨F.sub ⟨rfl,rfl,trivial⟩,M.only (.cons_cons _ .slnil) (.cons _ .slnil),Nat.zero_le _,(by rw[Nat.sub_zero])⟩ ?_
    (repeat clear F);(repeat clear M)
    rintro i _ _ ⟨F,M,him,hinz⟩
    refine wp_seq_k fun K24 hK24 =>
     wp_seq_k fun K25 hK25 =>
     wk_region <|
     xM F rf rf rf fun _ F =>
     xF 15 F rf rf rf u39 rf sz36 rf fun _ F =>
     xL F (M.b 0 rfl) rf rf rf u36 rf rf fun _ F =>
     kz F rf (e_lenSl rfl (F.u rf) u36) fun _ F =>
     kz F rf (e_lss rfl (F.u rf) (F.u rf)) fun _ F =>
     wpList_nil <|
     hK25 _ _ ?_
    refine wp_cond_split (F.e 61 rfl) (fun hc24=>?_) (fun hc24=>?_)
    ·
     have hd25:=of_decide_eq_true hc24
     refine wp_skip <|
      hK24 _ _ ?_
     refine wp_seq_k fun K26 hK26 =>
      wp_block <|
      wp_seq_k fun K27 hK27=>?_
     have hlz:i<p.files.length:=by omega
     obtain⟨z,hz⟩:∃ z,p.files[i]?=some z:=⟨_,List.getElem?_eq_getElem hlz⟩
     obtain⟨b15,ob15,rfl,hcb15⟩:=hcell15 i hlz
     have hrb15:∀ j uu,[.string z.pat,.int .i64 z.kind,.int .i64 z.ctx.user,.int .i64 z.ctx.role,.int .i64 z.ctx.typ,.int .i64 z.ctx.rng.low.sens,.int .u64 z.ctx.rng.low.cats,.int .i64 z.ctx.rng.high.sens,.int .u64 z.ctx.rng.high.cats][j]?=some uu→w0.cell? ⟨b15,ob15+i*9+j,none⟩=some uu:=fun j u hu=>hcb15 j u (by
      rw[flat_at AFil.cells_len hz j (List.getElem?_eq_some_iff.1 hu).1]
      exact hu)
     clear hcb15
     have okz:=hok.files z (List.mem_of_getElem? hz)
     have hcg:fileF p i=fileM p z:=by unfold fileF;rw[hz]
     refine wk_region <|
      xF 15 F rf rf rf u39 rf sz36 rf fun _ F =>
      xL F (M.b 0 rfl) rf rf rf u36 rf rf fun _ F =>
      xM F rf rf rf fun _ F =>
      kz F rf (e_indexAddr (i:=i) rfl (F.u rf) (F.u rf) (by omega) u36 sz127) fun _ F =>
      kz F rf (e_loadN [.string z.pat,.int .i64 z.kind,.int .i64 z.ctx.user,.int .i64 z.ctx.role,.int .i64 z.ctx.typ,.int .i64 z.ctx.rng.low.sens,.int .u64 z.ctx.rng.low.cats,.int .i64 z.ctx.rng.high.sens,.int .u64 z.ctx.rng.high.cats] rfl (F.u rf) u127 rfl sz127 (lat M.below hrb15)) fun _ F =>
      kaA (on rfl) rfl zr127 rfl F rfl M fun g26 _ _ F M =>
      ksA (on rfl) rfl (F.u rf) (F.u rf) F M 0 rfl sz127 rfl rfl rfl fun _ M =>
      wpList_nil <|
      hK27 _ _ ?_
     refine wp_seq_k fun K28 hK28 =>
      wp_seq_k fun K29 hK29 =>
      wk_region <|
      xF 0 F rf rf rf u127 rf sz9 rf fun _ F =>
      xL F (M.b 0 rfl) rf rf rf u9 rf rf fun _ F =>
      kz F rf (e_eqE rfl (F.u rf) rfl) fun _ F =>
      xM F rf rf rf fun _ F=>?_
     cases hq27:(emptyB z.pat:Bool) with
     | true =>
      have F:=F.eq 72 rfl (congrArg Value.bool hq27)
      refine ko rfl rfl rfl (F.g 72 rfl) rfl F rfl fun _ F =>
       ko rfl rfl rfl (F.g 72 rfl) rfl F rfl fun _ F =>
       ko rfl rfl rfl (F.g 72 rfl) rfl F rfl fun _ F =>
       ko rfl rfl rfl (F.g 72 rfl) rfl F rfl fun _ F =>
       ko rfl rfl rfl (F.g 72 rfl) rfl F rfl fun _ F =>
       ke (u:=.bool true) (on rfl) (e_pick rfl (F.u rf) rfl (F.u rf)) rfl F rfl rfl fun _ F =>
       wpList_nil <|
       hK29 _ _ ?_
      refine wp_cond_true (F.e 78 rfl) ?_
      refine wp_seq_k fun K30 hK30 =>
       wk_region <|
       xA (v:=.int .i64 10) F rf rf rf fun _ F =>
       wpList_nil <|
       hK30 _ _ ?_
      refine wp_ret <|
       HRET _ _ _ _ F rfl ?_
      have hv:fileF p i=10:=by
       rw[hcg];unfold fileM;repeat (first | with_reducible rfl | assumption | (with_reducible refine Eq.trans (if_pos ?_) ?_;focus (first | assumption | (refine wk_nf ?_;assumption) | (refine wk_nt ?_;assumption) | omega | (simp[hd4,hd20,hd23,hd25,hq27];done))) | (with_reducible refine Eq.trans (if_neg ?_) ?_;focus (first | assumption | (refine wk_nf ?_;assumption) | (refine wk_nt ?_;assumption) | omega | (simp[hd4,hd20,hd23,hd25,hq27];done))) | omega)
      exact⟨ret_int (by unfold labelsM;rw[if_neg (by omega),if_pos hz0,if_neg (by omega),hinz,firstE_at hlz (by rw[hv];omega),hv]),M.below⟩
     | false =>
      have F:=F.eq 72 rfl (congrArg Value.bool hq27)
      refine ke (u:=.pointer (some ⟨g26,0,none⟩)) (gn rfl rfl (F.g 72 rfl)) (e_field rfl (F.u rf) u127 rfl sz9) rfl F rfl rfl fun _ F =>
       kv (gn rfl rfl (F.g 72 rfl)) (e_load1 rfl (F.u rf) u9 rfl ((M.b 0 rfl).c1 0)) rfl F rfl fun _ F =>
       kv (gn rfl rfl (F.g 72 rfl)) (e_build rfl (pv:=#[(0,.int .i64 3),(1,.string z.pat)]) (by simp[(F.e 74 rfl),BigFrame.eval_const]) (cells:=#[.int .i64 3,.string z.pat,.int .i64 0,.int .i64 0]) (by kernel_rfl)) rfl F rfl fun _ F =>
       kc (gn rfl rfl (F.g 72 rfl)) (e_call rfl Tryz.func117 nm117 rfl (args1 (F.u rf))) (check02_str _ z.pat okz.pat) rfl F rfl M fun _ _ F M =>
       kv (gn rfl rfl (F.g 72 rfl)) (e_not rfl (F.u rf)) rfl F rfl fun _ F =>
       ke (u:=.bool (!(quotedB z.pat))) (on rfl) (e_pick rfl (F.u rf) rfl (F.u rf)) rfl F rfl rfl fun _ F =>
       wpList_nil <|
       hK29 _ _ ?_
      refine wp_cond_split (F.e 78 rfl) (fun hc28=>?_) (fun hc28=>?_)
      ·
       have hd29:(quotedB z.pat)=false:=by simpa using hc28
       refine wp_seq_k fun K31 hK31 =>
        wk_region <|
        xA (v:=.int .i64 10) F rf rf rf fun _ F =>
        wpList_nil <|
        hK31 _ _ ?_
       refine wp_ret <|
        HRET _ _ _ _ F rfl ?_
       have hv:fileF p i=10:=by
        rw[hcg];unfold fileM;repeat (first | with_reducible rfl | assumption | (with_reducible refine Eq.trans (if_pos ?_) ?_;focus (first | assumption | (refine wk_nf ?_;assumption) | (refine wk_nt ?_;assumption) | omega | (simp[hq27];done))) | (with_reducible refine Eq.trans (if_neg ?_) ?_;focus (first | assumption | (refine wk_nf ?_;assumption) | (refine wk_nt ?_;assumption) | omega | (simp[hd4,hd20,hd23,hd25,hq27,hd29];done))) | omega)
       exact⟨ret_int (by unfold labelsM;rw[if_neg (by omega),if_pos hz0,if_neg (by omega),hinz,firstE_at hlz (by rw[hv];omega),hv]),M.below⟩
      ·
       have hd30:(quotedB z.pat)=true:=by simpa using hc28
       refine wp_skip <|
        hK28 _ _ ?_
       refine wp_seq_k fun K32 hK32 =>
        wp_seq_k fun K33 hK33 =>
        wk_region <|
        xF 1 F rf rf rf u127 rf sz3 rf fun _ F =>
        xL F (M.b 0 rfl) rf rf rf u3 rf rf fun _ F =>
        kz F rf (e_lss rfl (F.u rf) rfl) fun _ F =>
        xM F rf rf rf fun _ F=>?_
       cases hq31:(decide (z.kind<0):Bool) with
       | true =>
        have F:=F.eq 82 rfl (congrArg Value.bool hq31)
        have hd32:=of_decide_eq_true hq31
        refine ko rfl rfl rfl (F.g 82 rfl) rfl F rfl fun _ F =>
         ko rfl rfl rfl (F.g 82 rfl) rfl F rfl fun _ F =>
         ko rfl rfl rfl (F.g 82 rfl) rfl F rfl fun _ F =>
         ke (u:=.bool true) (on rfl) (e_pick rfl (F.u rf) rfl (F.u rf)) rfl F rfl rfl fun _ F =>
         wpList_nil <|
         hK33 _ _ ?_
        refine wp_cond_true (F.e 86 rfl) ?_
        refine wp_seq_k fun K34 hK34 =>
         wk_region <|
         xA (v:=.int .i64 13) F rf rf rf fun _ F =>
         wpList_nil <|
         hK34 _ _ ?_
        refine wp_ret <|
         HRET _ _ _ _ F rfl ?_
        have hv:fileF p i=13:=by
         rw[hcg];unfold fileM;repeat (first | with_reducible rfl | assumption | (with_reducible refine Eq.trans (if_pos ?_) ?_;focus (first | assumption | (refine wk_nf ?_;assumption) | (refine wk_nt ?_;assumption) | omega | (simp[hq27,hd30];done))) | (with_reducible refine Eq.trans (if_neg ?_) ?_;focus (first | assumption | (refine wk_nf ?_;assumption) | (refine wk_nt ?_;assumption) | omega | (simp[hd4,hd20,hd23,hd25,hq27,hd30,hd32];done))) | omega)
        exact⟨ret_int (by unfold labelsM;rw[if_neg (by omega),if_pos hz0,if_neg (by omega),hinz,firstE_at hlz (by rw[hv];omega),hv]),M.below⟩
       | false =>
        have F:=F.eq 82 rfl (congrArg Value.bool hq31)
        have hd33:=of_decide_eq_false hq31
        refine ke (u:=.pointer (some ⟨g26,1,none⟩)) (gn rfl rfl (F.g 82 rfl)) (e_field rfl (F.u rf) u127 rfl sz3) rfl F rfl rfl fun _ F =>
         kv (gn rfl rfl (F.g 82 rfl)) (e_load1 rfl (F.u rf) u3 rfl ((M.b 0 rfl).c1 1)) rfl F rfl fun _ F =>
         kv (gn rfl rfl (F.g 82 rfl)) (e_gtr rfl (F.u rf) rfl) rfl F rfl fun _ F =>
         ke (u:=.bool (decide (4<z.kind))) (on rfl) (e_pick rfl (F.u rf) rfl (F.u rf)) rfl F rfl rfl fun _ F =>
         wpList_nil <|
         hK33 _ _ ?_
        refine wp_cond_split (F.e 86 rfl) (fun hc34=>?_) (fun hc34=>?_)
        ·
         have hd35:=of_decide_eq_true hc34
         refine wp_seq_k fun K35 hK35 =>
          wk_region <|
          xA (v:=.int .i64 13) F rf rf rf fun _ F =>
          wpList_nil <|
          hK35 _ _ ?_
         refine wp_ret <|
          HRET _ _ _ _ F rfl ?_
         have hv:fileF p i=13:=by
          rw[hcg];unfold fileM;repeat (first | with_reducible rfl | assumption | (with_reducible refine Eq.trans (if_pos ?_) ?_;focus (first | assumption | (refine wk_nf ?_;assumption) | (refine wk_nt ?_;assumption) | omega | (simp[hq27,hd30,hd33];done))) | (with_reducible refine Eq.trans (if_neg ?_) ?_;focus (first | assumption | (refine wk_nf ?_;assumption) | (refine wk_nt ?_;assumption) | omega | (simp[hd4,hd20,hd23,hd25,hq27,hd30,hd33,hd35];done))) | omega)
         exact⟨ret_int (by unfold labelsM;rw[if_neg (by omega),if_pos hz0,if_neg (by omega),hinz,firstE_at hlz (by rw[hv];omega),hv]),M.below⟩
        ·
         have hd36:=of_decide_eq_false hc34
         refine wp_skip <|
          hK32 _ _ ?_
         refine wp_seq_k fun K36 hK36 =>
          wk_region <|
          xW F (M.b 1 rfl) rf rf rf u39 rf sz39 rf fun _ F =>
          xF 2 F rf rf rf u127 rf sz74 rf fun _ F =>
          kz F rf (e_loadN [.int .i64 z.ctx.user,.int .i64 z.ctx.role,.int .i64 z.ctx.typ,.int .i64 z.ctx.rng.low.sens,.int .u64 z.ctx.rng.low.cats,.int .i64 z.ctx.rng.high.sens,.int .u64 z.ctx.rng.high.cats] rfl (F.u rf) u74 rfl sz74 (whole_part (M.b 0 rfl) rfl)) fun _ F =>
          xC F M rf rf q116 (args2 (F.u rf) (F.u rf)) (place_any _ _ _ _ _ _ _ _ _ _ _ _ _ _ _ _ _ _ p (hp.keep M.below) hok z.ctx okz.ctx) fun _ _ F M =>
          xA F rf rf rf fun _ F =>
          wpList_nil <|
          hK36 _ _ ?_
         refine wp_seq_k fun K37 hK37 =>
          wk_region <|
          xM F rf rf rf fun _ F =>
          kz F rf (e_neI rfl (F.u rf) rfl) fun _ F =>
          wpList_nil <|
          hK37 _ _ ?_
         refine wp_cond_split (F.e 92 rfl) (fun hc37=>?_) (fun hc37=>?_)
         ·
          have hd38:=of_decide_eq_false (show decide (placeM p z.ctx=0)=false by simpa using hc37)
          have hk39:(decide (placeM p z.ctx=0))=false:=by simpa using hc37
          refine wp_seq_k fun K38 hK38 =>
           wk_region <|
           xM F rf rf rf fun _ F =>
           xA F rf rf rf fun _ F =>
           wpList_nil <|
           hK38 _ _ ?_
          refine wp_ret <|
           HRET _ _ _ _ F rfl ?_
          have hv:fileF p i=placeM p z.ctx:=by
           rw[hcg];unfold fileM;repeat (first | with_reducible rfl | assumption | (with_reducible refine Eq.trans (if_pos ?_) ?_;focus (first | assumption | (refine wk_nf ?_;assumption) | (refine wk_nt ?_;assumption) | omega | (simp[hq27,hd30,hd33,hd36];done))) | (with_reducible refine Eq.trans (if_neg ?_) ?_;focus (first | assumption | (refine wk_nf ?_;assumption) | (refine wk_nt ?_;assumption) | omega | (simp[hd4,hd20,hd23,hd25,hq27,hd30,hd33,hd36,hd38];done))) | omega)
          exact⟨ret_int (by unfold labelsM;rw[if_neg (by omega),if_pos hz0,if_neg (by omega),hinz,firstE_at hlz (by rw[hv];omega),hv]),M.below⟩
         ·
          have hd40:=of_decide_eq_true (show decide (placeM p z.ctx=0)=true by simpa using hc37)
          have hk41:(decide (placeM p z.ctx=0))=true:=by simpa using hc37
          refine wp_skip <|
           hK26 _ _ ?_
          refine wk_region <|
           xM F rf rf rf fun _ F =>
           ke (on rfl) (e_add rfl (F.u rf) rfl) rfl F rfl (congrArg (Value.int .i64) (wrap_i64 (by omega))) fun _ F =>
           xA F rf rf rf fun _ F =>
           wpList_nil <| ?_
          have hv:fileF p i=0:=by
           rw[hcg];unfold fileM;repeat (first | with_reducible rfl | assumption | (with_reducible refine Eq.trans (if_pos ?_) ?_;focus (first | assumption | (refine wk_nf ?_;assumption) | (refine wk_nt ?_;assumption) | omega | (simp[hq27,hd30,hd33,hd36];done))) | (with_reducible refine Eq.trans (if_neg ?_) ?_;focus (first | assumption | (refine wk_nf ?_;assumption) | (refine wk_nt ?_;assumption) | omega | (simp[hd4,hd20,hd23,hd25,hq27,hd30,hd33,hd36,hd40];done))) | omega)
          exact⟨i+1,⟨F.sub ⟨rfl,rfl,trivial⟩,(M.only (.cons _ (.cons_cons _ .slnil)) .slnil),by omega,hinz.trans (firstE_next hlz hv)⟩,by show p.files.length-(i+1)<p.files.length-i;omega⟩
    ·
     have hd42:=of_decide_eq_false hc24
     refine wp_exit <|
      hK22 _ _ ?_
     refine wp_seq_k fun K39 hK39 =>
      wk_region <|
      xA (v:=.int .i64 0) F rf rf rf fun _ F =>
      wpList_nil <|
      hK39 _ _ ?_
     refine wp_ret <|
      HRET _ _ _ _ F rfl ?_
     exact⟨ret_int (by unfold labelsM;rw[if_neg (by omega),if_pos hz0,if_neg (by omega),hinz,show i=p.files.length by omega,firstE_stop]),M.below⟩
end Go.Proofs.YtdcofoaihmongaaGreat
namespace Go.Proofs.YtdcofoaihmongaaGreat
open Go Go.RowKit
def rtM (nT nC nR:Nat) (y:ARtr):Int :=
 if rolesB nR y.roles=false then 3 else if y.types.within (ASet.all nT)=false then 3 else if belowB y.cls (nC:Int)=false then 3 else if belowB y.res (nR:Int)=false then 3
 else if y.res=0 then 3 else if y.roles=ASet.zero then 2 else if someB y.types=false then 2 else 0
def rtF (p:APol) (i:Nat):Int:=match p.rtrans[i]? with
 | some y=>rtM p.types.length p.classes.length p.roles.length y
 | none=>0
def rgM (nT nC nS nK:Nat) (y:ARgt):Int :=
 if y.src.within (ASet.all nT)=false then 3 else if y.tgt.within (ASet.all nT)=false then 3 else if belowB y.cls (nC:Int)=false then 3
 else if someB y.src=false then 2 else if someB y.tgt=false then 2 else if rangeB nS nK y.rng=false then 18 else 0
def rgF (p:APol) (i:Nat):Int:=match p.ranges[i]? with
 | some y=>rgM p.types.length p.classes.length p.sens.length p.cats.length y
 | none=>0
def changesM (p:APol):Int:=if 1024<p.rtrans.length then 4 else if firstE (rtF p) p.rtrans.length 0=0 then (if 1024<p.ranges.length then 4 else firstE (rgF p) p.ranges.length 0) else firstE (rtF p) p.rtrans.length 0
set_option maxRecDepth 100000 in
set_option maxHeartbeats 4000000 in
theorem changes_any (w0:World) (c0 c1 c2 c3 c4 c5 c6 c7 c8 c9 c10 c11 c12 c13 c14 c15 c16:Value) (p:APol) (hp:PolAt w0 c0 c1 c2 c3 c4 c5 c6 c7 c8 c9 c10 c11 c12 c13 c14 c15 c16 p) (hok:p.Ok):Calls Tryz.prog 48 #[.agg #[c0,c1,c2,c3,c4,c5,c6,c7,c8,c9,c10,c11,c12,c13,c14,c15,c16]] w0 (RI w0 (changesM p)):=by
 obtain⟨la0,lk0,rfl,hk0,hm0,hcell0⟩:=RowsAt.form hp.classes (by decide)
 obtain⟨la1,lk1,rfl,hk1,hm1,hcell1⟩:=RowsAt.form hp.types (by decide)
 obtain⟨la3,lk3,rfl,hk3,hm3,hcell3⟩:=SliceAt.form hp.roles (by decide)
 obtain⟨la11,lk11,rfl,hk11,hm11,hcell11⟩:=SliceAt.form hp.rtrans (by decide)
 obtain⟨la12,lk12,rfl,hk12,hm12,hcell12⟩:=SliceAt.form hp.ranges (by decide)
 have HRET:=hr1 Tryz.prog Tryz.f48 (RI w0 (changesM p)) 143 2 rfl
 refine en Tryz.func48 rfl Tryz.ntmps48 rfl (vs:=[.agg #[.slice la0 p.classes.length lk0,.slice la1 p.types.length lk1,c2,.slice la3 p.roles.length lk3,c4,c5,c6,c7,c8,c9,c10,.slice la11 p.rtrans.length lk11,.slice la12 p.ranges.length lk12,c13,c14,c15,c16]]) rfl fun _ F=>?_
 have M:=Mm.start w0
 refine wp_seq_k fun K1 hK1 =>
  wk_region <|
  kbA (on rfl) rfl (F.u rf) rfl F rfl M fun g1 _ _ F M =>
  xA (v:=.int .i64 0) F rf rf rf fun _ F =>
  wpList_nil <|
  hK1 _ _ ?_
 refine wp_seq_k fun K2 hK2 =>
  wp_seq_k fun K3 hK3 =>
  wk_region <|
  xF 11 F rf rf rf u39 rf sz32 rf fun _ F =>
  xL F (M.b 0 rfl) rf rf rf u32 rf rf fun _ F =>
  kz F rf (e_lenSl rfl (F.u rf) u32) fun _ F =>
  kz F rf (e_gtr rfl (F.u rf) rfl) fun _ F =>
  wpList_nil <|
  hK3 _ _ ?_
 refine wp_cond_split (F.e 18 rfl) (fun hc2=>?_) (fun hc2=>?_)
 ·
  have hd3:=of_decide_eq_true hc2
  refine wp_seq_k fun K4 hK4 =>
   wk_region <|
   xA (v:=.int .i64 4) F rf rf rf fun _ F =>
   wpList_nil <|
   hK4 _ _ ?_
  refine wp_ret <|
   HRET _ _ _ _ F rfl ?_
  exact⟨ret_int (by unfold changesM;rw[if_pos (by omega)]),M.below⟩
 ·
  have hd4:=of_decide_eq_false hc2
  refine wp_skip <|
   hK2 _ _ ?_
  refine wp_seq_k fun K5 hK5 =>
   wp_seq_k fun K6 hK6 =>
   wk_region <|
   xA (v:=.int .i64 0) F rf rf rf fun _ F =>
   wpList_nil <|
   hK6 _ _ ?_
  refine wp_block <| ?_
  refine wk_loop (ι:=Nat) (fun m a w=>Fs a 143 [(1,.pointer (some ⟨g1,0,none⟩)),(3,.int .i64 (m:Int))]∧Mm w0 w [(g1,39,#[.slice la0 p.classes.length lk0,.slice la1 p.types.length lk1,c2,.slice la3 p.roles.length lk3,c4,c5,c6,c7,c8,c9,c10,.slice la11 p.rtrans.length lk11,.slice la12 p.ranges.length lk12,c13,c14,c15,c16])] []∧m≤p.rtrans.length∧firstE (rtF p) p.rtrans.length 0=firstE (rtF p) (p.rtrans.length-m) m) (fun m=>p.rtrans.length-m) 0 ⟨F.sub ⟨rfl,rfl,trivial⟩,M,Nat.zero_le _,(by rw[Nat.sub_zero])⟩ ?_
  (repeat clear F);(repeat clear M)
  rintro m _ _ ⟨F,M,hm,hinv⟩
  refine wp_seq_k fun K7 hK7 =>
   wp_seq_k fun K8 hK8 =>
   wk_region <|
   xM F rf rf rf fun _ F =>
   xF 11 F rf rf rf u39 rf sz32 rf fun _ F =>
   xL F (M.b 0 rfl) rf rf rf u32 rf rf fun _ F =>
   kz F rf (e_lenSl rfl (F.u rf) u32) fun _ F =>
   kz F rf (e_lss rfl (F.u rf) (F.u rf)) fun _ F =>
   wpList_nil <|
   hK8 _ _ ?_
  refine wp_cond_split (F.e 23 rfl) (fun hc5=>?_) (fun hc5=>?_)
  ·
   have hd6:=of_decide_eq_true hc5
   refine wp_skip <|
    hK7 _ _ ?_
   refine wp_seq_k fun K9 hK9 =>
    wp_block <|
    wp_seq_k fun K10 hK10=>?_
   have hlt:m<p.rtrans.length:=by omega
   obtain⟨y,hy⟩:∃ y,p.rtrans[m]?=some y:=⟨_,List.getElem?_eq_getElem hlt⟩
   obtain⟨b11,ob11,rfl,hcb11⟩:=hcell11 m hlt
   have hrb11:∀ j uu,[.int .u64 y.roles.a,.int .u64 y.roles.b,.int .u64 y.roles.c,.int .u64 y.roles.d,.int .u64 y.types.a,.int .u64 y.types.b,.int .u64 y.types.c,.int .u64 y.types.d,.int .i64 y.cls,.int .i64 y.res][j]?=some uu→w0.cell? ⟨b11,ob11+m*10+j,none⟩=some uu:=fun j u hu=>hcb11 j u (by
    rw[flat_at ARtr.cells_len hy j (List.getElem?_eq_some_iff.1 hu).1]
    exact hu)
   clear hcb11
   have oky:=hok.rtrans y (List.mem_of_getElem? hy)
   have hcf:rtF p m=rtM p.types.length p.classes.length p.roles.length y:=by unfold rtF;rw[hy]
   refine wk_region <|
    xF 11 F rf rf rf u39 rf sz32 rf fun _ F =>
    xL F (M.b 0 rfl) rf rf rf u32 rf rf fun _ F =>
    xM F rf rf rf fun _ F =>
    kz F rf (e_indexAddr (i:=m) rfl (F.u rf) (F.u rf) (by omega) u32 sz203) fun _ F =>
    kz F rf (e_loadN [.int .u64 y.roles.a,.int .u64 y.roles.b,.int .u64 y.roles.c,.int .u64 y.roles.d,.int .u64 y.types.a,.int .u64 y.types.b,.int .u64 y.types.c,.int .u64 y.types.d,.int .i64 y.cls,.int .i64 y.res] rfl (F.u rf) u203 rfl sz203 (lat M.below hrb11)) fun _ F =>
    kaA (on rfl) rfl zr203 rfl F rfl M fun g7 _ _ F M =>
    ksA (on rfl) rfl (F.u rf) (F.u rf) F M 0 rfl sz203 rfl rfl rfl fun _ M =>
    wpList_nil <|
    hK10 _ _ ?_
   refine wp_seq_k fun K11 hK11=>?_
   refine rd 10 [31,32,33,34,35,36,37,38,5,6] [isV (.pointer (some ⟨g7,0,none⟩)),isV (.agg #[.int .u64 y.roles.a,.int .u64 y.roles.b,.int .u64 y.roles.c,.int .u64 y.roles.d]),isV (.agg #[.int .u64 0,.int .u64 0,.int .u64 0,.int .u64 0]),isV (.bool (!(decide (y.roles=ASet.zero)))),isV (.agg #[.slice la0 p.classes.length lk0,.slice la1 p.types.length lk1,c2,.slice la3 p.roles.length lk3,c4,c5,c6,c7,c8,c9,c10,.slice (some ⟨b11,ob11,none⟩) p.rtrans.length lk11,.slice la12 p.ranges.length lk12,c13,c14,c15,c16]),isV (.pointer (some ⟨g7,0,none⟩)),isV (.agg #[.int .u64 y.roles.a,.int .u64 y.roles.b,.int .u64 y.roles.c,.int .u64 y.roles.d]),isV (.bool (rolesB p.roles.length y.roles)),isV (.bool (!(decide (y.roles=ASet.zero)))),isV (.bool (rolesB p.roles.length y.roles))] (by kernel_rfl) (by kernel_rfl) (by kernel_rfl) rfl (by decide) rfl rfl F ⟨lasts_is _,lasts_is _,lasts_is _,lasts_is _,lasts_is _,lasts_is _,lasts_is _,lasts_is _,lasts_is _,lasts_is _,trivial⟩ ⟨?_,?_,?_,?_,?_,?_,?_,?_,?_,?_,trivial⟩ ?_
   ·intro a w Q' hf hi H G hK
    exact dv (on rfl) (e_field rfl (G 4 _ rfl (F.g 4 rfl)).ev u203 rfl sz54) rfl hf rfl hK rfl
   ·intro a w Q' hf hi H G hK
    obtain⟨_,h31,rfl⟩:=H 0 ⟨.data,by simp,rfl⟩ _ _ rfl rfl
    exact dv (on rfl) (e_loadN [.int .u64 y.roles.a,.int .u64 y.roles.b,.int .u64 y.roles.c,.int .u64 y.roles.d] rfl h31.ev u54 rfl sz54 (whole_part ((M.keep hi).b 0 rfl) rfl)) rfl hf rfl hK rfl
   ·intro a w Q' hf hi H G hK
    exact dv (on rfl) (e_build rfl (pv:=#[]) (by simp[]) (cells:=#[.int .u64 0,.int .u64 0,.int .u64 0,.int .u64 0]) (by kernel_rfl)) rfl hf rfl hK rfl
   ·intro a w Q' hf hi H G hK
    obtain⟨_,h32,rfl⟩:=H 1 ⟨.data,by simp,rfl⟩ _ _ rfl rfl
    obtain⟨_,h33,rfl⟩:=H 2 ⟨.data,by simp,rfl⟩ _ _ rfl rfl
    exact dv (on rfl) (e_neAg rfl h32.ev h33.ev eg54 (eq_zero _ _)) rfl hf rfl hK rfl
   ·intro a w Q' hf hi H G hK
    exact dv (on rfl) (e_loadW rfl (G 1 _ rfl (F.g 1 rfl)).ev u39 rfl ((M.keep hi).b 1 rfl) sz39 rfl) rfl hf rfl hK rfl
   ·intro a w Q' hf hi H G hK
    exact dv (on rfl) (e_field rfl (G 4 _ rfl (F.g 4 rfl)).ev u203 rfl sz54) rfl hf rfl hK rfl
   ·intro a w Q' hf hi H G hK
    obtain⟨_,h36,rfl⟩:=H 5 ⟨.data,by simp,rfl⟩ _ _ rfl rfl
    exact dv (on rfl) (e_loadN [.int .u64 y.roles.a,.int .u64 y.roles.b,.int .u64 y.roles.c,.int .u64 y.roles.d] rfl h36.ev u54 rfl sz54 (whole_part ((M.keep hi).b 0 rfl) rfl)) rfl hf rfl hK rfl
   ·intro a w Q' hf hi H G hK
    obtain⟨_,h35,rfl⟩:=H 4 ⟨.data,by simp,rfl⟩ _ _ rfl rfl
    obtain⟨_,h37,rfl⟩:=H 6 ⟨.data,by simp,rfl⟩ _ _ rfl rfl
    exact dc (on rfl) (e_call rfl Tryz.func106 nm106 rfl (args2 h35.ev h37.ev)) (processRoles_any _ _ _ _ _ _ _ _ _ _ _ _ _ _ _ _ _ _ p (hp.keep (M.keep hi).below) hok y.roles oky.roles) rfl hf rfl hK (fun _=>rfl)
   ·intro a w Q' hf hi H G hK
    obtain⟨_,h34,rfl⟩:=H 3 ⟨.data,by simp,rfl⟩ _ _ rfl rfl
    exact dv (on rfl) (e_assign rfl h34.ev) rfl hf rfl hK rfl
   ·intro a w Q' hf hi H G hK
    obtain⟨_,h38,rfl⟩:=H 7 ⟨.data,by simp,rfl⟩ _ _ rfl rfl
    exact dv (on rfl) (e_assign rfl h38.ev) rfl hf rfl hK rfl
   (repeat clear F);intro _ _ hbq F D
   obtain⟨_,h,rfl⟩:=D 8 _ _ rfl rfl;have F:=F.add h
   obtain⟨_,h,rfl⟩:=D 9 _ _ rfl rfl;have F:=F.add h
   have M:=M.keep hbq
   clear D hbq
   refine hK11 _ _ ?_
   refine wp_seq_k fun K12 hK12 =>
    wk_region <|
    xF 4 F rf rf rf u203 rf sz54 rf fun _ F =>
    kz F rf (e_loadN [.int .u64 y.types.a,.int .u64 y.types.b,.int .u64 y.types.c,.int .u64 y.types.d] rfl (F.u rf) u54 rfl sz54 (whole_part (M.b 0 rfl) rfl)) fun _ F =>
    xF 1 F rf rf rf u39 rf sz23 rf fun _ F =>
    xL F (M.b 1 rfl) rf rf rf u23 rf rf fun _ F =>
    kz F rf (e_lenSl rfl (F.u rf) u23) fun _ F =>
    xC F M rf rf q103 (args2 (F.u rf) (F.u rf)) (some_any _ y.types oky.types p.types.length hok.typesL) fun _ _ F M =>
    xM F rf rf rf fun _ F =>
    kz F rf (e_extract rfl (F.u rf) rfl) fun _ F =>
    kz F rf (e_extract rfl (F.u rf) rfl) fun _ F =>
    xA F rf rf rf fun _ F =>
    xA F rf rf rf fun _ F =>
    wpList_nil <|
    hK12 _ _ ?_
   refine wp_seq_k fun K13 hK13 =>
    wp_seq_k fun K14 hK14 =>
    wk_region <|
    xM F rf rf rf fun _ F =>
    kz F rf (e_not rfl (F.u rf)) fun _ F =>
    xM F rf rf rf fun _ F=>?_
   cases hq8:(!(rolesB p.roles.length y.roles):Bool) with
   | true =>
    have F:=F.eq 50 rfl (congrArg Value.bool hq8)
    have hd9:(rolesB p.roles.length y.roles)=false:=by simpa using hq8
    refine ko rfl rfl rfl (F.g 50 rfl) rfl F rfl fun _ F =>
     ko rfl rfl rfl (F.g 50 rfl) rfl F rfl fun _ F =>
     ke (u:=.bool true) (on rfl) (e_pick rfl (F.u rf) rfl (F.u rf)) rfl F rfl rfl fun _ F =>
     xM F rf rf rf fun _ F =>
     ko rfl rfl rfl (F.g 54 rfl) rfl F rfl fun _ F =>
     ko rfl rfl rfl (F.g 54 rfl) rfl F rfl fun _ F =>
     ko rfl rfl rfl (F.g 54 rfl) rfl F rfl fun _ F =>
     ko rfl rfl rfl (F.g 54 rfl) rfl F rfl fun _ F =>
     ko rfl rfl rfl (F.g 54 rfl) rfl F rfl fun _ F =>
     ko rfl rfl rfl (F.g 54 rfl) rfl F rfl fun _ F =>
     ko rfl rfl rfl (F.g 54 rfl) rfl F rfl fun _ F =>
     ke (u:=.bool true) (on rfl) (e_pick rfl (F.u rf) rfl (F.u rf)) rfl F rfl rfl fun _ F =>
     xM F rf rf rf fun _ F =>
     ko rfl rfl rfl (F.g 63 rfl) rfl F rfl fun _ F =>
     ko rfl rfl rfl (F.g 63 rfl) rfl F rfl fun _ F =>
     ko rfl rfl rfl (F.g 63 rfl) rfl F rfl fun _ F =>
     ko rfl rfl rfl (F.g 63 rfl) rfl F rfl fun _ F =>
     ko rfl rfl rfl (F.g 63 rfl) rfl F rfl fun _ F =>
     ko rfl rfl rfl (F.g 63 rfl) rfl F rfl fun _ F =>
     ko rfl rfl rfl (F.g 63 rfl) rfl F rfl fun _ F =>
     ke (u:=.bool true) (on rfl) (e_pick rfl (F.u rf) rfl (F.u rf)) rfl F rfl rfl fun _ F =>
     xM F rf rf rf fun _ F =>
     ko rfl rfl rfl (F.g 72 rfl) rfl F rfl fun _ F =>
     ko rfl rfl rfl (F.g 72 rfl) rfl F rfl fun _ F =>
     ko rfl rfl rfl (F.g 72 rfl) rfl F rfl fun _ F =>
     ke (u:=.bool true) (on rfl) (e_pick rfl (F.u rf) rfl (F.u rf)) rfl F rfl rfl fun _ F =>
     wpList_nil <|
     hK14 _ _ ?_
    refine wp_cond_true (F.e 76 rfl) ?_
    refine wp_seq_k fun K15 hK15 =>
     wk_region <|
     xA (v:=.int .i64 3) F rf rf rf fun _ F =>
     wpList_nil <|
     hK15 _ _ ?_
    refine wp_ret <|
     HRET _ _ _ _ F rfl ?_
    have hv:rtF p m=3:=by
     rw[hcf];unfold rtM;repeat (first | with_reducible rfl | assumption | (with_reducible refine Eq.trans (if_pos ?_) ?_;focus (first | assumption | (refine wk_nf ?_;assumption) | (refine wk_nt ?_;assumption) | omega | (simp[hd4,hd6,hd9];done))) | (with_reducible refine Eq.trans (if_neg ?_) ?_;focus (first | assumption | (refine wk_nf ?_;assumption) | (refine wk_nt ?_;assumption) | omega | (simp[hd4,hd6,hd9];done))) | omega)
    exact⟨ret_int (by unfold changesM;rw[if_neg (by omega),if_neg (by rw[hinv,firstE_at hlt (by rw[hv];omega),hv];omega),hinv,firstE_at hlt (by rw[hv];omega),hv]),M.below⟩
   | false =>
    have F:=F.eq 50 rfl (congrArg Value.bool hq8)
    have hd10:(rolesB p.roles.length y.roles)=true:=by simpa using hq8
    refine kv (gn rfl rfl (F.g 50 rfl)) (e_move rfl (F.u rf)) rfl F rfl fun _ F =>
     kv (gn rfl rfl (F.g 50 rfl)) (e_not rfl (F.u rf)) rfl F rfl fun _ F =>
     ke (u:=.bool (!(y.types.within (ASet.all p.types.length)))) (on rfl) (e_pick rfl (F.u rf) rfl (F.u rf)) rfl F rfl rfl fun _ F =>
     xM F rf rf rf fun _ F=>?_
    cases hq11:(!(y.types.within (ASet.all p.types.length)):Bool) with
    | true =>
     have F:=F.eq 54 rfl (congrArg Value.bool hq11)
     have hd12:(y.types.within (ASet.all p.types.length))=false:=by simpa using hq11
     refine ko rfl rfl rfl (F.g 54 rfl) rfl F rfl fun _ F =>
      ko rfl rfl rfl (F.g 54 rfl) rfl F rfl fun _ F =>
      ko rfl rfl rfl (F.g 54 rfl) rfl F rfl fun _ F =>
      ko rfl rfl rfl (F.g 54 rfl) rfl F rfl fun _ F =>
      ko rfl rfl rfl (F.g 54 rfl) rfl F rfl fun _ F =>
      ko rfl rfl rfl (F.g 54 rfl) rfl F rfl fun _ F =>
      ko rfl rfl rfl (F.g 54 rfl) rfl F rfl fun _ F =>
      ke (u:=.bool true) (on rfl) (e_pick rfl (F.u rf) rfl (F.u rf)) rfl F rfl rfl fun _ F =>
      xM F rf rf rf fun _ F =>
      ko rfl rfl rfl (F.g 63 rfl) rfl F rfl fun _ F =>
      ko rfl rfl rfl (F.g 63 rfl) rfl F rfl fun _ F =>
      ko rfl rfl rfl (F.g 63 rfl) rfl F rfl fun _ F =>
      ko rfl rfl rfl (F.g 63 rfl) rfl F rfl fun _ F =>
      ko rfl rfl rfl (F.g 63 rfl) rfl F rfl fun _ F =>
      ko rfl rfl rfl (F.g 63 rfl) rfl F rfl fun _ F =>
      ko rfl rfl rfl (F.g 63 rfl) rfl F rfl fun _ F =>
      ke (u:=.bool true) (on rfl) (e_pick rfl (F.u rf) rfl (F.u rf)) rfl F rfl rfl fun _ F =>
      xM F rf rf rf fun _ F =>
      ko rfl rfl rfl (F.g 72 rfl) rfl F rfl fun _ F =>
      ko rfl rfl rfl (F.g 72 rfl) rfl F rfl fun _ F =>
      ko rfl rfl rfl (F.g 72 rfl) rfl F rfl fun _ F =>
      ke (u:=.bool true) (on rfl) (e_pick rfl (F.u rf) rfl (F.u rf)) rfl F rfl rfl fun _ F =>
      wpList_nil <|
      hK14 _ _ ?_
     refine wp_cond_true (F.e 76 rfl) ?_
     refine wp_seq_k fun K16 hK16 =>
      wk_region <|
      xA (v:=.int .i64 3) F rf rf rf fun _ F =>
      wpList_nil <|
      hK16 _ _ ?_
     refine wp_ret <|
      HRET _ _ _ _ F rfl ?_
     have hv:rtF p m=3:=by
      rw[hcf];unfold rtM;repeat (first | with_reducible rfl | assumption | (with_reducible refine Eq.trans (if_pos ?_) ?_;focus (first | assumption | (refine wk_nf ?_;assumption) | (refine wk_nt ?_;assumption) | omega | (simp[hd10];done))) | (with_reducible refine Eq.trans (if_neg ?_) ?_;focus (first | assumption | (refine wk_nf ?_;assumption) | (refine wk_nt ?_;assumption) | omega | (simp[hd4,hd6,hd10,hd12];done))) | omega)
     exact⟨ret_int (by unfold changesM;rw[if_neg (by omega),if_neg (by rw[hinv,firstE_at hlt (by rw[hv];omega),hv];omega),hinv,firstE_at hlt (by rw[hv];omega),hv]),M.below⟩
    | false =>
     have F:=F.eq 54 rfl (congrArg Value.bool hq11)
     have hd13:(y.types.within (ASet.all p.types.length))=true:=by simpa using hq11
     refine ke (u:=.pointer (some ⟨g7,8,none⟩)) (gn rfl rfl (F.g 54 rfl)) (e_field rfl (F.u rf) u203 rfl sz3) rfl F rfl rfl fun _ F =>
      kv (gn rfl rfl (F.g 54 rfl)) (e_load1 rfl (F.u rf) u3 rfl ((M.b 0 rfl).c1 8)) rfl F rfl fun _ F =>
      ke (u:=.pointer (some ⟨g1,0,none⟩)) (gn rfl rfl (F.g 54 rfl)) (e_field rfl (F.u rf) u39 rfl sz22) rfl F rfl rfl fun _ F =>
      kv (gn rfl rfl (F.g 54 rfl)) (e_load1 rfl (F.u rf) u22 rfl ((M.b 1 rfl).c1 0)) rfl F rfl fun _ F =>
      kv (gn rfl rfl (F.g 54 rfl)) (e_lenSl rfl (F.u rf) u22) rfl F rfl fun _ F =>
      kq (gn rfl rfl (F.g 54 rfl)) (e_call rfl Tryz.func113 nm113 rfl (args2 (F.u rf) (F.u rf))) (below_any _ y.cls (p.classes.length:Int)) rfl F rfl fun _ F =>
      kv (gn rfl rfl (F.g 54 rfl)) (e_not rfl (F.u rf)) rfl F rfl fun _ F =>
      ke (u:=.bool (!(belowB y.cls (p.classes.length:Int)))) (on rfl) (e_pick rfl (F.u rf) rfl (F.u rf)) rfl F rfl rfl fun _ F =>
      xM F rf rf rf fun _ F=>?_
     cases hq14:(!(belowB y.cls (p.classes.length:Int)):Bool) with
     | true =>
      have F:=F.eq 63 rfl (congrArg Value.bool hq14)
      have hd15:(belowB y.cls (p.classes.length:Int))=false:=by simpa using hq14
      refine ko rfl rfl rfl (F.g 63 rfl) rfl F rfl fun _ F =>
       ko rfl rfl rfl (F.g 63 rfl) rfl F rfl fun _ F =>
       ko rfl rfl rfl (F.g 63 rfl) rfl F rfl fun _ F =>
       ko rfl rfl rfl (F.g 63 rfl) rfl F rfl fun _ F =>
       ko rfl rfl rfl (F.g 63 rfl) rfl F rfl fun _ F =>
       ko rfl rfl rfl (F.g 63 rfl) rfl F rfl fun _ F =>
       ko rfl rfl rfl (F.g 63 rfl) rfl F rfl fun _ F =>
       ke (u:=.bool true) (on rfl) (e_pick rfl (F.u rf) rfl (F.u rf)) rfl F rfl rfl fun _ F =>
       xM F rf rf rf fun _ F =>
       ko rfl rfl rfl (F.g 72 rfl) rfl F rfl fun _ F =>
       ko rfl rfl rfl (F.g 72 rfl) rfl F rfl fun _ F =>
       ko rfl rfl rfl (F.g 72 rfl) rfl F rfl fun _ F =>
       ke (u:=.bool true) (on rfl) (e_pick rfl (F.u rf) rfl (F.u rf)) rfl F rfl rfl fun _ F =>
       wpList_nil <|
       hK14 _ _ ?_
      refine wp_cond_true (F.e 76 rfl) ?_
      refine wp_seq_k fun K17 hK17 =>
       wk_region <|
       xA (v:=.int .i64 3) F rf rf rf fun _ F =>
       wpList_nil <|
       hK17 _ _ ?_
      refine wp_ret <|
       HRET _ _ _ _ F rfl ?_
      have hv:rtF p m=3:=by
       rw[hcf];unfold rtM;repeat (first | with_reducible rfl | assumption | (with_reducible refine Eq.trans (if_pos ?_) ?_;focus (first | assumption | (refine wk_nf ?_;assumption) | (refine wk_nt ?_;assumption) | omega | (simp[hd10,hd13];done))) | (with_reducible refine Eq.trans (if_neg ?_) ?_;focus (first | assumption | (refine wk_nf ?_;assumption) | (refine wk_nt ?_;assumption) | omega | (simp[hd4,hd6,hd10,hd13,hd15];done))) | omega)
      exact⟨ret_int (by unfold changesM;rw[if_neg (by omega),if_neg (by rw[hinv,firstE_at hlt (by rw[hv];omega),hv];omega),hinv,firstE_at hlt (by rw[hv];omega),hv]),M.below⟩
     | false =>
      have F:=F.eq 63 rfl (congrArg Value.bool hq14)
      have hd16:(belowB y.cls (p.classes.length:Int))=true:=by simpa using hq14
      refine ke (u:=.pointer (some ⟨g7,9,none⟩)) (gn rfl rfl (F.g 63 rfl)) (e_field rfl (F.u rf) u203 rfl sz3) rfl F rfl rfl fun _ F =>
       kv (gn rfl rfl (F.g 63 rfl)) (e_load1 rfl (F.u rf) u3 rfl ((M.b 0 rfl).c1 9)) rfl F rfl fun _ F =>
       ke (u:=.pointer (some ⟨g1,3,none⟩)) (gn rfl rfl (F.g 63 rfl)) (e_field rfl (F.u rf) u39 rfl sz25) rfl F rfl rfl fun _ F =>
       kv (gn rfl rfl (F.g 63 rfl)) (e_load1 rfl (F.u rf) u25 rfl ((M.b 1 rfl).c1 3)) rfl F rfl fun _ F =>
       kv (gn rfl rfl (F.g 63 rfl)) (e_lenSl rfl (F.u rf) u25) rfl F rfl fun _ F =>
       kq (gn rfl rfl (F.g 63 rfl)) (e_call rfl Tryz.func113 nm113 rfl (args2 (F.u rf) (F.u rf))) (below_any _ y.res (p.roles.length:Int)) rfl F rfl fun _ F =>
       kv (gn rfl rfl (F.g 63 rfl)) (e_not rfl (F.u rf)) rfl F rfl fun _ F =>
       ke (u:=.bool (!(belowB y.res (p.roles.length:Int)))) (on rfl) (e_pick rfl (F.u rf) rfl (F.u rf)) rfl F rfl rfl fun _ F =>
       xM F rf rf rf fun _ F=>?_
      cases hq17:(!(belowB y.res (p.roles.length:Int)):Bool) with
      | true =>
       have F:=F.eq 72 rfl (congrArg Value.bool hq17)
       have hd18:(belowB y.res (p.roles.length:Int))=false:=by simpa using hq17
       refine ko rfl rfl rfl (F.g 72 rfl) rfl F rfl fun _ F =>
        ko rfl rfl rfl (F.g 72 rfl) rfl F rfl fun _ F =>
        ko rfl rfl rfl (F.g 72 rfl) rfl F rfl fun _ F =>
        ke (u:=.bool true) (on rfl) (e_pick rfl (F.u rf) rfl (F.u rf)) rfl F rfl rfl fun _ F =>
        wpList_nil <|
        hK14 _ _ ?_
       refine wp_cond_true (F.e 76 rfl) ?_
       refine wp_seq_k fun K18 hK18 =>
        wk_region <|
        xA (v:=.int .i64 3) F rf rf rf fun _ F =>
        wpList_nil <|
        hK18 _ _ ?_
       refine wp_ret <|
        HRET _ _ _ _ F rfl ?_
       have hv:rtF p m=3:=by
        rw[hcf];unfold rtM;repeat (first | with_reducible rfl | assumption | (with_reducible refine Eq.trans (if_pos ?_) ?_;focus (first | assumption | (refine wk_nf ?_;assumption) | (refine wk_nt ?_;assumption) | omega | (simp[hd10,hd13,hd16];done))) | (with_reducible refine Eq.trans (if_neg ?_) ?_;focus (first | assumption | (refine wk_nf ?_;assumption) | (refine wk_nt ?_;assumption) | omega | (simp[hd4,hd6,hd10,hd13,hd16,hd18];done))) | omega)
       exact⟨ret_int (by unfold changesM;rw[if_neg (by omega),if_neg (by rw[hinv,firstE_at hlt (by rw[hv];omega),hv];omega),hinv,firstE_at hlt (by rw[hv];omega),hv]),M.below⟩
      | false =>
       have F:=F.eq 72 rfl (congrArg Value.bool hq17)
       have hd19:(belowB y.res (p.roles.length:Int))=true:=by simpa using hq17
       refine ke (u:=.pointer (some ⟨g7,9,none⟩)) (gn rfl rfl (F.g 72 rfl)) (e_field rfl (F.u rf) u203 rfl sz3) rfl F rfl rfl fun _ F =>
        kv (gn rfl rfl (F.g 72 rfl)) (e_load1 rfl (F.u rf) u3 rfl ((M.b 0 rfl).c1 9)) rfl F rfl fun _ F =>
        kv (gn rfl rfl (F.g 72 rfl)) (e_eqI rfl (F.u rf) rfl) rfl F rfl fun _ F =>
        ke (u:=.bool (decide (y.res=0))) (on rfl) (e_pick rfl (F.u rf) rfl (F.u rf)) rfl F rfl rfl fun _ F =>
        wpList_nil <|
        hK14 _ _ ?_
       refine wp_cond_split (F.e 76 rfl) (fun hc20=>?_) (fun hc20=>?_)
       ·
        have hd21:=of_decide_eq_true hc20
        refine wp_seq_k fun K19 hK19 =>
         wk_region <|
         xA (v:=.int .i64 3) F rf rf rf fun _ F =>
         wpList_nil <|
         hK19 _ _ ?_
        refine wp_ret <|
         HRET _ _ _ _ F rfl ?_
        have hv:rtF p m=3:=by
         rw[hcf];unfold rtM;repeat (first | with_reducible rfl | assumption | (with_reducible refine Eq.trans (if_pos ?_) ?_;focus (first | assumption | (refine wk_nf ?_;assumption) | (refine wk_nt ?_;assumption) | omega | (simp[hd10,hd13,hd16,hd21];done))) | (with_reducible refine Eq.trans (if_neg ?_) ?_;focus (first | assumption | (refine wk_nf ?_;assumption) | (refine wk_nt ?_;assumption) | omega | (simp[hd4,hd6,hd10,hd13,hd16,hd19,hd21];done))) | omega)
        exact⟨ret_int (by unfold changesM;rw[if_neg (by omega),if_neg (by rw[hinv,firstE_at hlt (by rw[hv];omega),hv];omega),hinv,firstE_at hlt (by rw[hv];omega),hv]),M.below⟩
       ·
        have hd22:=of_decide_eq_false hc20
        refine wp_skip <|
         hK13 _ _ ?_
        refine wp_seq_k fun K20 hK20 =>
         wk_region <|
         xM F rf rf rf fun _ F =>
         kz F rf (e_not rfl (F.u rf)) fun _ F =>
         xM F rf rf rf fun _ F=>?_
        cases hq23:(!(!(decide (y.roles=ASet.zero))):Bool) with
        | true =>
         have F:=F.eq 79 rfl (congrArg Value.bool hq23)
         have hd24:=of_decide_eq_true (show decide (y.roles=ASet.zero)=true by simpa using hq23)
         have hk25:(decide (y.roles=ASet.zero))=true:=by simpa using hq23
         refine ko rfl rfl rfl (F.g 79 rfl) rfl F rfl fun _ F =>
          ko rfl rfl rfl (F.g 79 rfl) rfl F rfl fun _ F =>
          ke (u:=.bool true) (on rfl) (e_pick rfl (F.u rf) rfl (F.u rf)) rfl F rfl rfl fun _ F =>
          wpList_nil <|
          hK20 _ _ ?_
         refine wp_cond_true (F.e 82 rfl) ?_
         refine wp_seq_k fun K21 hK21 =>
          wk_region <|
          xA (v:=.int .i64 2) F rf rf rf fun _ F =>
          wpList_nil <|
          hK21 _ _ ?_
         refine wp_ret <|
          HRET _ _ _ _ F rfl ?_
         have hv:rtF p m=2:=by
          rw[hcf];unfold rtM;repeat (first | with_reducible rfl | assumption | (with_reducible refine Eq.trans (if_pos ?_) ?_;focus (first | assumption | (refine wk_nf ?_;assumption) | (refine wk_nt ?_;assumption) | omega | (simp[hd13,hd16,hd19,hd22,hd24];done))) | (with_reducible refine Eq.trans (if_neg ?_) ?_;focus (first | assumption | (refine wk_nf ?_;assumption) | (refine wk_nt ?_;assumption) | omega | (simp[hd4,hd6,hd10,hd13,hd16,hd19,hd22,hd24];done))) | omega)
         exact⟨ret_int (by unfold changesM;rw[if_neg (by omega),if_neg (by rw[hinv,firstE_at hlt (by rw[hv];omega),hv];omega),hinv,firstE_at hlt (by rw[hv];omega),hv]),M.below⟩
        | false =>
         have F:=F.eq 79 rfl (congrArg Value.bool hq23)
         have hd26:=of_decide_eq_false (show decide (y.roles=ASet.zero)=false by simpa using hq23)
         have hk27:(decide (y.roles=ASet.zero))=false:=by simpa using hq23
         refine kv (gn rfl rfl (F.g 79 rfl)) (e_move rfl (F.u rf)) rfl F rfl fun _ F =>
          kv (gn rfl rfl (F.g 79 rfl)) (e_not rfl (F.u rf)) rfl F rfl fun _ F =>
          ke (u:=.bool (!(someB y.types))) (on rfl) (e_pick rfl (F.u rf) rfl (F.u rf)) rfl F rfl rfl fun _ F =>
          wpList_nil <|
          hK20 _ _ ?_
         refine wp_cond_split (F.e 82 rfl) (fun hc28=>?_) (fun hc28=>?_)
         ·
          have hd29:(someB y.types)=false:=by simpa using hc28
          refine wp_seq_k fun K22 hK22 =>
           wk_region <|
           xA (v:=.int .i64 2) F rf rf rf fun _ F =>
           wpList_nil <|
           hK22 _ _ ?_
          refine wp_ret <|
           HRET _ _ _ _ F rfl ?_
          have hv:rtF p m=2:=by
           rw[hcf];unfold rtM;repeat (first | with_reducible rfl | assumption | (with_reducible refine Eq.trans (if_pos ?_) ?_;focus (first | assumption | (refine wk_nf ?_;assumption) | (refine wk_nt ?_;assumption) | omega | (simp[hd10,hd13,hd16,hd19,hd22,hd26];done))) | (with_reducible refine Eq.trans (if_neg ?_) ?_;focus (first | assumption | (refine wk_nf ?_;assumption) | (refine wk_nt ?_;assumption) | omega | (simp[hd4,hd6,hd10,hd13,hd16,hd19,hd22,hd26,hd29];done))) | omega)
          exact⟨ret_int (by unfold changesM;rw[if_neg (by omega),if_neg (by rw[hinv,firstE_at hlt (by rw[hv];omega),hv];omega),hinv,firstE_at hlt (by rw[hv];omega),hv]),M.below⟩
         ·
          have hd30:(someB y.types)=true:=by simpa using hc28
          refine wp_skip <|
           hK9 _ _ ?_
          refine wk_region <|
           xM F rf rf rf fun _ F =>
           ke (on rfl) (e_add rfl (F.u rf) rfl) rfl F rfl (congrArg (Value.int .i64) (wrap_i64 (by omega))) fun _ F =>
           xA F rf rf rf fun _ F =>
           wpList_nil <| ?_
          have hv:rtF p m=0:=by
           rw[hcf];unfold rtM;repeat (first | with_reducible rfl | assumption | (with_reducible refine Eq.trans (if_pos ?_) ?_;focus (first | assumption | (refine wk_nf ?_;assumption) | (refine wk_nt ?_;assumption) | omega | (simp[hd10,hd13,hd16,hd19,hd22,hd26,hd30];done))) | (with_reducible refine Eq.trans (if_neg ?_) ?_;focus (first | assumption | (refine wk_nf ?_;assumption) | (refine wk_nt ?_;assumption) | omega | (simp[hd4,hd6,hd10,hd13,hd16,hd19,hd22,hd26,hd30];done))) | omega)
          exact⟨m+1,⟨F.sub ⟨rfl,rfl,trivial⟩,(M.only (.cons _ (.cons_cons _ .slnil)) .slnil),by omega,hinv.trans (firstE_next hlt hv)⟩,by show p.rtrans.length-(m+1)<p.rtrans.length-m;omega⟩
  ·
   have hd31:=of_decide_eq_false hc5
   refine wp_exit <|
    hK5 _ _ ?_
   refine wp_seq_k fun K23 hK23 =>
    wp_seq_k fun K24 hK24 =>
    wk_region <|
    xF 12 F rf rf rf u39 rf sz33 rf fun _ F =>
    xL F (M.b 0 rfl) rf rf rf u33 rf rf fun _ F =>
    kz F rf (e_lenSl rfl (F.u rf) u33) fun _ F =>
    kz F rf (e_gtr rfl (F.u rf) rfl) fun _ F =>
    wpList_nil <|
    hK24 _ _ ?_
   refine wp_cond_split (F.e 86 rfl) (fun hc32=>?_) (fun hc32=>?_)
   ·
    have hd33:=of_decide_eq_true hc32
    refine wp_seq_k fun K25 hK25 =>
     wk_region <|
     xA (v:=.int .i64 4) F rf rf rf fun _ F =>
     wpList_nil <|
     hK25 _ _ ?_
    refine wp_ret <|
     HRET _ _ _ _ F rfl ?_
    exact⟨ret_int (by unfold changesM;rw[if_neg (by omega),if_pos (by rw[hinv,show m=p.rtrans.length by omega,firstE_stop]),if_pos (by omega)]),M.below⟩
   ·
    have hd34:=of_decide_eq_false hc32
    refine wp_skip <|
     hK23 _ _ ?_
    refine wp_seq_k fun K26 hK26 =>
     wp_seq_k fun K27 hK27 =>
     wk_region <|
     xA (v:=.int .i64 0) F rf rf rf fun _ F =>
     wpList_nil <|
     hK27 _ _ ?_
    refine wp_block <| ?_
    have hz0:firstE (rtF p) p.rtrans.length 0=0:=by rw[hinv,show m=p.rtrans.length by omega,firstE_stop]
    refine wk_loop (ι:=Nat) (fun i a w=>Fs a 143 [(1,.pointer (some ⟨g1,0,none⟩)),(9,.int .i64 (i:Int))]∧Mm w0 w [(g1,39,#[.slice la0 p.classes.length lk0,.slice la1 p.types.length lk1,c2,.slice la3 p.roles.length lk3,c4,c5,c6,c7,c8,c9,c10,.slice la11 p.rtrans.length lk11,.slice la12 p.ranges.length lk12,c13,c14,c15,c16])] []∧i≤p.ranges.length∧firstE (rgF p) p.ranges.length 0=firstE (rgF p) (p.ranges.length-i) i) (fun i=>p.ranges.length-i) 0 ⟨F.sub ⟨rfl,rfl,trivial⟩,M,Nat.zero_le _,(by rw[Nat.sub_zero])⟩ ?_
    (repeat clear F);(repeat clear M)
    rintro i _ _ ⟨F,M,hi,hinz⟩
    refine wp_seq_k fun K28 hK28 =>
     wp_seq_k fun K29 hK29 =>
     wk_region <|
     xM F rf rf rf fun _ F =>
     xF 12 F rf rf rf u39 rf sz33 rf fun _ F =>
     xL F (M.b 0 rfl) rf rf rf u33 rf rf fun _ F =>
     kz F rf (e_lenSl rfl (F.u rf) u33) fun _ F =>
     kz F rf (e_lss rfl (F.u rf) (F.u rf)) fun _ F =>
     wpList_nil <|
     hK29 _ _ ?_
    refine wp_cond_split (F.e 91 rfl) (fun hc35=>?_) (fun hc35=>?_)
    ·
     have hd36:=of_decide_eq_true hc35
     refine wp_skip <|
      hK28 _ _ ?_
     refine wp_seq_k fun K30 hK30 =>
      wp_block <|
      wp_seq_k fun K31 hK31=>?_
     have hlz:i<p.ranges.length:=by omega
     obtain⟨z,hz⟩:∃ z,p.ranges[i]?=some z:=⟨_,List.getElem?_eq_getElem hlz⟩
     obtain⟨b12,ob12,rfl,hcb12⟩:=hcell12 i hlz
     have hrb12:∀ j uu,[.int .u64 z.src.a,.int .u64 z.src.b,.int .u64 z.src.c,.int .u64 z.src.d,.int .u64 z.tgt.a,.int .u64 z.tgt.b,.int .u64 z.tgt.c,.int .u64 z.tgt.d,.int .i64 z.cls,.int .i64 z.rng.low.sens,.int .u64 z.rng.low.cats,.int .i64 z.rng.high.sens,.int .u64 z.rng.high.cats][j]?=some uu→w0.cell? ⟨b12,ob12+i*13+j,none⟩=some uu:=fun j u hu=>hcb12 j u (by
      rw[flat_at ARgt.cells_len hz j (List.getElem?_eq_some_iff.1 hu).1]
      exact hu)
     clear hcb12
     have okz:=hok.ranges z (List.mem_of_getElem? hz)
     have hcg:rgF p i=rgM p.types.length p.classes.length p.sens.length p.cats.length z:=by unfold rgF;rw[hz]
     refine wk_region <|
      xF 12 F rf rf rf u39 rf sz33 rf fun _ F =>
      xL F (M.b 0 rfl) rf rf rf u33 rf rf fun _ F =>
      xM F rf rf rf fun _ F =>
      kz F rf (e_indexAddr (i:=i) rfl (F.u rf) (F.u rf) (by omega) u33 sz205) fun _ F =>
      kz F rf (e_loadN [.int .u64 z.src.a,.int .u64 z.src.b,.int .u64 z.src.c,.int .u64 z.src.d,.int .u64 z.tgt.a,.int .u64 z.tgt.b,.int .u64 z.tgt.c,.int .u64 z.tgt.d,.int .i64 z.cls,.int .i64 z.rng.low.sens,.int .u64 z.rng.low.cats,.int .i64 z.rng.high.sens,.int .u64 z.rng.high.cats] rfl (F.u rf) u205 rfl sz205 (lat M.below hrb12)) fun _ F =>
      kaA (on rfl) rfl zr205 rfl F rfl M fun g37 _ _ F M =>
      ksA (on rfl) rfl (F.u rf) (F.u rf) F M 0 rfl sz205 rfl rfl rfl fun _ M =>
      wpList_nil <|
      hK31 _ _ ?_
     refine wp_seq_k fun K32 hK32 =>
      wk_region <|
      xF 0 F rf rf rf u205 rf sz54 rf fun _ F =>
      kz F rf (e_loadN [.int .u64 z.src.a,.int .u64 z.src.b,.int .u64 z.src.c,.int .u64 z.src.d] rfl (F.u rf) u54 rfl sz54 (whole_part (M.b 0 rfl) rfl)) fun _ F =>
      xF 1 F rf rf rf u39 rf sz23 rf fun _ F =>
      xL F (M.b 1 rfl) rf rf rf u23 rf rf fun _ F =>
      kz F rf (e_lenSl rfl (F.u rf) u23) fun _ F =>
      xC F M rf rf q103 (args2 (F.u rf) (F.u rf)) (some_any _ z.src okz.src p.types.length hok.typesL) fun _ _ F M =>
      xM F rf rf rf fun _ F =>
      kz F rf (e_extract rfl (F.u rf) rfl) fun _ F =>
      kz F rf (e_extract rfl (F.u rf) rfl) fun _ F =>
      xA F rf rf rf fun _ F =>
      xA F rf rf rf fun _ F =>
      wpList_nil <|
      hK32 _ _ ?_
     refine wp_seq_k fun K33 hK33 =>
      wk_region <|
      xF 4 F rf rf rf u205 rf sz54 rf fun _ F =>
      kz F rf (e_loadN [.int .u64 z.tgt.a,.int .u64 z.tgt.b,.int .u64 z.tgt.c,.int .u64 z.tgt.d] rfl (F.u rf) u54 rfl sz54 (whole_part (M.b 0 rfl) rfl)) fun _ F =>
      xF 1 F rf rf rf u39 rf sz23 rf fun _ F =>
      xL F (M.b 1 rfl) rf rf rf u23 rf rf fun _ F =>
      kz F rf (e_lenSl rfl (F.u rf) u23) fun _ F =>
      xC F M rf rf q103 (args2 (F.u rf) (F.u rf)) (some_any _ z.tgt okz.tgt p.types.length hok.typesL) fun _ _ F M =>
      xM F rf rf rf fun _ F =>
      kz F rf (e_extract rfl (F.u rf) rfl) fun _ F =>
      kz F rf (e_extract rfl (F.u rf) rfl) fun _ F =>
      xA F rf rf rf fun _ F =>
      xA F rf rf rf fun _ F =>
      wpList_nil <|
      hK33 _ _ ?_
     refine wp_seq_k fun K34 hK34 =>
      wp_seq_k fun K35 hK35 =>
      wk_region <|
      xM F rf rf rf fun _ F =>
      kz F rf (e_not rfl (F.u rf)) fun _ F =>
      xM F rf rf rf fun _ F=>?_
     cases hq38:(!(z.src.within (ASet.all p.types.length)):Bool) with
     | true =>
      have F:=F.eq 119 rfl (congrArg Value.bool hq38)
      have hd39:(z.src.within (ASet.all p.types.length))=false:=by simpa using hq38
      refine ko rfl rfl rfl (F.g 119 rfl) rfl F rfl fun _ F =>
       ko rfl rfl rfl (F.g 119 rfl) rfl F rfl fun _ F =>
       ke (u:=.bool true) (on rfl) (e_pick rfl (F.u rf) rfl (F.u rf)) rfl F rfl rfl fun _ F =>
       xM F rf rf rf fun _ F =>
       ko rfl rfl rfl (F.g 123 rfl) rfl F rfl fun _ F =>
       ko rfl rfl rfl (F.g 123 rfl) rfl F rfl fun _ F =>
       ko rfl rfl rfl (F.g 123 rfl) rfl F rfl fun _ F =>
       ko rfl rfl rfl (F.g 123 rfl) rfl F rfl fun _ F =>
       ko rfl rfl rfl (F.g 123 rfl) rfl F rfl fun _ F =>
       ko rfl rfl rfl (F.g 123 rfl) rfl F rfl fun _ F =>
       ko rfl rfl rfl (F.g 123 rfl) rfl F rfl fun _ F =>
       ke (u:=.bool true) (on rfl) (e_pick rfl (F.u rf) rfl (F.u rf)) rfl F rfl rfl fun _ F =>
       wpList_nil <|
       hK35 _ _ ?_
      refine wp_cond_true (F.e 131 rfl) ?_
      refine wp_seq_k fun K36 hK36 =>
       wk_region <|
       xA (v:=.int .i64 3) F rf rf rf fun _ F =>
       wpList_nil <|
       hK36 _ _ ?_
      refine wp_ret <|
       HRET _ _ _ _ F rfl ?_
      have hv:rgF p i=3:=by
       rw[hcg];unfold rgM;repeat (first | with_reducible rfl | assumption | (with_reducible refine Eq.trans (if_pos ?_) ?_;focus (first | assumption | (refine wk_nf ?_;assumption) | (refine wk_nt ?_;assumption) | omega | (simp[hd4,hd31,hd34,hd36,hd39];done))) | (with_reducible refine Eq.trans (if_neg ?_) ?_;focus (first | assumption | (refine wk_nf ?_;assumption) | (refine wk_nt ?_;assumption) | omega | (simp[hd4,hd31,hd34,hd36,hd39];done))) | omega)
      exact⟨ret_int (by unfold changesM;rw[if_neg (by omega),if_pos hz0,if_neg (by omega),hinz,firstE_at hlz (by rw[hv];omega),hv]),M.below⟩
     | false =>
      have F:=F.eq 119 rfl (congrArg Value.bool hq38)
      have hd40:(z.src.within (ASet.all p.types.length))=true:=by simpa using hq38
      refine kv (gn rfl rfl (F.g 119 rfl)) (e_move rfl (F.u rf)) rfl F rfl fun _ F =>
       kv (gn rfl rfl (F.g 119 rfl)) (e_not rfl (F.u rf)) rfl F rfl fun _ F =>
       ke (u:=.bool (!(z.tgt.within (ASet.all p.types.length)))) (on rfl) (e_pick rfl (F.u rf) rfl (F.u rf)) rfl F rfl rfl fun _ F =>
       xM F rf rf rf fun _ F=>?_
      cases hq41:(!(z.tgt.within (ASet.all p.types.length)):Bool) with
      | true =>
       have F:=F.eq 123 rfl (congrArg Value.bool hq41)
       have hd42:(z.tgt.within (ASet.all p.types.length))=false:=by simpa using hq41
       refine ko rfl rfl rfl (F.g 123 rfl) rfl F rfl fun _ F =>
        ko rfl rfl rfl (F.g 123 rfl) rfl F rfl fun _ F =>
        ko rfl rfl rfl (F.g 123 rfl) rfl F rfl fun _ F =>
        ko rfl rfl rfl (F.g 123 rfl) rfl F rfl fun _ F =>
        ko rfl rfl rfl (F.g 123 rfl) rfl F rfl fun _ F =>
        ko rfl rfl rfl (F.g 123 rfl) rfl F rfl fun _ F =>
        ko rfl rfl rfl (F.g 123 rfl) rfl F rfl fun _ F =>
        ke (u:=.bool true) (on rfl) (e_pick rfl (F.u rf) rfl (F.u rf)) rfl F rfl rfl fun _ F =>
        wpList_nil <|
        hK35 _ _ ?_
       refine wp_cond_true (F.e 131 rfl) ?_
       refine wp_seq_k fun K37 hK37 =>
        wk_region <|
        xA (v:=.int .i64 3) F rf rf rf fun _ F =>
        wpList_nil <|
        hK37 _ _ ?_
       refine wp_ret <|
        HRET _ _ _ _ F rfl ?_
       have hv:rgF p i=3:=by
        rw[hcg];unfold rgM;repeat (first | with_reducible rfl | assumption | (with_reducible refine Eq.trans (if_pos ?_) ?_;focus (first | assumption | (refine wk_nf ?_;assumption) | (refine wk_nt ?_;assumption) | omega | (simp[hd40];done))) | (with_reducible refine Eq.trans (if_neg ?_) ?_;focus (first | assumption | (refine wk_nf ?_;assumption) | (refine wk_nt ?_;assumption) | omega | (simp[hd4,hd31,hd34,hd36,hd40,hd42];done))) | omega)
       exact⟨ret_int (by unfold changesM;rw[if_neg (by omega),if_pos hz0,if_neg (by omega),hinz,firstE_at hlz (by rw[hv];omega),hv]),M.below⟩
      | false =>
       have F:=F.eq 123 rfl (congrArg Value.bool hq41)
       have hd43:(z.tgt.within (ASet.all p.types.length))=true:=by simpa using hq41
       refine ke (u:=.pointer (some ⟨g37,8,none⟩)) (gn rfl rfl (F.g 123 rfl)) (e_field rfl (F.u rf) u205 rfl sz3) rfl F rfl rfl fun _ F =>
        kv (gn rfl rfl (F.g 123 rfl)) (e_load1 rfl (F.u rf) u3 rfl ((M.b 0 rfl).c1 8)) rfl F rfl fun _ F =>
        ke (u:=.pointer (some ⟨g1,0,none⟩)) (gn rfl rfl (F.g 123 rfl)) (e_field rfl (F.u rf) u39 rfl sz22) rfl F rfl rfl fun _ F =>
        kv (gn rfl rfl (F.g 123 rfl)) (e_load1 rfl (F.u rf) u22 rfl ((M.b 1 rfl).c1 0)) rfl F rfl fun _ F =>
        kv (gn rfl rfl (F.g 123 rfl)) (e_lenSl rfl (F.u rf) u22) rfl F rfl fun _ F =>
        kq (gn rfl rfl (F.g 123 rfl)) (e_call rfl Tryz.func113 nm113 rfl (args2 (F.u rf) (F.u rf))) (below_any _ z.cls (p.classes.length:Int)) rfl F rfl fun _ F =>
        kv (gn rfl rfl (F.g 123 rfl)) (e_not rfl (F.u rf)) rfl F rfl fun _ F =>
        ke (u:=.bool (!(belowB z.cls (p.classes.length:Int)))) (on rfl) (e_pick rfl (F.u rf) rfl (F.u rf)) rfl F rfl rfl fun _ F =>
        wpList_nil <|
        hK35 _ _ ?_
       refine wp_cond_split (F.e 131 rfl) (fun hc44=>?_) (fun hc44=>?_)
       ·
        have hd45:(belowB z.cls (p.classes.length:Int))=false:=by simpa using hc44
        refine wp_seq_k fun K38 hK38 =>
         wk_region <|
         xA (v:=.int .i64 3) F rf rf rf fun _ F =>
         wpList_nil <|
         hK38 _ _ ?_
        refine wp_ret <|
         HRET _ _ _ _ F rfl ?_
        have hv:rgF p i=3:=by
         rw[hcg];unfold rgM;repeat (first | with_reducible rfl | assumption | (with_reducible refine Eq.trans (if_pos ?_) ?_;focus (first | assumption | (refine wk_nf ?_;assumption) | (refine wk_nt ?_;assumption) | omega | (simp[hd40,hd43];done))) | (with_reducible refine Eq.trans (if_neg ?_) ?_;focus (first | assumption | (refine wk_nf ?_;assumption) | (refine wk_nt ?_;assumption) | omega | (simp[hd4,hd31,hd34,hd36,hd40,hd43,hd45];done))) | omega)
        exact⟨ret_int (by unfold changesM;rw[if_neg (by omega),if_pos hz0,if_neg (by omega),hinz,firstE_at hlz (by rw[hv];omega),hv]),M.below⟩
       ·
        have hd46:(belowB z.cls (p.classes.length:Int))=true:=by simpa using hc44
        refine wp_skip <|
         hK34 _ _ ?_
        refine wp_seq_k fun K39 hK39 =>
         wp_seq_k fun K40 hK40 =>
         wk_region <|
         xM F rf rf rf fun _ F =>
         kz F rf (e_not rfl (F.u rf)) fun _ F =>
         xM F rf rf rf fun _ F=>?_
        cases hq47:(!(someB z.src):Bool) with
        | true =>
         have F:=F.eq 134 rfl (congrArg Value.bool hq47)
         have hd48:(someB z.src)=false:=by simpa using hq47
         refine ko rfl rfl rfl (F.g 134 rfl) rfl F rfl fun _ F =>
          ko rfl rfl rfl (F.g 134 rfl) rfl F rfl fun _ F =>
          ke (u:=.bool true) (on rfl) (e_pick rfl (F.u rf) rfl (F.u rf)) rfl F rfl rfl fun _ F =>
          wpList_nil <|
          hK40 _ _ ?_
         refine wp_cond_true (F.e 137 rfl) ?_
         refine wp_seq_k fun K41 hK41 =>
          wk_region <|
          xA (v:=.int .i64 2) F rf rf rf fun _ F =>
          wpList_nil <|
          hK41 _ _ ?_
         refine wp_ret <|
          HRET _ _ _ _ F rfl ?_
         have hv:rgF p i=2:=by
          rw[hcg];unfold rgM;repeat (first | with_reducible rfl | assumption | (with_reducible refine Eq.trans (if_pos ?_) ?_;focus (first | assumption | (refine wk_nf ?_;assumption) | (refine wk_nt ?_;assumption) | omega | (simp[hd40,hd43,hd46];done))) | (with_reducible refine Eq.trans (if_neg ?_) ?_;focus (first | assumption | (refine wk_nf ?_;assumption) | (refine wk_nt ?_;assumption) | omega | (simp[hd4,hd31,hd34,hd36,hd40,hd43,hd46,hd48];done))) | omega)
         exact⟨ret_int (by unfold changesM;rw[if_neg (by omega),if_pos hz0,if_neg (by omega),hinz,firstE_at hlz (by rw[hv];omega),hv]),M.below⟩
        | false =>
         have F:=F.eq 134 rfl (congrArg Value.bool hq47)
         have hd49:(someB z.src)=true:=by simpa using hq47
         refine kv (gn rfl rfl (F.g 134 rfl)) (e_move rfl (F.u rf)) rfl F rfl fun _ F =>
          kv (gn rfl rfl (F.g 134 rfl)) (e_not rfl (F.u rf)) rfl F rfl fun _ F =>
          ke (u:=.bool (!(someB z.tgt))) (on rfl) (e_pick rfl (F.u rf) rfl (F.u rf)) rfl F rfl rfl fun _ F =>
          wpList_nil <|
          hK40 _ _ ?_
         refine wp_cond_split (F.e 137 rfl) (fun hc50=>?_) (fun hc50=>?_)
         ·
          have hd51:(someB z.tgt)=false:=by simpa using hc50
          refine wp_seq_k fun K42 hK42 =>
           wk_region <|
           xA (v:=.int .i64 2) F rf rf rf fun _ F =>
           wpList_nil <|
           hK42 _ _ ?_
          refine wp_ret <|
           HRET _ _ _ _ F rfl ?_
          have hv:rgF p i=2:=by
           rw[hcg];unfold rgM;repeat (first | with_reducible rfl | assumption | (with_reducible refine Eq.trans (if_pos ?_) ?_;focus (first | assumption | (refine wk_nf ?_;assumption) | (refine wk_nt ?_;assumption) | omega | (simp[hd40,hd43,hd46,hd49];done))) | (with_reducible refine Eq.trans (if_neg ?_) ?_;focus (first | assumption | (refine wk_nf ?_;assumption) | (refine wk_nt ?_;assumption) | omega | (simp[hd4,hd31,hd34,hd36,hd40,hd43,hd46,hd49,hd51];done))) | omega)
          exact⟨ret_int (by unfold changesM;rw[if_neg (by omega),if_pos hz0,if_neg (by omega),hinz,firstE_at hlz (by rw[hv];omega),hv]),M.below⟩
         ·
          have hd52:(someB z.tgt)=true:=by simpa using hc50
          refine wp_skip <|
           hK39 _ _ ?_
          refine wp_seq_k fun K43 hK43 =>
           wk_region <|
           xW F (M.b 1 rfl) rf rf rf u39 rf sz39 rf fun _ F =>
           xF 9 F rf rf rf u205 rf sz72 rf fun _ F =>
           kz F rf (e_loadN [.int .i64 z.rng.low.sens,.int .u64 z.rng.low.cats,.int .i64 z.rng.high.sens,.int .u64 z.rng.high.cats] rfl (F.u rf) u72 rfl sz72 (whole_part (M.b 0 rfl) rfl)) fun _ F =>
           xC F M rf rf q107 (args2 (F.u rf) (F.u rf)) (range_any _ _ _ _ _ _ _ _ _ _ _ _ _ _ _ _ _ _ p (hp.keep M.below) z.rng okz.rng) fun _ _ F M =>
           kz F rf (e_not rfl (F.u rf)) fun _ F =>
           wpList_nil <|
           hK43 _ _ ?_
          refine wp_cond_split (F.e 142 rfl) (fun hc53=>?_) (fun hc53=>?_)
          ·
           have hd54:(rangeB p.sens.length p.cats.length z.rng)=false:=by simpa using hc53
           refine wp_seq_k fun K44 hK44 =>
            wk_region <|
            xA (v:=.int .i64 18) F rf rf rf fun _ F =>
            wpList_nil <|
            hK44 _ _ ?_
           refine wp_ret <|
            HRET _ _ _ _ F rfl ?_
           have hv:rgF p i=18:=by
            rw[hcg];unfold rgM;repeat (first | with_reducible rfl | assumption | (with_reducible refine Eq.trans (if_pos ?_) ?_;focus (first | assumption | (refine wk_nf ?_;assumption) | (refine wk_nt ?_;assumption) | omega | (simp[hd40,hd43,hd46,hd49,hd52];done))) | (with_reducible refine Eq.trans (if_neg ?_) ?_;focus (first | assumption | (refine wk_nf ?_;assumption) | (refine wk_nt ?_;assumption) | omega | (simp[hd4,hd31,hd34,hd36,hd40,hd43,hd46,hd49,hd52,hd54];done))) | omega)
           exact⟨ret_int (by unfold changesM;rw[if_neg (by omega),if_pos hz0,if_neg (by omega),hinz,firstE_at hlz (by rw[hv];omega),hv]),M.below⟩
          ·
           have hd55:(rangeB p.sens.length p.cats.length z.rng)=true:=by simpa using hc53
           refine wp_skip <|
            hK30 _ _ ?_
           refine wk_region <|
            xM F rf rf rf fun _ F =>
            ke (on rfl) (e_add rfl (F.u rf) rfl) rfl F rfl (congrArg (Value.int .i64) (wrap_i64 (by omega))) fun _ F =>
            xA F rf rf rf fun _ F =>
            wpList_nil <| ?_
           have hv:rgF p i=0:=by
            rw[hcg];unfold rgM;repeat (first | with_reducible rfl | assumption | (with_reducible refine Eq.trans (if_pos ?_) ?_;focus (first | assumption | (refine wk_nf ?_;assumption) | (refine wk_nt ?_;assumption) | omega | (simp[hd40,hd43,hd46,hd49,hd52,hd55];done))) | (with_reducible refine Eq.trans (if_neg ?_) ?_;focus (first | assumption | (refine wk_nf ?_;assumption) | (refine wk_nt ?_;assumption) | omega | (simp[hd4,hd31,hd34,hd36,hd40,hd43,hd46,hd49,hd52,hd55];done))) | omega)
           exact⟨i+1,⟨F.sub ⟨rfl,rfl,trivial⟩,(M.only (.cons _ (.cons_cons _ .slnil)) .slnil),by omega,hinz.trans (firstE_next hlz hv)⟩,by show p.ranges.length-(i+1)<p.ranges.length-i;omega⟩
    ·
     have hd56:=of_decide_eq_false hc35
     refine wp_exit <|
      hK26 _ _ ?_
     refine wp_seq_k fun K45 hK45 =>
      wk_region <|
      xA (v:=.int .i64 0) F rf rf rf fun _ F =>
      wpList_nil <|
      hK45 _ _ ?_
     refine wp_ret <|
      HRET _ _ _ _ F rfl ?_
     exact⟨ret_int (by unfold changesM;rw[if_neg (by omega),if_pos hz0,if_neg (by omega),hinz,show i=p.ranges.length by omega,firstE_stop]),M.below⟩
end Go.Proofs.YtdcofoaihmongaaGreat
namespace Go.Proofs.YtdcofoaihmongaaGreat
open Go Go.RowKit
def classM (before:List ByteArray) (y:ACls):Int :=
 if namesM [y.name] before=0 then (if 32<y.perms.length then 4 else if y.perms.length=0 then 2 else namesM y.perms []) else namesM [y.name] before
def classF (p:APol) (i:Nat):Int:=match p.classes[i]? with
 | some y=>classM ((p.classes.take i).map (·.name)) y
 | none=>0
def classesM (p:APol):Int:=if 32<p.classes.length then 4 else firstE (classF p) p.classes.length 0
set_option maxRecDepth 100000 in
set_option maxHeartbeats 4000000 in
theorem classes_any (w0:World) (c0 c1 c2 c3 c4 c5 c6 c7 c8 c9 c10 c11 c12 c13 c14 c15 c16:Value) (p:APol) (hp:PolAt w0 c0 c1 c2 c3 c4 c5 c6 c7 c8 c9 c10 c11 c12 c13 c14 c15 c16 p) (hok:p.Ok):Calls Tryz.prog 41 #[.agg #[c0,c1,c2,c3,c4,c5,c6,c7,c8,c9,c10,c11,c12,c13,c14,c15,c16]] w0 (RI w0 (classesM p)):=by
 obtain⟨la0,lk0,rfl,hk0,hm0,hcell0⟩:=RowsAt.form hp.classes (by decide)
 have HRET:=hr1 Tryz.prog Tryz.f41 (RI w0 (classesM p)) 51 2 rfl
 refine en Tryz.func41 rfl Tryz.ntmps41 rfl (vs:=[.agg #[.slice la0 p.classes.length lk0,c1,c2,c3,c4,c5,c6,c7,c8,c9,c10,c11,c12,c13,c14,c15,c16]]) rfl fun _ F=>?_
 have M:=Mm.start w0
 refine wp_seq_k fun K1 hK1 =>
  wk_region <|
  kbA (on rfl) rfl (F.u rf) rfl F rfl M fun g1 _ _ F M =>
  xA (v:=.int .i64 0) F rf rf rf fun _ F =>
  wpList_nil <|
  hK1 _ _ ?_
 refine wp_seq_k fun K2 hK2 =>
  wp_seq_k fun K3 hK3 =>
  wk_region <|
  xF 0 F rf rf rf u39 rf sz22 rf fun _ F =>
  xL F (M.b 0 rfl) rf rf rf u22 rf rf fun _ F =>
  kz F rf (e_lenSl rfl (F.u rf) u22) fun _ F =>
  kz F rf (e_gtr rfl (F.u rf) rfl) fun _ F =>
  wpList_nil <|
  hK3 _ _ ?_
 refine wp_cond_split (F.e 11 rfl) (fun hc2=>?_) (fun hc2=>?_)
 ·
  have hd3:=of_decide_eq_true hc2
  refine wp_seq_k fun K4 hK4 =>
   wk_region <|
   xA (v:=.int .i64 4) F rf rf rf fun _ F =>
   wpList_nil <|
   hK4 _ _ ?_
  refine wp_ret <|
   HRET _ _ _ _ F rfl ?_
  exact⟨ret_int (by unfold classesM;rw[if_pos (by omega)]),M.below⟩
 ·
  have hd4:=of_decide_eq_false hc2
  refine wp_skip <|
   hK2 _ _ ?_
  refine wp_seq_k fun K5 hK5 =>
   wk_region <|
   xA (v:=.slice none 0 0) F rf rf rf fun _ F =>
   wpList_nil <| ?_
  have M:=M.nilRow 9 1
  refine hK5 _ _ ?_
  refine wp_seq_k fun K6 hK6 =>
   wp_seq_k fun K7 hK7 =>
   wk_region <|
   xA (v:=.int .i64 0) F rf rf rf fun _ F =>
   wpList_nil <|
   hK7 _ _ ?_
  refine wp_block <| ?_
  refine wk_loop (ι:=Nat×Value×List ByteArray) (fun | (m,v,l),a,w=>Fs a 51 [(1,.pointer (some ⟨g1,0,none⟩)),(3,v),(4,.int .i64 (m:Int))]∧Mm w0 w [(g1,39,#[.slice la0 p.classes.length lk0,c1,c2,c3,c4,c5,c6,c7,c8,c9,c10,c11,c12,c13,c14,c15,c16])] [⟨v,9,1,l.length,l.flatMap strCell⟩]∧m≤p.classes.length∧l=(p.classes.take m).map (·.name)∧firstE (classF p) p.classes.length 0=firstE (classF p) (p.classes.length-m) m) (fun | (m,v,l)=>p.classes.length-m) (0,.slice none 0 0,[]) ⟨F.sub ⟨rfl,rfl,rfl,trivial⟩,M,Nat.zero_le _,rfl,(by rw[Nat.sub_zero])⟩ ?_
  (repeat clear F);(repeat clear M)
  rintro⟨m,v,l⟩ _ _ ⟨F,M,hm,hl,hinv⟩
  refine wp_seq_k fun K8 hK8 =>
   wp_seq_k fun K9 hK9 =>
   wk_region <|
   xM F rf rf rf fun _ F =>
   xF 0 F rf rf rf u39 rf sz22 rf fun _ F =>
   xL F (M.b 0 rfl) rf rf rf u22 rf rf fun _ F =>
   kz F rf (e_lenSl rfl (F.u rf) u22) fun _ F =>
   kz F rf (e_lss rfl (F.u rf) (F.u rf)) fun _ F =>
   wpList_nil <|
   hK9 _ _ ?_
  refine wp_cond_split (F.e 16 rfl) (fun hc5=>?_) (fun hc5=>?_)
  ·
   have hd6:=of_decide_eq_true hc5
   refine wp_skip <|
    hK8 _ _ ?_
   refine wp_seq_k fun K10 hK10 =>
    wp_block <|
    wp_seq_k fun K11 hK11=>?_
   have hlt:m<p.classes.length:=by omega
   obtain⟨y,hy⟩:∃ y,p.classes[m]?=some y:=⟨_,List.getElem?_eq_getElem hlt⟩
   obtain⟨b0,ob0,csb0,rfl,⟨pvb0,rfl,hvb0⟩,-,hrb0⟩:=hcell0 m y hy
   obtain⟨pab0,pkb0,rfl,hpkb0,hpmb0,hpcb0⟩:=SliceAt.form hvb0 (by decide)
   have oky:=hok.classes y (List.mem_of_getElem? hy)
   have hcf:classF p m=classM l y:=by unfold classF;rw[hy,hl]
   have hlm:l.length≤32:=by rw[hl,List.length_map,List.length_take];omega
   refine wk_region <|
    xF 0 F rf rf rf u39 rf sz22 rf fun _ F =>
    xL F (M.b 0 rfl) rf rf rf u22 rf rf fun _ F =>
    xM F rf rf rf fun _ F =>
    kz F rf (e_indexAddr (i:=m) rfl (F.u rf) (F.u rf) (by omega) u22 sz180) fun _ F =>
    kz F rf (e_loadN [.string y.name,.slice pab0 y.perms.length pkb0] rfl (F.u rf) u180 rfl sz180 (lat M.below hrb0)) fun _ F =>
    kaA (on rfl) rfl zr180 rfl F rfl M fun g7 _ _ F M =>
    ksA (on rfl) rfl (F.u rf) (F.u rf) F M 0 rfl sz180 rfl rfl rfl fun _ M =>
    wpList_nil <|
    hK11 _ _ ?_
   refine wp_seq_k fun K12 hK12 =>
    wp_seq_k fun K13 hK13 =>
    wk_region <|
    xF 0 F rf rf rf u180 rf sz9 rf fun _ F =>
    xL F (M.b 0 rfl) rf rf rf u9 rf rf fun _ F =>
    xS F M rf rf rf u28 sz9 zr9 rf rf fun g8 _ _ F M =>
    xM F rf rf rf fun _ F =>
    xC F M rf rf q101 (args2 (F.u rf) (F.u rf)) (names_any _ _ _ [y.name] l (one_str (M.b 0 rfl)) (own_strs (M.r 0 rfl)) (one_ok oky.name)) fun _ _ F M =>
    xA F rf rf rf fun _ F =>
    wpList_nil <|
    hK13 _ _ ?_
   refine wp_seq_k fun K14 hK14 =>
    wk_region <|
    xM F rf rf rf fun _ F =>
    kz F rf (e_neI rfl (F.u rf) rfl) fun _ F =>
    wpList_nil <|
    hK14 _ _ ?_
   refine wp_cond_split (F.e 30 rfl) (fun hc9=>?_) (fun hc9=>?_)
   ·
    have hd10:=of_decide_eq_false (show decide (namesM [y.name] l=0)=false by simpa using hc9)
    have hk11:(decide (namesM [y.name] l=0))=false:=by simpa using hc9
    refine wp_seq_k fun K15 hK15 =>
     wk_region <|
     xM F rf rf rf fun _ F =>
     xA F rf rf rf fun _ F =>
     wpList_nil <|
     hK15 _ _ ?_
    refine wp_ret <|
     HRET _ _ _ _ F rfl ?_
    have hv:classF p m=namesM [y.name] l:=by
     rw[hcf];unfold classM;(repeat' split)<;>omega
    exact⟨ret_int (by unfold classesM;rw[if_neg (by omega),hinv,firstE_at hlt (by rw[hv];omega),hv]),M.below⟩
   ·
    have hd12:=of_decide_eq_true (show decide (namesM [y.name] l=0)=true by simpa using hc9)
    have hk13:(decide (namesM [y.name] l=0))=true:=by simpa using hc9
    refine wp_skip <|
     hK12 _ _ ?_
    refine wp_seq_k fun K16 hK16 =>
     wk_region <|
     xM F rf rf rf fun _ F =>
     xF 0 F rf rf rf u180 rf sz9 rf fun _ F =>
     xL F (M.b 1 rfl) rf rf rf u9 rf rf fun _ F =>
     xS F M rf rf rf u28 sz9 zr9 rf rf fun g14 _ _ F M =>
     kp (on rfl) rfl u28 inf9 rfl M 0 rfl (F.u rf) (F.u rf) (M.slice 0 rfl rfl rfl (by simp[maxLen])) ⟨by unfold maxLen;omega,by omega⟩ rfl F rfl fun v15 _ _ F M =>
     xA F rf rf rf fun _ F =>
     wpList_nil <|
     hK16 _ _ ?_
    refine wp_seq_k fun K17 hK17 =>
     wp_seq_k fun K18 hK18 =>
     wk_region <|
     xF 1 F rf rf rf u180 rf sz28 rf fun _ F =>
     xL F (M.b 2 rfl) rf rf rf u28 rf rf fun _ F =>
     kz F rf (e_lenSl rfl (F.u rf) u28) fun _ F =>
     kz F rf (e_gtr rfl (F.u rf) rfl) fun _ F =>
     wpList_nil <|
     hK18 _ _ ?_
    refine wp_cond_split (F.e 40 rfl) (fun hc16=>?_) (fun hc16=>?_)
    ·
     have hd17:=of_decide_eq_true hc16
     refine wp_seq_k fun K19 hK19 =>
      wk_region <|
      xA (v:=.int .i64 4) F rf rf rf fun _ F =>
      wpList_nil <|
      hK19 _ _ ?_
     refine wp_ret <|
      HRET _ _ _ _ F rfl ?_
     have hv:classF p m=4:=by
      rw[hcf];unfold classM;(repeat' split)<;>omega
     exact⟨ret_int (by unfold classesM;rw[if_neg (by omega),hinv,firstE_at hlt (by rw[hv];omega),hv]),M.below⟩
    ·
     have hd18:=of_decide_eq_false hc16
     refine wp_skip <|
      hK17 _ _ ?_
     refine wp_seq_k fun K20 hK20 =>
      wp_seq_k fun K21 hK21 =>
      wk_region <|
      xF 1 F rf rf rf u180 rf sz28 rf fun _ F =>
      xL F (M.b 2 rfl) rf rf rf u28 rf rf fun _ F =>
      kz F rf (e_lenSl rfl (F.u rf) u28) fun _ F =>
      kz F rf (e_eqI rfl (F.u rf) rfl) fun _ F =>
      wpList_nil <|
      hK21 _ _ ?_
     refine wp_cond_split (F.e 44 rfl) (fun hc19=>?_) (fun hc19=>?_)
     ·
      have hd20:=of_decide_eq_true hc19
      refine wp_seq_k fun K22 hK22 =>
       wk_region <|
       xA (v:=.int .i64 2) F rf rf rf fun _ F =>
       wpList_nil <|
       hK22 _ _ ?_
      refine wp_ret <|
       HRET _ _ _ _ F rfl ?_
      have hv:classF p m=2:=by
       rw[hcf];unfold classM;(repeat' split)<;>omega
      exact⟨ret_int (by unfold classesM;rw[if_neg (by omega),hinv,firstE_at hlt (by rw[hv];omega),hv]),M.below⟩
     ·
      have hd21:=of_decide_eq_false hc19
      refine wp_skip <|
       hK20 _ _ ?_
      refine wp_seq_k fun K23 hK23 =>
       wk_region <|
       xF 1 F rf rf rf u180 rf sz28 rf fun _ F =>
       xL F (M.b 2 rfl) rf rf rf u28 rf rf fun _ F =>
       xC F M rf rf q101 (args2 (F.u rf) rfl) (names_any _ _ _ y.perms [] (hvb0.keep M.below) (SliceAt.nil _ _) oky.perms.all) fun _ _ F M =>
       xA F rf rf rf fun _ F =>
       wpList_nil <|
       hK23 _ _ ?_
      refine wp_seq_k fun K24 hK24 =>
       wk_region <|
       xM F rf rf rf fun _ F =>
       kz F rf (e_neI rfl (F.u rf) rfl) fun _ F =>
       wpList_nil <|
       hK24 _ _ ?_
      refine wp_cond_split (F.e 49 rfl) (fun hc22=>?_) (fun hc22=>?_)
      ·
       have hd23:=of_decide_eq_false (show decide (namesM y.perms []=0)=false by simpa using hc22)
       have hk24:(decide (namesM y.perms []=0))=false:=by simpa using hc22
       refine wp_seq_k fun K25 hK25 =>
        wk_region <|
        xM F rf rf rf fun _ F =>
        xA F rf rf rf fun _ F =>
        wpList_nil <|
        hK25 _ _ ?_
       refine wp_ret <|
        HRET _ _ _ _ F rfl ?_
       have hv:classF p m=namesM y.perms []:=by
        rw[hcf];unfold classM;(repeat' split)<;>omega
       exact⟨ret_int (by unfold classesM;rw[if_neg (by omega),hinv,firstE_at hlt (by rw[hv];omega),hv]),M.below⟩
      ·
       have hd25:=of_decide_eq_true (show decide (namesM y.perms []=0)=true by simpa using hc22)
       have hk26:(decide (namesM y.perms []=0))=true:=by simpa using hc22
       refine wp_skip <|
        hK10 _ _ ?_
       refine wk_region <|
        xM F rf rf rf fun _ F =>
        ke (on rfl) (e_add rfl (F.u rf) rfl) rfl F rfl (congrArg (Value.int .i64) (wrap_i64 (by omega))) fun _ F =>
        xA F rf rf rf fun _ F =>
        wpList_nil <| ?_
       have hv:classF p m=0:=by
        rw[hcf];unfold classM;(repeat' split)<;>omega
       exact⟨(m+1,v15,l++[y.name]),⟨F.sub ⟨rfl,rfl,rfl,trivial⟩,((M.only (.cons _ (.cons _ (.cons _ (.cons_cons _ .slnil)))) (.cons_cons _ .slnil))).cast rfl (by rw[List.length_append,List.flatMap_append];rfl),by omega,by rw[take_snoc hy,List.map_append,← hl];rfl,hinv.trans (firstE_next hlt hv)⟩,by show p.classes.length-(m+1)<p.classes.length-m;omega⟩
  ·
   have hd27:=of_decide_eq_false hc5
   refine wp_exit <|
    hK6 _ _ ?_
   refine wp_seq_k fun K26 hK26 =>
    wk_region <|
    xA (v:=.int .i64 0) F rf rf rf fun _ F =>
    wpList_nil <|
    hK26 _ _ ?_
   refine wp_ret <|
    HRET _ _ _ _ F rfl ?_
   exact⟨ret_int (by unfold classesM;rw[if_neg (by omega),hinv,show m=p.classes.length by omega,firstE_stop]),M.below⟩
end Go.Proofs.YtdcofoaihmongaaGreat

import Derived.JoinedOf
import Derived.ProofKit
import Derived.Sort.OwnSortedInts
import Derived.Test.YtdcofoaihmongaaGreatChecked
import Derived.Test.YtdcofoaihmongaaGreatRows
import Derived.Test.YtdcofoaihmongaaGreatS5
namespace Go.Proofs.YtdcofoaihmongaaGreat.V
open Go Go.WideMaps Go.RowKit
theorem filter_one {α:Type} (p:α→Bool) (y:α):[y].filter p=if p y=true then [y] else []:=by cases h:p y<;>simp[h]
theorem sort_any (w:World) (base:Nat) (v:Value) (zs:List Int) (h:w.ownsRow base 3 1 v zs.length (zs.map anInt)) (hz:zs.length≤100000001) :
 Calls Tryz.prog 202 #[v] w fun e w'=>e=.returned (.tuple #[])∧w'.ownsRow base 3 1 v zs.length ((zs.mergeSort fun x y=>decide (x≤y)).map anInt)∧w.grownBy w' v.ownBlock:=by
 rcases h.2 with⟨rfl,h0⟩ | ⟨g,cap,cur,rfl,hg,hh,h1,h2,h3,h4⟩
 ·have:zs=[]:=List.eq_nil_of_length_eq_zero h0
  subst this
  refine(slices_Sort_int_none none 0 w).mono ?_
  rintro e w' ⟨rfl,rfl⟩
  exact⟨rfl,by simpa using h,World.grownBy.refl _ _⟩
 ·refine(slices_Sort_int g 0 cap zs w (holds_of_blockI hh (by rw[Nat.mul_one] at h4;exact h4)) (Array.getElem?_eq_some_iff.1 hh).1 (by omega)).mono ?_
  rintro e w' ⟨rfl,n,os,rfl⟩
  exact⟨rfl,ownsRow_sortedI (List.length_mergeSort _) hg hh h1 h2 h3,grownBy_sortedI _⟩
set_option maxRecDepth 100000 in
set_option maxHeartbeats 4000000 in
theorem ch7_38_t (w:World) (tb kb sa ss mb:Nat) (kv vv pa pb:Value) (pm:Int) (k:Key4) (u:AVec) (x2 x4 x5 x6 x7 x8 x9 x10 x12 x13 x14 x15 x16 x17 x18 x19 x20 x21 x22 x23 x24 x25 x26 x27 x28 x29 x30 x31 x32 x33 x34 x35 x36 x37 x38 x39 x40 x41 x42 x43 x44 x45 x46 x47 x48 x49 x50 x51 x52 x53 x54 x55:Value) (HT:Hid (Whole w tb 100 #[.pointer (some ⟨sa,0,none⟩),.pointer (some ⟨ss,0,none⟩),vv])) (HS:Hid (Whole w ss 121 #[.map (some mb),kv])) (HK:Hid (Whole w kb 102 #[.int .i64 k.src,.int .i64 k.tgt,.int .i64 k.cls,.int .i64 k.cond])) (HL:Hid (∀ W,RowKit.Below w.heap.size w W→(Instr.lookup 118 (.map (some mb)) (.agg #[.int .i64 k.src,.int .i64 k.tgt,.int .i64 k.cls,.int .i64 k.cond]) false).run Tryz.prog W=.ok (.agg #[.int .u32 u.allow,.int .u32 u.audit,.int .u32 u.dont]) W)) (HC:Hid (∀ W,RowKit.Below w.heap.size w W→Calls Tryz.prog 119 #[.agg #[.int .i64 k.src,.int .i64 k.tgt,.int .i64 k.cls,.int .i64 k.cond],pa,pb] W fun e w'=>e=.returned (.bool true)∧RowKit.Below W.heap.size W w'))
 {Q':Exit→Act→World→Prop} (hend:∀ (v27 v28 v29 v30 v31 v32 v33 v34 v35 v36 v37 v38 v39 v40 v41 v42 v43 v44:Value) (w':World),RowKit.Below w.heap.size w w'→Q' .normal ⟨#[.pointer (some ⟨tb,0,none⟩),.int .u32 pm,x2,.func (.func 119) #[] #[pa,pb],x4,x5,x6,x7,x8,x9,x10,.pointer (some ⟨kb,0,none⟩),x12,x13,x14,x15,x16,x17,x18,x19,x20,x21,x22,x23,x24,x25,x26,v27,v28,v29,v30,v31,v32,v33,v34,v35,v36,v37,v38,v39,v40,v41,v42,v43,v44,.bool (bits .and .u32 u.allow pm == pm),x46,x47,x48,x49,x50,x51,x52,x53,x54,x55],[]⟩ w') :
 Code.wp Tryz.prog (findRegion7 7 ((Tryz.f118.body).getD .skip)) Q' ⟨#[.pointer (some ⟨tb,0,none⟩),.int .u32 pm,x2,.func (.func 119) #[] #[pa,pb],x4,x5,x6,x7,x8,x9,x10,.pointer (some ⟨kb,0,none⟩),x12,x13,x14,x15,x16,x17,x18,x19,x20,x21,x22,x23,x24,x25,x26,x27,x28,x29,x30,x31,x32,x33,x34,x35,x36,x37,x38,x39,x40,x41,x42,x43,x44,x45,x46,x47,x48,x49,x50,x51,x52,x53,x54,x55],[]⟩ w:=by
 have HEND:=Lib.hid hend
 clear hend
 conv=>arg 2;whnf
 conv=>arg 4;dsimp only
 refine wp_region_goods [some 27,some 28,some 29,some 30,some 31,some 32,some 33,some 34,some 35,some 36,some 37,some 38,some 39,some 40,some 41,some 42,some 43,some 44] [isW (.func (.func 119) #[] #[pa,pb]),isW (.agg #[.int .i64 k.src,.int .i64 k.tgt,.int .i64 k.cls,.int .i64 k.cond]),isW (.bool true),isW (.bool true),isW (.pointer (some ⟨tb,0,none⟩)),isW (.pointer (some ⟨tb,0,none⟩)),isW (.pointer (some ⟨tb,1,none⟩)),isW (.pointer (some ⟨ss,0,none⟩)),isW (.pointer (some ⟨ss,0,none⟩)),isW (.pointer (some ⟨ss,0,none⟩)),isW (.map (some mb)),isW (.agg #[.int .i64 k.src,.int .i64 k.tgt,.int .i64 k.cls,.int .i64 k.cond]),isW (.agg #[.int .u32 u.allow,.int .u32 u.audit,.int .u32 u.dont]),isW (.int .u32 u.allow),isW (.int .u32 pm),isW (.int .u32 (bits .and .u32 u.allow pm)),isW (.int .u32 pm),isW (.bool (bits .and .u32 u.allow pm == pm))] (fun _ w'=>RowKit.Below w.heap.size w w') [] (by kernel_rfl) (by kernel_rfl) (by kernel_rfl) rfl (by decide) rfl rfl ((Below.refl _ _).drew) ⟨lastsW_is _,lastsW_is _,lastsW_is _,lastsW_is _,lastsW_is _,lastsW_is _,lastsW_is _,lastsW_is _,lastsW_is _,lastsW_is _,lastsW_is _,lastsW_is _,lastsW_is _,lastsW_is _,lastsW_is _,lastsW_is _,lastsW_is _,lastsW_is _,trivial⟩ ⟨?_,?_,?_,?_,?_,?_,?_,?_,?_,?_,?_,?_,?_,?_,?_,?_,?_,?_,?_⟩
 ·intro L a wy Q' hL hi H F hK
  try dsimp only at hi
  have h3:a.tmps[3]?=some (.func (.func 119) #[] #[pa,pb]):=F 3 rfl
  have HI:=Lib.hid hi
  clear H F hi hL
  go_wp2_with fail
  exact hK _ _ (Below.refl _ _) HI.out rfl
 ·intro L a wy Q' hL hi H F hK
  try dsimp only at hi
  have h11:a.tmps[11]?=some (.pointer (some ⟨kb,0,none⟩)):=F 11 rfl
  have HI:=Lib.hid hi
  clear H F hi hL
  have kq0:wy.cell? ⟨kb,0,none⟩=some (.int .i64 k.src):=(Whole.under HI.out HK.out (Whole.lt HK.out)).cell 0
  have kq1:wy.cell? ⟨kb,1,none⟩=some (.int .i64 k.tgt):=(Whole.under HI.out HK.out (Whole.lt HK.out)).cell 1
  have kq2:wy.cell? ⟨kb,2,none⟩=some (.int .i64 k.cls):=(Whole.under HI.out HK.out (Whole.lt HK.out)).cell 2
  have kq3:wy.cell? ⟨kb,3,none⟩=some (.int .i64 k.cond):=(Whole.under HI.out HK.out (Whole.lt HK.out)).cell 3
  go_wp2_with fail
  exact hK _ _ (Below.refl _ _) HI.out rfl
 ·intro L a wy Q' hL hi H F hK
  try dsimp only at hi
  obtain⟨_,h27,rfl⟩:=H 0 ⟨.data,by simp,rfl⟩ _ rfl
  replace h27:=h27 _ rfl
  obtain⟨_,h28,rfl⟩:=H 1 ⟨.data,by simp,rfl⟩ _ rfl
  replace h28:=h28 _ rfl
  have HI:=Lib.hid hi
  clear H F hi hL
  have HK:=Lib.hid hK
  clear hK
  go_wp2_with (go_at_call 119;go_must (refine(HC.out wy HI.out).mono ?_;rintro e w1 ⟨rfl,hb1⟩))
  exact HK.out _ _ hb1 (HI.out.trans (hb1.mono HI.out.size)) rfl
 ·intro L a wy Q' hL hi H F hK
  try dsimp only at hi
  obtain⟨_,h29,rfl⟩:=H 2 ⟨.data,by simp,rfl⟩ _ rfl
  replace h29:=h29 _ rfl
  have HI:=Lib.hid hi
  clear H F hi hL
  go_wp2_with fail
  exact hK _ _ (Below.refl _ _) HI.out rfl
 ·intro L a wy Q' hL hi H F hK
  try dsimp only at hi
  obtain⟨_,h30,rfl⟩:=H 3 ⟨.guard,by simp,rfl⟩ _ rfl
  replace h30:=h30 _ rfl
  have h0:a.tmps[0]?=some (.pointer (some ⟨tb,0,none⟩)):=F 0 rfl
  have HI:=Lib.hid hi
  clear H F hi hL
  go_wp2_with fail
  exact hK _ _ (Below.refl _ _) HI.out rfl
 ·intro L a wy Q' hL hi H F hK
  try dsimp only at hi
  obtain⟨_,h31,rfl⟩:=H 4 ⟨.data,by simp,rfl⟩ _ rfl
  replace h31:=h31 _ rfl
  obtain⟨_,h30,rfl⟩:=H 3 ⟨.guard,by simp,rfl⟩ _ rfl
  replace h30:=h30 _ rfl
  have HI:=Lib.hid hi
  clear H F hi hL
  go_wp2_with fail
  exact hK _ _ (Below.refl _ _) HI.out rfl
 ·intro L a wy Q' hL hi H F hK
  try dsimp only at hi
  obtain⟨_,h32,rfl⟩:=H 5 ⟨.data,by simp,rfl⟩ _ rfl
  replace h32:=h32 _ rfl
  obtain⟨_,h30,rfl⟩:=H 3 ⟨.guard,by simp,rfl⟩ _ rfl
  replace h30:=h30 _ rfl
  have HI:=Lib.hid hi
  clear H F hi hL
  go_wp2_with fail
  exact hK _ _ (Below.refl _ _) HI.out rfl
 ·intro L a wy Q' hL hi H F hK
  try dsimp only at hi
  obtain⟨_,h33,rfl⟩:=H 6 ⟨.data,by simp,rfl⟩ _ rfl
  replace h33:=h33 _ rfl
  obtain⟨_,h30,rfl⟩:=H 3 ⟨.guard,by simp,rfl⟩ _ rfl
  replace h30:=h30 _ rfl
  have HI:=Lib.hid hi
  clear H F hi hL
  have kq0:wy.cell? ⟨tb,1,none⟩=some (.pointer (some ⟨ss,0,none⟩)):=(Whole.under HI.out HT.out (Whole.lt HT.out)).cell 1
  go_wp2_with fail
  exact hK _ _ (Below.refl _ _) HI.out rfl
 ·intro L a wy Q' hL hi H F hK
  try dsimp only at hi
  obtain⟨_,h34,rfl⟩:=H 7 ⟨.data,by simp,rfl⟩ _ rfl
  replace h34:=h34 _ rfl
  obtain⟨_,h30,rfl⟩:=H 3 ⟨.guard,by simp,rfl⟩ _ rfl
  replace h30:=h30 _ rfl
  have HI:=Lib.hid hi
  clear H F hi hL
  go_wp2_with fail
  exact hK _ _ (Below.refl _ _) HI.out rfl
 ·intro L a wy Q' hL hi H F hK
  try dsimp only at hi
  obtain⟨_,h35,rfl⟩:=H 8 ⟨.data,by simp,rfl⟩ _ rfl
  replace h35:=h35 _ rfl
  obtain⟨_,h30,rfl⟩:=H 3 ⟨.guard,by simp,rfl⟩ _ rfl
  replace h30:=h30 _ rfl
  have HI:=Lib.hid hi
  clear H F hi hL
  go_wp2_with fail
  exact hK _ _ (Below.refl _ _) HI.out rfl
 ·intro L a wy Q' hL hi H F hK
  try dsimp only at hi
  obtain⟨_,h36,rfl⟩:=H 9 ⟨.data,by simp,rfl⟩ _ rfl
  replace h36:=h36 _ rfl
  obtain⟨_,h30,rfl⟩:=H 3 ⟨.guard,by simp,rfl⟩ _ rfl
  replace h30:=h30 _ rfl
  have HI:=Lib.hid hi
  clear H F hi hL
  have kq0:wy.cell? ⟨ss,0,none⟩=some (.map (some mb)):=(Whole.under HI.out HS.out (Whole.lt HS.out)).cell 0
  go_wp2_with fail
  exact hK _ _ (Below.refl _ _) HI.out rfl
 ·intro L a wy Q' hL hi H F hK
  try dsimp only at hi
  obtain⟨_,h30,rfl⟩:=H 3 ⟨.guard,by simp,rfl⟩ _ rfl
  replace h30:=h30 _ rfl
  have h11:a.tmps[11]?=some (.pointer (some ⟨kb,0,none⟩)):=F 11 rfl
  have HI:=Lib.hid hi
  clear H F hi hL
  have kq0:wy.cell? ⟨kb,0,none⟩=some (.int .i64 k.src):=(Whole.under HI.out HK.out (Whole.lt HK.out)).cell 0
  have kq1:wy.cell? ⟨kb,1,none⟩=some (.int .i64 k.tgt):=(Whole.under HI.out HK.out (Whole.lt HK.out)).cell 1
  have kq2:wy.cell? ⟨kb,2,none⟩=some (.int .i64 k.cls):=(Whole.under HI.out HK.out (Whole.lt HK.out)).cell 2
  have kq3:wy.cell? ⟨kb,3,none⟩=some (.int .i64 k.cond):=(Whole.under HI.out HK.out (Whole.lt HK.out)).cell 3
  go_wp2_with fail
  exact hK _ _ (Below.refl _ _) HI.out rfl
 ·intro L a wy Q' hL hi H F hK
  try dsimp only at hi
  obtain⟨_,h37,rfl⟩:=H 10 ⟨.data,by simp,rfl⟩ _ rfl
  replace h37:=h37 _ rfl
  obtain⟨_,h38,rfl⟩:=H 11 ⟨.data,by simp,rfl⟩ _ rfl
  replace h38:=h38 _ rfl
  obtain⟨_,h30,rfl⟩:=H 3 ⟨.guard,by simp,rfl⟩ _ rfl
  replace h30:=h30 _ rfl
  have HI:=Lib.hid hi
  clear H F hi hL
  have q:=HL.out wy HI.out
  go_wp2_with fail
  exact hK _ _ (Below.refl _ _) HI.out rfl
 ·intro L a wy Q' hL hi H F hK
  try dsimp only at hi
  obtain⟨_,h39,rfl⟩:=H 12 ⟨.data,by simp,rfl⟩ _ rfl
  replace h39:=h39 _ rfl
  obtain⟨_,h30,rfl⟩:=H 3 ⟨.guard,by simp,rfl⟩ _ rfl
  replace h30:=h30 _ rfl
  have HI:=Lib.hid hi
  clear H F hi hL
  have q:∀ W,(Instr.index 104 (.agg #[.int .u32 u.allow,.int .u32 u.audit,.int .u32 u.dont]) (.int .i64 0)).run Tryz.prog W=.ok (.int .u32 u.allow) W:=fun W=>by kernel_rfl
  go_wp2_with fail
  exact hK _ _ (Below.refl _ _) HI.out rfl
 ·intro L a wy Q' hL hi H F hK
  try dsimp only at hi
  obtain⟨_,h30,rfl⟩:=H 3 ⟨.guard,by simp,rfl⟩ _ rfl
  replace h30:=h30 _ rfl
  have h1:a.tmps[1]?=some (.int .u32 pm):=F 1 rfl
  have HI:=Lib.hid hi
  clear H F hi hL
  go_wp2_with fail
  exact hK _ _ (Below.refl _ _) HI.out rfl
 ·intro L a wy Q' hL hi H F hK
  try dsimp only at hi
  obtain⟨_,h40,rfl⟩:=H 13 ⟨.data,by simp,rfl⟩ _ rfl
  replace h40:=h40 _ rfl
  obtain⟨_,h41,rfl⟩:=H 14 ⟨.data,by simp,rfl⟩ _ rfl
  replace h41:=h41 _ rfl
  obtain⟨_,h30,rfl⟩:=H 3 ⟨.guard,by simp,rfl⟩ _ rfl
  replace h30:=h30 _ rfl
  have HI:=Lib.hid hi
  clear H F hi hL
  go_wp2_with fail
  exact hK _ _ (Below.refl _ _) HI.out rfl
 ·intro L a wy Q' hL hi H F hK
  try dsimp only at hi
  obtain⟨_,h30,rfl⟩:=H 3 ⟨.guard,by simp,rfl⟩ _ rfl
  replace h30:=h30 _ rfl
  have h1:a.tmps[1]?=some (.int .u32 pm):=F 1 rfl
  have HI:=Lib.hid hi
  clear H F hi hL
  go_wp2_with fail
  exact hK _ _ (Below.refl _ _) HI.out rfl
 ·intro L a wy Q' hL hi H F hK
  try dsimp only at hi
  obtain⟨_,h42,rfl⟩:=H 15 ⟨.data,by simp,rfl⟩ _ rfl
  replace h42:=h42 _ rfl
  obtain⟨_,h43,rfl⟩:=H 16 ⟨.data,by simp,rfl⟩ _ rfl
  replace h43:=h43 _ rfl
  obtain⟨_,h30,rfl⟩:=H 3 ⟨.guard,by simp,rfl⟩ _ rfl
  replace h30:=h30 _ rfl
  have HI:=Lib.hid hi
  clear H F hi hL
  go_wp2_with fail
  exact hK _ _ (Below.refl _ _) HI.out rfl
 ·intro a wy L hl hi hL Q' hK
  try dsimp only at hi
  have HB:=Lib.hid hi
  clear hi hL
  obtain⟨_,rfl,_,rfl,_,rfl,_,rfl,_,rfl,_,rfl,_,rfl,_,rfl,_,rfl,_,rfl,_,rfl,_,rfl,_,rfl,_,rfl,_,rfl,_,rfl,_,rfl,_,rfl,rfl⟩:=hl
  simp only[List.setIfInBounds_toArray,List.set_cons_zero,List.set_cons_succ]
  go_wp2_with fail
  exact HEND.out _ _ _ _ _ _ _ _ _ _ _ _ _ _ _ _ _ _ _ HB.out
set_option maxRecDepth 100000 in
set_option maxHeartbeats 4000000 in
theorem ch7_38_f (w:World) (tb kb sa ss mb:Nat) (kv vv pa pb:Value) (pm:Int) (k:Key4) (u:AVec) (x2 x4 x5 x6 x7 x8 x9 x10 x12 x13 x14 x15 x16 x17 x18 x19 x20 x21 x22 x23 x24 x25 x26 x27 x28 x29 x30 x31 x32 x33 x34 x35 x36 x37 x38 x39 x40 x41 x42 x43 x44 x45 x46 x47 x48 x49 x50 x51 x52 x53 x54 x55:Value) (_:Hid (Whole w tb 100 #[.pointer (some ⟨sa,0,none⟩),.pointer (some ⟨ss,0,none⟩),vv])) (_:Hid (Whole w ss 121 #[.map (some mb),kv])) (HK:Hid (Whole w kb 102 #[.int .i64 k.src,.int .i64 k.tgt,.int .i64 k.cls,.int .i64 k.cond])) (_:Hid (∀ W,RowKit.Below w.heap.size w W→(Instr.lookup 118 (.map (some mb)) (.agg #[.int .i64 k.src,.int .i64 k.tgt,.int .i64 k.cls,.int .i64 k.cond]) false).run Tryz.prog W=.ok (.agg #[.int .u32 u.allow,.int .u32 u.audit,.int .u32 u.dont]) W)) (HC:Hid (∀ W,RowKit.Below w.heap.size w W→Calls Tryz.prog 119 #[.agg #[.int .i64 k.src,.int .i64 k.tgt,.int .i64 k.cls,.int .i64 k.cond],pa,pb] W fun e w'=>e=.returned (.bool false)∧RowKit.Below W.heap.size W w'))
 {Q':Exit→Act→World→Prop} (hend:∀ (v27 v28 v29 v30 v31 v32 v33 v34 v35 v36 v37 v38 v39 v40 v41 v42 v43 v44:Value) (w':World),RowKit.Below w.heap.size w w'→Q' .normal ⟨#[.pointer (some ⟨tb,0,none⟩),.int .u32 pm,x2,.func (.func 119) #[] #[pa,pb],x4,x5,x6,x7,x8,x9,x10,.pointer (some ⟨kb,0,none⟩),x12,x13,x14,x15,x16,x17,x18,x19,x20,x21,x22,x23,x24,x25,x26,v27,v28,v29,v30,v31,v32,v33,v34,v35,v36,v37,v38,v39,v40,v41,v42,v43,v44,.bool false,x46,x47,x48,x49,x50,x51,x52,x53,x54,x55],[]⟩ w') :
 Code.wp Tryz.prog (findRegion7 7 ((Tryz.f118.body).getD .skip)) Q' ⟨#[.pointer (some ⟨tb,0,none⟩),.int .u32 pm,x2,.func (.func 119) #[] #[pa,pb],x4,x5,x6,x7,x8,x9,x10,.pointer (some ⟨kb,0,none⟩),x12,x13,x14,x15,x16,x17,x18,x19,x20,x21,x22,x23,x24,x25,x26,x27,x28,x29,x30,x31,x32,x33,x34,x35,x36,x37,x38,x39,x40,x41,x42,x43,x44,x45,x46,x47,x48,x49,x50,x51,x52,x53,x54,x55],[]⟩ w:=by
 have HEND:=Lib.hid hend
 clear hend
 conv=>arg 2;whnf
 conv=>arg 4;dsimp only
 refine wp_region_goods [some 27,some 28,some 29,some 30,some 31,some 32,some 33,some 34,some 35,some 36,some 37,some 38,some 39,some 40,some 41,some 42,some 43,some 44] [isW (.func (.func 119) #[] #[pa,pb]),isW (.agg #[.int .i64 k.src,.int .i64 k.tgt,.int .i64 k.cls,.int .i64 k.cond]),isW (.bool false),isW (.bool false),isW (undef),isW (undef),isW (undef),isW (undef),isW (undef),isW (undef),isW (undef),isW (undef),isW (undef),isW (undef),isW (undef),isW (undef),isW (undef),isW (undef)] (fun _ w'=>RowKit.Below w.heap.size w w') [] (by kernel_rfl) (by kernel_rfl) (by kernel_rfl) rfl (by decide) rfl rfl ((Below.refl _ _).drew) ⟨lastsW_is _,lastsW_is _,lastsW_is _,lastsW_is _,lastsW_is _,lastsW_is _,lastsW_is _,lastsW_is _,lastsW_is _,lastsW_is _,lastsW_is _,lastsW_is _,lastsW_is _,lastsW_is _,lastsW_is _,lastsW_is _,lastsW_is _,lastsW_is _,trivial⟩ ⟨?_,?_,?_,?_,?_,?_,?_,?_,?_,?_,?_,?_,?_,?_,?_,?_,?_,?_,?_⟩
 ·intro L a wy Q' hL hi H F hK
  try dsimp only at hi
  have h3:a.tmps[3]?=some (.func (.func 119) #[] #[pa,pb]):=F 3 rfl
  have HI:=Lib.hid hi
  clear H F hi hL
  go_wp2_with fail
  exact hK _ _ (Below.refl _ _) HI.out rfl
 ·intro L a wy Q' hL hi H F hK
  try dsimp only at hi
  have h11:a.tmps[11]?=some (.pointer (some ⟨kb,0,none⟩)):=F 11 rfl
  have HI:=Lib.hid hi
  clear H F hi hL
  have kq0:wy.cell? ⟨kb,0,none⟩=some (.int .i64 k.src):=(Whole.under HI.out HK.out (Whole.lt HK.out)).cell 0
  have kq1:wy.cell? ⟨kb,1,none⟩=some (.int .i64 k.tgt):=(Whole.under HI.out HK.out (Whole.lt HK.out)).cell 1
  have kq2:wy.cell? ⟨kb,2,none⟩=some (.int .i64 k.cls):=(Whole.under HI.out HK.out (Whole.lt HK.out)).cell 2
  have kq3:wy.cell? ⟨kb,3,none⟩=some (.int .i64 k.cond):=(Whole.under HI.out HK.out (Whole.lt HK.out)).cell 3
  go_wp2_with fail
  exact hK _ _ (Below.refl _ _) HI.out rfl
 ·intro L a wy Q' hL hi H F hK
  try dsimp only at hi
  obtain⟨_,h27,rfl⟩:=H 0 ⟨.data,by simp,rfl⟩ _ rfl
  replace h27:=h27 _ rfl
  obtain⟨_,h28,rfl⟩:=H 1 ⟨.data,by simp,rfl⟩ _ rfl
  replace h28:=h28 _ rfl
  have HI:=Lib.hid hi
  clear H F hi hL
  have HK:=Lib.hid hK
  clear hK
  go_wp2_with (go_at_call 119;go_must (refine(HC.out wy HI.out).mono ?_;rintro e w1 ⟨rfl,hb1⟩))
  exact HK.out _ _ hb1 (HI.out.trans (hb1.mono HI.out.size)) rfl
 ·intro L a wy Q' hL hi H F hK
  try dsimp only at hi
  obtain⟨_,h29,rfl⟩:=H 2 ⟨.data,by simp,rfl⟩ _ rfl
  replace h29:=h29 _ rfl
  have HI:=Lib.hid hi
  clear H F hi hL
  go_wp2_with fail
  exact hK _ _ (Below.refl _ _) HI.out rfl
 ·intro L a wy Q' hL hi H F hK
  try dsimp only at hi
  obtain⟨_,h30,rfl⟩:=H 3 ⟨.guard,by simp,rfl⟩ _ rfl
  replace h30:=h30 _ rfl
  have h0:a.tmps[0]?=some (.pointer (some ⟨tb,0,none⟩)):=F 0 rfl
  have HI:=Lib.hid hi
  clear H F hi hL
  refine wpList_skip (by simp[Region.wanted,yielded,h30]) ?_
  exact hK _ _ (Below.refl _ _) HI.out rfl
 ·intro L a wy Q' hL hi H F hK
  try dsimp only at hi
  obtain⟨_,h31,rfl⟩:=H 4 ⟨.data,by simp,rfl⟩ _ rfl
  replace h31:=h31 _ rfl
  obtain⟨_,h30,rfl⟩:=H 3 ⟨.guard,by simp,rfl⟩ _ rfl
  replace h30:=h30 _ rfl
  have HI:=Lib.hid hi
  clear H F hi hL
  refine wpList_skip (by simp[Region.wanted,yielded,h30]) ?_
  exact hK _ _ (Below.refl _ _) HI.out rfl
 ·intro L a wy Q' hL hi H F hK
  try dsimp only at hi
  obtain⟨_,h32,rfl⟩:=H 5 ⟨.data,by simp,rfl⟩ _ rfl
  replace h32:=h32 _ rfl
  obtain⟨_,h30,rfl⟩:=H 3 ⟨.guard,by simp,rfl⟩ _ rfl
  replace h30:=h30 _ rfl
  have HI:=Lib.hid hi
  clear H F hi hL
  refine wpList_skip (by simp[Region.wanted,yielded,h30]) ?_
  exact hK _ _ (Below.refl _ _) HI.out rfl
 ·intro L a wy Q' hL hi H F hK
  try dsimp only at hi
  obtain⟨_,h33,rfl⟩:=H 6 ⟨.data,by simp,rfl⟩ _ rfl
  replace h33:=h33 _ rfl
  obtain⟨_,h30,rfl⟩:=H 3 ⟨.guard,by simp,rfl⟩ _ rfl
  replace h30:=h30 _ rfl
  have HI:=Lib.hid hi
  clear H F hi hL
  refine wpList_skip (by simp[Region.wanted,yielded,h30]) ?_
  exact hK _ _ (Below.refl _ _) HI.out rfl
 ·intro L a wy Q' hL hi H F hK
  try dsimp only at hi
  obtain⟨_,h34,rfl⟩:=H 7 ⟨.data,by simp,rfl⟩ _ rfl
  replace h34:=h34 _ rfl
  obtain⟨_,h30,rfl⟩:=H 3 ⟨.guard,by simp,rfl⟩ _ rfl
  replace h30:=h30 _ rfl
  have HI:=Lib.hid hi
  clear H F hi hL
  refine wpList_skip (by simp[Region.wanted,yielded,h30]) ?_
  exact hK _ _ (Below.refl _ _) HI.out rfl
 ·intro L a wy Q' hL hi H F hK
  try dsimp only at hi
  obtain⟨_,h35,rfl⟩:=H 8 ⟨.data,by simp,rfl⟩ _ rfl
  replace h35:=h35 _ rfl
  obtain⟨_,h30,rfl⟩:=H 3 ⟨.guard,by simp,rfl⟩ _ rfl
  replace h30:=h30 _ rfl
  have HI:=Lib.hid hi
  clear H F hi hL
  refine wpList_skip (by simp[Region.wanted,yielded,h30]) ?_
  exact hK _ _ (Below.refl _ _) HI.out rfl
 ·intro L a wy Q' hL hi H F hK
  try dsimp only at hi
  obtain⟨_,h36,rfl⟩:=H 9 ⟨.data,by simp,rfl⟩ _ rfl
  replace h36:=h36 _ rfl
  obtain⟨_,h30,rfl⟩:=H 3 ⟨.guard,by simp,rfl⟩ _ rfl
  replace h30:=h30 _ rfl
  have HI:=Lib.hid hi
  clear H F hi hL
  refine wpList_skip (by simp[Region.wanted,yielded,h30]) ?_
  exact hK _ _ (Below.refl _ _) HI.out rfl
 ·intro L a wy Q' hL hi H F hK
  try dsimp only at hi
  obtain⟨_,h30,rfl⟩:=H 3 ⟨.guard,by simp,rfl⟩ _ rfl
  replace h30:=h30 _ rfl
  have h11:a.tmps[11]?=some (.pointer (some ⟨kb,0,none⟩)):=F 11 rfl
  have HI:=Lib.hid hi
  clear H F hi hL
  refine wpList_skip (by simp[Region.wanted,yielded,h30]) ?_
  exact hK _ _ (Below.refl _ _) HI.out rfl
 ·intro L a wy Q' hL hi H F hK
  try dsimp only at hi
  obtain⟨_,h37,rfl⟩:=H 10 ⟨.data,by simp,rfl⟩ _ rfl
  replace h37:=h37 _ rfl
  obtain⟨_,h38,rfl⟩:=H 11 ⟨.data,by simp,rfl⟩ _ rfl
  replace h38:=h38 _ rfl
  obtain⟨_,h30,rfl⟩:=H 3 ⟨.guard,by simp,rfl⟩ _ rfl
  replace h30:=h30 _ rfl
  have HI:=Lib.hid hi
  clear H F hi hL
  refine wpList_skip (by simp[Region.wanted,yielded,h30]) ?_
  exact hK _ _ (Below.refl _ _) HI.out rfl
 ·intro L a wy Q' hL hi H F hK
  try dsimp only at hi
  obtain⟨_,h39,rfl⟩:=H 12 ⟨.data,by simp,rfl⟩ _ rfl
  replace h39:=h39 _ rfl
  obtain⟨_,h30,rfl⟩:=H 3 ⟨.guard,by simp,rfl⟩ _ rfl
  replace h30:=h30 _ rfl
  have HI:=Lib.hid hi
  clear H F hi hL
  refine wpList_skip (by simp[Region.wanted,yielded,h30]) ?_
  exact hK _ _ (Below.refl _ _) HI.out rfl
 ·intro L a wy Q' hL hi H F hK
  try dsimp only at hi
  obtain⟨_,h30,rfl⟩:=H 3 ⟨.guard,by simp,rfl⟩ _ rfl
  replace h30:=h30 _ rfl
  have h1:a.tmps[1]?=some (.int .u32 pm):=F 1 rfl
  have HI:=Lib.hid hi
  clear H F hi hL
  refine wpList_skip (by simp[Region.wanted,yielded,h30]) ?_
  exact hK _ _ (Below.refl _ _) HI.out rfl
 ·intro L a wy Q' hL hi H F hK
  try dsimp only at hi
  obtain⟨_,h40,rfl⟩:=H 13 ⟨.data,by simp,rfl⟩ _ rfl
  replace h40:=h40 _ rfl
  obtain⟨_,h41,rfl⟩:=H 14 ⟨.data,by simp,rfl⟩ _ rfl
  replace h41:=h41 _ rfl
  obtain⟨_,h30,rfl⟩:=H 3 ⟨.guard,by simp,rfl⟩ _ rfl
  replace h30:=h30 _ rfl
  have HI:=Lib.hid hi
  clear H F hi hL
  refine wpList_skip (by simp[Region.wanted,yielded,h30]) ?_
  exact hK _ _ (Below.refl _ _) HI.out rfl
 ·intro L a wy Q' hL hi H F hK
  try dsimp only at hi
  obtain⟨_,h30,rfl⟩:=H 3 ⟨.guard,by simp,rfl⟩ _ rfl
  replace h30:=h30 _ rfl
  have h1:a.tmps[1]?=some (.int .u32 pm):=F 1 rfl
  have HI:=Lib.hid hi
  clear H F hi hL
  refine wpList_skip (by simp[Region.wanted,yielded,h30]) ?_
  exact hK _ _ (Below.refl _ _) HI.out rfl
 ·intro L a wy Q' hL hi H F hK
  try dsimp only at hi
  obtain⟨_,h42,rfl⟩:=H 15 ⟨.data,by simp,rfl⟩ _ rfl
  replace h42:=h42 _ rfl
  obtain⟨_,h43,rfl⟩:=H 16 ⟨.data,by simp,rfl⟩ _ rfl
  replace h43:=h43 _ rfl
  obtain⟨_,h30,rfl⟩:=H 3 ⟨.guard,by simp,rfl⟩ _ rfl
  replace h30:=h30 _ rfl
  have HI:=Lib.hid hi
  clear H F hi hL
  refine wpList_skip (by simp[Region.wanted,yielded,h30]) ?_
  exact hK _ _ (Below.refl _ _) HI.out rfl
 ·intro a wy L hl hi hL Q' hK
  try dsimp only at hi
  have HB:=Lib.hid hi
  clear hi hL
  obtain⟨_,rfl,_,rfl,_,rfl,_,rfl,_,rfl,_,rfl,_,rfl,_,rfl,_,rfl,_,rfl,_,rfl,_,rfl,_,rfl,_,rfl,_,rfl,_,rfl,_,rfl,_,rfl,rfl⟩:=hl
  simp only[List.setIfInBounds_toArray,List.set_cons_zero,List.set_cons_succ]
  go_wp2_with fail
  exact HEND.out _ _ _ _ _ _ _ _ _ _ _ _ _ _ _ _ _ _ _ HB.out
set_option maxRecDepth 100000 in
set_option maxHeartbeats 4000000 in
theorem ch7_39_t (w:World) (tb kb sa ss mb:Nat) (kv vv pa pb:Value) (pm:Int) (k:Key4) (u:AVec) (x2 x4 x5 x6 x7 x8 x9 x10 x12 x13 x14 x15 x16 x17 x18 x19 x20 x21 x22 x23 x24 x25 x26 x27 x28 x29 x30 x31 x32 x33 x34 x35 x36 x37 x38 x39 x40 x41 x42 x43 x44 x45 x46 x47 x48 x49 x50 x51 x52 x53 x54 x55:Value) (HT:Hid (Whole w tb 100 #[.pointer (some ⟨sa,0,none⟩),.pointer (some ⟨ss,0,none⟩),vv])) (HS:Hid (Whole w ss 121 #[.map (some mb),kv])) (HK:Hid (Whole w kb 102 #[.int .i64 k.src,.int .i64 k.tgt,.int .i64 k.cls,.int .i64 k.cond])) (HL:Hid (∀ W,RowKit.Below w.heap.size w W→(Instr.lookup 118 (.map (some mb)) (.agg #[.int .i64 k.src,.int .i64 k.tgt,.int .i64 k.cls,.int .i64 k.cond]) false).run Tryz.prog W=.ok (.agg #[.int .u32 u.allow,.int .u32 u.audit,.int .u32 u.dont]) W)) (HC:Hid (∀ W,RowKit.Below w.heap.size w W→Calls Tryz.prog 120 #[.agg #[.int .i64 k.src,.int .i64 k.tgt,.int .i64 k.cls,.int .i64 k.cond],pa,pb] W fun e w'=>e=.returned (.bool true)∧RowKit.Below W.heap.size W w'))
 {Q':Exit→Act→World→Prop} (hend:∀ (v27 v28 v29 v30 v31 v32 v33 v34 v35 v36 v37 v38 v39 v40 v41 v42 v43 v44:Value) (w':World),RowKit.Below w.heap.size w w'→Q' .normal ⟨#[.pointer (some ⟨tb,0,none⟩),.int .u32 pm,x2,.func (.func 120) #[] #[pa,pb],x4,x5,x6,x7,x8,x9,x10,.pointer (some ⟨kb,0,none⟩),x12,x13,x14,x15,x16,x17,x18,x19,x20,x21,x22,x23,x24,x25,x26,v27,v28,v29,v30,v31,v32,v33,v34,v35,v36,v37,v38,v39,v40,v41,v42,v43,v44,.bool (bits .and .u32 u.allow pm == pm),x46,x47,x48,x49,x50,x51,x52,x53,x54,x55],[]⟩ w') :
 Code.wp Tryz.prog (findRegion7 7 ((Tryz.f118.body).getD .skip)) Q' ⟨#[.pointer (some ⟨tb,0,none⟩),.int .u32 pm,x2,.func (.func 120) #[] #[pa,pb],x4,x5,x6,x7,x8,x9,x10,.pointer (some ⟨kb,0,none⟩),x12,x13,x14,x15,x16,x17,x18,x19,x20,x21,x22,x23,x24,x25,x26,x27,x28,x29,x30,x31,x32,x33,x34,x35,x36,x37,x38,x39,x40,x41,x42,x43,x44,x45,x46,x47,x48,x49,x50,x51,x52,x53,x54,x55],[]⟩ w:=by
 have HEND:=Lib.hid hend
 clear hend
 conv=>arg 2;whnf
 conv=>arg 4;dsimp only
 refine wp_region_goods [some 27,some 28,some 29,some 30,some 31,some 32,some 33,some 34,some 35,some 36,some 37,some 38,some 39,some 40,some 41,some 42,some 43,some 44] [isW (.func (.func 120) #[] #[pa,pb]),isW (.agg #[.int .i64 k.src,.int .i64 k.tgt,.int .i64 k.cls,.int .i64 k.cond]),isW (.bool true),isW (.bool true),isW (.pointer (some ⟨tb,0,none⟩)),isW (.pointer (some ⟨tb,0,none⟩)),isW (.pointer (some ⟨tb,1,none⟩)),isW (.pointer (some ⟨ss,0,none⟩)),isW (.pointer (some ⟨ss,0,none⟩)),isW (.pointer (some ⟨ss,0,none⟩)),isW (.map (some mb)),isW (.agg #[.int .i64 k.src,.int .i64 k.tgt,.int .i64 k.cls,.int .i64 k.cond]),isW (.agg #[.int .u32 u.allow,.int .u32 u.audit,.int .u32 u.dont]),isW (.int .u32 u.allow),isW (.int .u32 pm),isW (.int .u32 (bits .and .u32 u.allow pm)),isW (.int .u32 pm),isW (.bool (bits .and .u32 u.allow pm == pm))] (fun _ w'=>RowKit.Below w.heap.size w w') [] (by kernel_rfl) (by kernel_rfl) (by kernel_rfl) rfl (by decide) rfl rfl ((Below.refl _ _).drew) ⟨lastsW_is _,lastsW_is _,lastsW_is _,lastsW_is _,lastsW_is _,lastsW_is _,lastsW_is _,lastsW_is _,lastsW_is _,lastsW_is _,lastsW_is _,lastsW_is _,lastsW_is _,lastsW_is _,lastsW_is _,lastsW_is _,lastsW_is _,lastsW_is _,trivial⟩ ⟨?_,?_,?_,?_,?_,?_,?_,?_,?_,?_,?_,?_,?_,?_,?_,?_,?_,?_,?_⟩
 ·intro L a wy Q' hL hi H F hK
  try dsimp only at hi
  have h3:a.tmps[3]?=some (.func (.func 120) #[] #[pa,pb]):=F 3 rfl
  have HI:=Lib.hid hi
  clear H F hi hL
  go_wp2_with fail
  exact hK _ _ (Below.refl _ _) HI.out rfl
 ·intro L a wy Q' hL hi H F hK
  try dsimp only at hi
  have h11:a.tmps[11]?=some (.pointer (some ⟨kb,0,none⟩)):=F 11 rfl
  have HI:=Lib.hid hi
  clear H F hi hL
  have kq0:wy.cell? ⟨kb,0,none⟩=some (.int .i64 k.src):=(Whole.under HI.out HK.out (Whole.lt HK.out)).cell 0
  have kq1:wy.cell? ⟨kb,1,none⟩=some (.int .i64 k.tgt):=(Whole.under HI.out HK.out (Whole.lt HK.out)).cell 1
  have kq2:wy.cell? ⟨kb,2,none⟩=some (.int .i64 k.cls):=(Whole.under HI.out HK.out (Whole.lt HK.out)).cell 2
  have kq3:wy.cell? ⟨kb,3,none⟩=some (.int .i64 k.cond):=(Whole.under HI.out HK.out (Whole.lt HK.out)).cell 3
  go_wp2_with fail
  exact hK _ _ (Below.refl _ _) HI.out rfl
 ·intro L a wy Q' hL hi H F hK
  try dsimp only at hi
  obtain⟨_,h27,rfl⟩:=H 0 ⟨.data,by simp,rfl⟩ _ rfl
  replace h27:=h27 _ rfl
  obtain⟨_,h28,rfl⟩:=H 1 ⟨.data,by simp,rfl⟩ _ rfl
  replace h28:=h28 _ rfl
  have HI:=Lib.hid hi
  clear H F hi hL
  have HK:=Lib.hid hK
  clear hK
  go_wp2_with (go_at_call 120;go_must (refine(HC.out wy HI.out).mono ?_;rintro e w1 ⟨rfl,hb1⟩))
  exact HK.out _ _ hb1 (HI.out.trans (hb1.mono HI.out.size)) rfl
 ·intro L a wy Q' hL hi H F hK
  try dsimp only at hi
  obtain⟨_,h29,rfl⟩:=H 2 ⟨.data,by simp,rfl⟩ _ rfl
  replace h29:=h29 _ rfl
  have HI:=Lib.hid hi
  clear H F hi hL
  go_wp2_with fail
  exact hK _ _ (Below.refl _ _) HI.out rfl
 ·intro L a wy Q' hL hi H F hK
  try dsimp only at hi
  obtain⟨_,h30,rfl⟩:=H 3 ⟨.guard,by simp,rfl⟩ _ rfl
  replace h30:=h30 _ rfl
  have h0:a.tmps[0]?=some (.pointer (some ⟨tb,0,none⟩)):=F 0 rfl
  have HI:=Lib.hid hi
  clear H F hi hL
  go_wp2_with fail
  exact hK _ _ (Below.refl _ _) HI.out rfl
 ·intro L a wy Q' hL hi H F hK
  try dsimp only at hi
  obtain⟨_,h31,rfl⟩:=H 4 ⟨.data,by simp,rfl⟩ _ rfl
  replace h31:=h31 _ rfl
  obtain⟨_,h30,rfl⟩:=H 3 ⟨.guard,by simp,rfl⟩ _ rfl
  replace h30:=h30 _ rfl
  have HI:=Lib.hid hi
  clear H F hi hL
  go_wp2_with fail
  exact hK _ _ (Below.refl _ _) HI.out rfl
 ·intro L a wy Q' hL hi H F hK
  try dsimp only at hi
  obtain⟨_,h32,rfl⟩:=H 5 ⟨.data,by simp,rfl⟩ _ rfl
  replace h32:=h32 _ rfl
  obtain⟨_,h30,rfl⟩:=H 3 ⟨.guard,by simp,rfl⟩ _ rfl
  replace h30:=h30 _ rfl
  have HI:=Lib.hid hi
  clear H F hi hL
  go_wp2_with fail
  exact hK _ _ (Below.refl _ _) HI.out rfl
 ·intro L a wy Q' hL hi H F hK
  try dsimp only at hi
  obtain⟨_,h33,rfl⟩:=H 6 ⟨.data,by simp,rfl⟩ _ rfl
  replace h33:=h33 _ rfl
  obtain⟨_,h30,rfl⟩:=H 3 ⟨.guard,by simp,rfl⟩ _ rfl
  replace h30:=h30 _ rfl
  have HI:=Lib.hid hi
  clear H F hi hL
  have kq0:wy.cell? ⟨tb,1,none⟩=some (.pointer (some ⟨ss,0,none⟩)):=(Whole.under HI.out HT.out (Whole.lt HT.out)).cell 1
  go_wp2_with fail
  exact hK _ _ (Below.refl _ _) HI.out rfl
 ·intro L a wy Q' hL hi H F hK
  try dsimp only at hi
  obtain⟨_,h34,rfl⟩:=H 7 ⟨.data,by simp,rfl⟩ _ rfl
  replace h34:=h34 _ rfl
  obtain⟨_,h30,rfl⟩:=H 3 ⟨.guard,by simp,rfl⟩ _ rfl
  replace h30:=h30 _ rfl
  have HI:=Lib.hid hi
  clear H F hi hL
  go_wp2_with fail
  exact hK _ _ (Below.refl _ _) HI.out rfl
 ·intro L a wy Q' hL hi H F hK
  try dsimp only at hi
  obtain⟨_,h35,rfl⟩:=H 8 ⟨.data,by simp,rfl⟩ _ rfl
  replace h35:=h35 _ rfl
  obtain⟨_,h30,rfl⟩:=H 3 ⟨.guard,by simp,rfl⟩ _ rfl
  replace h30:=h30 _ rfl
  have HI:=Lib.hid hi
  clear H F hi hL
  go_wp2_with fail
  exact hK _ _ (Below.refl _ _) HI.out rfl
 ·intro L a wy Q' hL hi H F hK
  try dsimp only at hi
  obtain⟨_,h36,rfl⟩:=H 9 ⟨.data,by simp,rfl⟩ _ rfl
  replace h36:=h36 _ rfl
  obtain⟨_,h30,rfl⟩:=H 3 ⟨.guard,by simp,rfl⟩ _ rfl
  replace h30:=h30 _ rfl
  have HI:=Lib.hid hi
  clear H F hi hL
  have kq0:wy.cell? ⟨ss,0,none⟩=some (.map (some mb)):=(Whole.under HI.out HS.out (Whole.lt HS.out)).cell 0
  go_wp2_with fail
  exact hK _ _ (Below.refl _ _) HI.out rfl
 ·intro L a wy Q' hL hi H F hK
  try dsimp only at hi
  obtain⟨_,h30,rfl⟩:=H 3 ⟨.guard,by simp,rfl⟩ _ rfl
  replace h30:=h30 _ rfl
  have h11:a.tmps[11]?=some (.pointer (some ⟨kb,0,none⟩)):=F 11 rfl
  have HI:=Lib.hid hi
  clear H F hi hL
  have kq0:wy.cell? ⟨kb,0,none⟩=some (.int .i64 k.src):=(Whole.under HI.out HK.out (Whole.lt HK.out)).cell 0
  have kq1:wy.cell? ⟨kb,1,none⟩=some (.int .i64 k.tgt):=(Whole.under HI.out HK.out (Whole.lt HK.out)).cell 1
  have kq2:wy.cell? ⟨kb,2,none⟩=some (.int .i64 k.cls):=(Whole.under HI.out HK.out (Whole.lt HK.out)).cell 2
  have kq3:wy.cell? ⟨kb,3,none⟩=some (.int .i64 k.cond):=(Whole.under HI.out HK.out (Whole.lt HK.out)).cell 3
  go_wp2_with fail
  exact hK _ _ (Below.refl _ _) HI.out rfl
 ·intro L a wy Q' hL hi H F hK
  try dsimp only at hi
  obtain⟨_,h37,rfl⟩:=H 10 ⟨.data,by simp,rfl⟩ _ rfl
  replace h37:=h37 _ rfl
  obtain⟨_,h38,rfl⟩:=H 11 ⟨.data,by simp,rfl⟩ _ rfl
  replace h38:=h38 _ rfl
  obtain⟨_,h30,rfl⟩:=H 3 ⟨.guard,by simp,rfl⟩ _ rfl
  replace h30:=h30 _ rfl
  have HI:=Lib.hid hi
  clear H F hi hL
  have q:=HL.out wy HI.out
  go_wp2_with fail
  exact hK _ _ (Below.refl _ _) HI.out rfl
 ·intro L a wy Q' hL hi H F hK
  try dsimp only at hi
  obtain⟨_,h39,rfl⟩:=H 12 ⟨.data,by simp,rfl⟩ _ rfl
  replace h39:=h39 _ rfl
  obtain⟨_,h30,rfl⟩:=H 3 ⟨.guard,by simp,rfl⟩ _ rfl
  replace h30:=h30 _ rfl
  have HI:=Lib.hid hi
  clear H F hi hL
  have q:∀ W,(Instr.index 104 (.agg #[.int .u32 u.allow,.int .u32 u.audit,.int .u32 u.dont]) (.int .i64 0)).run Tryz.prog W=.ok (.int .u32 u.allow) W:=fun W=>by kernel_rfl
  go_wp2_with fail
  exact hK _ _ (Below.refl _ _) HI.out rfl
 ·intro L a wy Q' hL hi H F hK
  try dsimp only at hi
  obtain⟨_,h30,rfl⟩:=H 3 ⟨.guard,by simp,rfl⟩ _ rfl
  replace h30:=h30 _ rfl
  have h1:a.tmps[1]?=some (.int .u32 pm):=F 1 rfl
  have HI:=Lib.hid hi
  clear H F hi hL
  go_wp2_with fail
  exact hK _ _ (Below.refl _ _) HI.out rfl
 ·intro L a wy Q' hL hi H F hK
  try dsimp only at hi
  obtain⟨_,h40,rfl⟩:=H 13 ⟨.data,by simp,rfl⟩ _ rfl
  replace h40:=h40 _ rfl
  obtain⟨_,h41,rfl⟩:=H 14 ⟨.data,by simp,rfl⟩ _ rfl
  replace h41:=h41 _ rfl
  obtain⟨_,h30,rfl⟩:=H 3 ⟨.guard,by simp,rfl⟩ _ rfl
  replace h30:=h30 _ rfl
  have HI:=Lib.hid hi
  clear H F hi hL
  go_wp2_with fail
  exact hK _ _ (Below.refl _ _) HI.out rfl
 ·intro L a wy Q' hL hi H F hK
  try dsimp only at hi
  obtain⟨_,h30,rfl⟩:=H 3 ⟨.guard,by simp,rfl⟩ _ rfl
  replace h30:=h30 _ rfl
  have h1:a.tmps[1]?=some (.int .u32 pm):=F 1 rfl
  have HI:=Lib.hid hi
  clear H F hi hL
  go_wp2_with fail
  exact hK _ _ (Below.refl _ _) HI.out rfl
 ·intro L a wy Q' hL hi H F hK
  try dsimp only at hi
  obtain⟨_,h42,rfl⟩:=H 15 ⟨.data,by simp,rfl⟩ _ rfl
  replace h42:=h42 _ rfl
  obtain⟨_,h43,rfl⟩:=H 16 ⟨.data,by simp,rfl⟩ _ rfl
  replace h43:=h43 _ rfl
  obtain⟨_,h30,rfl⟩:=H 3 ⟨.guard,by simp,rfl⟩ _ rfl
  replace h30:=h30 _ rfl
  have HI:=Lib.hid hi
  clear H F hi hL
  go_wp2_with fail
  exact hK _ _ (Below.refl _ _) HI.out rfl
 ·intro a wy L hl hi hL Q' hK
  try dsimp only at hi
  have HB:=Lib.hid hi
  clear hi hL
  obtain⟨_,rfl,_,rfl,_,rfl,_,rfl,_,rfl,_,rfl,_,rfl,_,rfl,_,rfl,_,rfl,_,rfl,_,rfl,_,rfl,_,rfl,_,rfl,_,rfl,_,rfl,_,rfl,rfl⟩:=hl
  simp only[List.setIfInBounds_toArray,List.set_cons_zero,List.set_cons_succ]
  go_wp2_with fail
  exact HEND.out _ _ _ _ _ _ _ _ _ _ _ _ _ _ _ _ _ _ _ HB.out
set_option maxRecDepth 100000 in
set_option maxHeartbeats 4000000 in
theorem ch7_39_f (w:World) (tb kb sa ss mb:Nat) (kv vv pa pb:Value) (pm:Int) (k:Key4) (u:AVec) (x2 x4 x5 x6 x7 x8 x9 x10 x12 x13 x14 x15 x16 x17 x18 x19 x20 x21 x22 x23 x24 x25 x26 x27 x28 x29 x30 x31 x32 x33 x34 x35 x36 x37 x38 x39 x40 x41 x42 x43 x44 x45 x46 x47 x48 x49 x50 x51 x52 x53 x54 x55:Value) (_:Hid (Whole w tb 100 #[.pointer (some ⟨sa,0,none⟩),.pointer (some ⟨ss,0,none⟩),vv])) (_:Hid (Whole w ss 121 #[.map (some mb),kv])) (HK:Hid (Whole w kb 102 #[.int .i64 k.src,.int .i64 k.tgt,.int .i64 k.cls,.int .i64 k.cond])) (_:Hid (∀ W,RowKit.Below w.heap.size w W→(Instr.lookup 118 (.map (some mb)) (.agg #[.int .i64 k.src,.int .i64 k.tgt,.int .i64 k.cls,.int .i64 k.cond]) false).run Tryz.prog W=.ok (.agg #[.int .u32 u.allow,.int .u32 u.audit,.int .u32 u.dont]) W)) (HC:Hid (∀ W,RowKit.Below w.heap.size w W→Calls Tryz.prog 120 #[.agg #[.int .i64 k.src,.int .i64 k.tgt,.int .i64 k.cls,.int .i64 k.cond],pa,pb] W fun e w'=>e=.returned (.bool false)∧RowKit.Below W.heap.size W w'))
 {Q':Exit→Act→World→Prop} (hend:∀ (v27 v28 v29 v30 v31 v32 v33 v34 v35 v36 v37 v38 v39 v40 v41 v42 v43 v44:Value) (w':World),RowKit.Below w.heap.size w w'→Q' .normal ⟨#[.pointer (some ⟨tb,0,none⟩),.int .u32 pm,x2,.func (.func 120) #[] #[pa,pb],x4,x5,x6,x7,x8,x9,x10,.pointer (some ⟨kb,0,none⟩),x12,x13,x14,x15,x16,x17,x18,x19,x20,x21,x22,x23,x24,x25,x26,v27,v28,v29,v30,v31,v32,v33,v34,v35,v36,v37,v38,v39,v40,v41,v42,v43,v44,.bool false,x46,x47,x48,x49,x50,x51,x52,x53,x54,x55],[]⟩ w') :
 Code.wp Tryz.prog (findRegion7 7 ((Tryz.f118.body).getD .skip)) Q' ⟨#[.pointer (some ⟨tb,0,none⟩),.int .u32 pm,x2,.func (.func 120) #[] #[pa,pb],x4,x5,x6,x7,x8,x9,x10,.pointer (some ⟨kb,0,none⟩),x12,x13,x14,x15,x16,x17,x18,x19,x20,x21,x22,x23,x24,x25,x26,x27,x28,x29,x30,x31,x32,x33,x34,x35,x36,x37,x38,x39,x40,x41,x42,x43,x44,x45,x46,x47,x48,x49,x50,x51,x52,x53,x54,x55],[]⟩ w:=by
 have HEND:=Lib.hid hend
 clear hend
 conv=>arg 2;whnf
 conv=>arg 4;dsimp only
 refine wp_region_goods [some 27,some 28,some 29,some 30,some 31,some 32,some 33,some 34,some 35,some 36,some 37,some 38,some 39,some 40,some 41,some 42,some 43,some 44] [isW (.func (.func 120) #[] #[pa,pb]),isW (.agg #[.int .i64 k.src,.int .i64 k.tgt,.int .i64 k.cls,.int .i64 k.cond]),isW (.bool false),isW (.bool false),isW (undef),isW (undef),isW (undef),isW (undef),isW (undef),isW (undef),isW (undef),isW (undef),isW (undef),isW (undef),isW (undef),isW (undef),isW (undef),isW (undef)] (fun _ w'=>RowKit.Below w.heap.size w w') [] (by kernel_rfl) (by kernel_rfl) (by kernel_rfl) rfl (by decide) rfl rfl ((Below.refl _ _).drew) ⟨lastsW_is _,lastsW_is _,lastsW_is _,lastsW_is _,lastsW_is _,lastsW_is _,lastsW_is _,lastsW_is _,lastsW_is _,lastsW_is _,lastsW_is _,lastsW_is _,lastsW_is _,lastsW_is _,lastsW_is _,lastsW_is _,lastsW_is _,lastsW_is _,trivial⟩ ⟨?_,?_,?_,?_,?_,?_,?_,?_,?_,?_,?_,?_,?_,?_,?_,?_,?_,?_,?_⟩
 ·intro L a wy Q' hL hi H F hK
  try dsimp only at hi
  have h3:a.tmps[3]?=some (.func (.func 120) #[] #[pa,pb]):=F 3 rfl
  have HI:=Lib.hid hi
  clear H F hi hL
  go_wp2_with fail
  exact hK _ _ (Below.refl _ _) HI.out rfl
 ·intro L a wy Q' hL hi H F hK
  try dsimp only at hi
  have h11:a.tmps[11]?=some (.pointer (some ⟨kb,0,none⟩)):=F 11 rfl
  have HI:=Lib.hid hi
  clear H F hi hL
  have kq0:wy.cell? ⟨kb,0,none⟩=some (.int .i64 k.src):=(Whole.under HI.out HK.out (Whole.lt HK.out)).cell 0
  have kq1:wy.cell? ⟨kb,1,none⟩=some (.int .i64 k.tgt):=(Whole.under HI.out HK.out (Whole.lt HK.out)).cell 1
  have kq2:wy.cell? ⟨kb,2,none⟩=some (.int .i64 k.cls):=(Whole.under HI.out HK.out (Whole.lt HK.out)).cell 2
  have kq3:wy.cell? ⟨kb,3,none⟩=some (.int .i64 k.cond):=(Whole.under HI.out HK.out (Whole.lt HK.out)).cell 3
  go_wp2_with fail
  exact hK _ _ (Below.refl _ _) HI.out rfl
 ·intro L a wy Q' hL hi H F hK
  try dsimp only at hi
  obtain⟨_,h27,rfl⟩:=H 0 ⟨.data,by simp,rfl⟩ _ rfl
  replace h27:=h27 _ rfl
  obtain⟨_,h28,rfl⟩:=H 1 ⟨.data,by simp,rfl⟩ _ rfl
  replace h28:=h28 _ rfl
  have HI:=Lib.hid hi
  clear H F hi hL
  have HK:=Lib.hid hK
  clear hK
  go_wp2_with (go_at_call 120;go_must (refine(HC.out wy HI.out).mono ?_;rintro e w1 ⟨rfl,hb1⟩))
  exact HK.out _ _ hb1 (HI.out.trans (hb1.mono HI.out.size)) rfl
 ·intro L a wy Q' hL hi H F hK
  try dsimp only at hi
  obtain⟨_,h29,rfl⟩:=H 2 ⟨.data,by simp,rfl⟩ _ rfl
  replace h29:=h29 _ rfl
  have HI:=Lib.hid hi
  clear H F hi hL
  go_wp2_with fail
  exact hK _ _ (Below.refl _ _) HI.out rfl
 ·intro L a wy Q' hL hi H F hK
  try dsimp only at hi
  obtain⟨_,h30,rfl⟩:=H 3 ⟨.guard,by simp,rfl⟩ _ rfl
  replace h30:=h30 _ rfl
  have h0:a.tmps[0]?=some (.pointer (some ⟨tb,0,none⟩)):=F 0 rfl
  have HI:=Lib.hid hi
  clear H F hi hL
  refine wpList_skip (by simp[Region.wanted,yielded,h30]) ?_
  exact hK _ _ (Below.refl _ _) HI.out rfl
 ·intro L a wy Q' hL hi H F hK
  try dsimp only at hi
  obtain⟨_,h31,rfl⟩:=H 4 ⟨.data,by simp,rfl⟩ _ rfl
  replace h31:=h31 _ rfl
  obtain⟨_,h30,rfl⟩:=H 3 ⟨.guard,by simp,rfl⟩ _ rfl
  replace h30:=h30 _ rfl
  have HI:=Lib.hid hi
  clear H F hi hL
  refine wpList_skip (by simp[Region.wanted,yielded,h30]) ?_
  exact hK _ _ (Below.refl _ _) HI.out rfl
 ·intro L a wy Q' hL hi H F hK
  try dsimp only at hi
  obtain⟨_,h32,rfl⟩:=H 5 ⟨.data,by simp,rfl⟩ _ rfl
  replace h32:=h32 _ rfl
  obtain⟨_,h30,rfl⟩:=H 3 ⟨.guard,by simp,rfl⟩ _ rfl
  replace h30:=h30 _ rfl
  have HI:=Lib.hid hi
  clear H F hi hL
  refine wpList_skip (by simp[Region.wanted,yielded,h30]) ?_
  exact hK _ _ (Below.refl _ _) HI.out rfl
 ·intro L a wy Q' hL hi H F hK
  try dsimp only at hi
  obtain⟨_,h33,rfl⟩:=H 6 ⟨.data,by simp,rfl⟩ _ rfl
  replace h33:=h33 _ rfl
  obtain⟨_,h30,rfl⟩:=H 3 ⟨.guard,by simp,rfl⟩ _ rfl
  replace h30:=h30 _ rfl
  have HI:=Lib.hid hi
  clear H F hi hL
  refine wpList_skip (by simp[Region.wanted,yielded,h30]) ?_
  exact hK _ _ (Below.refl _ _) HI.out rfl
 ·intro L a wy Q' hL hi H F hK
  try dsimp only at hi
  obtain⟨_,h34,rfl⟩:=H 7 ⟨.data,by simp,rfl⟩ _ rfl
  replace h34:=h34 _ rfl
  obtain⟨_,h30,rfl⟩:=H 3 ⟨.guard,by simp,rfl⟩ _ rfl
  replace h30:=h30 _ rfl
  have HI:=Lib.hid hi
  clear H F hi hL
  refine wpList_skip (by simp[Region.wanted,yielded,h30]) ?_
  exact hK _ _ (Below.refl _ _) HI.out rfl
 ·intro L a wy Q' hL hi H F hK
  try dsimp only at hi
  obtain⟨_,h35,rfl⟩:=H 8 ⟨.data,by simp,rfl⟩ _ rfl
  replace h35:=h35 _ rfl
  obtain⟨_,h30,rfl⟩:=H 3 ⟨.guard,by simp,rfl⟩ _ rfl
  replace h30:=h30 _ rfl
  have HI:=Lib.hid hi
  clear H F hi hL
  refine wpList_skip (by simp[Region.wanted,yielded,h30]) ?_
  exact hK _ _ (Below.refl _ _) HI.out rfl
 ·intro L a wy Q' hL hi H F hK
  try dsimp only at hi
  obtain⟨_,h36,rfl⟩:=H 9 ⟨.data,by simp,rfl⟩ _ rfl
  replace h36:=h36 _ rfl
  obtain⟨_,h30,rfl⟩:=H 3 ⟨.guard,by simp,rfl⟩ _ rfl
  replace h30:=h30 _ rfl
  have HI:=Lib.hid hi
  clear H F hi hL
  refine wpList_skip (by simp[Region.wanted,yielded,h30]) ?_
  exact hK _ _ (Below.refl _ _) HI.out rfl
 ·intro L a wy Q' hL hi H F hK
  try dsimp only at hi
  obtain⟨_,h30,rfl⟩:=H 3 ⟨.guard,by simp,rfl⟩ _ rfl
  replace h30:=h30 _ rfl
  have h11:a.tmps[11]?=some (.pointer (some ⟨kb,0,none⟩)):=F 11 rfl
  have HI:=Lib.hid hi
  clear H F hi hL
  refine wpList_skip (by simp[Region.wanted,yielded,h30]) ?_
  exact hK _ _ (Below.refl _ _) HI.out rfl
 ·intro L a wy Q' hL hi H F hK
  try dsimp only at hi
  obtain⟨_,h37,rfl⟩:=H 10 ⟨.data,by simp,rfl⟩ _ rfl
  replace h37:=h37 _ rfl
  obtain⟨_,h38,rfl⟩:=H 11 ⟨.data,by simp,rfl⟩ _ rfl
  replace h38:=h38 _ rfl
  obtain⟨_,h30,rfl⟩:=H 3 ⟨.guard,by simp,rfl⟩ _ rfl
  replace h30:=h30 _ rfl
  have HI:=Lib.hid hi
  clear H F hi hL
  refine wpList_skip (by simp[Region.wanted,yielded,h30]) ?_
  exact hK _ _ (Below.refl _ _) HI.out rfl
 ·intro L a wy Q' hL hi H F hK
  try dsimp only at hi
  obtain⟨_,h39,rfl⟩:=H 12 ⟨.data,by simp,rfl⟩ _ rfl
  replace h39:=h39 _ rfl
  obtain⟨_,h30,rfl⟩:=H 3 ⟨.guard,by simp,rfl⟩ _ rfl
  replace h30:=h30 _ rfl
  have HI:=Lib.hid hi
  clear H F hi hL
  refine wpList_skip (by simp[Region.wanted,yielded,h30]) ?_
  exact hK _ _ (Below.refl _ _) HI.out rfl
 ·intro L a wy Q' hL hi H F hK
  try dsimp only at hi
  obtain⟨_,h30,rfl⟩:=H 3 ⟨.guard,by simp,rfl⟩ _ rfl
  replace h30:=h30 _ rfl
  have h1:a.tmps[1]?=some (.int .u32 pm):=F 1 rfl
  have HI:=Lib.hid hi
  clear H F hi hL
  refine wpList_skip (by simp[Region.wanted,yielded,h30]) ?_
  exact hK _ _ (Below.refl _ _) HI.out rfl
 ·intro L a wy Q' hL hi H F hK
  try dsimp only at hi
  obtain⟨_,h40,rfl⟩:=H 13 ⟨.data,by simp,rfl⟩ _ rfl
  replace h40:=h40 _ rfl
  obtain⟨_,h41,rfl⟩:=H 14 ⟨.data,by simp,rfl⟩ _ rfl
  replace h41:=h41 _ rfl
  obtain⟨_,h30,rfl⟩:=H 3 ⟨.guard,by simp,rfl⟩ _ rfl
  replace h30:=h30 _ rfl
  have HI:=Lib.hid hi
  clear H F hi hL
  refine wpList_skip (by simp[Region.wanted,yielded,h30]) ?_
  exact hK _ _ (Below.refl _ _) HI.out rfl
 ·intro L a wy Q' hL hi H F hK
  try dsimp only at hi
  obtain⟨_,h30,rfl⟩:=H 3 ⟨.guard,by simp,rfl⟩ _ rfl
  replace h30:=h30 _ rfl
  have h1:a.tmps[1]?=some (.int .u32 pm):=F 1 rfl
  have HI:=Lib.hid hi
  clear H F hi hL
  refine wpList_skip (by simp[Region.wanted,yielded,h30]) ?_
  exact hK _ _ (Below.refl _ _) HI.out rfl
 ·intro L a wy Q' hL hi H F hK
  try dsimp only at hi
  obtain⟨_,h42,rfl⟩:=H 15 ⟨.data,by simp,rfl⟩ _ rfl
  replace h42:=h42 _ rfl
  obtain⟨_,h43,rfl⟩:=H 16 ⟨.data,by simp,rfl⟩ _ rfl
  replace h43:=h43 _ rfl
  obtain⟨_,h30,rfl⟩:=H 3 ⟨.guard,by simp,rfl⟩ _ rfl
  replace h30:=h30 _ rfl
  have HI:=Lib.hid hi
  clear H F hi hL
  refine wpList_skip (by simp[Region.wanted,yielded,h30]) ?_
  exact hK _ _ (Below.refl _ _) HI.out rfl
 ·intro a wy L hl hi hL Q' hK
  try dsimp only at hi
  have HB:=Lib.hid hi
  clear hi hL
  obtain⟨_,rfl,_,rfl,_,rfl,_,rfl,_,rfl,_,rfl,_,rfl,_,rfl,_,rfl,_,rfl,_,rfl,_,rfl,_,rfl,_,rfl,_,rfl,_,rfl,_,rfl,_,rfl,rfl⟩:=hl
  simp only[List.setIfInBounds_toArray,List.set_cons_zero,List.set_cons_succ]
  go_wp2_with fail
  exact HEND.out _ _ _ _ _ _ _ _ _ _ _ _ _ _ _ _ _ _ _ HB.out
theorem targets1_0 (w:World) (k:Key4) (pb pc:Nat) (s c:Int) (HB:Hid (Whole w pb 3 #[.int .i64 s])) (HC:Hid (Whole w pc 3 #[.int .i64 c])) (HQ:Hid (¬ k.src=s)) :
 Calls Tryz.prog 119 #[.agg #[.int .i64 k.src,.int .i64 k.tgt,.int .i64 k.cls,.int .i64 k.cond],.pointer (some ⟨pb,0,none⟩),.pointer (some ⟨pc,0,none⟩)] w fun e w'=>e=.returned (.bool false)∧RowKit.Below w.heap.size w w':=by
 obtain⟨wo,hwo⟩:∃ wo,wo=w.alloc (.cells #[.int .i64 k.src,.int .i64 k.tgt,.int .i64 k.cls,.int .i64 k.cond] 102):=⟨_,rfl⟩
 have HBO:=Lib.hid (show RowKit.Below w.heap.size w wo by rw[hwo];exact(Below.refl _ w).alloc (Nat.le_refl _) _)
 have HK0:=Lib.hid (show Whole wo w.heap.size 102 #[.int .i64 k.src,.int .i64 k.tgt,.int .i64 k.cls,.int .i64 k.cond] by rw[hwo];exact Whole.new w 102 _)
 have kq0:wo.cell? ⟨w.heap.size,0,none⟩=some (.int .i64 k.src):=HK0.out.cell 0
 have kq1:wo.cell? ⟨w.heap.size,1,none⟩=some (.int .i64 k.tgt):=HK0.out.cell 1
 have kq2:wo.cell? ⟨w.heap.size,2,none⟩=some (.int .i64 k.cls):=HK0.out.cell 2
 have kq3:wo.cell? ⟨w.heap.size,3,none⟩=some (.int .i64 k.cond):=HK0.out.cell 3
 have b0:wo.cell? ⟨pb,0,none⟩=some (.int .i64 s):=(Whole.under HBO.out HB.out HB.out.lt).cell 0
 have c0:wo.cell? ⟨pc,0,none⟩=some (.int .i64 c):=(Whole.under HBO.out HC.out HC.out.lt).cell 0
 go_enter Tryz.func119,Tryz.ntmps119
 go_upto_region 1 with fail
 rw[← hwo]
 clear hwo
 have h0:(k.src == s)=false:=by simpa using HQ.out
 go_wp2
 go_ret
 exact⟨ret_val rfl,HBO.out⟩
theorem targets1_1 (w:World) (k:Key4) (pb pc:Nat) (s c:Int) (HB:Hid (Whole w pb 3 #[.int .i64 s])) (HC:Hid (Whole w pc 3 #[.int .i64 c])) (HQ:Hid (k.src=s∧¬ k.cls=c)) :
 Calls Tryz.prog 119 #[.agg #[.int .i64 k.src,.int .i64 k.tgt,.int .i64 k.cls,.int .i64 k.cond],.pointer (some ⟨pb,0,none⟩),.pointer (some ⟨pc,0,none⟩)] w fun e w'=>e=.returned (.bool false)∧RowKit.Below w.heap.size w w':=by
 obtain⟨wo,hwo⟩:∃ wo,wo=w.alloc (.cells #[.int .i64 k.src,.int .i64 k.tgt,.int .i64 k.cls,.int .i64 k.cond] 102):=⟨_,rfl⟩
 have HBO:=Lib.hid (show RowKit.Below w.heap.size w wo by rw[hwo];exact(Below.refl _ w).alloc (Nat.le_refl _) _)
 have HK0:=Lib.hid (show Whole wo w.heap.size 102 #[.int .i64 k.src,.int .i64 k.tgt,.int .i64 k.cls,.int .i64 k.cond] by rw[hwo];exact Whole.new w 102 _)
 have kq0:wo.cell? ⟨w.heap.size,0,none⟩=some (.int .i64 k.src):=HK0.out.cell 0
 have kq1:wo.cell? ⟨w.heap.size,1,none⟩=some (.int .i64 k.tgt):=HK0.out.cell 1
 have kq2:wo.cell? ⟨w.heap.size,2,none⟩=some (.int .i64 k.cls):=HK0.out.cell 2
 have kq3:wo.cell? ⟨w.heap.size,3,none⟩=some (.int .i64 k.cond):=HK0.out.cell 3
 have b0:wo.cell? ⟨pb,0,none⟩=some (.int .i64 s):=(Whole.under HBO.out HB.out HB.out.lt).cell 0
 have c0:wo.cell? ⟨pc,0,none⟩=some (.int .i64 c):=(Whole.under HBO.out HC.out HC.out.lt).cell 0
 go_enter Tryz.func119,Tryz.ntmps119
 go_upto_region 1 with fail
 rw[← hwo]
 clear hwo
 have h0:(k.src == s)=true:=by simpa using HQ.out.1
 have h1:(k.cls == c)=false:=by simpa using HQ.out.2
 go_wp2
 go_ret
 exact⟨ret_val rfl,HBO.out⟩
theorem targets1_2 (w:World) (k:Key4) (pb pc:Nat) (s c:Int) (HB:Hid (Whole w pb 3 #[.int .i64 s])) (HC:Hid (Whole w pc 3 #[.int .i64 c])) (HQ:Hid (k.src=s∧k.cls=c)) :
 Calls Tryz.prog 119 #[.agg #[.int .i64 k.src,.int .i64 k.tgt,.int .i64 k.cls,.int .i64 k.cond],.pointer (some ⟨pb,0,none⟩),.pointer (some ⟨pc,0,none⟩)] w fun e w'=>e=.returned (.bool true)∧RowKit.Below w.heap.size w w':=by
 obtain⟨wo,hwo⟩:∃ wo,wo=w.alloc (.cells #[.int .i64 k.src,.int .i64 k.tgt,.int .i64 k.cls,.int .i64 k.cond] 102):=⟨_,rfl⟩
 have HBO:=Lib.hid (show RowKit.Below w.heap.size w wo by rw[hwo];exact(Below.refl _ w).alloc (Nat.le_refl _) _)
 have HK0:=Lib.hid (show Whole wo w.heap.size 102 #[.int .i64 k.src,.int .i64 k.tgt,.int .i64 k.cls,.int .i64 k.cond] by rw[hwo];exact Whole.new w 102 _)
 have kq0:wo.cell? ⟨w.heap.size,0,none⟩=some (.int .i64 k.src):=HK0.out.cell 0
 have kq1:wo.cell? ⟨w.heap.size,1,none⟩=some (.int .i64 k.tgt):=HK0.out.cell 1
 have kq2:wo.cell? ⟨w.heap.size,2,none⟩=some (.int .i64 k.cls):=HK0.out.cell 2
 have kq3:wo.cell? ⟨w.heap.size,3,none⟩=some (.int .i64 k.cond):=HK0.out.cell 3
 have b0:wo.cell? ⟨pb,0,none⟩=some (.int .i64 s):=(Whole.under HBO.out HB.out HB.out.lt).cell 0
 have c0:wo.cell? ⟨pc,0,none⟩=some (.int .i64 c):=(Whole.under HBO.out HC.out HC.out.lt).cell 0
 go_enter Tryz.func119,Tryz.ntmps119
 go_upto_region 1 with fail
 rw[← hwo]
 clear hwo
 have h0:(k.src == s)=true:=by simpa using HQ.out.1
 have h1:(k.cls == c)=true:=by simpa using HQ.out.2
 go_wp2
 go_ret
 exact⟨ret_val rfl,HBO.out⟩
theorem targets1_any (w:World) (k:Key4) (pb pc:Nat) (s c:Int) (HB:Whole w pb 3 #[.int .i64 s]) (HC:Whole w pc 3 #[.int .i64 c]) :
 Calls Tryz.prog 119 #[.agg #[.int .i64 k.src,.int .i64 k.tgt,.int .i64 k.cls,.int .i64 k.cond],.pointer (some ⟨pb,0,none⟩),.pointer (some ⟨pc,0,none⟩)] w fun e w'=>e=.returned (.bool (decide (k.src=s∧k.cls=c)))∧RowKit.Below w.heap.size w w':=by
 by_cases h0:k.src=s
 ·by_cases h1:k.cls=c
  ·rw[decide_eq_true ⟨h0,h1⟩]
   exact targets1_2 w k pb pc s c (Lib.hid HB) (Lib.hid HC) (Lib.hid ⟨h0,h1⟩)
  ·rw[decide_eq_false fun e=>h1 e.2]
   exact targets1_1 w k pb pc s c (Lib.hid HB) (Lib.hid HC) (Lib.hid ⟨h0,h1⟩)
 ·rw[decide_eq_false fun e=>h0 e.1]
  exact targets1_0 w k pb pc s c (Lib.hid HB) (Lib.hid HC) (Lib.hid h0)
def targetsL (S:List AEntry) (s c pm:Int):List Int:=(S.filter fun e=>decide (e.src=s∧e.cls=c)&&(bits .and .u32 e.allow pm == pm)).map AEntry.tgt
theorem targetsL_snoc (S:List AEntry) (y:AEntry) (s c pm:Int):targetsL (S++[y]) s c pm=if (decide (y.src=s∧y.cls=c)&&(bits .and .u32 y.allow pm == pm))=true then targetsL S s c pm++[y.tgt] else targetsL S s c pm:=by
 unfold targetsL
 rw[List.filter_append,List.map_append,filter_one]
 by_cases h:(decide (y.src=s∧y.cls=c)&&(bits .and .u32 y.allow pm == pm))=true
 ·rw[if_pos h,if_pos h]
  rfl
 ·rw[if_neg h,if_neg h]
  simp
theorem targetsL_len (S:List AEntry) (s c pm:Int):(targetsL S s c pm).length≤S.length:=by
 unfold targetsL
 rw[List.length_map]
 exact List.length_filter_le _ _
set_option maxRecDepth 100000 in
set_option maxHeartbeats 4000000 in
theorem targetsc_any (w:World) (base tb pb pc:Nat) (S A0:List AEntry) (vals:List Bool) (s c pm:Int) (h:TabAt w base tb A0 S vals) (hlen:S.length≤100000000) (hpb:Whole w pb 3 #[.int .i64 s]) (hpc:Whole w pc 3 #[.int .i64 c]) :
 Calls Tryz.prog 118 #[.pointer (some ⟨tb,0,none⟩),.int .u32 pm,.int .i64 1,.func (.func 119) #[] #[.pointer (some ⟨pb,0,none⟩),.pointer (some ⟨pc,0,none⟩)]] w fun e w'=>∃ v,e=.returned v∧w'.ownsRow w.heap.size 3 1 v (targetsL S s c pm).length (((targetsL S s c pm).mergeSort fun x y=>decide (x≤y)).map anInt)∧RowKit.Below w.heap.size w w':=by
 obtain⟨i0,z0,hi0,hz0,hz1,hz2,hzs⟩:=infoOf info3
 obtain⟨sa,ss,vv,hT,hA,hB,hV⟩:=h.ex
 obtain⟨mb,kv,hS,hM,hO,-,-⟩:=hB.ex
 obtain⟨n,hn⟩:∃ n,n=S.length:=⟨_,rfl⟩
 have hsl:=SliceAt.of_own hO (flat_one _)
 rw[← hn] at hsl hlen
 obtain⟨ka,kc,rfl,hkc,hkm,hcell⟩:=hsl.form (by decide)
 have HMD:=Lib.hid (made_any w tb sa _ _ hT)
 have HN:=Lib.hid hn
 have HCL:=Lib.hid hcell
 have HT:=Lib.hid hT
 have HS:=Lib.hid hS
 have HM:=Lib.hid hM
 have HORD:=Lib.hid hB.ord
 have HOK:=Lib.hid hB.ok
 have HLEN:=Lib.hid hlen
 have HPB:=Lib.hid hpb
 have HPC:=Lib.hid hpc
 have t1:w.cell? ⟨tb,1,none⟩=some (.pointer (some ⟨ss,0,none⟩)):=hT.cell 1
 have k1:w.cell? ⟨ss,1,none⟩=some (.slice ka n kc):=hS.cell 1
 clear h hsl hcell hn hS hM hO hT hA hB hV hpb hpc
 go_enter Tryz.func118,Tryz.ntmps118
 go_wp2_with (go_at_call 62;go_must (refine HMD.out.mono ?_;rintro e w1 ⟨rfl,rfl⟩))
 clear k1 t1
 go_loopw [23,9] (fun i u wr=>∃ m:Nat,m≤n∧i=.int .i64 m∧wr.ownsRow w.heap.size 3 1 u (targetsL (S.take m) s c pm).length ((targetsL (S.take m) s c pm).map anInt)∧RowKit.Below w.heap.size w wr) (fun i _ _=>n-(intOf i).toNat)
 case atStart=>exact⟨0,Nat.zero_le _,rfl,by simpa[targetsL] using World.ownsRow_nil _ _ _ _,Below.refl _ _⟩
 case round =>
  obtain⟨m,hm,rfl,hOr,hBr⟩:=hrel
  obtain⟨p,hp⟩:∃ p,p=(targetsL (S.take m) s c pm).length:=⟨_,rfl⟩
  rw[← hp] at hOr
  obtain⟨oa,oc,rfl⟩:=own_shape hOr
  have HOr:=Lib.hid hOr
  have HBr:=Lib.hid hBr
  have HPL:=Lib.hid (show p≤100000000 by rw[hp];have:=targetsL_len (S.take m) s c pm;have h3:(S.take m).length≤S.length:=by {rw[List.length_take];omega};have:=HN.out;omega)
  have HPP:=Lib.hid hp
  clear hOr hBr hp
  by_cases hlt:m<n
  ·obtain⟨y,hy⟩:∃ y,S[m]?=some y:=⟨_,List.getElem?_eq_getElem (by rw[← HN.out];exact hlt)⟩
   obtain⟨b,off,rfl,hcl⟩:=HCL.out m hlt
   have hk0:wr.cell? ⟨b,off+m*4,none⟩=some (.int .i64 y.key.src):=cell_later HBr.out (flat_cell hcl (by rw[List.getElem?_map,hy];rfl) 0 _ rfl)
   have hk1:wr.cell? ⟨b,off+m*4+1,none⟩=some (.int .i64 y.key.tgt):=cell_later HBr.out (flat_cell hcl (by rw[List.getElem?_map,hy];rfl) 1 _ rfl)
   have hk2:wr.cell? ⟨b,off+m*4+2,none⟩=some (.int .i64 y.key.cls):=cell_later HBr.out (flat_cell hcl (by rw[List.getElem?_map,hy];rfl) 2 _ rfl)
   have hk3:wr.cell? ⟨b,off+m*4+3,none⟩=some (.int .i64 y.key.cond):=cell_later HBr.out (flat_cell hcl (by rw[List.getElem?_map,hy];rfl) 3 _ rfl)
   have HY:=Lib.hid hy
   have HYO:=Lib.hid (HOK.out y (at_mem hy))
   have HTK:=Lib.hid (show S.take (m+1)=S.take m++[y] from take_snoc hy)
   have HNX:=Lib.hid (targetsL_snoc (S.take m) y s c pm)
   clear hcl hy
   go_upto_region 7 with(refine wpList_store_blk rfl 102 _ _ rfl wr.heap.size 0 (.agg #[.int .i64 y.key.src,.int .i64 y.key.tgt,.int .i64 y.key.cls,.int .i64 y.key.cond]) rfl rfl 102 _ (Whole.new wr 102 _) (by simp[Value.cells]) size102 rfl ?_;intro w3 S3 W3;rw[splice_all _ _ (by rfl)] at W3;have HS3:=Lib.hid S3;have HW3:=Lib.hid (show Whole w3 wr.heap.size 102 #[.int .i64 y.key.src,.int .i64 y.key.tgt,.int .i64 y.key.cls,.int .i64 y.key.cond] from W3);clear S3 W3)
   clear hk0 hk1 hk2 hk3
   have HB3:=Lib.hid (show RowKit.Below wr.heap.size wr w3 from((Below.refl _ wr).alloc (Nat.le_refl _) _).trans (HS3.out.below (Nat.le_refl _)))
   have HBw3:=Lib.hid (HBr.out.trans (HB3.out.mono HBr.out.size))
   have HO3:=Lib.hid (own_keep HB3.out HOr.out (Nat.le_refl _))
   by_cases hq:y.src=s∧y.cls=c
   ·have HQ:=Lib.hid (show decide (y.key.src=s∧y.key.cls=c)=true from decide_eq_true hq)
    have hqd:decide (y.src=s∧y.cls=c)=true:=decide_eq_true hq
    rw[hqd,Bool.true_and] at HNX
    clear hq hqd
    refine ch7_38_t w3 tb wr.heap.size sa ss mb (.slice (some ⟨b,off,none⟩) n kc) vv (.pointer (some ⟨pb,0,none⟩)) (.pointer (some ⟨pc,0,none⟩)) pm y.key y.vecs _ _ _ _ _ _ _ _ _ _ _ _ _ _ _ _ _ _ _ _ _ _ _ _ _ _ _ _ _ _ _ _ _ _ _ _ _ _ _ _ _ _ _ _ _ _ _ _ _ _ _ _ (Lib.hid (Whole.under HBw3.out HT.out HT.out.lt)) (Lib.hid (Whole.under HBw3.out HS.out HS.out.lt)) HW3 (Lib.hid fun W hW=>by
     have h:=store_look ((HM.out.kept (HBw3.out.block _ HM.out.lt)).kept (hW.block _ (Nat.lt_of_lt_of_le HM.out.lt HBw3.out.size))) HORD.out HYO.out.1
     rwa [lookV_at HORD.out HY.out rfl] at h) (Lib.hid fun W hW=>by
     have hbw:=HBw3.out.trans (hW.mono HBw3.out.size)
     have h:=targets1_any W y.key pb pc s c (Whole.under hbw HPB.out HPB.out.lt) (Whole.under hbw HPC.out HPC.out.lt)
     rwa [HQ.out] at h) ?_
    intro v27 v28 v29 v30 v31 v32 v33 v34 v35 v36 v37 v38 v39 v40 v41 v42 v43 v44 w5 hb5
    have HBw5:=Lib.hid (HBw3.out.trans (hb5.mono HBw3.out.size))
    have HO5:=Lib.hid (own_keep hb5 HO3.out (Nat.le_refl _))
    have HK5:=Lib.hid (Whole.under hb5 HW3.out HW3.out.lt)
    clear hb5
    by_cases hz:(bits .and .u32 y.allow pm == pm)=true
    ·have hz':(bits .and .u32 y.vecs.allow pm == pm)=true:=hz
     rw[if_pos hz] at HNX
     clear hz
     have kq:w5.cell? ⟨wr.heap.size,1,none⟩=some (.int .i64 y.key.tgt):=HK5.out.cell 1
     go_wp2_with (at_builtin;go_must (refine wpList_append_own _ rfl _ _ 64 rfl w.heap.size 3 i0 z0 1 8 Tryz.underlying64 hi0 hz0 hz1 hz2 hzs (by decide) _ _ _ rfl (own_alloc HO5.out _) ⟨w5.heap.size,0,none⟩ 1 1 [.int .i64 y.key.tgt] rfl rfl (row_new _ _ _) ?c2 ?c3 ?c4 ?c5 ?_))
     case c2=>simp[Value.oneCell']
     case c3=>have:=HPL.out;unfold maxLen;omega
     case c4=>have:=HPL.out;omega
     case c5=>have:=HBw5.out.size;simp;omega
     intro u9 w9 ho9 hg9 hn9
     have HB9:=Lib.hid ((HBw5.out.alloc HBw5.out.size _).grown hg9 (by have:=HBw5.out.size;simp;omega) (fun q hq=>(HO5.out.lt q hq).1))
     have HO9:=Lib.hid ho9
     clear hg9 hn9 ho9 kq
     go_wp2_with fail
     go_roundw
     case rel=>exact⟨m+1,by omega,by go_num,by rw[HTK.out,HNX.out,List.length_append,List.map_append,← HPP.out];exact HO9.out,HB9.out⟩
     case measure=>simp[intOf];omega
    ·have hz':(bits .and .u32 y.vecs.allow pm == pm)=false:=Bool.eq_false_iff.2 hz
     rw[if_neg hz] at HNX
     clear hz
     go_wp2_with fail
     go_roundw
     case rel=>exact⟨m+1,by omega,by go_num,by rw[HTK.out,HNX.out,← HPP.out];exact HO5.out,HBw5.out⟩
     case measure=>simp[intOf];omega
   ·have HQ:=Lib.hid (show decide (y.key.src=s∧y.key.cls=c)=false from decide_eq_false hq)
    have hqd:decide (y.src=s∧y.cls=c)=false:=decide_eq_false hq
    rw[hqd,Bool.false_and,if_neg (by simp)] at HNX
    clear hq hqd
    refine ch7_38_f w3 tb wr.heap.size sa ss mb (.slice (some ⟨b,off,none⟩) n kc) vv (.pointer (some ⟨pb,0,none⟩)) (.pointer (some ⟨pc,0,none⟩)) pm y.key y.vecs _ _ _ _ _ _ _ _ _ _ _ _ _ _ _ _ _ _ _ _ _ _ _ _ _ _ _ _ _ _ _ _ _ _ _ _ _ _ _ _ _ _ _ _ _ _ _ _ _ _ _ _ (Lib.hid (Whole.under HBw3.out HT.out HT.out.lt)) (Lib.hid (Whole.under HBw3.out HS.out HS.out.lt)) HW3 (Lib.hid fun W hW=>by
     have h:=store_look ((HM.out.kept (HBw3.out.block _ HM.out.lt)).kept (hW.block _ (Nat.lt_of_lt_of_le HM.out.lt HBw3.out.size))) HORD.out HYO.out.1
     rwa [lookV_at HORD.out HY.out rfl] at h) (Lib.hid fun W hW=>by
     have hbw:=HBw3.out.trans (hW.mono HBw3.out.size)
     have h:=targets1_any W y.key pb pc s c (Whole.under hbw HPB.out HPB.out.lt) (Whole.under hbw HPC.out HPC.out.lt)
     rwa [HQ.out] at h) ?_
    intro v27 v28 v29 v30 v31 v32 v33 v34 v35 v36 v37 v38 v39 v40 v41 v42 v43 v44 w5 hb5
    have HBw5:=Lib.hid (HBw3.out.trans (hb5.mono HBw3.out.size))
    have HO5:=Lib.hid (own_keep hb5 HO3.out (Nat.le_refl _))
    have HK5:=Lib.hid (Whole.under hb5 HW3.out HW3.out.lt)
    clear hb5
    go_wp2_with fail
    go_roundw
    case rel=>exact⟨m+1,by omega,by go_num,by rw[HTK.out,HNX.out,← HPP.out];exact HO5.out,HBw5.out⟩
    case measure=>simp[intOf];omega
  ·obtain rfl:m=n:=by omega
   have hfull:S.take m=S:=List.take_of_length_le (by rw[HN.out];exact Nat.le_refl _)
   rw[hfull] at HOr HPP
   clear hfull
   have HSR:=Lib.hid (sort_any wr w.heap.size (.slice oa p oc) (targetsL S s c pm) (by rw[← HPP.out];exact HOr.out) (by rw[← HPP.out];have:=HPL.out;omega))
   go_wp2_with (go_at_call 202;go_must (refine HSR.out.mono ?_;rintro e w1 ⟨rfl,ho,hg⟩;have HO1:=Lib.hid ho;have HG1:=Lib.hid hg;clear ho hg))
   go_ret
   exact⟨_,ret_val rfl,HO1.out,HBr.out.grown HG1.out HBr.out.size (fun q hq=>(HOr.out.lt q hq).1)⟩
theorem sources1_0 (w:World) (k:Key4) (pb pc:Nat) (s c:Int) (HB:Hid (Whole w pb 3 #[.int .i64 s])) (HC:Hid (Whole w pc 3 #[.int .i64 c])) (HQ:Hid (¬ k.tgt=s)) :
 Calls Tryz.prog 120 #[.agg #[.int .i64 k.src,.int .i64 k.tgt,.int .i64 k.cls,.int .i64 k.cond],.pointer (some ⟨pb,0,none⟩),.pointer (some ⟨pc,0,none⟩)] w fun e w'=>e=.returned (.bool false)∧RowKit.Below w.heap.size w w':=by
 obtain⟨wo,hwo⟩:∃ wo,wo=w.alloc (.cells #[.int .i64 k.src,.int .i64 k.tgt,.int .i64 k.cls,.int .i64 k.cond] 102):=⟨_,rfl⟩
 have HBO:=Lib.hid (show RowKit.Below w.heap.size w wo by rw[hwo];exact(Below.refl _ w).alloc (Nat.le_refl _) _)
 have HK0:=Lib.hid (show Whole wo w.heap.size 102 #[.int .i64 k.src,.int .i64 k.tgt,.int .i64 k.cls,.int .i64 k.cond] by rw[hwo];exact Whole.new w 102 _)
 have kq0:wo.cell? ⟨w.heap.size,0,none⟩=some (.int .i64 k.src):=HK0.out.cell 0
 have kq1:wo.cell? ⟨w.heap.size,1,none⟩=some (.int .i64 k.tgt):=HK0.out.cell 1
 have kq2:wo.cell? ⟨w.heap.size,2,none⟩=some (.int .i64 k.cls):=HK0.out.cell 2
 have kq3:wo.cell? ⟨w.heap.size,3,none⟩=some (.int .i64 k.cond):=HK0.out.cell 3
 have b0:wo.cell? ⟨pb,0,none⟩=some (.int .i64 s):=(Whole.under HBO.out HB.out HB.out.lt).cell 0
 have c0:wo.cell? ⟨pc,0,none⟩=some (.int .i64 c):=(Whole.under HBO.out HC.out HC.out.lt).cell 0
 go_enter Tryz.func120,Tryz.ntmps120
 go_upto_region 1 with fail
 rw[← hwo]
 clear hwo
 have h0:(k.tgt == s)=false:=by simpa using HQ.out
 go_wp2
 go_ret
 exact⟨ret_val rfl,HBO.out⟩
theorem sources1_1 (w:World) (k:Key4) (pb pc:Nat) (s c:Int) (HB:Hid (Whole w pb 3 #[.int .i64 s])) (HC:Hid (Whole w pc 3 #[.int .i64 c])) (HQ:Hid (k.tgt=s∧¬ k.cls=c)) :
 Calls Tryz.prog 120 #[.agg #[.int .i64 k.src,.int .i64 k.tgt,.int .i64 k.cls,.int .i64 k.cond],.pointer (some ⟨pb,0,none⟩),.pointer (some ⟨pc,0,none⟩)] w fun e w'=>e=.returned (.bool false)∧RowKit.Below w.heap.size w w':=by
 obtain⟨wo,hwo⟩:∃ wo,wo=w.alloc (.cells #[.int .i64 k.src,.int .i64 k.tgt,.int .i64 k.cls,.int .i64 k.cond] 102):=⟨_,rfl⟩
 have HBO:=Lib.hid (show RowKit.Below w.heap.size w wo by rw[hwo];exact(Below.refl _ w).alloc (Nat.le_refl _) _)
 have HK0:=Lib.hid (show Whole wo w.heap.size 102 #[.int .i64 k.src,.int .i64 k.tgt,.int .i64 k.cls,.int .i64 k.cond] by rw[hwo];exact Whole.new w 102 _)
 have kq0:wo.cell? ⟨w.heap.size,0,none⟩=some (.int .i64 k.src):=HK0.out.cell 0
 have kq1:wo.cell? ⟨w.heap.size,1,none⟩=some (.int .i64 k.tgt):=HK0.out.cell 1
 have kq2:wo.cell? ⟨w.heap.size,2,none⟩=some (.int .i64 k.cls):=HK0.out.cell 2
 have kq3:wo.cell? ⟨w.heap.size,3,none⟩=some (.int .i64 k.cond):=HK0.out.cell 3
 have b0:wo.cell? ⟨pb,0,none⟩=some (.int .i64 s):=(Whole.under HBO.out HB.out HB.out.lt).cell 0
 have c0:wo.cell? ⟨pc,0,none⟩=some (.int .i64 c):=(Whole.under HBO.out HC.out HC.out.lt).cell 0
 go_enter Tryz.func120,Tryz.ntmps120
 go_upto_region 1 with fail
 rw[← hwo]
 clear hwo
 have h0:(k.tgt == s)=true:=by simpa using HQ.out.1
 have h1:(k.cls == c)=false:=by simpa using HQ.out.2
 go_wp2
 go_ret
 exact⟨ret_val rfl,HBO.out⟩
theorem sources1_2 (w:World) (k:Key4) (pb pc:Nat) (s c:Int) (HB:Hid (Whole w pb 3 #[.int .i64 s])) (HC:Hid (Whole w pc 3 #[.int .i64 c])) (HQ:Hid (k.tgt=s∧k.cls=c)) :
 Calls Tryz.prog 120 #[.agg #[.int .i64 k.src,.int .i64 k.tgt,.int .i64 k.cls,.int .i64 k.cond],.pointer (some ⟨pb,0,none⟩),.pointer (some ⟨pc,0,none⟩)] w fun e w'=>e=.returned (.bool true)∧RowKit.Below w.heap.size w w':=by
 obtain⟨wo,hwo⟩:∃ wo,wo=w.alloc (.cells #[.int .i64 k.src,.int .i64 k.tgt,.int .i64 k.cls,.int .i64 k.cond] 102):=⟨_,rfl⟩
 have HBO:=Lib.hid (show RowKit.Below w.heap.size w wo by rw[hwo];exact(Below.refl _ w).alloc (Nat.le_refl _) _)
 have HK0:=Lib.hid (show Whole wo w.heap.size 102 #[.int .i64 k.src,.int .i64 k.tgt,.int .i64 k.cls,.int .i64 k.cond] by rw[hwo];exact Whole.new w 102 _)
 have kq0:wo.cell? ⟨w.heap.size,0,none⟩=some (.int .i64 k.src):=HK0.out.cell 0
 have kq1:wo.cell? ⟨w.heap.size,1,none⟩=some (.int .i64 k.tgt):=HK0.out.cell 1
 have kq2:wo.cell? ⟨w.heap.size,2,none⟩=some (.int .i64 k.cls):=HK0.out.cell 2
 have kq3:wo.cell? ⟨w.heap.size,3,none⟩=some (.int .i64 k.cond):=HK0.out.cell 3
 have b0:wo.cell? ⟨pb,0,none⟩=some (.int .i64 s):=(Whole.under HBO.out HB.out HB.out.lt).cell 0
 have c0:wo.cell? ⟨pc,0,none⟩=some (.int .i64 c):=(Whole.under HBO.out HC.out HC.out.lt).cell 0
 go_enter Tryz.func120,Tryz.ntmps120
 go_upto_region 1 with fail
 rw[← hwo]
 clear hwo
 have h0:(k.tgt == s)=true:=by simpa using HQ.out.1
 have h1:(k.cls == c)=true:=by simpa using HQ.out.2
 go_wp2
 go_ret
 exact⟨ret_val rfl,HBO.out⟩
theorem sources1_any (w:World) (k:Key4) (pb pc:Nat) (s c:Int) (HB:Whole w pb 3 #[.int .i64 s]) (HC:Whole w pc 3 #[.int .i64 c]) :
 Calls Tryz.prog 120 #[.agg #[.int .i64 k.src,.int .i64 k.tgt,.int .i64 k.cls,.int .i64 k.cond],.pointer (some ⟨pb,0,none⟩),.pointer (some ⟨pc,0,none⟩)] w fun e w'=>e=.returned (.bool (decide (k.tgt=s∧k.cls=c)))∧RowKit.Below w.heap.size w w':=by
 by_cases h0:k.tgt=s
 ·by_cases h1:k.cls=c
  ·rw[decide_eq_true ⟨h0,h1⟩]
   exact sources1_2 w k pb pc s c (Lib.hid HB) (Lib.hid HC) (Lib.hid ⟨h0,h1⟩)
  ·rw[decide_eq_false fun e=>h1 e.2]
   exact sources1_1 w k pb pc s c (Lib.hid HB) (Lib.hid HC) (Lib.hid ⟨h0,h1⟩)
 ·rw[decide_eq_false fun e=>h0 e.1]
  exact sources1_0 w k pb pc s c (Lib.hid HB) (Lib.hid HC) (Lib.hid h0)
def sourcesL (S:List AEntry) (s c pm:Int):List Int:=(S.filter fun e=>decide (e.tgt=s∧e.cls=c)&&(bits .and .u32 e.allow pm == pm)).map AEntry.src
theorem sourcesL_snoc (S:List AEntry) (y:AEntry) (s c pm:Int):sourcesL (S++[y]) s c pm=if (decide (y.tgt=s∧y.cls=c)&&(bits .and .u32 y.allow pm == pm))=true then sourcesL S s c pm++[y.src] else sourcesL S s c pm:=by
 unfold sourcesL
 rw[List.filter_append,List.map_append,filter_one]
 by_cases h:(decide (y.tgt=s∧y.cls=c)&&(bits .and .u32 y.allow pm == pm))=true
 ·rw[if_pos h,if_pos h]
  rfl
 ·rw[if_neg h,if_neg h]
  simp
theorem sourcesL_len (S:List AEntry) (s c pm:Int):(sourcesL S s c pm).length≤S.length:=by
 unfold sourcesL
 rw[List.length_map]
 exact List.length_filter_le _ _
set_option maxRecDepth 100000 in
set_option maxHeartbeats 4000000 in
theorem sourcesc_any (w:World) (base tb pb pc:Nat) (S A0:List AEntry) (vals:List Bool) (s c pm:Int) (h:TabAt w base tb A0 S vals) (hlen:S.length≤100000000) (hpb:Whole w pb 3 #[.int .i64 s]) (hpc:Whole w pc 3 #[.int .i64 c]) :
 Calls Tryz.prog 118 #[.pointer (some ⟨tb,0,none⟩),.int .u32 pm,.int .i64 0,.func (.func 120) #[] #[.pointer (some ⟨pb,0,none⟩),.pointer (some ⟨pc,0,none⟩)]] w fun e w'=>∃ v,e=.returned v∧w'.ownsRow w.heap.size 3 1 v (sourcesL S s c pm).length (((sourcesL S s c pm).mergeSort fun x y=>decide (x≤y)).map anInt)∧RowKit.Below w.heap.size w w':=by
 obtain⟨i0,z0,hi0,hz0,hz1,hz2,hzs⟩:=infoOf info3
 obtain⟨sa,ss,vv,hT,hA,hB,hV⟩:=h.ex
 obtain⟨mb,kv,hS,hM,hO,-,-⟩:=hB.ex
 obtain⟨n,hn⟩:∃ n,n=S.length:=⟨_,rfl⟩
 have hsl:=SliceAt.of_own hO (flat_one _)
 rw[← hn] at hsl hlen
 obtain⟨ka,kc,rfl,hkc,hkm,hcell⟩:=hsl.form (by decide)
 have HMD:=Lib.hid (made_any w tb sa _ _ hT)
 have HN:=Lib.hid hn
 have HCL:=Lib.hid hcell
 have HT:=Lib.hid hT
 have HS:=Lib.hid hS
 have HM:=Lib.hid hM
 have HORD:=Lib.hid hB.ord
 have HOK:=Lib.hid hB.ok
 have HLEN:=Lib.hid hlen
 have HPB:=Lib.hid hpb
 have HPC:=Lib.hid hpc
 have t1:w.cell? ⟨tb,1,none⟩=some (.pointer (some ⟨ss,0,none⟩)):=hT.cell 1
 have k1:w.cell? ⟨ss,1,none⟩=some (.slice ka n kc):=hS.cell 1
 clear h hsl hcell hn hS hM hO hT hA hB hV hpb hpc
 go_enter Tryz.func118,Tryz.ntmps118
 go_wp2_with (go_at_call 62;go_must (refine HMD.out.mono ?_;rintro e w1 ⟨rfl,rfl⟩))
 clear k1 t1
 go_loopw [23,9] (fun i u wr=>∃ m:Nat,m≤n∧i=.int .i64 m∧wr.ownsRow w.heap.size 3 1 u (sourcesL (S.take m) s c pm).length ((sourcesL (S.take m) s c pm).map anInt)∧RowKit.Below w.heap.size w wr) (fun i _ _=>n-(intOf i).toNat)
 case atStart=>exact⟨0,Nat.zero_le _,rfl,by simpa[sourcesL] using World.ownsRow_nil _ _ _ _,Below.refl _ _⟩
 case round =>
  obtain⟨m,hm,rfl,hOr,hBr⟩:=hrel
  obtain⟨p,hp⟩:∃ p,p=(sourcesL (S.take m) s c pm).length:=⟨_,rfl⟩
  rw[← hp] at hOr
  obtain⟨oa,oc,rfl⟩:=own_shape hOr
  have HOr:=Lib.hid hOr
  have HBr:=Lib.hid hBr
  have HPL:=Lib.hid (show p≤100000000 by rw[hp];have:=sourcesL_len (S.take m) s c pm;have h3:(S.take m).length≤S.length:=by {rw[List.length_take];omega};have:=HN.out;omega)
  have HPP:=Lib.hid hp
  clear hOr hBr hp
  by_cases hlt:m<n
  ·obtain⟨y,hy⟩:∃ y,S[m]?=some y:=⟨_,List.getElem?_eq_getElem (by rw[← HN.out];exact hlt)⟩
   obtain⟨b,off,rfl,hcl⟩:=HCL.out m hlt
   have hk0:wr.cell? ⟨b,off+m*4,none⟩=some (.int .i64 y.key.src):=cell_later HBr.out (flat_cell hcl (by rw[List.getElem?_map,hy];rfl) 0 _ rfl)
   have hk1:wr.cell? ⟨b,off+m*4+1,none⟩=some (.int .i64 y.key.tgt):=cell_later HBr.out (flat_cell hcl (by rw[List.getElem?_map,hy];rfl) 1 _ rfl)
   have hk2:wr.cell? ⟨b,off+m*4+2,none⟩=some (.int .i64 y.key.cls):=cell_later HBr.out (flat_cell hcl (by rw[List.getElem?_map,hy];rfl) 2 _ rfl)
   have hk3:wr.cell? ⟨b,off+m*4+3,none⟩=some (.int .i64 y.key.cond):=cell_later HBr.out (flat_cell hcl (by rw[List.getElem?_map,hy];rfl) 3 _ rfl)
   have HY:=Lib.hid hy
   have HYO:=Lib.hid (HOK.out y (at_mem hy))
   have HTK:=Lib.hid (show S.take (m+1)=S.take m++[y] from take_snoc hy)
   have HNX:=Lib.hid (sourcesL_snoc (S.take m) y s c pm)
   clear hcl hy
   go_upto_region 7 with(refine wpList_store_blk rfl 102 _ _ rfl wr.heap.size 0 (.agg #[.int .i64 y.key.src,.int .i64 y.key.tgt,.int .i64 y.key.cls,.int .i64 y.key.cond]) rfl rfl 102 _ (Whole.new wr 102 _) (by simp[Value.cells]) size102 rfl ?_;intro w3 S3 W3;rw[splice_all _ _ (by rfl)] at W3;have HS3:=Lib.hid S3;have HW3:=Lib.hid (show Whole w3 wr.heap.size 102 #[.int .i64 y.key.src,.int .i64 y.key.tgt,.int .i64 y.key.cls,.int .i64 y.key.cond] from W3);clear S3 W3)
   clear hk0 hk1 hk2 hk3
   have HB3:=Lib.hid (show RowKit.Below wr.heap.size wr w3 from((Below.refl _ wr).alloc (Nat.le_refl _) _).trans (HS3.out.below (Nat.le_refl _)))
   have HBw3:=Lib.hid (HBr.out.trans (HB3.out.mono HBr.out.size))
   have HO3:=Lib.hid (own_keep HB3.out HOr.out (Nat.le_refl _))
   by_cases hq:y.tgt=s∧y.cls=c
   ·have HQ:=Lib.hid (show decide (y.key.tgt=s∧y.key.cls=c)=true from decide_eq_true hq)
    have hqd:decide (y.tgt=s∧y.cls=c)=true:=decide_eq_true hq
    rw[hqd,Bool.true_and] at HNX
    clear hq hqd
    refine ch7_39_t w3 tb wr.heap.size sa ss mb (.slice (some ⟨b,off,none⟩) n kc) vv (.pointer (some ⟨pb,0,none⟩)) (.pointer (some ⟨pc,0,none⟩)) pm y.key y.vecs _ _ _ _ _ _ _ _ _ _ _ _ _ _ _ _ _ _ _ _ _ _ _ _ _ _ _ _ _ _ _ _ _ _ _ _ _ _ _ _ _ _ _ _ _ _ _ _ _ _ _ _ (Lib.hid (Whole.under HBw3.out HT.out HT.out.lt)) (Lib.hid (Whole.under HBw3.out HS.out HS.out.lt)) HW3 (Lib.hid fun W hW=>by
     have h:=store_look ((HM.out.kept (HBw3.out.block _ HM.out.lt)).kept (hW.block _ (Nat.lt_of_lt_of_le HM.out.lt HBw3.out.size))) HORD.out HYO.out.1
     rwa [lookV_at HORD.out HY.out rfl] at h) (Lib.hid fun W hW=>by
     have hbw:=HBw3.out.trans (hW.mono HBw3.out.size)
     have h:=sources1_any W y.key pb pc s c (Whole.under hbw HPB.out HPB.out.lt) (Whole.under hbw HPC.out HPC.out.lt)
     rwa [HQ.out] at h) ?_
    intro v27 v28 v29 v30 v31 v32 v33 v34 v35 v36 v37 v38 v39 v40 v41 v42 v43 v44 w5 hb5
    have HBw5:=Lib.hid (HBw3.out.trans (hb5.mono HBw3.out.size))
    have HO5:=Lib.hid (own_keep hb5 HO3.out (Nat.le_refl _))
    have HK5:=Lib.hid (Whole.under hb5 HW3.out HW3.out.lt)
    clear hb5
    by_cases hz:(bits .and .u32 y.allow pm == pm)=true
    ·have hz':(bits .and .u32 y.vecs.allow pm == pm)=true:=hz
     rw[if_pos hz] at HNX
     clear hz
     have kq:w5.cell? ⟨wr.heap.size,0,none⟩=some (.int .i64 y.key.src):=HK5.out.cell 0
     go_wp2_with (at_builtin;go_must (refine wpList_append_own _ rfl _ _ 64 rfl w.heap.size 3 i0 z0 1 8 Tryz.underlying64 hi0 hz0 hz1 hz2 hzs (by decide) _ _ _ rfl (own_alloc HO5.out _) ⟨w5.heap.size,0,none⟩ 1 1 [.int .i64 y.key.src] rfl rfl (row_new _ _ _) ?c2 ?c3 ?c4 ?c5 ?_))
     case c2=>simp[Value.oneCell']
     case c3=>have:=HPL.out;unfold maxLen;omega
     case c4=>have:=HPL.out;omega
     case c5=>have:=HBw5.out.size;simp;omega
     intro u9 w9 ho9 hg9 hn9
     have HB9:=Lib.hid ((HBw5.out.alloc HBw5.out.size _).grown hg9 (by have:=HBw5.out.size;simp;omega) (fun q hq=>(HO5.out.lt q hq).1))
     have HO9:=Lib.hid ho9
     clear hg9 hn9 ho9 kq
     go_wp2_with fail
     go_roundw
     case rel=>exact⟨m+1,by omega,by go_num,by rw[HTK.out,HNX.out,List.length_append,List.map_append,← HPP.out];exact HO9.out,HB9.out⟩
     case measure=>simp[intOf];omega
    ·have hz':(bits .and .u32 y.vecs.allow pm == pm)=false:=Bool.eq_false_iff.2 hz
     rw[if_neg hz] at HNX
     clear hz
     go_wp2_with fail
     go_roundw
     case rel=>exact⟨m+1,by omega,by go_num,by rw[HTK.out,HNX.out,← HPP.out];exact HO5.out,HBw5.out⟩
     case measure=>simp[intOf];omega
   ·have HQ:=Lib.hid (show decide (y.key.tgt=s∧y.key.cls=c)=false from decide_eq_false hq)
    have hqd:decide (y.tgt=s∧y.cls=c)=false:=decide_eq_false hq
    rw[hqd,Bool.false_and,if_neg (by simp)] at HNX
    clear hq hqd
    refine ch7_39_f w3 tb wr.heap.size sa ss mb (.slice (some ⟨b,off,none⟩) n kc) vv (.pointer (some ⟨pb,0,none⟩)) (.pointer (some ⟨pc,0,none⟩)) pm y.key y.vecs _ _ _ _ _ _ _ _ _ _ _ _ _ _ _ _ _ _ _ _ _ _ _ _ _ _ _ _ _ _ _ _ _ _ _ _ _ _ _ _ _ _ _ _ _ _ _ _ _ _ _ _ (Lib.hid (Whole.under HBw3.out HT.out HT.out.lt)) (Lib.hid (Whole.under HBw3.out HS.out HS.out.lt)) HW3 (Lib.hid fun W hW=>by
     have h:=store_look ((HM.out.kept (HBw3.out.block _ HM.out.lt)).kept (hW.block _ (Nat.lt_of_lt_of_le HM.out.lt HBw3.out.size))) HORD.out HYO.out.1
     rwa [lookV_at HORD.out HY.out rfl] at h) (Lib.hid fun W hW=>by
     have hbw:=HBw3.out.trans (hW.mono HBw3.out.size)
     have h:=sources1_any W y.key pb pc s c (Whole.under hbw HPB.out HPB.out.lt) (Whole.under hbw HPC.out HPC.out.lt)
     rwa [HQ.out] at h) ?_
    intro v27 v28 v29 v30 v31 v32 v33 v34 v35 v36 v37 v38 v39 v40 v41 v42 v43 v44 w5 hb5
    have HBw5:=Lib.hid (HBw3.out.trans (hb5.mono HBw3.out.size))
    have HO5:=Lib.hid (own_keep hb5 HO3.out (Nat.le_refl _))
    have HK5:=Lib.hid (Whole.under hb5 HW3.out HW3.out.lt)
    clear hb5
    go_wp2_with fail
    go_roundw
    case rel=>exact⟨m+1,by omega,by go_num,by rw[HTK.out,HNX.out,← HPP.out];exact HO5.out,HBw5.out⟩
    case measure=>simp[intOf];omega
  ·obtain rfl:m=n:=by omega
   have hfull:S.take m=S:=List.take_of_length_le (by rw[HN.out];exact Nat.le_refl _)
   rw[hfull] at HOr HPP
   clear hfull
   have HSR:=Lib.hid (sort_any wr w.heap.size (.slice oa p oc) (sourcesL S s c pm) (by rw[← HPP.out];exact HOr.out) (by rw[← HPP.out];have:=HPL.out;omega))
   go_wp2_with (go_at_call 202;go_must (refine HSR.out.mono ?_;rintro e w1 ⟨rfl,ho,hg⟩;have HO1:=Lib.hid ho;have HG1:=Lib.hid hg;clear ho hg))
   go_ret
   exact⟨_,ret_val rfl,HO1.out,HBr.out.grown HG1.out HBr.out.size (fun q hq=>(HOr.out.lt q hq).1)⟩
set_option maxRecDepth 100000 in
theorem targets_any (w:World) (base tb:Nat) (S A0:List AEntry) (vals:List Bool) (s c pm:Int) (h:TabAt w base tb A0 S vals) (hlen:S.length≤100000000) :
 Calls Tryz.prog 53 #[.pointer (some ⟨tb,0,none⟩),.int .i64 s,.int .i64 c,.int .u32 pm] w fun e w'=>∃ v,e=.returned v∧w'.ownsRow w.heap.size 3 1 v (targetsL S s c pm).length (((targetsL S s c pm).mergeSort fun x y=>decide (x≤y)).map anInt)∧RowKit.Below w.heap.size w w':=by
 obtain⟨wo,hwo⟩:∃ wo,wo=((w.alloc (.cells #[.int .i64 s] 3)).alloc (.cells #[.int .i64 c] 3)):=⟨_,rfl⟩
 have HBO:=Lib.hid (show RowKit.Below w.heap.size w wo by rw[hwo];exact((Below.refl _ w).alloc (Nat.le_refl _) _).alloc (by simp) _)
 have HC:=Lib.hid (targetsc_any wo base tb w.heap.size (w.heap.size+1) S A0 vals s c pm (h.keep HBO.out) hlen (by rw[hwo];exact(Whole.new w 3 _).alloc _) (by rw[hwo];exact whole_two w _ _ _))
 clear h
 go_enter Tryz.func53,Tryz.ntmps53
 go_upto_region 1 with fail
 rw[← hwo]
 clear hwo
 go_wp2_with (go_at_call 118;go_must (refine HC.out.mono ?_;rintro e w1 ⟨v,rfl,ho,hb⟩;have HO1:=Lib.hid ho;have HB1:=Lib.hid hb;clear ho hb))
 go_ret
 exact⟨_,ret_val rfl,own_low HO1.out HBO.out.size,HBO.out.trans (HB1.out.mono HBO.out.size)⟩
set_option maxRecDepth 100000 in
theorem sources_any (w:World) (base tb:Nat) (S A0:List AEntry) (vals:List Bool) (s c pm:Int) (h:TabAt w base tb A0 S vals) (hlen:S.length≤100000000) :
 Calls Tryz.prog 54 #[.pointer (some ⟨tb,0,none⟩),.int .i64 s,.int .i64 c,.int .u32 pm] w fun e w'=>∃ v,e=.returned v∧w'.ownsRow w.heap.size 3 1 v (sourcesL S s c pm).length (((sourcesL S s c pm).mergeSort fun x y=>decide (x≤y)).map anInt)∧RowKit.Below w.heap.size w w':=by
 obtain⟨wo,hwo⟩:∃ wo,wo=((w.alloc (.cells #[.int .i64 s] 3)).alloc (.cells #[.int .i64 c] 3)):=⟨_,rfl⟩
 have HBO:=Lib.hid (show RowKit.Below w.heap.size w wo by rw[hwo];exact((Below.refl _ w).alloc (Nat.le_refl _) _).alloc (by simp) _)
 have HC:=Lib.hid (sourcesc_any wo base tb w.heap.size (w.heap.size+1) S A0 vals s c pm (h.keep HBO.out) hlen (by rw[hwo];exact(Whole.new w 3 _).alloc _) (by rw[hwo];exact whole_two w _ _ _))
 clear h
 go_enter Tryz.func54,Tryz.ntmps54
 go_upto_region 1 with fail
 rw[← hwo]
 clear hwo
 go_wp2_with (go_at_call 118;go_must (refine HC.out.mono ?_;rintro e w1 ⟨v,rfl,ho,hb⟩;have HO1:=Lib.hid ho;have HB1:=Lib.hid hb;clear ho hb))
 go_ret
 exact⟨_,ret_val rfl,own_low HO1.out HBO.out.size,HBO.out.trans (HB1.out.mono HBO.out.size)⟩
end Go.Proofs.YtdcofoaihmongaaGreat.V
namespace Go.Proofs.YtdcofoaihmongaaGreat.V
open Go Go.WideMaps Go.RowKit
def oneInt (x:Int):List Value:=[.int .i64 x]
theorem oneInt_len (x:Int):(oneInt x).length=1:=rfl
set_option maxRecDepth 100000 in
set_option maxHeartbeats 4000000 in
theorem same6_24_t (w:World) (b1 of1 b2 of2 m n c1 c2:Nat) (y z:Int) (x2 x3 x4 x6 x7 x8 x9 x10 x11 x12 x13 x14 x15 x16 x17 x18 x19 x20 x21 x22 x23 x24 x25:Value) (hm:m<n) (HE1:Hid (∀ j u,([Value.int .i64 y])[j]?=some u→w.cell? ⟨b1,of1+m*1+j,none⟩=some u)) (HE2:Hid (∀ j u,([Value.int .i64 z])[j]?=some u→w.cell? ⟨b2,of2+m*1+j,none⟩=some u))
 {Q':Exit→Act→World→Prop} (hend:∀ (v17 v18 v19 v20 v21 v22 v23 v24:Value) (w':World),RowKit.Below w.heap.size w w'→Q' .normal ⟨#[.slice (some ⟨b1,of1,none⟩) n c1,.slice (some ⟨b2,of2,none⟩) n c2,x2,x3,x4,.int .i64 (m:Nat),x6,x7,x8,x9,x10,x11,x12,x13,x14,x15,x16,v17,v18,v19,v20,v21,v22,v23,v24,.bool (y != z)],[]⟩ w') :
 Code.wp Tryz.prog (findRegion7 6 ((Tryz.f28.body).getD .skip)) Q' ⟨#[.slice (some ⟨b1,of1,none⟩) n c1,.slice (some ⟨b2,of2,none⟩) n c2,x2,x3,x4,.int .i64 (m:Nat),x6,x7,x8,x9,x10,x11,x12,x13,x14,x15,x16,x17,x18,x19,x20,x21,x22,x23,x24,x25],[]⟩ w:=by
 have HEND:=Lib.hid hend
 clear hend
 conv=>arg 2;whnf
 conv=>arg 4;dsimp only
 refine wp_region_goods [some 17,some 18,some 19,some 20,some 21,some 22,some 23,some 24] [isW (.slice (some ⟨b1,of1,none⟩) n c1),isW (.int .i64 (m:Nat)),isW (.pointer (some ⟨b1,of1+m,none⟩)),isW (.int .i64 y),isW (.slice (some ⟨b2,of2,none⟩) n c2),isW (.int .i64 (m:Nat)),isW (.pointer (some ⟨b2,of2+m,none⟩)),isW (.int .i64 z)] (fun _ w'=>RowKit.Below w.heap.size w w') [] (by kernel_rfl) (by kernel_rfl) (by kernel_rfl) rfl (by decide) rfl rfl ((Below.refl _ _).drew) ⟨lastsW_is _,lastsW_is _,lastsW_is _,lastsW_is _,lastsW_is _,lastsW_is _,lastsW_is _,lastsW_is _,trivial⟩ ⟨?_,?_,?_,?_,?_,?_,?_,?_,?_⟩
 ·intro L a wy Q' hL hi H F hK
  try dsimp only at hi
  have h0:a.tmps[0]?=some (.slice (some ⟨b1,of1,none⟩) n c1):=F 0 rfl
  have HI:=Lib.hid hi
  clear H F hi hL
  go_wp2_with fail
  exact hK _ _ (Below.refl _ _) HI.out rfl
 ·intro L a wy Q' hL hi H F hK
  try dsimp only at hi
  have h5:a.tmps[5]?=some (.int .i64 (m:Nat)):=F 5 rfl
  have HI:=Lib.hid hi
  clear H F hi hL
  go_wp2_with fail
  exact hK _ _ (Below.refl _ _) HI.out rfl
 ·intro L a wy Q' hL hi H F hK
  try dsimp only at hi
  obtain⟨_,h17,rfl⟩:=H 0 ⟨.data,by simp,rfl⟩ _ rfl
  replace h17:=h17 _ rfl
  obtain⟨_,h18,rfl⟩:=H 1 ⟨.data,by simp,rfl⟩ _ rfl
  replace h18:=h18 _ rfl
  have HI:=Lib.hid hi
  clear H F hi hL
  go_wp2_with fail
  exact hK _ _ (Below.refl _ _) HI.out rfl
 ·intro L a wy Q' hL hi H F hK
  try dsimp only at hi
  obtain⟨_,h19,rfl⟩:=H 2 ⟨.data,by simp,rfl⟩ _ rfl
  replace h19:=h19 _ rfl
  have HI:=Lib.hid hi
  clear H F hi hL
  have e0:wy.cell? ⟨b1,of1+m,none⟩=some (.int .i64 y):=by have h:=cell_later HI.out (HE1.out 0 _ rfl);rwa [Nat.mul_one,Nat.add_zero] at h
  go_wp2_with fail
  exact hK _ _ (Below.refl _ _) HI.out rfl
 ·intro L a wy Q' hL hi H F hK
  try dsimp only at hi
  have h1:a.tmps[1]?=some (.slice (some ⟨b2,of2,none⟩) n c2):=F 1 rfl
  have HI:=Lib.hid hi
  clear H F hi hL
  go_wp2_with fail
  exact hK _ _ (Below.refl _ _) HI.out rfl
 ·intro L a wy Q' hL hi H F hK
  try dsimp only at hi
  have h5:a.tmps[5]?=some (.int .i64 (m:Nat)):=F 5 rfl
  have HI:=Lib.hid hi
  clear H F hi hL
  go_wp2_with fail
  exact hK _ _ (Below.refl _ _) HI.out rfl
 ·intro L a wy Q' hL hi H F hK
  try dsimp only at hi
  obtain⟨_,h21,rfl⟩:=H 4 ⟨.data,by simp,rfl⟩ _ rfl
  replace h21:=h21 _ rfl
  obtain⟨_,h22,rfl⟩:=H 5 ⟨.data,by simp,rfl⟩ _ rfl
  replace h22:=h22 _ rfl
  have HI:=Lib.hid hi
  clear H F hi hL
  go_wp2_with fail
  exact hK _ _ (Below.refl _ _) HI.out rfl
 ·intro L a wy Q' hL hi H F hK
  try dsimp only at hi
  obtain⟨_,h23,rfl⟩:=H 6 ⟨.data,by simp,rfl⟩ _ rfl
  replace h23:=h23 _ rfl
  have HI:=Lib.hid hi
  clear H F hi hL
  have g0:wy.cell? ⟨b2,of2+m,none⟩=some (.int .i64 z):=by have h:=cell_later HI.out (HE2.out 0 _ rfl);rwa [Nat.mul_one,Nat.add_zero] at h
  go_wp2_with fail
  exact hK _ _ (Below.refl _ _) HI.out rfl
 ·intro a wy L hl hi hL Q' hK
  try dsimp only at hi
  have HB:=Lib.hid hi
  clear hi hL
  obtain⟨_,rfl,_,rfl,_,rfl,_,rfl,_,rfl,_,rfl,_,rfl,_,rfl,rfl⟩:=hl
  simp only[List.setIfInBounds_toArray,List.set_cons_zero,List.set_cons_succ]
  go_wp2_with fail
  exact HEND.out _ _ _ _ _ _ _ _ _ HB.out
set_option maxRecDepth 100000 in
set_option maxHeartbeats 4000000 in
theorem ints_any (w:World) (v1 v2:Value) (a b:List Int) (h1:SliceAt w v1 1 a.length (a.flatMap oneInt)) (h2:SliceAt w v2 1 b.length (b.flatMap oneInt)) :
 Calls Tryz.prog 28 #[v1,v2] w fun e w'=>e=.returned (.bool (decide (a=b)))∧RowKit.Below w.heap.size w w':=by
 obtain⟨n,hn⟩:∃ n,n=a.length:=⟨_,rfl⟩
 obtain⟨n2,hn2⟩:∃ n,n=b.length:=⟨_,rfl⟩
 rw[← hn] at h1
 rw[← hn2] at h2
 obtain⟨p1,c1,rfl,hc1,hm1,hcell1⟩:=h1.form (by decide)
 obtain⟨p2,c2,rfl,hc2,hm2,hcell2⟩:=h2.form (by decide)
 have HN:=Lib.hid hn
 have HN2:=Lib.hid hn2
 have H1:=Lib.hid hcell1
 have H2:=Lib.hid hcell2
 obtain⟨r,hr⟩:∃ r,r=decide (a=b):=⟨_,rfl⟩
 rw[← hr]
 have HR:=Lib.hid hr
 clear hn hn2 hcell1 hcell2 hr h1 h2
 by_cases hl:n=n2
 ·subst hl
  go_enter Tryz.func28,Tryz.ntmps28
  go_wp2_with fail
  go_loopw [5] (fun i wr=>∃ m:Nat,m≤n∧i=.int .i64 m∧Hid (a.take m=b.take m)∧RowKit.Below w.heap.size w wr) (fun i _=>n-(intOf i).toNat)
  case atStart=>exact⟨0,Nat.zero_le _,rfl,Lib.hid (by simp),Below.refl _ _⟩
  case round =>
   obtain⟨m,hm,rfl,HT,hBr⟩:=hrel
   have HBr:=Lib.hid hBr
   clear hBr
   by_cases hlt:m<n
   ·obtain⟨y,hy⟩:∃ y,a[m]?=some y:=⟨_,List.getElem?_eq_getElem (by rw[← HN.out];exact hlt)⟩
    obtain⟨z,hz⟩:∃ z,b[m]?=some z:=⟨_,List.getElem?_eq_getElem (by rw[← HN2.out];exact hlt)⟩
    obtain⟨b1,of1,rfl,hcl⟩:=H1.out m hlt
    obtain⟨b2,of2,rfl,hcl2⟩:=H2.out m hlt
    have HY:=Lib.hid hy
    have HZ:=Lib.hid hz
    have HT1:=Lib.hid (show a.take (m+1)=a.take m++[y] from take_snoc hy)
    have HT2:=Lib.hid (show b.take (m+1)=b.take m++[z] from take_snoc hz)
    have HC1:∀ j u,([Value.int .i64 y])[j]?=some u→wr.cell? ⟨b1,of1+m*1+j,none⟩=some u:=fun j u hu=>cell_later HBr.out (hcl j u (by rw[flat_at oneInt_len hy j (by exact(List.getElem?_eq_some_iff.1 hu).1)];exact hu))
    have HC2:∀ j u,([Value.int .i64 z])[j]?=some u→wr.cell? ⟨b2,of2+m*1+j,none⟩=some u:=fun j u hu=>cell_later HBr.out (hcl2 j u (by rw[flat_at oneInt_len hz j (by exact(List.getElem?_eq_some_iff.1 hu).1)];exact hu))
    clear hcl hcl2 hy hz
    have HE1:=Lib.hid HC1
    have HE2:=Lib.hid HC2
    clear HC1 HC2
    by_cases hyz:y=z
    ·have HYZ:=Lib.hid hyz
     clear hyz
     have q2:(y != z)=false:=by simp[HYZ.out]
     go_upto_region 6 with fail
     refine same6_24_t wr b1 of1 b2 of2 m n c1 c2 y z _ _ _ _ _ _ _ _ _ _ _ _ _ _ _ _ _ _ _ _ _ _ _ hlt HE1 HE2  ?_
     intro v17 v18 v19 v20 v21 v22 v23 v24 w6 hb6
     have HBE:=Lib.hid (HBr.out.trans (hb6.mono HBr.out.size))
     clear hb6
     go_wp2
     go_roundw
     case rel=>exact⟨m+1,by omega,by go_num,Lib.hid (by rw[HT1.out,HT2.out,HT.out,HYZ.out]),HBE.out⟩
     case measure=>simp[intOf];omega
    ·have HYZ:=Lib.hid hyz
     clear hyz
     have q2:(y != z)=true:=by simp[HYZ.out]
     go_upto_region 6 with fail
     refine same6_24_t wr b1 of1 b2 of2 m n c1 c2 y z _ _ _ _ _ _ _ _ _ _ _ _ _ _ _ _ _ _ _ _ _ _ _ hlt HE1 HE2  ?_
     intro v17 v18 v19 v20 v21 v22 v23 v24 w6 hb6
     have HBE:=Lib.hid (HBr.out.trans (hb6.mono HBr.out.size))
     clear hb6
     go_wp2
     go_ret
     refine⟨ret_val ?_,HBE.out⟩
     show Value.bool false=.bool r
     rw[HR.out,decide_eq_false]
     rintro rfl
     exact HYZ.out (Option.some.inj (HY.out.symm.trans HZ.out))
   ·obtain rfl:m=n:=by omega
    go_wp2
    go_ret
    refine⟨ret_val ?_,HBr.out⟩
    show Value.bool true=.bool r
    rw[HR.out,decide_eq_true]
    have h:=HT.out
    rwa [List.take_of_length_le (by rw[HN.out];exact Nat.le_refl _),List.take_of_length_le (by rw[HN2.out];exact Nat.le_refl _)] at h
 ·have HL:=Lib.hid hl
  have hd:((n:Int) != (n2:Int))=true:=by simp;omega
  clear hl
  go_enter Tryz.func28,Tryz.ntmps28
  go_wp2
  go_ret
  refine⟨ret_val ?_,Below.refl _ _⟩
  show Value.bool false=.bool r
  rw[HR.out,decide_eq_false]
  rintro rfl
  exact HL.out (HN.out.trans HN2.out.symm)
end Go.Proofs.YtdcofoaihmongaaGreat.V
namespace Go.Proofs.YtdcofoaihmongaaGreat.V
open Go Go.RowKit
theorem ints_one (l:List Int):∀ u∈l.map anInt,u.oneCell'=true:=fun u hu=>by
 obtain⟨b,_,rfl⟩:=List.mem_map.1 hu
 rfl
def exL:List AEntry:=[⟨0,1,0,0,1,0,0⟩,⟨0,1,0,1,2,0,0⟩,⟨0,1,0,0,4,0,0⟩]
def exJ:List AEntry:=[⟨0,1,0,0,5,0,0⟩,⟨0,1,0,1,2,0,0⟩]
def exS:List AEntry:=[⟨0,1,0,0,5,0,0⟩]
def exT:List AEntry:=[⟨0,1,0,0,7,0,0⟩]
theorem ex_join:joinL exL=exJ:=by kernel_rfl
theorem ex_seen:seenL exJ []=exS:=by kernel_rfl
theorem ex_seen1:seenL exJ [true]=exT:=by kernel_rfl
theorem ex_look:lookV exS ⟨0,1,0,0⟩=⟨5,0,0⟩:=by kernel_rfl
theorem ex_look1:lookV exT ⟨0,1,0,0⟩=⟨7,0,0⟩:=by kernel_rfl
theorem ex_tgt:targetsL exS 0 0 2=[]:=by kernel_rfl
theorem ex_tgt1:targetsL exT 0 0 2=[1]:=by kernel_rfl
theorem ex_src1:sourcesL exT 1 0 1=[0]:=by kernel_rfl
theorem ex_ok:∀ x∈exL,x.Ok:=by
 intro x hx
 simp only[exL,List.mem_cons,List.not_mem_nil,or_false] at hx
 rcases hx with rfl | rfl | rfl<;>exact⟨⟨⟨by decide,by decide⟩,⟨by decide,by decide⟩,⟨by decide,by decide⟩,⟨by decide,by decide⟩⟩,⟨⟨by decide,by decide⟩,⟨by decide,by decide⟩,⟨by decide,by decide⟩⟩⟩
theorem one_sort (x:Int):([x].mergeSort fun x y=>decide (x≤y))=[x]:=by simp
set_option maxRecDepth 100000 in
set_option maxHeartbeats 8000000 in
theorem alive_any (w:World):Calls Tryz.prog 13 #[] w fun e w'=>e=.returned (.bool true)∧RowKit.Below w.heap.size w w':=by
 obtain⟨wo,hwo⟩:∃ wo,wo=(w.alloc (.cells #[.int .i64 0,.int .i64 1,.int .i64 0,.int .i64 0,.int .u32 1,.int .u32 0,.int .u32 0,.int .i64 0,.int .i64 1,.int .i64 0,.int .i64 1,.int .u32 2,.int .u32 0,.int .u32 0,.int .i64 0,.int .i64 1,.int .i64 0,.int .i64 0,.int .u32 4,.int .u32 0,.int .u32 0] 94)):=⟨_,rfl⟩
 have HBO:=Lib.hid (show RowKit.Below w.heap.size w wo by rw[hwo];exact(Below.refl _ w).alloc (Nat.le_refl _) _)
 have HSL:=Lib.hid (show SliceAt wo (.slice (some ⟨w.heap.size,0,none⟩) 3 3) 7 exL.length (exL.flatMap AEntry.cells) from⟨rfl,by decide,ecells_one _,.inr ⟨_,_,rfl,Nat.le_refl _,by rw[hwo];exact row_new w (exL.flatMap AEntry.cells) 94⟩⟩)
 have HNW:=Lib.hid (new_any wo (.slice (some ⟨w.heap.size,0,none⟩) 3 3) exL HSL.out ex_ok (by decide))
 rw[ex_join,ex_seen] at HNW
 rw[hwo] at HNW
 go_enter Tryz.func13,Tryz.ntmps13
 go_upto_region 2 with(go_at_call 14;go_must (refine HNW.out.mono ?_;rintro e w1 ⟨tb,rfl,ht,hb⟩;rw[← hwo] at ht hb;have HT1:=Lib.hid ht;have HB1:=Lib.hid hb;clear ht hb))
 clear hwo HNW
 have HL:=Lib.hid (len_any w1 _ tb exJ exS [] HT1.out)
 rw[show((exJ.length:Nat):Int)=2 from rfl] at HL
 go_upto_region 4 with(go_at_call 52;go_must (refine HL.out.mono ?_;rintro e w2 ⟨rfl,rfl⟩))
 have HF:=Lib.hid (find_any w1 _ tb exJ exS [] 0 1 0 HT1.out ⟨by decide,by decide⟩ ⟨by decide,by decide⟩ ⟨by decide,by decide⟩)
 rw[ex_look] at HF
 go_upto_region 5 with(go_at_call 19;go_must (refine HF.out.mono ?_;rintro e w2 ⟨rfl,hb⟩;have HB2:=Lib.hid hb;clear hb))
 have HTG:=Lib.hid (targets_any w2 _ tb exS exJ [] 0 0 2 (HT1.out.keep HB2.out) (by decide))
 rw[ex_tgt] at HTG
 go_upto_region 6 with(go_at_call 53;go_must (refine HTG.out.mono ?_;rintro e w3 ⟨v,rfl,ho,hb⟩;obtain⟨ta,tc,rfl⟩:=own_shape ho;have HB3:=Lib.hid hb;clear hb ho))
 have HB23:=Lib.hid (HB2.out.trans (HB3.out.mono HB2.out.size))
 obtain⟨w4,hw4⟩:∃ w4,w4=w3.alloc (.cells #[.bool true] 4):=⟨_,rfl⟩
 have HB4:=Lib.hid (show RowKit.Below w1.heap.size w1 w4 by rw[hw4];exact HB23.out.alloc HB23.out.size _)
 have HAC:=Lib.hid (activate_any w4 _ tb (.slice (some ⟨w3.heap.size,0,none⟩) 1 1) exJ exS [] [true] (HT1.out.keep HB4.out) ⟨rfl,by decide,bools_one _,.inr ⟨_,_,rfl,Nat.le_refl _,by rw[hw4];exact row_new w3 ([true].map aBool) 4⟩⟩ (by decide) (by decide))
 rw[ex_seen1,hw4] at HAC
 go_upto_region 7 with(go_at_call 16;go_must (refine HAC.out.mono ?_;rintro e w5 ⟨rfl,ht,hg⟩;rw[← hw4] at hg;have HT5:=Lib.hid ht;have HG5:=Lib.hid hg;clear ht hg))
 clear hw4 HAC
 have HF5:=Lib.hid (find_any w5 _ tb exJ exT [true] 0 1 0 HT5.out ⟨by decide,by decide⟩ ⟨by decide,by decide⟩ ⟨by decide,by decide⟩)
 rw[ex_look1] at HF5
 go_upto_region 8 with(go_at_call 19;go_must (refine HF5.out.mono ?_;rintro e w6 ⟨rfl,hb⟩;have HB6:=Lib.hid hb;clear hb))
 have HT6:=Lib.hid (HT5.out.keep HB6.out)
 have HTG6:=Lib.hid (targets_any w6 _ tb exT exJ [true] 0 0 2 HT6.out (by decide))
 rw[ex_tgt1,one_sort] at HTG6
 have HSG:=Lib.hid (fun W (hW:RowKit.Below w6.heap.size w6 W)=>by have h:=sources_any W _ tb exT exJ [true] 1 0 1 (HT6.out.keep hW) (by decide);rw[ex_src1,one_sort] at h;exact h)
 go_wp2_with (first
  | (have hZ:=HTG6;clear hZ;go_at_call 53;go_must (refine HTG6.out.mono ?_;rintro e w7 ⟨v7,rfl,ho,hb⟩;obtain⟨ua,uc,rfl⟩:=own_shape ho;have HO7:=Lib.hid ho;have HB7:=Lib.hid hb;clear ho hb HTG6;have HI7:=Lib.hid (ints_any (w7.alloc (.cells #[.int .i64 1] 3)) _ (.slice (some ⟨w7.heap.size,0,none⟩) 1 1) [1] [1] ((SliceAt.of_own HO7.out (ints_one _)).keep ((Below.refl _ w7).alloc (Nat.le_refl _) _)) ⟨rfl,by decide,ints_one [1],.inr ⟨_,_,rfl,Nat.le_refl _,row_new w7 ([1].map anInt) 3⟩⟩)))
  | (have hZ:=HI7;clear hZ;go_at_call 28;go_must (refine HI7.out.mono ?_;rintro e w8 ⟨rfl,hb⟩;have HB8:=Lib.hid (HB7.out.trans ((below_of_alloc (hb.mono (by simp))).mono HB7.out.size));clear hb HI7 HB7;have HS8:=Lib.hid (HSG.out w8 HB8.out)))
  | (have hZ:=HS8;clear hZ;go_at_call 54;go_must (refine HS8.out.mono ?_;rintro e w9 ⟨v9,rfl,ho,hb⟩;obtain⟨xa,xc,rfl⟩:=own_shape ho;have HO9:=Lib.hid ho;have HB9:=Lib.hid (HB8.out.trans (hb.mono HB8.out.size));clear ho hb HS8 HB8;have HI9:=Lib.hid (ints_any (w9.alloc (.cells #[.int .i64 0] 3)) _ (.slice (some ⟨w9.heap.size,0,none⟩) 1 1) [0] [0] ((SliceAt.of_own HO9.out (ints_one _)).keep ((Below.refl _ w9).alloc (Nat.le_refl _) _)) ⟨rfl,by decide,ints_one [0],.inr ⟨_,_,rfl,Nat.le_refl _,row_new w9 ([0].map anInt) 3⟩⟩)))
  | (have hZ:=HI9;clear hZ;go_at_call 28;go_must (refine HI9.out.mono ?_;rintro e w10 ⟨rfl,hb⟩;have HB10:=Lib.hid (HB9.out.trans ((below_of_alloc (hb.mono (by simp))).mono HB9.out.size));clear hb HI9 HB9)))
 go_ret
 refine⟨ret_val rfl,?_⟩
 have hb4:RowKit.Below wo.heap.size wo w4:=HB1.out.trans (HB4.out.mono HB1.out.size)
 have hb5:RowKit.Below wo.heap.size wo w5:=hb4.grown HG5.out hb4.size (fun q hq=>by cases hq;exact HT1.out.lo)
 exact HBO.out.trans (((hb5.trans (HB6.out.mono hb5.size)).trans (HB10.out.mono (Nat.le_trans hb5.size HB6.out.size))).mono HBO.out.size)
end Go.Proofs.YtdcofoaihmongaaGreat.V
namespace Go.Proofs.YtdcofoaihmongaaGreat
open Go Go.RowKit
theorem SliceAt.form2 {w:World} {v:Value} {k n:Nat} {cs:List Value} (h:SliceAt w v k n cs):∃ a c,v=.slice a n c:=SliceAt.shape h
theorem has_nat (w:World) (s:ASet) (hs:s.Ok) (n:Nat) (hn:n<256):Calls Tryz.prog 18 #[.agg #[.int .u64 s.a,.int .u64 s.b,.int .u64 s.c,.int .u64 s.d],.int .i64 (n:Int)] w fun e w'=>e=.returned (.bool (s.has n))∧RowKit.Below w.heap.size w w':=by
 have h:=rhas_any w s hs (n:Int)
 rw[ASet.mem_nat _ hn] at h
 exact h
theorem small_pol (w0:World) (c0 c1 c2 c3 c4 c5 c6 c7 c8 c9 c10 c11 c12 c13 c14 c15 c16:Value) (p:APol) (hp:PolAt w0 c0 c1 c2 c3 c4 c5 c6 c7 c8 c9 c10 c11 c12 c13 c14 c15 c16 p) (hok:p.Ok):Calls Tryz.prog 11 #[.agg #[c0,c1,c2,c3,c4,c5,c6,c7,c8,c9,c10,c11,c12,c13,c14,c15,c16]] w0 fun e w'=>∃ v,e=.returned v∧((∃ b:Bool,v=.bool b∧(b=true→p.SmallP))∧RowKit.Below w0.heap.size w0 w') :=
 (small_any w0 c0 c1 c2 c3 c4 c5 c6 c7 c8 c9 c10 c11 c12 c13 c14 c15 c16 p hp hok).mono fun _ _ ⟨v,h1,b,h2,h3,h4⟩=>⟨v,h1,⟨b,h2,h3⟩,h4⟩
theorem rules_wf {p:APol} (hok:p.Ok):∀ r∈p.rules,r.Wf:=fun r hr=>have h:=hok.rules r hr;⟨⟨h.src,h.tgt⟩,h.kind,h.cls,h.cond,h.perms⟩
def EntsOf (p:APol) (v:Value) (w:World):Prop:=∃ E:List AEntry,Canon (accum (kvR p.rules)) E∧(∀ x∈E,x.Ok)∧E.length≤65536000∧SliceAt w v 7 E.length (E.flatMap AEntry.cells)
theorem ents_pol (w0:World) (c0 c1 c2 c3 c4 c5 c6 c7 c8 c9 c10 c11 c12 c13 c14 c15 c16:Value) (p:APol) (hp:PolAt w0 c0 c1 c2 c3 c4 c5 c6 c7 c8 c9 c10 c11 c12 c13 c14 c15 c16 p) (hok:p.Ok) (h20:p.rules.length≤20):Calls Tryz.prog 15 #[.agg #[c0,c1,c2,c3,c4,c5,c6,c7,c8,c9,c10,c11,c12,c13,c14,c15,c16]] w0 fun e w'=>∃ v,e=.returned v∧(EntsOf p v w'∧RowKit.Below w0.heap.size w0 w') :=
 (expEntries_any w0 c0 c1 c2 c3 c4 c5 c6 c7 c8 c9 c10 c11 c12 c13 c14 c15 c16 p.rules hp.rules (rules_wf hok) (by omega)).mono fun _ _ ⟨v,E,h1,h2,h3,h4,h5,h6⟩=>⟨v,h1,⟨E,h2,h3,h4,h5⟩,h6⟩
def TabOf (p:APol) (base:Nat) (u:Value) (w:World):Prop:=∃ (tb:Nat) (E:List AEntry),u=.pointer (some ⟨tb,0,none⟩)∧Canon (accum (kvR p.rules)) E∧(∀ x∈E,x.Ok)∧(V.joinL (E.map AEntry.toV)).length≤100000000∧V.TabAt w base tb (V.joinL (E.map AEntry.toV)) (V.seenL (V.joinL (E.map AEntry.toV)) []) []
theorem new_pol (w:World) (v:Value) (p:APol) (h:EntsOf p v w):Calls Tryz.prog 14 #[v] w fun e w'=>∃ u,e=.returned u∧(TabOf p w.heap.size u w'∧RowKit.Below w.heap.size w w'):=by
 obtain⟨E,h1,h2,h3,h4⟩:=h
 have hs:SliceAt w v 7 (E.map AEntry.toV).length ((E.map AEntry.toV).flatMap V.AEntry.cells):=by rw[toV_cells,List.length_map];exact h4
 have hl:=V.joinL_length (E.map AEntry.toV)
 rw[List.length_map] at hl
 refine(V.new_any w v (E.map AEntry.toV) hs (toV_ok h2) (by rw[List.length_map];omega)).mono ?_
 rintro _ _ ⟨tb,rfl,hT,hb⟩
 exact⟨_,rfl,⟨tb,E,rfl,h1,h2,by omega,hT⟩,hb⟩
theorem act_pol (w:World) (base tb:Nat) (v:Value) (L S:List V.AEntry) (vals vals':List Bool) (h:V.TabAt w base tb L S vals) (hv:SliceAt w v 1 vals'.length (vals'.map V.aBool)) (hlen:L.length≤100000000) (hbig:vals'.length≤1000000) :
 Calls Tryz.prog 16 #[.pointer (some ⟨tb,0,none⟩),v] w fun e w'=>∃ u,e=.returned u∧(u=.tuple #[]∧V.TabAt w' base tb L (V.seenL L vals') vals'∧w.grownBy w' (some tb)) :=
 (V.activate_any w base tb v L S vals vals' h hv hlen hbig).mono fun _ _ ⟨h1,h2⟩=>⟨_,h1,rfl,h2⟩
theorem find_pol (w:World) (base tb:Nat) (p:APol) (hwf:∀ r∈p.rules,r.Wf) {E:List AEntry} (hc:Canon (accum (kvR p.rules)) E) (hE:∀ x∈E,x.Ok) (vals:List Bool) (h:V.TabAt w base tb (V.joinL (E.map AEntry.toV)) (V.seenL (V.joinL (E.map AEntry.toV)) vals) vals) (s o:Nat) (c:Int) (hs:s<256) (ho:o<256) (hcc:I64 c) :
 Calls Tryz.prog 19 #[.pointer (some ⟨tb,0,none⟩),.int .i64 (s:Int),.int .i64 (o:Int),.int .i64 c] w fun e w'=>e=.returned (.tuple #[.int .u32 (rulesJoin vals s o c p.rules V.AVec.zero).allow,.int .u32 (rulesJoin vals s o c p.rules V.AVec.zero).audit,.int .u32 (rulesJoin vals s o c p.rules V.AVec.zero).dont])∧RowKit.Below w.heap.size w w':=by
 have hf:=V.find_any w base tb _ _ vals (s:Int) (o:Int) c h ⟨by omega,by omega⟩ ⟨by omega,by omega⟩ hcc
 rw[find_join hwf hc hE vals c hs ho] at hf
 exact hf
theorem chk_rules {p:APol} (h:checkM p=0):∀ r∈p.rules,1≤r.kind∧r.kind≤4∧-64≤r.cond∧r.cond≤64:=by
 intro r hr
 have h1:rulesM p=0:=by
  unfold checkM at h
  split at h
  ·exact firstL_zero.1 h _ (by simp)
  ·rename_i hne;exact absurd h hne
 obtain⟨i,hi⟩:=List.getElem?_of_mem hr
 have hil:=(List.getElem?_eq_some_iff.1 hi).1
 unfold rulesM at h1
 split at h1
 ·cases h1
 rename_i hcl
 split at h1
 ·split at h1
  ·cases h1
  have h2:=(firstE_zero _ _).1 h1 i (Nat.zero_le _) (by omega)
  have h2:ruleM p.types.length p.conds.length p.classes r=0:=by
   unfold ruleF at h2
   rw[hi] at h2
   exact h2
  unfold ruleM at h2
  split at h2
  ·cases h2
  split at h2
  ·cases h2
  split at h2
  ·cases h2
  rename_i h3 h4 h5
  unfold ruleOut at h5
  simp only[Bool.or_eq_true,not_or,Bool.not_eq_true',Bool.not_eq_false] at h5
  have h6:=h5.2
  unfold condB at h6
  simp only[Bool.and_eq_true,decide_eq_true_eq] at h6
  omega
 ·rename_i hne;exact absurd h1 hne
theorem rulesJoin_snoc {vals:List Bool} {s o:Nat} {c:Int} {l:List ARule} {i:Nat} {r:ARule} (h:l[i]?=some r):rulesJoin vals s o c (l.take (i+1)) V.AVec.zero=if ruleHits vals s o c r then (rulesJoin vals s o c (l.take i) V.AVec.zero).or (vecOf r.kind r.perms).toV else rulesJoin vals s o c (l.take i) V.AVec.zero:=by
 rw[take_snoc h]
 simp[rulesJoin,List.foldl_append]
theorem join_no {vals:List Bool} {s o:Nat} {c:Int} {l:List ARule} {i:Nat} {r:ARule} (h:l[i]?=some r) (hn:ruleHits vals s o c r=false):rulesJoin vals s o c (l.take (i+1)) V.AVec.zero=rulesJoin vals s o c (l.take i) V.AVec.zero:=by
 rw[rulesJoin_snoc h,hn];rfl
section
variable {vals:List Bool} {s o:Nat} {c:Int} {l:List ARule} {i:Nat} {r:ARule} (h:l[i]?=some r) (hy:ruleHits vals s o c r=true)
include h hy
theorem join_1 (hk:r.kind=1):rulesJoin vals s o c (l.take (i+1)) V.AVec.zero=⟨bits .or .u32 (rulesJoin vals s o c (l.take i) V.AVec.zero).allow r.perms,(rulesJoin vals s o c (l.take i) V.AVec.zero).audit,(rulesJoin vals s o c (l.take i) V.AVec.zero).dont⟩:=by
 have hq:(rulesJoin vals s o c (l.take i) V.AVec.zero).Ok:=rulesJoin_ok _ _ _ _ _ _ V.AVec.zero_ok
 rw[rulesJoin_snoc h,if_pos hy,hk]
 show V.AVec.mk _ (bits .or .u32 _ 0) (bits .or .u32 _ 0)=_
 rw[V.or_zero32 hq.audit,V.or_zero32 hq.dont];rfl
theorem join_2 (hk:r.kind=2):rulesJoin vals s o c (l.take (i+1)) V.AVec.zero=⟨(rulesJoin vals s o c (l.take i) V.AVec.zero).allow,bits .or .u32 (rulesJoin vals s o c (l.take i) V.AVec.zero).audit r.perms,(rulesJoin vals s o c (l.take i) V.AVec.zero).dont⟩:=by
 have hq:(rulesJoin vals s o c (l.take i) V.AVec.zero).Ok:=rulesJoin_ok _ _ _ _ _ _ V.AVec.zero_ok
 rw[rulesJoin_snoc h,if_pos hy,hk]
 show V.AVec.mk (bits .or .u32 _ 0) _ (bits .or .u32 _ 0)=_
 rw[V.or_zero32 hq.allow,V.or_zero32 hq.dont];rfl
theorem join_3 (hk:r.kind=3):rulesJoin vals s o c (l.take (i+1)) V.AVec.zero=⟨(rulesJoin vals s o c (l.take i) V.AVec.zero).allow,(rulesJoin vals s o c (l.take i) V.AVec.zero).audit,bits .or .u32 (rulesJoin vals s o c (l.take i) V.AVec.zero).dont r.perms⟩:=by
 have hq:(rulesJoin vals s o c (l.take i) V.AVec.zero).Ok:=rulesJoin_ok _ _ _ _ _ _ V.AVec.zero_ok
 rw[rulesJoin_snoc h,if_pos hy,hk]
 show V.AVec.mk (bits .or .u32 _ 0) (bits .or .u32 _ 0) _=_
 rw[V.or_zero32 hq.allow,V.or_zero32 hq.audit];rfl
theorem join_4 (hk:r.kind=4):rulesJoin vals s o c (l.take (i+1)) V.AVec.zero=rulesJoin vals s o c (l.take i) V.AVec.zero:=by
 have hq:(rulesJoin vals s o c (l.take i) V.AVec.zero).Ok:=rulesJoin_ok _ _ _ _ _ _ V.AVec.zero_ok
 rw[rulesJoin_snoc h,if_pos hy,hk]
 exact V.AVec.or_zero hq
end
theorem holds_any (w:World) (c:Int) (hc1:-1000000≤c) (hc2:c≤1000000) (vv:Value) (vals:List Bool) (hv:SliceAt w vv 1 vals.length (vals.map V.aBool)) (hbig:vals.length≤1000000) :
 Calls Tryz.prog 17 #[.int .i64 c,vv] w fun e w'=>e=.returned (.bool (V.visB vals c))∧RowKit.Below w.heap.size w w':=by
 obtain⟨r,hr⟩:∃ r,r=V.visB vals c:=⟨_,rfl⟩
 rw[← hr]
 obtain⟨n,hn⟩:∃ n,n=vals.length:=⟨_,rfl⟩
 rw[← hn] at hv hbig
 obtain⟨a,cp,rfl,hac,hmx,hcell⟩:=hv.form (by decide)
 have HN:=Lib.hid hn
 have HC:=Lib.hid hcell
 have HRR:=Lib.hid hr
 clear hn hcell hv hac hmx hr
 by_cases hz:c=0
 ·subst hz
  have HR:=Lib.hid (show r=true by rw[HRR.out];rfl)
  go_enter Tryz.func17,Tryz.ntmps17
  go_wp2
  go_ret
  rw[HR.out]
  exact⟨rfl,Below.refl _ _⟩
 have HRR2:=Lib.hid (show r=if 0<c then vals.getD (c-1).toNat false else !(vals.getD (-c-1).toNat false) by rw[HRR.out];unfold V.visB;rw[if_neg hz])
 clear HRR
 by_cases hp:0<c
 ·by_cases hle:c≤n
  ·obtain⟨i,hi⟩:∃ i:Nat,c-1=(i:Int):=⟨(c-1).toNat,by omega⟩
   have hin:i<n:=by omega
   obtain⟨b,off,rfl,hcl⟩:=HC.out i hin
   obtain⟨u,hu⟩:∃ u,vals[i]?=some u:=⟨_,List.getElem?_eq_getElem (by rw[← HN.out];exact hin)⟩
   have c0:w.cell? ⟨b,off+i*1,none⟩=some (.bool u):=hcl 0 _ (by simp[hu,V.aBool])
   rw[Nat.mul_one] at c0
   have HR:=Lib.hid (show r=u by rw[HRR2.out,if_pos hp,show(c-1).toNat=i by omega,List.getD_eq_getElem?_getD,hu];rfl)
   clear hcl hu HRR2
   go_enter Tryz.func17,Tryz.ntmps17
   go_wp2
   go_ret
   rw[HR.out]
   exact⟨rfl,Below.refl _ _⟩
  ·have HR:=Lib.hid (show r=false by rw[HRR2.out,if_pos hp,List.getD_eq_getElem?_getD,List.getElem?_eq_none (by have:=HN.out;omega)];rfl)
   clear HRR2
   go_enter Tryz.func17,Tryz.ntmps17
   go_wp2
   go_ret
   rw[HR.out]
   exact⟨rfl,Below.refl _ _⟩
 ·by_cases hle:(n:Int) < -c
  ·have HR:=Lib.hid (show r=true by rw[HRR2.out,if_neg hp,List.getD_eq_getElem?_getD,List.getElem?_eq_none (by have:=HN.out;omega)];rfl)
   clear HRR2
   go_enter Tryz.func17,Tryz.ntmps17
   go_wp2
   go_ret
   rw[HR.out]
   exact⟨rfl,Below.refl _ _⟩
  ·obtain⟨i,hi⟩:∃ i:Nat,-c-1=(i:Int):=⟨(-c-1).toNat,by omega⟩
   have hin:i<n:=by omega
   obtain⟨b,off,rfl,hcl⟩:=HC.out i hin
   obtain⟨u,hu⟩:∃ u,vals[i]?=some u:=⟨_,List.getElem?_eq_getElem (by rw[← HN.out];exact hin)⟩
   have c0:w.cell? ⟨b,off+i*1,none⟩=some (.bool u):=hcl 0 _ (by simp[hu,V.aBool])
   rw[Nat.mul_one] at c0
   have HR:=Lib.hid (show r=!u by rw[HRR2.out,if_neg hp,show(-c-1).toNat=i by omega,List.getD_eq_getElem?_getD,hu];rfl)
   clear hcl hu HRR2
   go_enter Tryz.func17,Tryz.ntmps17
   go_wp2
   go_ret
   rw[HR.out]
   exact⟨rfl,Below.refl _ _⟩
set_option maxRecDepth 100000 in
set_option maxHeartbeats 4000000 in
theorem rules_law (w0:World) (c0 c1 c2 c3 c4 c5 c6 c7 c8 c9 c10 c11 c12 c13 c14 c15 c16:Value) (p:APol) (hp:PolAt w0 c0 c1 c2 c3 c4 c5 c6 c7 c8 c9 c10 c11 c12 c13 c14 c15 c16 p) (hok:p.Ok) (v:Value) (vals:List Bool) (hv:SliceAt w0 v 1 vals.length (vals.map V.aBool)):Calls Tryz.prog 3 #[.agg #[c0,c1,c2,c3,c4,c5,c6,c7,c8,c9,c10,c11,c12,c13,c14,c15,c16],v] w0 (fun(e:Ending) (w':World)=>e=.returned (.bool true)∧RowKit.Below w0.heap.size w0 w'):=by
 obtain⟨va,vc,rfl⟩:=hv.form2
 obtain⟨la0,lk0,rfl,hk0,hm0,hcell0⟩:=RowsAt.form hp.classes (by decide)
 obtain⟨la1,lk1,rfl,hk1,hm1,hcell1⟩:=RowsAt.form hp.types (by decide)
 obtain⟨la9,lk9,rfl,hk9,hm9,hcell9⟩:=SliceAt.form hp.rules (by decide)
 have HRET:=hr1 Tryz.prog Tryz.f3 (fun(e:Ending) (w':World)=>e=.returned (.bool true)∧RowKit.Below w0.heap.size w0 w') 143 4 rfl
 refine en Tryz.func3 rfl Tryz.ntmps3 rfl (vs:=[.agg #[.slice la0 p.classes.length lk0,.slice la1 p.types.length lk1,c2,c3,c4,c5,c6,c7,c8,.slice la9 p.rules.length lk9,c10,c11,c12,c13,c14,c15,c16],.slice va vals.length vc]) rfl fun _ F=>?_
 have M:=Mm.start w0
 refine wp_seq_k fun K1 hK1 =>
  wk_region <|
  kbA (on rfl) rfl (F.u rf) rfl F rfl M fun g1 _ _ F M =>
  xA (v:=.bool false) F rf rf rf fun _ F =>
  wpList_nil <|
  hK1 _ _ ?_
 refine wp_seq_k fun K2 hK2 =>
  wp_seq_k fun K3 hK3 =>
  wk_region <|
  xW F (M.b 0 rfl) rf rf rf u39 rf sz39 rf fun _ F =>
  kx (on rfl) (e_call rfl Tryz.func11 nm11 rfl (args1 (F.u rf))) (small_pol _ _ _ _ _ _ _ _ _ _ _ _ _ _ _ _ _ _ p (hp.keep M.below) hok) rfl F rfl M fun sv _ _ hsm0 hB F M=>?_
 obtain⟨sb,rfl,hsmb⟩:=hsm0
 refine kz F rf (e_not rfl (F.u rf)) fun _ F =>
  xM F rf rf rf fun _ F=>?_
 cases hq2:(!sb:Bool) with
 | true =>
  have F:=F.eq 18 rfl (congrArg Value.bool hq2)
  have hd3:(sb)=false:=by simpa using hq2
  refine ko rfl rfl rfl (F.g 18 rfl) rfl F rfl fun _ F =>
   ko rfl rfl rfl (F.g 18 rfl) rfl F rfl fun _ F =>
   ko rfl rfl rfl (F.g 18 rfl) rfl F rfl fun _ F =>
   ko rfl rfl rfl (F.g 18 rfl) rfl F rfl fun _ F =>
   ke (u:=.bool true) (on rfl) (e_pick rfl (F.u rf) rfl (F.u rf)) rfl F rfl rfl fun _ F =>
   xM F rf rf rf fun _ F =>
   ko rfl rfl rfl (F.g 24 rfl) rfl F rfl fun _ F =>
   ko rfl rfl rfl (F.g 24 rfl) rfl F rfl fun _ F =>
   ko rfl rfl rfl (F.g 24 rfl) rfl F rfl fun _ F =>
   ke (u:=.bool true) (on rfl) (e_pick rfl (F.u rf) rfl (F.u rf)) rfl F rfl rfl fun _ F =>
   xM F rf rf rf fun _ F =>
   ko rfl rfl rfl (F.g 29 rfl) rfl F rfl fun _ F =>
   ko rfl rfl rfl (F.g 29 rfl) rfl F rfl fun _ F =>
   ko rfl rfl rfl (F.g 29 rfl) rfl F rfl fun _ F =>
   ke (u:=.bool true) (on rfl) (e_pick rfl (F.u rf) rfl (F.u rf)) rfl F rfl rfl fun _ F =>
   wpList_nil <|
   hK3 _ _ ?_
  refine wp_cond_true (F.e 33 rfl) ?_
  refine wp_seq_k fun K4 hK4 =>
   wk_region <|
   xC F M rf rf q13 (args0) (V.alive_any _) fun _ _ F M =>
   xA F rf rf rf fun _ F =>
   wpList_nil <|
   hK4 _ _ ?_
  refine wp_ret <|
   HRET _ _ _ _ F rfl ?_
  exact⟨rfl,M.below⟩
 | false =>
  have F:=F.eq 18 rfl (congrArg Value.bool hq2)
  have hd4:(sb)=true:=by simpa using hq2
  refine ke (u:=.pointer (some ⟨g1,9,none⟩)) (gn rfl rfl (F.g 18 rfl)) (e_field rfl (F.u rf) u39 rfl sz30) rfl F rfl rfl fun _ F =>
   kv (gn rfl rfl (F.g 18 rfl)) (e_load1 rfl (F.u rf) u30 rfl ((M.b 0 rfl).c1 9)) rfl F rfl fun _ F =>
   kv (gn rfl rfl (F.g 18 rfl)) (e_lenSl rfl (F.u rf) u30) rfl F rfl fun _ F =>
   kv (gn rfl rfl (F.g 18 rfl)) (e_gtr rfl (F.u rf) rfl) rfl F rfl fun _ F =>
   ke (u:=.bool (decide (20<(p.rules.length:Int)))) (on rfl) (e_pick rfl (F.u rf) rfl (F.u rf)) rfl F rfl rfl fun _ F =>
   xM F rf rf rf fun _ F=>?_
  cases hq5:(decide (20<(p.rules.length:Int)):Bool) with
  | true =>
   have F:=F.eq 24 rfl (congrArg Value.bool hq5)
   have hd6:=of_decide_eq_true hq5
   refine ko rfl rfl rfl (F.g 24 rfl) rfl F rfl fun _ F =>
    ko rfl rfl rfl (F.g 24 rfl) rfl F rfl fun _ F =>
    ko rfl rfl rfl (F.g 24 rfl) rfl F rfl fun _ F =>
    ke (u:=.bool true) (on rfl) (e_pick rfl (F.u rf) rfl (F.u rf)) rfl F rfl rfl fun _ F =>
    xM F rf rf rf fun _ F =>
    ko rfl rfl rfl (F.g 29 rfl) rfl F rfl fun _ F =>
    ko rfl rfl rfl (F.g 29 rfl) rfl F rfl fun _ F =>
    ko rfl rfl rfl (F.g 29 rfl) rfl F rfl fun _ F =>
    ke (u:=.bool true) (on rfl) (e_pick rfl (F.u rf) rfl (F.u rf)) rfl F rfl rfl fun _ F =>
    wpList_nil <|
    hK3 _ _ ?_
   refine wp_cond_true (F.e 33 rfl) ?_
   refine wp_seq_k fun K5 hK5 =>
    wk_region <|
    xC F M rf rf q13 (args0) (V.alive_any _) fun _ _ F M =>
    xA F rf rf rf fun _ F =>
    wpList_nil <|
    hK5 _ _ ?_
   refine wp_ret <|
    HRET _ _ _ _ F rfl ?_
   exact⟨rfl,M.below⟩
  | false =>
   have F:=F.eq 24 rfl (congrArg Value.bool hq5)
   have hd7:=of_decide_eq_false hq5
   refine kv (gn rfl rfl (F.g 24 rfl)) (e_move rfl (F.u rf)) rfl F rfl fun _ F =>
    kv (gn rfl rfl (F.g 24 rfl)) (e_lenSl rfl (F.u rf) u40) rfl F rfl fun _ F =>
    kv (gn rfl rfl (F.g 24 rfl)) (e_gtr rfl (F.u rf) rfl) rfl F rfl fun _ F =>
    ke (u:=.bool (decide (20<(vals.length:Int)))) (on rfl) (e_pick rfl (F.u rf) rfl (F.u rf)) rfl F rfl rfl fun _ F =>
    xM F rf rf rf fun _ F=>?_
   cases hq8:(decide (20<(vals.length:Int)):Bool) with
   | true =>
    have F:=F.eq 29 rfl (congrArg Value.bool hq8)
    have hd9:=of_decide_eq_true hq8
    refine ko rfl rfl rfl (F.g 29 rfl) rfl F rfl fun _ F =>
     ko rfl rfl rfl (F.g 29 rfl) rfl F rfl fun _ F =>
     ko rfl rfl rfl (F.g 29 rfl) rfl F rfl fun _ F =>
     ke (u:=.bool true) (on rfl) (e_pick rfl (F.u rf) rfl (F.u rf)) rfl F rfl rfl fun _ F =>
     wpList_nil <|
     hK3 _ _ ?_
    refine wp_cond_true (F.e 33 rfl) ?_
    refine wp_seq_k fun K6 hK6 =>
     wk_region <|
     xC F M rf rf q13 (args0) (V.alive_any _) fun _ _ F M =>
     xA F rf rf rf fun _ F =>
     wpList_nil <|
     hK6 _ _ ?_
    refine wp_ret <|
     HRET _ _ _ _ F rfl ?_
    exact⟨rfl,M.below⟩
   | false =>
    have F:=F.eq 29 rfl (congrArg Value.bool hq8)
    have hd10:=of_decide_eq_false hq8
    refine kv (gn rfl rfl (F.g 29 rfl)) (e_loadW rfl (F.u rf) u39 rfl (M.b 0 rfl) sz39 rfl) rfl F rfl fun _ F=>?_
    have hsm:p.SmallP:=hsmb (by assumption)
    refine kc (gn rfl rfl (F.g 29 rfl)) (e_call rfl Tryz.func12 nm12 rfl (args1 (F.u rf))) (check_any _ _ _ _ _ _ _ _ _ _ _ _ _ _ _ _ _ _ p (hp.keep M.below) hok hsm.few) rfl F rfl M fun _ _ F M =>
     kv (gn rfl rfl (F.g 29 rfl)) (e_neI rfl (F.u rf) rfl) rfl F rfl fun _ F =>
     ke (u:=.bool (!decide (checkM p=0))) (on rfl) (e_pick rfl (F.u rf) rfl (F.u rf)) rfl F rfl rfl fun _ F =>
     wpList_nil <|
     hK3 _ _ ?_
    refine wp_cond_split (F.e 33 rfl) (fun hc11=>?_) (fun hc11=>?_)
    ·
     have hd12:=of_decide_eq_false (show decide (checkM p=0)=false by simpa using hc11)
     have hk13:(decide (checkM p=0))=false:=by simpa using hc11
     refine wp_seq_k fun K7 hK7 =>
      wk_region <|
      xC F M rf rf q13 (args0) (V.alive_any _) fun _ _ F M =>
      xA F rf rf rf fun _ F =>
      wpList_nil <|
      hK7 _ _ ?_
     refine wp_ret <|
      HRET _ _ _ _ F rfl ?_
     exact⟨rfl,M.below⟩
    ·
     have hd14:=of_decide_eq_true (show decide (checkM p=0)=true by simpa using hc11)
     have hk15:(decide (checkM p=0))=true:=by simpa using hc11
     refine wp_skip <|
      hK2 _ _ ?_
     refine wp_seq_k fun K8 hK8=>?_
     have hc0:checkM p=0:=by omega
     have hchk:=chk_rules hc0
     have hwf:=rules_wf hok
     refine wk_region <|
      xW F (M.b 0 rfl) rf rf rf u39 rf sz39 rf fun _ F =>
      kx (on rfl) (e_call rfl Tryz.func15 nm15 rfl (args1 (F.u rf))) (ents_pol _ _ _ _ _ _ _ _ _ _ _ _ _ _ _ _ _ _ p (hp.keep M.below) hok (by omega)) rfl F rfl M fun ev _ _ hev hB F M =>
      kx (on rfl) (e_call rfl Tryz.func14 nm14 rfl (args1 (F.u rf))) (new_pol _ _ p hev) rfl F rfl M fun tu _ _ hT0 hB F M1=>?_
     obtain⟨tb,E,rfl,hE1,hE2,hE3,hT⟩:=hT0
     have hgt:g1<tb:=Nat.lt_of_lt_of_le (M.b 0 rfl).lt hT.lo
     have hlo:w0.heap.size≤tb:=Nat.le_trans M.below.size hT.lo
     replace M:=M1;clear M1
     refine xA F rf rf rf fun _ F =>
      wpList_nil <|
      hK8 _ _ ?_
     refine wp_seq_k fun K9 hK9 =>
      wp_seq_k fun K10 hK10 =>
      wk_region <|
      xM F rf rf rf fun _ F =>
      kz F rf (e_eqPn rfl (F.u rf) rfl (by kernel_rfl)) fun _ F =>
      wpList_nil <|
      hK10 _ _ ?_
     refine wp_cond_false (F.e 39 rfl) ?_
     refine wp_skip <|
      hK9 _ _ ?_
     refine wp_seq_k fun K11 hK11 =>
      wk_region <|
      xM F rf rf rf fun _ F =>
      xM F rf rf rf fun _ F =>
      kt (on rfl) (e_call rfl Tryz.func16 nm16 rfl (args2 (F.u rf) (F.u rf))) (act_pol _ _ tb _ _ _ _ vals hT (hv.keep M.below) hE3 (by omega)) rfl F rfl fun _ _ wB hA F=>?_
     obtain⟨rfl,hTB,hg⟩:=hA
     have HBo:RowKit.Below w0.heap.size w0 wB:=M.below.grown hg M.below.size (fun q hq=>by cases hq;exact hlo)
     have HW2:=(M.b 0 rfl).grown hg (fun e=>by cases e;exact Nat.lt_irrefl _ hgt)
     have hr2:∀ j uu,[.slice la0 p.classes.length lk0,.slice la1 p.types.length lk1,c2,c3,c4,c5,c6,c7,c8,.slice la9 p.rules.length lk9,c10,c11,c12,c13,c14,c15,c16][j]?=some uu→wB.cell? ⟨g1,0+j,none⟩=some uu:=fun j u hu=>by rw[Nat.zero_add];exact(HW2.cell j).trans (by simpa using hu)
     replace M:=Mm.start wB
     refine wpList_nil <|
      hK11 _ _ ?_
     refine wp_seq_k fun K12 hK12 =>
      wp_seq_k fun K13 hK13=>?_
     have hty:=hsm.sizes.types
     refine wk_region <|
      xA (v:=.int .i64 0) F rf rf rf fun _ F =>
      wpList_nil <|
      hK13 _ _ ?_
     refine wp_block <| ?_
     refine wk_loop (ι:=Nat) (fun sx a w=>Fs a 143 [(1,.slice va vals.length vc),(2,.pointer (some ⟨g1,0,none⟩)),(5,.pointer (some ⟨tb,0,none⟩)),(6,.int .i64 (sx:Int))]∧Mm wB w [] []∧sx≤p.types.length) (fun sx=>p.types.length-sx) 0 ⟨F.sub ⟨rfl,rfl,rfl,rfl,trivial⟩,M,Nat.zero_le _⟩ ?_
     (repeat clear F);(repeat clear M)
     rintro sx _ _ ⟨F,M,hsx⟩
     refine wp_seq_k fun K14 hK14 =>
      wp_seq_k fun K15 hK15 =>
      wk_region <|
      xM F rf rf rf fun _ F =>
      xF 1 F rf rf rf u39 rf sz23 rf fun _ F =>
      kz F rf (e_load1 rf (F.u rf) u23 rfl ((lat M.below hr2) 1 _ rfl)) fun _ F =>
      kz F rf (e_lenSl rfl (F.u rf) u23) fun _ F =>
      kz F rf (e_lss rfl (F.u rf) (F.u rf)) fun _ F =>
      wpList_nil <|
      hK15 _ _ ?_
     refine wp_cond_split (F.e 47 rfl) (fun hc16=>?_) (fun hc16=>?_)
     ·
      have hd17:=of_decide_eq_true hc16
      refine wp_skip <|
       hK14 _ _ ?_
      refine wp_seq_k fun K16 hK16 =>
       wp_block <|
       wp_seq_k fun K17 hK17 =>
       wk_region <|
       xA (v:=.int .i64 0) F rf rf rf fun _ F =>
       wpList_nil <|
       hK17 _ _ ?_
      refine wp_block <| ?_
      refine wk_loop (ι:=Nat) (fun ox a w=>Fs a 143 [(1,.slice va vals.length vc),(2,.pointer (some ⟨g1,0,none⟩)),(5,.pointer (some ⟨tb,0,none⟩)),(6,.int .i64 (sx:Int)),(7,.int .i64 (ox:Int))]∧Mm wB w [] []∧ox≤p.types.length) (fun ox=>p.types.length-ox) 0 ⟨F.sub ⟨rfl,rfl,rfl,rfl,rfl,trivial⟩,M,Nat.zero_le _⟩ ?_
      (repeat clear F);(repeat clear M)
      rintro ox _ _ ⟨F,M,hox⟩
      refine wp_seq_k fun K18 hK18 =>
       wp_seq_k fun K19 hK19 =>
       wk_region <|
       xM F rf rf rf fun _ F =>
       xF 1 F rf rf rf u39 rf sz23 rf fun _ F =>
       kz F rf (e_load1 rf (F.u rf) u23 rfl ((lat M.below hr2) 1 _ rfl)) fun _ F =>
       kz F rf (e_lenSl rfl (F.u rf) u23) fun _ F =>
       kz F rf (e_lss rfl (F.u rf) (F.u rf)) fun _ F =>
       wpList_nil <|
       hK19 _ _ ?_
      refine wp_cond_split (F.e 54 rfl) (fun hc18=>?_) (fun hc18=>?_)
      ·
       have hd19:=of_decide_eq_true hc18
       refine wp_skip <|
        hK18 _ _ ?_
       refine wp_seq_k fun K20 hK20 =>
        wp_block <|
        wp_seq_k fun K21 hK21 =>
        wk_region <|
        xA (v:=.int .i64 0) F rf rf rf fun _ F =>
        wpList_nil <|
        hK21 _ _ ?_
       refine wp_block <| ?_
       refine wk_loop (ι:=Nat) (fun cx a w=>Fs a 143 [(1,.slice va vals.length vc),(2,.pointer (some ⟨g1,0,none⟩)),(5,.pointer (some ⟨tb,0,none⟩)),(6,.int .i64 (sx:Int)),(7,.int .i64 (ox:Int)),(8,.int .i64 (cx:Int))]∧Mm wB w [] []∧cx≤p.classes.length) (fun cx=>p.classes.length-cx) 0 ⟨F.sub ⟨rfl,rfl,rfl,rfl,rfl,rfl,trivial⟩,M,Nat.zero_le _⟩ ?_
       (repeat clear F);(repeat clear M)
       rintro cx _ _ ⟨F,M,hcx⟩
       refine wp_seq_k fun K22 hK22 =>
        wp_seq_k fun K23 hK23 =>
        wk_region <|
        xM F rf rf rf fun _ F =>
        xF 0 F rf rf rf u39 rf sz22 rf fun _ F =>
        kz F rf (e_load1 rf (F.u rf) u22 rfl ((lat M.below hr2) 0 _ rfl)) fun _ F =>
        kz F rf (e_lenSl rfl (F.u rf) u22) fun _ F =>
        kz F rf (e_lss rfl (F.u rf) (F.u rf)) fun _ F =>
        wpList_nil <|
        hK23 _ _ ?_
       refine wp_cond_split (F.e 61 rfl) (fun hc20=>?_) (fun hc20=>?_)
       ·
        have hd21:=of_decide_eq_true hc20
        refine wp_skip <|
         hK22 _ _ ?_
        refine wp_seq_k fun K24 hK24 =>
         wp_block <|
         wp_seq_k fun K25 hK25 =>
         wk_region <|
         kaA (on rfl) rfl zr51 rfl F rfl M fun g22 _ _ F M =>
         wpList_nil <|
         hK25 _ _ ?_
        refine wp_seq_k fun K26 hK26 =>
         wp_seq_k fun K27 hK27 =>
         wk_region <|
         xA (v:=.int .i64 0) F rf rf rf fun _ F =>
         wpList_nil <|
         hK27 _ _ ?_
        refine wp_block <| ?_
        refine wk_loop (ι:=Nat×Int×V.AVec) (fun | (i,v4,J),a,w=>Fs a 143 [(1,.slice va vals.length vc),(2,.pointer (some ⟨g1,0,none⟩)),(5,.pointer (some ⟨tb,0,none⟩)),(6,.int .i64 (sx:Int)),(7,.int .i64 (ox:Int)),(8,.int .i64 (cx:Int)),(9,.pointer (some ⟨g22,0,none⟩)),(10,.int .i64 (i:Int))]∧Mm wB w [(g22,51,#[.int .u32 0,.int .u32 J.allow,.int .u32 J.audit,.int .u32 J.dont,.int .u32 v4])] []∧i≤p.rules.length∧J=(rulesJoin vals sx ox (cx:Int) (p.rules.take i) V.AVec.zero)) (fun | (i,v4,J)=>p.rules.length-i) (0,0,V.AVec.zero) ⟨F.sub ⟨rfl,rfl,rfl,rfl,rfl,rfl,rfl,rfl,trivial⟩,M,Nat.zero_le _,rfl⟩ ?_
        (repeat clear F);(repeat clear M)
        rintro⟨i,v4,J⟩ _ _ ⟨F,M,hi0,hJ⟩
        refine wp_seq_k fun K28 hK28 =>
         wp_seq_k fun K29 hK29 =>
         wk_region <|
         xM F rf rf rf fun _ F =>
         xF 9 F rf rf rf u39 rf sz30 rf fun _ F =>
         kz F rf (e_load1 rf (F.u rf) u30 rfl ((lat M.below hr2) 9 _ rfl)) fun _ F =>
         kz F rf (e_lenSl rfl (F.u rf) u30) fun _ F =>
         kz F rf (e_lss rfl (F.u rf) (F.u rf)) fun _ F =>
         wpList_nil <|
         hK29 _ _ ?_
        refine wp_cond_split (F.e 68 rfl) (fun hc23=>?_) (fun hc23=>?_)
        ·
         have hd24:=of_decide_eq_true hc23
         refine wp_skip <|
          hK28 _ _ ?_
         refine wp_seq_k fun K30 hK30 =>
          wp_block <|
          wp_seq_k fun K31 hK31=>?_
         have hlt:i<p.rules.length:=by omega
         obtain⟨y,hy⟩:∃ y,p.rules[i]?=some y:=⟨_,List.getElem?_eq_getElem hlt⟩
         obtain⟨b9,ob9,rfl,hcb9⟩:=hcell9 i hlt
         have hrb9:∀ j uu,[.int .i64 y.kind,.int .u64 y.src.a,.int .u64 y.src.b,.int .u64 y.src.c,.int .u64 y.src.d,.int .u64 y.tgt.a,.int .u64 y.tgt.b,.int .u64 y.tgt.c,.int .u64 y.tgt.d,.bool y.self,.int .i64 y.cls,.int .u32 y.perms,.int .i64 y.cond][j]?=some uu→w0.cell? ⟨b9,ob9+i*13+j,none⟩=some uu:=fun j u hu=>hcb9 j u (by
          rw[flat_at ARule.cells_len hy j (List.getElem?_eq_some_iff.1 hu).1]
          exact hu)
         clear hcb9
         have oky:=hok.rules y (List.mem_of_getElem? hy)
         obtain⟨hk1,hk2,hk3,hk4⟩:=hchk y (List.mem_of_getElem? hy)
         refine wk_region <|
          xF 9 F rf rf rf u39 rf sz30 rf fun _ F =>
          kz F rf (e_load1 rf (F.u rf) u30 rfl ((lat M.below hr2) 9 _ rfl)) fun _ F =>
          xM F rf rf rf fun _ F =>
          kz F rf (e_indexAddr (i:=i) rfl (F.u rf) (F.u rf) (by omega) u30 sz56) fun _ F =>
          kz F rf (e_loadN [.int .i64 y.kind,.int .u64 y.src.a,.int .u64 y.src.b,.int .u64 y.src.c,.int .u64 y.src.d,.int .u64 y.tgt.a,.int .u64 y.tgt.b,.int .u64 y.tgt.c,.int .u64 y.tgt.d,.bool y.self,.int .i64 y.cls,.int .u32 y.perms,.int .i64 y.cond] rfl (F.u rf) u56 rfl sz56 (lat (HBo.trans (M.below.mono HBo.size)) hrb9)) fun _ F =>
          kaA (on rfl) rfl zr56 rfl F rfl M fun g25 _ _ F M =>
          ksA (on rfl) rfl (F.u rf) (F.u rf) F M 0 rfl sz56 rfl rfl rfl fun _ M =>
          wpList_nil <|
          hK31 _ _ ?_
         refine wp_seq_k fun K32 hK32 =>
          wk_region <|
          xF 10 F rf rf rf u56 rf sz3 rf fun _ F =>
          xL F (M.b 0 rfl) rf rf rf u3 rf rf fun _ F =>
          xM F rf rf rf fun _ F =>
          kz F rf (e_eqI rfl (F.u rf) (F.u rf)) fun _ F =>
          xM F rf rf rf fun _ F =>
          kg1 (x:=.pointer (some ⟨g25,12,none⟩)) rfl rfl (F.g 80 rfl) (bt _) (fun ge=>(e_field rfl (F.u rf) u56 rfl sz3)) rfl F rfl rfl fun _ F =>
          kg1 (x:=.int .i64 y.cond) rfl rfl (F.g 80 rfl) (bt _) (fun ge=>(e_load1 rfl ((F.g 81 rfl).on ge).ev u3 rfl ((M.b 0 rfl).c1 12))) rfl F rfl rfl fun _ F =>
          kg1 (x:=.slice va vals.length vc) rfl rfl (F.g 80 rfl) (bt _) (fun ge=>(e_move rfl (F.u rf))) rfl F rfl rfl fun _ F =>
          kgq1 rfl rfl (F.g 80 rfl) (bt _) (fun ge=>(e_call rfl Tryz.func17 nm17 rfl (args2 ((F.g 82 rfl).on ge).ev ((F.g 83 rfl).on ge).ev))) (fun ge=>holds_any _ y.cond (by omega) (by omega) _ vals (hv.keep (HBo.trans (M.below.mono HBo.size))) (by omega)) rfl F rfl M fun _ _ F M =>
          kz F rf (rq (e_pick rfl (F.u rf) (F.u rf) rfl) (pkF _ _)) fun _ F =>
          xM F rf rf rf fun _ F =>
          kg1 (x:=.pointer (some ⟨g25,1,none⟩)) rfl rfl (F.g 86 rfl) (bt _) (fun ge=>(e_field rfl (F.u rf) u56 rfl sz54)) rfl F rfl rfl fun _ F =>
          kg1 (x:=.agg #[.int .u64 y.src.a,.int .u64 y.src.b,.int .u64 y.src.c,.int .u64 y.src.d]) rfl rfl (F.g 86 rfl) (bt _) (fun ge=>(e_loadN [.int .u64 y.src.a,.int .u64 y.src.b,.int .u64 y.src.c,.int .u64 y.src.d] rfl ((F.g 87 rfl).on ge).ev u54 rfl sz54 (whole_part (M.b 0 rfl) rfl))) rfl F rfl rfl fun _ F =>
          kg1 (x:=.int .i64 (sx:Int)) rfl rfl (F.g 86 rfl) (bt _) (fun ge=>(e_move rfl (F.u rf))) rfl F rfl rfl fun _ F =>
          kgq1 rfl rfl (F.g 86 rfl) (bt _) (fun ge=>(e_call rfl Tryz.func18 nm18 rfl (args2 ((F.g 88 rfl).on ge).ev ((F.g 89 rfl).on ge).ev))) (fun ge=>has_nat _ y.src oky.src sx (by omega)) rfl F rfl M fun _ _ F M =>
          kz F rf (rq (e_pick rfl (F.u rf) (F.u rf) rfl) (pkF _ _)) fun _ F =>
          xM F rf rf rf fun _ F =>
          kg1 (x:=.pointer (some ⟨g25,5,none⟩)) rfl rfl (F.g 92 rfl) (bt _) (fun ge=>(e_field rfl (F.u rf) u56 rfl sz54)) rfl F rfl rfl fun _ F =>
          kg1 (x:=.agg #[.int .u64 y.tgt.a,.int .u64 y.tgt.b,.int .u64 y.tgt.c,.int .u64 y.tgt.d]) rfl rfl (F.g 92 rfl) (bt _) (fun ge=>(e_loadN [.int .u64 y.tgt.a,.int .u64 y.tgt.b,.int .u64 y.tgt.c,.int .u64 y.tgt.d] rfl ((F.g 93 rfl).on ge).ev u54 rfl sz54 (whole_part (M.b 0 rfl) rfl))) rfl F rfl rfl fun _ F =>
          kg1 (x:=.int .i64 (ox:Int)) rfl rfl (F.g 92 rfl) (bt _) (fun ge=>(e_move rfl (F.u rf))) rfl F rfl rfl fun _ F =>
          kgq1 rfl rfl (F.g 92 rfl) (bt _) (fun ge=>(e_call rfl Tryz.func18 nm18 rfl (args2 ((F.g 94 rfl).on ge).ev ((F.g 95 rfl).on ge).ev))) (fun ge=>has_nat _ y.tgt oky.tgt ox (by omega)) rfl F rfl M fun _ _ F M =>
          kg1 (x:=.bool (y.tgt.has ox)) rfl rfl (F.g 92 rfl) (bt _) (fun ge=>(e_move rfl ((F.g 96 rfl).on ge).ev)) rfl F rfl rfl fun _ F =>
          kg2 (x:=.pointer (some ⟨g25,9,none⟩)) rfl rfl (F.g 97 rfl) (bf _) (fun ge=>(e_field rfl (F.u rf) u56 rfl sz4)) rfl F rfl rfl fun _ F =>
          kg2 (x:=.bool y.self) rfl rfl (F.g 97 rfl) (bf _) (fun ge=>(e_load1 rfl ((F.g 98 rfl).on ge).ev u4 rfl ((M.b 0 rfl).c1 9))) rfl F rfl rfl fun _ F =>
          kg2 (x:=.bool y.self) rfl rfl (F.g 97 rfl) (bf _) (fun ge=>(e_move rfl ((F.g 99 rfl).on ge).ev)) rfl F rfl rfl fun _ F =>
          kg2 (x:=.int .i64 (sx:Int)) rfl rfl (F.g 100 rfl) (bt _) (fun ge=>(e_move rfl (F.u rf))) rfl F rfl rfl fun _ F =>
          kg2 (x:=.int .i64 (ox:Int)) rfl rfl (F.g 100 rfl) (bt _) (fun ge=>(e_move rfl (F.u rf))) rfl F rfl rfl fun _ F =>
          kg2 (x:=.bool (decide ((sx:Int)=(ox:Int)))) rfl rfl (F.g 100 rfl) (bt _) (fun ge=>(e_eqI rfl ((F.g 101 rfl).on ge).ev ((F.g 102 rfl).on ge).ev)) rfl F rfl rfl fun _ F =>
          kg2 (x:=.bool (y.self&&(decide ((sx:Int)=(ox:Int))))) rfl rfl (F.g 97 rfl) (bf _) (fun ge=>(rq (e_pick rfl ((F.g 100 rfl).on ge).ev ((F.g 103 rfl).on2 ge).ev rfl) (pkF _ _))) rfl F rfl rfl fun _ F =>
          kg1 (x:=.bool ((y.tgt.has ox)||(y.self&&(decide ((sx:Int)=(ox:Int)))))) rfl rfl (F.g 92 rfl) (bt _) (fun ge=>(rq (e_pick rfl ((F.g 97 rfl).on ge).ev rfl ((F.g 104 rfl).on2 ge).ev) (pkT _ _))) rfl F rfl rfl fun _ F =>
          kz F rf (rq (e_pick rfl (F.u rf) (F.u rf) rfl) (pkF _ _)) fun _ F =>
          wpList_nil <|
          hK32 _ _ ?_
         refine wp_cond_split (F.e 106 rfl) (fun hc26=>?_) (fun hc26=>?_)
         ·
          have hyes:ruleHits vals sx ox (cx:Int) y=true:=hc26
          rcases(show y.kind=1∨y.kind=2∨y.kind=3∨y.kind=4 by omega) with hk | hk | hk | hk
          ·
           have M:=M.cast (bs':=[(g25,56,#[.int .i64 1,.int .u64 y.src.a,.int .u64 y.src.b,.int .u64 y.src.c,.int .u64 y.src.d,.int .u64 y.tgt.a,.int .u64 y.tgt.b,.int .u64 y.tgt.c,.int .u64 y.tgt.d,.bool y.self,.int .i64 y.cls,.int .u32 y.perms,.int .i64 y.cond]),(g22,51,#[.int .u32 0,.int .u32 J.allow,.int .u32 J.audit,.int .u32 J.dont,.int .u32 v4])]) (by rw[hk];rfl) rfl
           refine rd 10 [107,108,109,110,111,112,113,114,115,116] [isV (.pointer (some ⟨g25,0,none⟩)),isV (.int .i64 1),isV (.pointer (some ⟨g25,0,none⟩)),isV (.int .i64 1),isV (.pointer (some ⟨g22,1,none⟩)),isV (.int .u32 J.allow),isV (.pointer (some ⟨g25,11,none⟩)),isV (.int .u32 y.perms),isV (.int .u32 (bits .or .u32 J.allow y.perms)),isV (.pointer (some ⟨g22,1,none⟩))] (by kernel_rfl) (by kernel_rfl) (by kernel_rfl) rfl (by decide) rfl rfl F ⟨lasts_is _,lasts_is _,lasts_is _,lasts_is _,lasts_is _,lasts_is _,lasts_is _,lasts_is _,lasts_is _,lasts_is _,trivial⟩ ⟨?_,?_,?_,?_,?_,?_,?_,?_,?_,?_,trivial⟩ ?_
           ·exact fun a w Q' hf hi H G hK=>dv (on rfl) (e_field rfl (G 11 _ rfl (F.g 11 rfl)).ev u56 rfl sz3) rfl hf rfl hK rfl
           ·exact fun a w Q' hf hi H G hK=>dv (on rfl) (e_load1 rfl (iA (H 0 ⟨.data,by simp,rfl⟩ _ _ rfl rfl)).ev u3 rfl (((M.keep hi).b 0 rfl).c1 0)) rfl hf rfl hK rfl
           ·exact fun a w Q' hf hi H G hK=>dv (on rfl) (e_field rfl (G 11 _ rfl (F.g 11 rfl)).ev u56 rfl sz3) rfl hf rfl hK rfl
           ·exact fun a w Q' hf hi H G hK=>dv (on rfl) (e_load1 rfl (iA (H 2 ⟨.data,by simp,rfl⟩ _ _ rfl rfl)).ev u3 rfl (((M.keep hi).b 0 rfl).c1 0)) rfl hf rfl hK rfl
           ·exact fun a w Q' hf hi H G hK=>dv (on rfl) (e_indexArr (i:=1) rfl (G 9 _ rfl (F.g 9 rfl)).ev (iA (H 3 ⟨.data,by simp,rfl⟩ _ _ rfl rfl)).ev (by decide) u51 sz50) rfl hf rfl hK rfl
           ·exact fun a w Q' hf hi H G hK=>dv (on rfl) (e_load1 rfl (iA (H 4 ⟨.data,by simp,rfl⟩ _ _ rfl rfl)).ev u50 rfl (((M.keep hi).b 1 rfl).c1 1)) rfl hf rfl hK rfl
           ·exact fun a w Q' hf hi H G hK=>dv (on rfl) (e_field rfl (G 11 _ rfl (F.g 11 rfl)).ev u56 rfl sz50) rfl hf rfl hK rfl
           ·exact fun a w Q' hf hi H G hK=>dv (on rfl) (e_load1 rfl (iA (H 6 ⟨.data,by simp,rfl⟩ _ _ rfl rfl)).ev u50 rfl (((M.keep hi).b 0 rfl).c1 11)) rfl hf rfl hK rfl
           ·exact fun a w Q' hf hi H G hK=>dv (on rfl) (e_or rfl (iA (H 5 ⟨.data,by simp,rfl⟩ _ _ rfl rfl)).ev (iA (H 7 ⟨.data,by simp,rfl⟩ _ _ rfl rfl)).ev) rfl hf rfl hK rfl
           ·exact fun a w Q' hf hi H G hK=>dv (on rfl) (e_indexArr (i:=1) rfl (G 9 _ rfl (F.g 9 rfl)).ev (iA (H 1 ⟨.data,by simp,rfl⟩ _ _ rfl rfl)).ev (by decide) u51 sz50) rfl hf rfl hK rfl
           (repeat clear F);intro _ _ hbq F D
           obtain⟨_,h,rfl⟩:=D 8 _ _ rfl rfl;have F:=F.add h
           obtain⟨_,h,rfl⟩:=D 9 _ _ rfl rfl;have F:=F.add h
           have M:=M.keep hbq
           clear D hbq
           intro Qt hQt
           refine ks (on rfl) rfl (F.u rf) (F.u rf) F M 1 (cs':=#[.int .u32 0,.int .u32 (bits .or .u32 J.allow y.perms),.int .u32 J.audit,.int .u32 J.dont,.int .u32 v4]) rfl rfl rfl sz50 rfl rfl rfl rfl fun _ M =>
            wpList_nil (hQt _ _ ?_)
           refine hK30 _ _ ?_
           refine wk_region <|
            xM F rf rf rf fun _ F =>
            ke (on rfl) (e_add rfl (F.u rf) rfl) rfl F rfl (congrArg (Value.int .i64) (wrap_i64 (by omega))) fun _ F =>
            xA F rf rf rf fun _ F =>
            wpList_nil <| ?_
           exact⟨(i+1,v4,⟨bits .or .u32 J.allow y.perms,J.audit,J.dont⟩),⟨F.sub ⟨rfl,rfl,rfl,rfl,rfl,rfl,rfl,rfl,trivial⟩,(M.only (.cons _ (.cons_cons _ .slnil)) .slnil),by omega,by rw[join_1 hy hyes hk,← hJ]⟩,by show p.rules.length-(i+1)<p.rules.length-i;omega⟩
          ·
           have M:=M.cast (bs':=[(g25,56,#[.int .i64 2,.int .u64 y.src.a,.int .u64 y.src.b,.int .u64 y.src.c,.int .u64 y.src.d,.int .u64 y.tgt.a,.int .u64 y.tgt.b,.int .u64 y.tgt.c,.int .u64 y.tgt.d,.bool y.self,.int .i64 y.cls,.int .u32 y.perms,.int .i64 y.cond]),(g22,51,#[.int .u32 0,.int .u32 J.allow,.int .u32 J.audit,.int .u32 J.dont,.int .u32 v4])]) (by rw[hk];rfl) rfl
           refine rd 10 [107,108,109,110,111,112,113,114,115,116] [isV (.pointer (some ⟨g25,0,none⟩)),isV (.int .i64 2),isV (.pointer (some ⟨g25,0,none⟩)),isV (.int .i64 2),isV (.pointer (some ⟨g22,2,none⟩)),isV (.int .u32 J.audit),isV (.pointer (some ⟨g25,11,none⟩)),isV (.int .u32 y.perms),isV (.int .u32 (bits .or .u32 J.audit y.perms)),isV (.pointer (some ⟨g22,2,none⟩))] (by kernel_rfl) (by kernel_rfl) (by kernel_rfl) rfl (by decide) rfl rfl F ⟨lasts_is _,lasts_is _,lasts_is _,lasts_is _,lasts_is _,lasts_is _,lasts_is _,lasts_is _,lasts_is _,lasts_is _,trivial⟩ ⟨?_,?_,?_,?_,?_,?_,?_,?_,?_,?_,trivial⟩ ?_
           ·exact fun a w Q' hf hi H G hK=>dv (on rfl) (e_field rfl (G 11 _ rfl (F.g 11 rfl)).ev u56 rfl sz3) rfl hf rfl hK rfl
           ·exact fun a w Q' hf hi H G hK=>dv (on rfl) (e_load1 rfl (iA (H 0 ⟨.data,by simp,rfl⟩ _ _ rfl rfl)).ev u3 rfl (((M.keep hi).b 0 rfl).c1 0)) rfl hf rfl hK rfl
           ·exact fun a w Q' hf hi H G hK=>dv (on rfl) (e_field rfl (G 11 _ rfl (F.g 11 rfl)).ev u56 rfl sz3) rfl hf rfl hK rfl
           ·exact fun a w Q' hf hi H G hK=>dv (on rfl) (e_load1 rfl (iA (H 2 ⟨.data,by simp,rfl⟩ _ _ rfl rfl)).ev u3 rfl (((M.keep hi).b 0 rfl).c1 0)) rfl hf rfl hK rfl
           ·exact fun a w Q' hf hi H G hK=>dv (on rfl) (e_indexArr (i:=2) rfl (G 9 _ rfl (F.g 9 rfl)).ev (iA (H 3 ⟨.data,by simp,rfl⟩ _ _ rfl rfl)).ev (by decide) u51 sz50) rfl hf rfl hK rfl
           ·exact fun a w Q' hf hi H G hK=>dv (on rfl) (e_load1 rfl (iA (H 4 ⟨.data,by simp,rfl⟩ _ _ rfl rfl)).ev u50 rfl (((M.keep hi).b 1 rfl).c1 2)) rfl hf rfl hK rfl
           ·exact fun a w Q' hf hi H G hK=>dv (on rfl) (e_field rfl (G 11 _ rfl (F.g 11 rfl)).ev u56 rfl sz50) rfl hf rfl hK rfl
           ·exact fun a w Q' hf hi H G hK=>dv (on rfl) (e_load1 rfl (iA (H 6 ⟨.data,by simp,rfl⟩ _ _ rfl rfl)).ev u50 rfl (((M.keep hi).b 0 rfl).c1 11)) rfl hf rfl hK rfl
           ·exact fun a w Q' hf hi H G hK=>dv (on rfl) (e_or rfl (iA (H 5 ⟨.data,by simp,rfl⟩ _ _ rfl rfl)).ev (iA (H 7 ⟨.data,by simp,rfl⟩ _ _ rfl rfl)).ev) rfl hf rfl hK rfl
           ·exact fun a w Q' hf hi H G hK=>dv (on rfl) (e_indexArr (i:=2) rfl (G 9 _ rfl (F.g 9 rfl)).ev (iA (H 1 ⟨.data,by simp,rfl⟩ _ _ rfl rfl)).ev (by decide) u51 sz50) rfl hf rfl hK rfl
           (repeat clear F);intro _ _ hbq F D
           obtain⟨_,h,rfl⟩:=D 8 _ _ rfl rfl;have F:=F.add h
           obtain⟨_,h,rfl⟩:=D 9 _ _ rfl rfl;have F:=F.add h
           have M:=M.keep hbq
           clear D hbq
           intro Qt hQt
           refine ks (on rfl) rfl (F.u rf) (F.u rf) F M 1 (cs':=#[.int .u32 0,.int .u32 J.allow,.int .u32 (bits .or .u32 J.audit y.perms),.int .u32 J.dont,.int .u32 v4]) rfl rfl rfl sz50 rfl rfl rfl rfl fun _ M =>
            wpList_nil (hQt _ _ ?_)
           refine hK30 _ _ ?_
           refine wk_region <|
            xM F rf rf rf fun _ F =>
            ke (on rfl) (e_add rfl (F.u rf) rfl) rfl F rfl (congrArg (Value.int .i64) (wrap_i64 (by omega))) fun _ F =>
            xA F rf rf rf fun _ F =>
            wpList_nil <| ?_
           exact⟨(i+1,v4,⟨J.allow,bits .or .u32 J.audit y.perms,J.dont⟩),⟨F.sub ⟨rfl,rfl,rfl,rfl,rfl,rfl,rfl,rfl,trivial⟩,(M.only (.cons _ (.cons_cons _ .slnil)) .slnil),by omega,by rw[join_2 hy hyes hk,← hJ]⟩,by show p.rules.length-(i+1)<p.rules.length-i;omega⟩
          ·
           have M:=M.cast (bs':=[(g25,56,#[.int .i64 3,.int .u64 y.src.a,.int .u64 y.src.b,.int .u64 y.src.c,.int .u64 y.src.d,.int .u64 y.tgt.a,.int .u64 y.tgt.b,.int .u64 y.tgt.c,.int .u64 y.tgt.d,.bool y.self,.int .i64 y.cls,.int .u32 y.perms,.int .i64 y.cond]),(g22,51,#[.int .u32 0,.int .u32 J.allow,.int .u32 J.audit,.int .u32 J.dont,.int .u32 v4])]) (by rw[hk];rfl) rfl
           refine rd 10 [107,108,109,110,111,112,113,114,115,116] [isV (.pointer (some ⟨g25,0,none⟩)),isV (.int .i64 3),isV (.pointer (some ⟨g25,0,none⟩)),isV (.int .i64 3),isV (.pointer (some ⟨g22,3,none⟩)),isV (.int .u32 J.dont),isV (.pointer (some ⟨g25,11,none⟩)),isV (.int .u32 y.perms),isV (.int .u32 (bits .or .u32 J.dont y.perms)),isV (.pointer (some ⟨g22,3,none⟩))] (by kernel_rfl) (by kernel_rfl) (by kernel_rfl) rfl (by decide) rfl rfl F ⟨lasts_is _,lasts_is _,lasts_is _,lasts_is _,lasts_is _,lasts_is _,lasts_is _,lasts_is _,lasts_is _,lasts_is _,trivial⟩ ⟨?_,?_,?_,?_,?_,?_,?_,?_,?_,?_,trivial⟩ ?_
           ·exact fun a w Q' hf hi H G hK=>dv (on rfl) (e_field rfl (G 11 _ rfl (F.g 11 rfl)).ev u56 rfl sz3) rfl hf rfl hK rfl
           ·exact fun a w Q' hf hi H G hK=>dv (on rfl) (e_load1 rfl (iA (H 0 ⟨.data,by simp,rfl⟩ _ _ rfl rfl)).ev u3 rfl (((M.keep hi).b 0 rfl).c1 0)) rfl hf rfl hK rfl
           ·exact fun a w Q' hf hi H G hK=>dv (on rfl) (e_field rfl (G 11 _ rfl (F.g 11 rfl)).ev u56 rfl sz3) rfl hf rfl hK rfl
           ·exact fun a w Q' hf hi H G hK=>dv (on rfl) (e_load1 rfl (iA (H 2 ⟨.data,by simp,rfl⟩ _ _ rfl rfl)).ev u3 rfl (((M.keep hi).b 0 rfl).c1 0)) rfl hf rfl hK rfl
           ·exact fun a w Q' hf hi H G hK=>dv (on rfl) (e_indexArr (i:=3) rfl (G 9 _ rfl (F.g 9 rfl)).ev (iA (H 3 ⟨.data,by simp,rfl⟩ _ _ rfl rfl)).ev (by decide) u51 sz50) rfl hf rfl hK rfl
           ·exact fun a w Q' hf hi H G hK=>dv (on rfl) (e_load1 rfl (iA (H 4 ⟨.data,by simp,rfl⟩ _ _ rfl rfl)).ev u50 rfl (((M.keep hi).b 1 rfl).c1 3)) rfl hf rfl hK rfl
           ·exact fun a w Q' hf hi H G hK=>dv (on rfl) (e_field rfl (G 11 _ rfl (F.g 11 rfl)).ev u56 rfl sz50) rfl hf rfl hK rfl
           ·exact fun a w Q' hf hi H G hK=>dv (on rfl) (e_load1 rfl (iA (H 6 ⟨.data,by simp,rfl⟩ _ _ rfl rfl)).ev u50 rfl (((M.keep hi).b 0 rfl).c1 11)) rfl hf rfl hK rfl
           ·exact fun a w Q' hf hi H G hK=>dv (on rfl) (e_or rfl (iA (H 5 ⟨.data,by simp,rfl⟩ _ _ rfl rfl)).ev (iA (H 7 ⟨.data,by simp,rfl⟩ _ _ rfl rfl)).ev) rfl hf rfl hK rfl
           ·exact fun a w Q' hf hi H G hK=>dv (on rfl) (e_indexArr (i:=3) rfl (G 9 _ rfl (F.g 9 rfl)).ev (iA (H 1 ⟨.data,by simp,rfl⟩ _ _ rfl rfl)).ev (by decide) u51 sz50) rfl hf rfl hK rfl
           (repeat clear F);intro _ _ hbq F D
           obtain⟨_,h,rfl⟩:=D 8 _ _ rfl rfl;have F:=F.add h
           obtain⟨_,h,rfl⟩:=D 9 _ _ rfl rfl;have F:=F.add h
           have M:=M.keep hbq
           clear D hbq
           intro Qt hQt
           refine ks (on rfl) rfl (F.u rf) (F.u rf) F M 1 (cs':=#[.int .u32 0,.int .u32 J.allow,.int .u32 J.audit,.int .u32 (bits .or .u32 J.dont y.perms),.int .u32 v4]) rfl rfl rfl sz50 rfl rfl rfl rfl fun _ M =>
            wpList_nil (hQt _ _ ?_)
           refine hK30 _ _ ?_
           refine wk_region <|
            xM F rf rf rf fun _ F =>
            ke (on rfl) (e_add rfl (F.u rf) rfl) rfl F rfl (congrArg (Value.int .i64) (wrap_i64 (by omega))) fun _ F =>
            xA F rf rf rf fun _ F =>
            wpList_nil <| ?_
           exact⟨(i+1,v4,⟨J.allow,J.audit,bits .or .u32 J.dont y.perms⟩),⟨F.sub ⟨rfl,rfl,rfl,rfl,rfl,rfl,rfl,rfl,trivial⟩,(M.only (.cons _ (.cons_cons _ .slnil)) .slnil),by omega,by rw[join_3 hy hyes hk,← hJ]⟩,by show p.rules.length-(i+1)<p.rules.length-i;omega⟩
          ·
           have M:=M.cast (bs':=[(g25,56,#[.int .i64 4,.int .u64 y.src.a,.int .u64 y.src.b,.int .u64 y.src.c,.int .u64 y.src.d,.int .u64 y.tgt.a,.int .u64 y.tgt.b,.int .u64 y.tgt.c,.int .u64 y.tgt.d,.bool y.self,.int .i64 y.cls,.int .u32 y.perms,.int .i64 y.cond]),(g22,51,#[.int .u32 0,.int .u32 J.allow,.int .u32 J.audit,.int .u32 J.dont,.int .u32 v4])]) (by rw[hk];rfl) rfl
           refine rd 10 [107,108,109,110,111,112,113,114,115,116] [isV (.pointer (some ⟨g25,0,none⟩)),isV (.int .i64 4),isV (.pointer (some ⟨g25,0,none⟩)),isV (.int .i64 4),isV (.pointer (some ⟨g22,4,none⟩)),isV (.int .u32 v4),isV (.pointer (some ⟨g25,11,none⟩)),isV (.int .u32 y.perms),isV (.int .u32 (bits .or .u32 v4 y.perms)),isV (.pointer (some ⟨g22,4,none⟩))] (by kernel_rfl) (by kernel_rfl) (by kernel_rfl) rfl (by decide) rfl rfl F ⟨lasts_is _,lasts_is _,lasts_is _,lasts_is _,lasts_is _,lasts_is _,lasts_is _,lasts_is _,lasts_is _,lasts_is _,trivial⟩ ⟨?_,?_,?_,?_,?_,?_,?_,?_,?_,?_,trivial⟩ ?_
           ·exact fun a w Q' hf hi H G hK=>dv (on rfl) (e_field rfl (G 11 _ rfl (F.g 11 rfl)).ev u56 rfl sz3) rfl hf rfl hK rfl
           ·exact fun a w Q' hf hi H G hK=>dv (on rfl) (e_load1 rfl (iA (H 0 ⟨.data,by simp,rfl⟩ _ _ rfl rfl)).ev u3 rfl (((M.keep hi).b 0 rfl).c1 0)) rfl hf rfl hK rfl
           ·exact fun a w Q' hf hi H G hK=>dv (on rfl) (e_field rfl (G 11 _ rfl (F.g 11 rfl)).ev u56 rfl sz3) rfl hf rfl hK rfl
           ·exact fun a w Q' hf hi H G hK=>dv (on rfl) (e_load1 rfl (iA (H 2 ⟨.data,by simp,rfl⟩ _ _ rfl rfl)).ev u3 rfl (((M.keep hi).b 0 rfl).c1 0)) rfl hf rfl hK rfl
           ·exact fun a w Q' hf hi H G hK=>dv (on rfl) (e_indexArr (i:=4) rfl (G 9 _ rfl (F.g 9 rfl)).ev (iA (H 3 ⟨.data,by simp,rfl⟩ _ _ rfl rfl)).ev (by decide) u51 sz50) rfl hf rfl hK rfl
           ·exact fun a w Q' hf hi H G hK=>dv (on rfl) (e_load1 rfl (iA (H 4 ⟨.data,by simp,rfl⟩ _ _ rfl rfl)).ev u50 rfl (((M.keep hi).b 1 rfl).c1 4)) rfl hf rfl hK rfl
           ·exact fun a w Q' hf hi H G hK=>dv (on rfl) (e_field rfl (G 11 _ rfl (F.g 11 rfl)).ev u56 rfl sz50) rfl hf rfl hK rfl
           ·exact fun a w Q' hf hi H G hK=>dv (on rfl) (e_load1 rfl (iA (H 6 ⟨.data,by simp,rfl⟩ _ _ rfl rfl)).ev u50 rfl (((M.keep hi).b 0 rfl).c1 11)) rfl hf rfl hK rfl
           ·exact fun a w Q' hf hi H G hK=>dv (on rfl) (e_or rfl (iA (H 5 ⟨.data,by simp,rfl⟩ _ _ rfl rfl)).ev (iA (H 7 ⟨.data,by simp,rfl⟩ _ _ rfl rfl)).ev) rfl hf rfl hK rfl
           ·exact fun a w Q' hf hi H G hK=>dv (on rfl) (e_indexArr (i:=4) rfl (G 9 _ rfl (F.g 9 rfl)).ev (iA (H 1 ⟨.data,by simp,rfl⟩ _ _ rfl rfl)).ev (by decide) u51 sz50) rfl hf rfl hK rfl
           (repeat clear F);intro _ _ hbq F D
           obtain⟨_,h,rfl⟩:=D 8 _ _ rfl rfl;have F:=F.add h
           obtain⟨_,h,rfl⟩:=D 9 _ _ rfl rfl;have F:=F.add h
           have M:=M.keep hbq
           clear D hbq
           intro Qt hQt
           refine ks (on rfl) rfl (F.u rf) (F.u rf) F M 1 (cs':=#[.int .u32 0,.int .u32 J.allow,.int .u32 J.audit,.int .u32 J.dont,.int .u32 (bits .or .u32 v4 y.perms)]) rfl rfl rfl sz50 rfl rfl rfl rfl fun _ M =>
            wpList_nil (hQt _ _ ?_)
           refine hK30 _ _ ?_
           refine wk_region <|
            xM F rf rf rf fun _ F =>
            ke (on rfl) (e_add rfl (F.u rf) rfl) rfl F rfl (congrArg (Value.int .i64) (wrap_i64 (by omega))) fun _ F =>
            xA F rf rf rf fun _ F =>
            wpList_nil <| ?_
           exact⟨(i+1,bits .or .u32 v4 y.perms,⟨J.allow,J.audit,J.dont⟩),⟨F.sub ⟨rfl,rfl,rfl,rfl,rfl,rfl,rfl,rfl,trivial⟩,(M.only (.cons _ (.cons_cons _ .slnil)) .slnil),by omega,by rw[join_4 hy hyes hk,← hJ]⟩,by show p.rules.length-(i+1)<p.rules.length-i;omega⟩
         ·
          refine wp_skip <|
           hK30 _ _ ?_
          refine wk_region <|
           xM F rf rf rf fun _ F =>
           ke (on rfl) (e_add rfl (F.u rf) rfl) rfl F rfl (congrArg (Value.int .i64) (wrap_i64 (by omega))) fun _ F =>
           xA F rf rf rf fun _ F =>
           wpList_nil <| ?_
          have hno:ruleHits vals sx ox (cx:Int) y=false:=hc26
          exact⟨(i+1,v4,J),⟨F.sub ⟨rfl,rfl,rfl,rfl,rfl,rfl,rfl,rfl,trivial⟩,(M.only (.cons _ (.cons_cons _ .slnil)) .slnil),by omega,by rw[join_no hy hno];exact hJ⟩,by show p.rules.length-(i+1)<p.rules.length-i;omega⟩
        ·
         have hd27:=of_decide_eq_false hc23
         refine wp_exit <|
          hK26 _ _ ?_
         refine wp_seq_k fun K33 hK33=>?_
         obtain rfl:i=p.rules.length:=by omega
         rw[List.take_length] at hJ
         refine wk_region <|
          xM F rf rf rf fun _ F =>
          xM F rf rf rf fun _ F =>
          xM F rf rf rf fun _ F =>
          xM F rf rf rf fun _ F=>?_
         have hTB0:=hTB.keep M.below
         refine xC F M rf rf q19 (args4 (F.u rf) (F.u rf) (F.u rf) (F.u rf)) (hJ▸find_pol _ _ tb p hwf hE1 hE2 vals hTB0 sx ox (cx:Int) (by omega) (by omega) ⟨by omega,by omega⟩) fun _ _ F M =>
          xM F rf rf rf fun _ F =>
          kz F rf (e_extract rfl (F.u rf) rfl) fun _ F =>
          kz F rf (e_extract rfl (F.u rf) rfl) fun _ F =>
          kz F rf (e_extract rfl (F.u rf) rfl) fun _ F =>
          xA F rf rf rf fun _ F =>
          xA F rf rf rf fun _ F =>
          xA F rf rf rf fun _ F =>
          wpList_nil <|
          hK33 _ _ ?_
         refine wp_seq_k fun K34 hK34 =>
          wk_region <|
          xM F rf rf rf fun _ F =>
          ke (u:=.pointer (some ⟨g22,1,none⟩)) (on rfl) (e_indexArr (i:=1) rfl (F.u rf) rfl (by decide) u51 sz50) rfl F rfl rfl fun _ F =>
          xL F (M.b 0 rfl) rf rf rf u50 rf rf fun _ F =>
          ke (on rfl) (e_neI rfl (F.u rf) (F.u rf)) rfl F rfl (congrArg Value.bool (show(!decide (J.allow=J.allow))=false by simp[])) fun _ F =>
          xM F rf rf rf fun _ F =>
          kv (gn rfl rfl (F.g 130 rfl)) (e_move rfl (F.u rf)) rfl F rfl fun _ F =>
          ke (u:=.pointer (some ⟨g22,2,none⟩)) (gn rfl rfl (F.g 130 rfl)) (e_indexArr (i:=2) rfl (F.u rf) rfl (by decide) u51 sz50) rfl F rfl rfl fun _ F =>
          kv (gn rfl rfl (F.g 130 rfl)) (e_load1 rfl (F.u rf) u50 rfl ((M.b 0 rfl).c1 2)) rfl F rfl fun _ F =>
          ke (gn rfl rfl (F.g 130 rfl)) (e_neI rfl (F.u rf) (F.u rf)) rfl F rfl (congrArg Value.bool (show(!decide (J.audit=J.audit))=false by simp[])) fun _ F =>
          ke (u:=.bool false) (on rfl) (e_pick rfl (F.u rf) rfl (F.u rf)) rfl F rfl rfl fun _ F =>
          xM F rf rf rf fun _ F =>
          kv (gn rfl rfl (F.g 136 rfl)) (e_move rfl (F.u rf)) rfl F rfl fun _ F =>
          ke (u:=.pointer (some ⟨g22,3,none⟩)) (gn rfl rfl (F.g 136 rfl)) (e_indexArr (i:=3) rfl (F.u rf) rfl (by decide) u51 sz50) rfl F rfl rfl fun _ F =>
          kv (gn rfl rfl (F.g 136 rfl)) (e_load1 rfl (F.u rf) u50 rfl ((M.b 0 rfl).c1 3)) rfl F rfl fun _ F =>
          ke (gn rfl rfl (F.g 136 rfl)) (e_neI rfl (F.u rf) (F.u rf)) rfl F rfl (congrArg Value.bool (show(!decide (J.dont=J.dont))=false by simp[])) fun _ F =>
          ke (u:=.bool false) (on rfl) (e_pick rfl (F.u rf) rfl (F.u rf)) rfl F rfl rfl fun _ F =>
          wpList_nil <|
          hK34 _ _ ?_
         refine wp_cond_false (F.e 141 rfl) ?_
         refine wp_skip <|
          hK24 _ _ ?_
         refine wk_region <|
          xM F rf rf rf fun _ F =>
          ke (on rfl) (e_add rfl (F.u rf) rfl) rfl F rfl (congrArg (Value.int .i64) (wrap_i64 (by omega))) fun _ F =>
          xA F rf rf rf fun _ F =>
          wpList_nil <| ?_
         exact⟨cx+1,⟨F.sub ⟨rfl,rfl,rfl,rfl,rfl,rfl,trivial⟩,(M.only (.cons _ .slnil) .slnil),by omega⟩,by show p.classes.length-(cx+1)<p.classes.length-cx;omega⟩
       ·
        have hd28:=of_decide_eq_false hc20
        refine wp_exit <|
         hK20 _ _ ?_
        refine wk_region <|
         xM F rf rf rf fun _ F =>
         ke (on rfl) (e_add rfl (F.u rf) rfl) rfl F rfl (congrArg (Value.int .i64) (wrap_i64 (by omega))) fun _ F =>
         xA F rf rf rf fun _ F =>
         wpList_nil <| ?_
        exact⟨ox+1,⟨F.sub ⟨rfl,rfl,rfl,rfl,rfl,trivial⟩,M,by omega⟩,by show p.types.length-(ox+1)<p.types.length-ox;omega⟩
      ·
       have hd29:=of_decide_eq_false hc18
       refine wp_exit <|
        hK16 _ _ ?_
       refine wk_region <|
        xM F rf rf rf fun _ F =>
        ke (on rfl) (e_add rfl (F.u rf) rfl) rfl F rfl (congrArg (Value.int .i64) (wrap_i64 (by omega))) fun _ F =>
        xA F rf rf rf fun _ F =>
        wpList_nil <| ?_
       exact⟨sx+1,⟨F.sub ⟨rfl,rfl,rfl,rfl,trivial⟩,M,by omega⟩,by show p.types.length-(sx+1)<p.types.length-sx;omega⟩
     ·
      have hd30:=of_decide_eq_false hc16
      refine wp_exit <|
       hK12 _ _ ?_
      refine wp_seq_k fun K35 hK35 =>
       wk_region <|
       xC F M rf rf q13 (args0) (V.alive_any _) fun _ _ F M =>
       xA F rf rf rf fun _ F =>
       wpList_nil <|
       hK35 _ _ ?_
      refine wp_ret <|
       HRET _ _ _ _ F rfl ?_
      exact⟨rfl,(HBo.trans (M.below.mono HBo.size))⟩
end Go.Proofs.YtdcofoaihmongaaGreat
namespace Go.Proofs.YtdcofoaihmongaaGreat
open Go Go.RowKit Go.ChangeShapes Go.WideShapes Go.ChangeAt
theorem ownT:ownKnob Tryz.prog.godebug=none:=by kernel_rfl
theorem laidT:laidOutB Tryz.prog=true:=by kernel_rfl
theorem args_2 {P:Program} {w:World} {t u:TypeId} {vs:List Value} (h:Args P w [t,u] vs):∃ a b,vs=[a,b]∧Arg P w t a∧Arg P w u b:=by
 match vs,h with
 | [a,b],⟨h1,h2,_⟩=>exact⟨a,b,rfl,h1,h2⟩
set_option maxRecDepth 100000 in
theorem all_bool {w:World} {f:Nat}:∀ (es:List (List Value)),(∀ x∈es,x.length=Tryz.prog.cellsOf 4∧Rd Tryz.prog w f 4 x)→∃ l:List Bool,es.flatten=l.map V.aBool∧es.length=l.length
 | [],_=>⟨[],rfl,rfl⟩
 | x::es,h=>by
  obtain⟨o,rfl⟩:=(h x (by simp)).2.bool Tryz.underlying4
  obtain⟨l,h1,h2⟩:=all_bool es fun y hy=>h y (by simp[hy])
  exact⟨o::l,by rw[List.flatten_cons,h1];rfl,by simp[h2]⟩
set_option maxRecDepth 100000 in
theorem bools_open {w:World} {v:Value} (h:Arg Tryz.prog w 40 v):∃ l:List Bool,SliceAt w v 1 l.length (l.map V.aBool):=by
 obtain⟨f,cs,h,rfl⟩:=h
 rw[Tryz.underlying40]
 obtain⟨f',v,rfl,rfl,es,h1,h2,_⟩:=h.slice Tryz.underlying40
 obtain⟨l,e1,e2⟩:=all_bool es h2
 refine⟨l,?_⟩
 rw[e1,e2,show Tryz.prog.cellsOf 4=1 from by kernel_rfl] at h1
 exact h1
end Go.Proofs.YtdcofoaihmongaaGreat
namespace Go.Proofs.YtdcofoaihmongaaGreat
open Go
theorem and_b {a b:Bool} (ha:a=true) (hb:b=true):(a&&b)=true:=by rw[ha,hb];rfl
theorem jp2:(mapsRowed Tryz.prog)=true:=by kernel_rfl
theorem jp6:((Tryz.prog.stops == []))=true:=by kernel_rfl
theorem jp8:((Tryz.prog.stopKnobs == []))=true:=by kernel_rfl
theorem jp24:(Tryz.prog.stopsHeard)=true:=by kernel_rfl
theorem jp25:(Tryz.prog.mayEnter)=true:=by kernel_rfl
end Go.Proofs.YtdcofoaihmongaaGreat

import Derived.ChangeKeysEq
import Derived.Great.BuildSlice
import Derived.Ground.Names2Prog
import Derived.Ground.SlgnProg
import Derived.Laws.IdiomCopy
import Derived.Laws.OwnMore
import Derived.Laws.StructEq
import Derived.Laws.Tables
import Derived.Lib.AppendZerosOnto
import Derived.Lib.Overlaps
import Derived.Shelf.Slices.In.SortNone
import Derived.Shelf.Slices.SearchI
import Derived.Shelf.SlicesE.Clone
import Derived.Shelf.Small.Bits
import Derived.Shelf.Sort.Plain
import Derived.Shelf.Spec.SlicesInsertGrow
import Derived.Shelf.Strconv.Itoa0
import Derived.Test.YtdcofoaihmongaaGreatProg
import Derived.WalkKit
import Derived.WalkSpells
import Derived.Test.YtdcofoaihmongaaGreatS1
namespace Go.Proofs.YtdcofoaihmongaaGreat.V
open Go Go.WideMaps Go.RowKit
def findRegion7 (k:Nat):Code→Code
 | .seq a b=>match findRegion7 k a with
  | .skip=>findRegion7 k b
  | c=>c
 | .cond _ a b=>match findRegion7 k a with
  | .skip=>findRegion7 k b
  | c=>c
 | .block _ a=>findRegion7 k a
 | .loop a=>findRegion7 k a
 | .region id ops d=>if id=k then .region id ops d else .skip
 | _=>.skip
set_option maxRecDepth 100000 in
set_option maxHeartbeats 4000000 in
theorem bs5 (w:World) (kb b off h n c:Nat) (k y:Key4) (z:Int)  (x1 x3 x5 x6 x7 x8 x9 x10 x12 x13 x14 x15 x16 x17 x18 x19 x20 x21 x22 x23 x24 x25 x26 x27 x28 x29 x30 x31 x32 x33 x34 x35 x36 x37 x38 x39 x40 x41 x42 x43 x44 x45 x46 x47 x48:Value) (hin:h<n) (HK:Hid (Whole w kb 102 #[.int .i64 k.src,.int .i64 k.tgt,.int .i64 k.cls,.int .i64 k.cond])) (HE:Hid (∀ j u,y.cells[j]?=some u→w.cell? ⟨b,off+h*4+j,none⟩=some u)) (HC:Hid (∀ W,Calls Tryz.prog 204 #[.agg #[.int .i64 y.src,.int .i64 y.tgt,.int .i64 y.cls,.int .i64 y.cond],.agg #[.int .i64 k.src,.int .i64 k.tgt,.int .i64 k.cls,.int .i64 k.cond]] W fun e w'=>e=.returned (.int .i64 z)∧RowKit.Below W.heap.size W w'))
 {Q':Exit→Act→World→Prop} (hend:∀ (v24 v25 v26 v27 v28 v29 v30:Value) (w':World),RowKit.Below w.heap.size w w'→Q' .normal ⟨#[.slice (some ⟨b,off,none⟩) n c,x1,.func (.func 204) #[] #[],x3,.pointer (some ⟨kb,0,none⟩),x5,x6,x7,x8,x9,x10,.int .i64 (h:Int),x12,x13,x14,x15,x16,x17,x18,x19,x20,x21,x22,x23,v24,v25,v26,v27,v28,v29,v30,.bool (decide (z<0)),x32,x33,x34,x35,x36,x37,x38,x39,x40,x41,x42,x43,x44,x45,x46,x47,x48],[]⟩ w') :
 Code.wp Tryz.prog (findRegion7 5 ((Tryz.f203.body).getD .skip)) Q' ⟨#[.slice (some ⟨b,off,none⟩) n c,x1,.func (.func 204) #[] #[],x3,.pointer (some ⟨kb,0,none⟩),x5,x6,x7,x8,x9,x10,.int .i64 (h:Int),x12,x13,x14,x15,x16,x17,x18,x19,x20,x21,x22,x23,x24,x25,x26,x27,x28,x29,x30,x31,x32,x33,x34,x35,x36,x37,x38,x39,x40,x41,x42,x43,x44,x45,x46,x47,x48],[]⟩ w:=by
 have HEND:=Lib.hid hend
 clear hend
 conv=>arg 2;whnf
 conv=>arg 4;dsimp only
 refine wp_region_goods [some 24,some 25,some 26,some 27,some 28,some 29,some 30] [isW (.func (.func 204) #[] #[]),isW (.slice (some ⟨b,off,none⟩) n c),isW (.int .i64 (h:Int)),isW (.pointer (some ⟨b,off+h*4,none⟩)),isW (.agg #[.int .i64 y.src,.int .i64 y.tgt,.int .i64 y.cls,.int .i64 y.cond]),isW (.agg #[.int .i64 k.src,.int .i64 k.tgt,.int .i64 k.cls,.int .i64 k.cond]),isW (.int .i64 z)] (fun _ w'=>RowKit.Below w.heap.size w w') [] (by kernel_rfl) (by kernel_rfl) (by kernel_rfl) rfl (by decide) rfl rfl ((Below.refl _ _).drew) ⟨lastsW_is _,lastsW_is _,lastsW_is _,lastsW_is _,lastsW_is _,lastsW_is _,lastsW_is _,trivial⟩ ⟨?_,?_,?_,?_,?_,?_,?_,?_⟩
 ·intro L a wy Q' hL hi H F hK
  try dsimp only at hi
  have h2:a.tmps[2]?=some (.func (.func 204) #[] #[]):=F 2 rfl
  have HI:=Lib.hid hi
  clear H F hi hL
  go_wp2_with fail
  exact hK _ _ (Below.refl _ _) HI.out rfl
 ·intro L a wy Q' hL hi H F hK
  try dsimp only at hi
  have h0:a.tmps[0]?=some (.slice (some ⟨b,off,none⟩) n c):=F 0 rfl
  have HI:=Lib.hid hi
  clear H F hi hL
  go_wp2_with fail
  exact hK _ _ (Below.refl _ _) HI.out rfl
 ·intro L a wy Q' hL hi H F hK
  try dsimp only at hi
  have h11:a.tmps[11]?=some (.int .i64 (h:Int)):=F 11 rfl
  have HI:=Lib.hid hi
  clear H F hi hL
  go_wp2_with fail
  exact hK _ _ (Below.refl _ _) HI.out rfl
 ·intro L a wy Q' hL hi H F hK
  try dsimp only at hi
  obtain⟨_,h25,rfl⟩:=H 1 ⟨.data,by simp,rfl⟩ _ rfl
  replace h25:=h25 _ rfl
  obtain⟨_,h26,rfl⟩:=H 2 ⟨.data,by simp,rfl⟩ _ rfl
  replace h26:=h26 _ rfl
  have HI:=Lib.hid hi
  clear H F hi hL
  go_wp2_with fail
  exact hK _ _ (Below.refl _ _) HI.out rfl
 ·intro L a wy Q' hL hi H F hK
  try dsimp only at hi
  obtain⟨_,h27,rfl⟩:=H 3 ⟨.data,by simp,rfl⟩ _ rfl
  replace h27:=h27 _ rfl
  have HI:=Lib.hid hi
  clear H F hi hL
  have kq0:wy.cell? ⟨b,off+h*4,none⟩=some (.int .i64 y.src):=cell_later HI.out (HE.out 0 _ rfl)
  have kq1:wy.cell? ⟨b,off+h*4+1,none⟩=some (.int .i64 y.tgt):=cell_later HI.out (HE.out 1 _ rfl)
  have kq2:wy.cell? ⟨b,off+h*4+2,none⟩=some (.int .i64 y.cls):=cell_later HI.out (HE.out 2 _ rfl)
  have kq3:wy.cell? ⟨b,off+h*4+3,none⟩=some (.int .i64 y.cond):=cell_later HI.out (HE.out 3 _ rfl)
  go_wp2_with fail
  exact hK _ _ (Below.refl _ _) HI.out rfl
 ·intro L a wy Q' hL hi H F hK
  try dsimp only at hi
  have h4:a.tmps[4]?=some (.pointer (some ⟨kb,0,none⟩)):=F 4 rfl
  have HI:=Lib.hid hi
  clear H F hi hL
  have kq0:wy.cell? ⟨kb,0,none⟩=some (.int .i64 k.src):=(Whole.under HI.out HK.out (Whole.lt HK.out)).cell 0
  have kq1:wy.cell? ⟨kb,1,none⟩=some (.int .i64 k.tgt):=(Whole.under HI.out HK.out (Whole.lt HK.out)).cell 1
  have kq2:wy.cell? ⟨kb,2,none⟩=some (.int .i64 k.cls):=(Whole.under HI.out HK.out (Whole.lt HK.out)).cell 2
  have kq3:wy.cell? ⟨kb,3,none⟩=some (.int .i64 k.cond):=(Whole.under HI.out HK.out (Whole.lt HK.out)).cell 3
  go_wp2_with fail
  exact hK _ _ (Below.refl _ _) HI.out rfl
 ·intro L a wy Q' hL hi H F hK
  try dsimp only at hi
  obtain⟨_,h24,rfl⟩:=H 0 ⟨.data,by simp,rfl⟩ _ rfl
  replace h24:=h24 _ rfl
  obtain⟨_,h28,rfl⟩:=H 4 ⟨.data,by simp,rfl⟩ _ rfl
  replace h28:=h28 _ rfl
  obtain⟨_,h29,rfl⟩:=H 5 ⟨.data,by simp,rfl⟩ _ rfl
  replace h29:=h29 _ rfl
  have HI:=Lib.hid hi
  clear H F hi hL
  have HK:=Lib.hid hK
  clear hK
  go_wp2_with (go_at_call 204;go_must (refine(HC.out wy).mono ?_;rintro e w1 ⟨rfl,hb1⟩))
  exact HK.out _ _ hb1 (HI.out.trans (hb1.mono HI.out.size)) rfl
 ·intro a wy L hl hi hL Q' hK
  try dsimp only at hi
  have HB:=Lib.hid hi
  clear hi hL
  obtain⟨_,rfl,_,rfl,_,rfl,_,rfl,_,rfl,_,rfl,_,rfl,rfl⟩:=hl
  simp only[List.setIfInBounds_toArray,List.set_cons_zero,List.set_cons_succ]
  go_wp2_with fail
  exact HEND.out _ _ _ _ _ _ _ _ HB.out
set_option maxRecDepth 100000 in
set_option maxHeartbeats 4000000 in
theorem bs8_t (w:World) (kb b off i n c:Nat) (k y:Key4) (z:Int) (x1 x3 x5 x6 x7 x10 x11 x12 x13 x14 x15 x16 x17 x18 x19 x20 x21 x22 x23 x24 x25 x26 x27 x28 x29 x30 x31 x32 x33 x34 x35 x36 x37 x38 x39 x40 x41 x42 x43 x44 x45 x46 x47 x48:Value) (hin:i<n) (HK:Hid (Whole w kb 102 #[.int .i64 k.src,.int .i64 k.tgt,.int .i64 k.cls,.int .i64 k.cond])) (HE:Hid (∀ j u,y.cells[j]?=some u→w.cell? ⟨b,off+i*4+j,none⟩=some u)) (HC:Hid (∀ W,Calls Tryz.prog 204 #[.agg #[.int .i64 y.src,.int .i64 y.tgt,.int .i64 y.cls,.int .i64 y.cond],.agg #[.int .i64 k.src,.int .i64 k.tgt,.int .i64 k.cls,.int .i64 k.cond]] W fun e w'=>e=.returned (.int .i64 z)∧RowKit.Below W.heap.size W w'))
 {Q':Exit→Act→World→Prop} (hend:∀ (v35 v36 v37 v38 v39 v40 v41 v42 v43 v44 v45 v46 v47 v48:Value) (w':World),RowKit.Below w.heap.size w w'→Q' .normal ⟨#[.slice (some ⟨b,off,none⟩) n c,x1,.func (.func 204) #[] #[],x3,.pointer (some ⟨kb,0,none⟩),x5,.int .i64 (i:Int),.bool (z == 0),.int .i64 (n:Int),.int .i64 (i:Int),x10,x11,x12,x13,x14,x15,x16,x17,x18,x19,x20,x21,x22,x23,x24,x25,x26,x27,x28,x29,x30,x31,x32,x33,x34,v35,v36,v37,v38,v39,v40,v41,v42,v43,v44,v45,v46,v47,v48],[]⟩ w') :
 Code.wp Tryz.prog (findRegion7 8 ((Tryz.f203.body).getD .skip)) Q' ⟨#[.slice (some ⟨b,off,none⟩) n c,x1,.func (.func 204) #[] #[],x3,.pointer (some ⟨kb,0,none⟩),x5,x6,x7,.int .i64 (n:Int),.int .i64 (i:Int),x10,x11,x12,x13,x14,x15,x16,x17,x18,x19,x20,x21,x22,x23,x24,x25,x26,x27,x28,x29,x30,x31,x32,x33,x34,x35,x36,x37,x38,x39,x40,x41,x42,x43,x44,x45,x46,x47,x48],[]⟩ w:=by
 have HEND:=Lib.hid hend
 clear hend
 conv=>arg 2;whnf
 conv=>arg 4;dsimp only
 refine wp_region_goods [some 35,some 36,some 37,some 38,some 39,some 40,some 41,some 42,some 43,some 44,some 45,some 46,some 47,some 48,some 6] [isW (.int .i64 (i:Int)),isW (.int .i64 (i:Int)),isW (.int .i64 (n:Int)),isW (.bool true),isW (.bool true),isW (.func (.func 204) #[] #[]),isW (.slice (some ⟨b,off,none⟩) n c),isW (.int .i64 (i:Int)),isW (.pointer (some ⟨b,off+i*4,none⟩)),isW (.agg #[.int .i64 y.src,.int .i64 y.tgt,.int .i64 y.cls,.int .i64 y.cond]),isW (.agg #[.int .i64 k.src,.int .i64 k.tgt,.int .i64 k.cls,.int .i64 k.cond]),isW (.int .i64 z),isW (.bool (z == 0)),isW (.bool (z == 0)),isW (.int .i64 (i:Int))] (fun _ w'=>RowKit.Below w.heap.size w w') [] (by kernel_rfl) (by kernel_rfl) (by kernel_rfl) rfl (by decide) rfl rfl ((Below.refl _ _).drew) ⟨lastsW_is _,lastsW_is _,lastsW_is _,lastsW_is _,lastsW_is _,lastsW_is _,lastsW_is _,lastsW_is _,lastsW_is _,lastsW_is _,lastsW_is _,lastsW_is _,lastsW_is _,lastsW_is _,lastsW_is _,trivial⟩ ⟨?_,?_,?_,?_,?_,?_,?_,?_,?_,?_,?_,?_,?_,?_,?_,?_⟩
 ·intro L a wy Q' hL hi H F hK
  try dsimp only at hi
  have h9:a.tmps[9]?=some (.int .i64 (i:Int)):=F 9 rfl
  have HI:=Lib.hid hi
  clear H F hi hL
  go_wp2_with fail
  exact hK _ _ (Below.refl _ _) HI.out rfl
 ·intro L a wy Q' hL hi H F hK
  try dsimp only at hi
  have h9:a.tmps[9]?=some (.int .i64 (i:Int)):=F 9 rfl
  have HI:=Lib.hid hi
  clear H F hi hL
  go_wp2_with fail
  exact hK _ _ (Below.refl _ _) HI.out rfl
 ·intro L a wy Q' hL hi H F hK
  try dsimp only at hi
  have h8:a.tmps[8]?=some (.int .i64 (n:Int)):=F 8 rfl
  have HI:=Lib.hid hi
  clear H F hi hL
  go_wp2_with fail
  exact hK _ _ (Below.refl _ _) HI.out rfl
 ·intro L a wy Q' hL hi H F hK
  try dsimp only at hi
  obtain⟨_,h36,rfl⟩:=H 1 ⟨.data,by simp,rfl⟩ _ rfl
  replace h36:=h36 _ rfl
  obtain⟨_,h37,rfl⟩:=H 2 ⟨.data,by simp,rfl⟩ _ rfl
  replace h37:=h37 _ rfl
  have HI:=Lib.hid hi
  clear H F hi hL
  go_wp2_with fail
  exact hK _ _ (Below.refl _ _) HI.out rfl
 ·intro L a wy Q' hL hi H F hK
  try dsimp only at hi
  obtain⟨_,h38,rfl⟩:=H 3 ⟨.data,by simp,rfl⟩ _ rfl
  replace h38:=h38 _ rfl
  have HI:=Lib.hid hi
  clear H F hi hL
  go_wp2_with fail
  exact hK _ _ (Below.refl _ _) HI.out rfl
 ·intro L a wy Q' hL hi H F hK
  try dsimp only at hi
  obtain⟨_,h39,rfl⟩:=H 4 ⟨.guard,by simp,rfl⟩ _ rfl
  replace h39:=h39 _ rfl
  have h2:a.tmps[2]?=some (.func (.func 204) #[] #[]):=F 2 rfl
  have HI:=Lib.hid hi
  clear H F hi hL
  go_wp2_with fail
  exact hK _ _ (Below.refl _ _) HI.out rfl
 ·intro L a wy Q' hL hi H F hK
  try dsimp only at hi
  obtain⟨_,h39,rfl⟩:=H 4 ⟨.guard,by simp,rfl⟩ _ rfl
  replace h39:=h39 _ rfl
  have h0:a.tmps[0]?=some (.slice (some ⟨b,off,none⟩) n c):=F 0 rfl
  have HI:=Lib.hid hi
  clear H F hi hL
  go_wp2_with fail
  exact hK _ _ (Below.refl _ _) HI.out rfl
 ·intro L a wy Q' hL hi H F hK
  try dsimp only at hi
  obtain⟨_,h39,rfl⟩:=H 4 ⟨.guard,by simp,rfl⟩ _ rfl
  replace h39:=h39 _ rfl
  have h9:a.tmps[9]?=some (.int .i64 (i:Int)):=F 9 rfl
  have HI:=Lib.hid hi
  clear H F hi hL
  go_wp2_with fail
  exact hK _ _ (Below.refl _ _) HI.out rfl
 ·intro L a wy Q' hL hi H F hK
  try dsimp only at hi
  obtain⟨_,h41,rfl⟩:=H 6 ⟨.data,by simp,rfl⟩ _ rfl
  replace h41:=h41 _ rfl
  obtain⟨_,h42,rfl⟩:=H 7 ⟨.data,by simp,rfl⟩ _ rfl
  replace h42:=h42 _ rfl
  obtain⟨_,h39,rfl⟩:=H 4 ⟨.guard,by simp,rfl⟩ _ rfl
  replace h39:=h39 _ rfl
  have HI:=Lib.hid hi
  clear H F hi hL
  go_wp2_with fail
  exact hK _ _ (Below.refl _ _) HI.out rfl
 ·intro L a wy Q' hL hi H F hK
  try dsimp only at hi
  obtain⟨_,h43,rfl⟩:=H 8 ⟨.data,by simp,rfl⟩ _ rfl
  replace h43:=h43 _ rfl
  obtain⟨_,h39,rfl⟩:=H 4 ⟨.guard,by simp,rfl⟩ _ rfl
  replace h39:=h39 _ rfl
  have HI:=Lib.hid hi
  clear H F hi hL
  have kq0:wy.cell? ⟨b,off+i*4,none⟩=some (.int .i64 y.src):=cell_later HI.out (HE.out 0 _ rfl)
  have kq1:wy.cell? ⟨b,off+i*4+1,none⟩=some (.int .i64 y.tgt):=cell_later HI.out (HE.out 1 _ rfl)
  have kq2:wy.cell? ⟨b,off+i*4+2,none⟩=some (.int .i64 y.cls):=cell_later HI.out (HE.out 2 _ rfl)
  have kq3:wy.cell? ⟨b,off+i*4+3,none⟩=some (.int .i64 y.cond):=cell_later HI.out (HE.out 3 _ rfl)
  go_wp2_with fail
  exact hK _ _ (Below.refl _ _) HI.out rfl
 ·intro L a wy Q' hL hi H F hK
  try dsimp only at hi
  obtain⟨_,h39,rfl⟩:=H 4 ⟨.guard,by simp,rfl⟩ _ rfl
  replace h39:=h39 _ rfl
  have h4:a.tmps[4]?=some (.pointer (some ⟨kb,0,none⟩)):=F 4 rfl
  have HI:=Lib.hid hi
  clear H F hi hL
  have kq0:wy.cell? ⟨kb,0,none⟩=some (.int .i64 k.src):=(Whole.under HI.out HK.out (Whole.lt HK.out)).cell 0
  have kq1:wy.cell? ⟨kb,1,none⟩=some (.int .i64 k.tgt):=(Whole.under HI.out HK.out (Whole.lt HK.out)).cell 1
  have kq2:wy.cell? ⟨kb,2,none⟩=some (.int .i64 k.cls):=(Whole.under HI.out HK.out (Whole.lt HK.out)).cell 2
  have kq3:wy.cell? ⟨kb,3,none⟩=some (.int .i64 k.cond):=(Whole.under HI.out HK.out (Whole.lt HK.out)).cell 3
  go_wp2_with fail
  exact hK _ _ (Below.refl _ _) HI.out rfl
 ·intro L a wy Q' hL hi H F hK
  try dsimp only at hi
  obtain⟨_,h40,rfl⟩:=H 5 ⟨.data,by simp,rfl⟩ _ rfl
  replace h40:=h40 _ rfl
  obtain⟨_,h44,rfl⟩:=H 9 ⟨.data,by simp,rfl⟩ _ rfl
  replace h44:=h44 _ rfl
  obtain⟨_,h45,rfl⟩:=H 10 ⟨.data,by simp,rfl⟩ _ rfl
  replace h45:=h45 _ rfl
  obtain⟨_,h39,rfl⟩:=H 4 ⟨.guard,by simp,rfl⟩ _ rfl
  replace h39:=h39 _ rfl
  have HI:=Lib.hid hi
  clear H F hi hL
  have HK:=Lib.hid hK
  clear hK
  go_wp2_with (go_at_call 204;go_must (refine(HC.out wy).mono ?_;rintro e w1 ⟨rfl,hb1⟩))
  exact HK.out _ _ hb1 (HI.out.trans (hb1.mono HI.out.size)) rfl
 ·intro L a wy Q' hL hi H F hK
  try dsimp only at hi
  obtain⟨_,h46,rfl⟩:=H 11 ⟨.data,by simp,rfl⟩ _ rfl
  replace h46:=h46 _ rfl
  obtain⟨_,h39,rfl⟩:=H 4 ⟨.guard,by simp,rfl⟩ _ rfl
  replace h39:=h39 _ rfl
  have HI:=Lib.hid hi
  clear H F hi hL
  go_wp2_with fail
  exact hK _ _ (Below.refl _ _) HI.out rfl
 ·intro L a wy Q' hL hi H F hK
  try dsimp only at hi
  obtain⟨_,h39,rfl⟩:=H 4 ⟨.data,by simp,rfl⟩ _ rfl
  replace h39:=h39 _ rfl
  obtain⟨_,h47,rfl⟩:=H 12 ⟨.data,by simp,rfl⟩ _ rfl
  replace h47:=h47 _ rfl
  have HI:=Lib.hid hi
  clear H F hi hL
  go_wp2_with fail
  exact hK _ _ (Below.refl _ _) HI.out rfl
 ·intro L a wy Q' hL hi H F hK
  try dsimp only at hi
  obtain⟨_,h35,rfl⟩:=H 0 ⟨.data,by simp,rfl⟩ _ rfl
  replace h35:=h35 _ rfl
  have HI:=Lib.hid hi
  clear H F hi hL
  go_wp2_with fail
  exact hK _ _ (Below.refl _ _) HI.out rfl
 ·intro a wy L hl hi hL Q' hK
  try dsimp only at hi
  have HB:=Lib.hid hi
  clear hi hL
  obtain⟨_,rfl,_,rfl,_,rfl,_,rfl,_,rfl,_,rfl,_,rfl,_,rfl,_,rfl,_,rfl,_,rfl,_,rfl,_,rfl,_,rfl,_,rfl,rfl⟩:=hl
  simp only[List.setIfInBounds_toArray,List.set_cons_zero,List.set_cons_succ]
  go_wp2_with fail
  exact HEND.out _ _ _ _ _ _ _ _ _ _ _ _ _ _ _ HB.out
set_option maxRecDepth 100000 in
set_option maxHeartbeats 4000000 in
theorem bs8_f (w:World) (kb i n c:Nat) (ad:Option Addr) (x1 x3 x5 x6 x7 x10 x11 x12 x13 x14 x15 x16 x17 x18 x19 x20 x21 x22 x23 x24 x25 x26 x27 x28 x29 x30 x31 x32 x33 x34 x35 x36 x37 x38 x39 x40 x41 x42 x43 x44 x45 x46 x47 x48:Value) (hin:¬ i<n)
 {Q':Exit→Act→World→Prop} (hend:∀ (v35 v36 v37 v38 v39 v40 v41 v42 v43 v44 v45 v46 v47 v48:Value) (w':World),RowKit.Below w.heap.size w w'→Q' .normal ⟨#[.slice ad n c,x1,.func (.func 204) #[] #[],x3,.pointer (some ⟨kb,0,none⟩),x5,.int .i64 (i:Int),.bool false,.int .i64 (n:Int),.int .i64 (i:Int),x10,x11,x12,x13,x14,x15,x16,x17,x18,x19,x20,x21,x22,x23,x24,x25,x26,x27,x28,x29,x30,x31,x32,x33,x34,v35,v36,v37,v38,v39,v40,v41,v42,v43,v44,v45,v46,v47,v48],[]⟩ w') :
 Code.wp Tryz.prog (findRegion7 8 ((Tryz.f203.body).getD .skip)) Q' ⟨#[.slice ad n c,x1,.func (.func 204) #[] #[],x3,.pointer (some ⟨kb,0,none⟩),x5,x6,x7,.int .i64 (n:Int),.int .i64 (i:Int),x10,x11,x12,x13,x14,x15,x16,x17,x18,x19,x20,x21,x22,x23,x24,x25,x26,x27,x28,x29,x30,x31,x32,x33,x34,x35,x36,x37,x38,x39,x40,x41,x42,x43,x44,x45,x46,x47,x48],[]⟩ w:=by
 have HEND:=Lib.hid hend
 clear hend
 conv=>arg 2;whnf
 conv=>arg 4;dsimp only
 refine wp_region_goods [some 35,some 36,some 37,some 38,some 39,some 40,some 41,some 42,some 43,some 44,some 45,some 46,some 47,some 48,some 6] [isW (.int .i64 (i:Int)),isW (.int .i64 (i:Int)),isW (.int .i64 (n:Int)),isW (.bool false),isW (.bool false),isW (undef),isW (undef),isW (undef),isW (undef),isW (undef),isW (undef),isW (undef),isW (undef),isW (.bool false),isW (.int .i64 (i:Int))] (fun _ w'=>RowKit.Below w.heap.size w w') [] (by kernel_rfl) (by kernel_rfl) (by kernel_rfl) rfl (by decide) rfl rfl ((Below.refl _ _).drew) ⟨lastsW_is _,lastsW_is _,lastsW_is _,lastsW_is _,lastsW_is _,lastsW_is _,lastsW_is _,lastsW_is _,lastsW_is _,lastsW_is _,lastsW_is _,lastsW_is _,lastsW_is _,lastsW_is _,lastsW_is _,trivial⟩ ⟨?_,?_,?_,?_,?_,?_,?_,?_,?_,?_,?_,?_,?_,?_,?_,?_⟩
 ·intro L a wy Q' hL hi H F hK
  try dsimp only at hi
  have h9:a.tmps[9]?=some (.int .i64 (i:Int)):=F 9 rfl
  have HI:=Lib.hid hi
  clear H F hi hL
  go_wp2_with fail
  exact hK _ _ (Below.refl _ _) HI.out rfl
 ·intro L a wy Q' hL hi H F hK
  try dsimp only at hi
  have h9:a.tmps[9]?=some (.int .i64 (i:Int)):=F 9 rfl
  have HI:=Lib.hid hi
  clear H F hi hL
  go_wp2_with fail
  exact hK _ _ (Below.refl _ _) HI.out rfl
 ·intro L a wy Q' hL hi H F hK
  try dsimp only at hi
  have h8:a.tmps[8]?=some (.int .i64 (n:Int)):=F 8 rfl
  have HI:=Lib.hid hi
  clear H F hi hL
  go_wp2_with fail
  exact hK _ _ (Below.refl _ _) HI.out rfl
 ·intro L a wy Q' hL hi H F hK
  try dsimp only at hi
  obtain⟨_,h36,rfl⟩:=H 1 ⟨.data,by simp,rfl⟩ _ rfl
  replace h36:=h36 _ rfl
  obtain⟨_,h37,rfl⟩:=H 2 ⟨.data,by simp,rfl⟩ _ rfl
  replace h37:=h37 _ rfl
  have HI:=Lib.hid hi
  clear H F hi hL
  go_wp2_with fail
  exact hK _ _ (Below.refl _ _) HI.out rfl
 ·intro L a wy Q' hL hi H F hK
  try dsimp only at hi
  obtain⟨_,h38,rfl⟩:=H 3 ⟨.data,by simp,rfl⟩ _ rfl
  replace h38:=h38 _ rfl
  have HI:=Lib.hid hi
  clear H F hi hL
  go_wp2_with fail
  exact hK _ _ (Below.refl _ _) HI.out rfl
 ·intro L a wy Q' hL hi H F hK
  try dsimp only at hi
  obtain⟨_,h39,rfl⟩:=H 4 ⟨.guard,by simp,rfl⟩ _ rfl
  replace h39:=h39 _ rfl
  have h2:a.tmps[2]?=some (.func (.func 204) #[] #[]):=F 2 rfl
  have HI:=Lib.hid hi
  clear H F hi hL
  refine wpList_skip (by simp[Region.wanted,yielded,h39]) ?_
  exact hK _ _ (Below.refl _ _) HI.out rfl
 ·intro L a wy Q' hL hi H F hK
  try dsimp only at hi
  obtain⟨_,h39,rfl⟩:=H 4 ⟨.guard,by simp,rfl⟩ _ rfl
  replace h39:=h39 _ rfl
  have h0:a.tmps[0]?=some (.slice ad n c):=F 0 rfl
  have HI:=Lib.hid hi
  clear H F hi hL
  refine wpList_skip (by simp[Region.wanted,yielded,h39]) ?_
  exact hK _ _ (Below.refl _ _) HI.out rfl
 ·intro L a wy Q' hL hi H F hK
  try dsimp only at hi
  obtain⟨_,h39,rfl⟩:=H 4 ⟨.guard,by simp,rfl⟩ _ rfl
  replace h39:=h39 _ rfl
  have h9:a.tmps[9]?=some (.int .i64 (i:Int)):=F 9 rfl
  have HI:=Lib.hid hi
  clear H F hi hL
  refine wpList_skip (by simp[Region.wanted,yielded,h39]) ?_
  exact hK _ _ (Below.refl _ _) HI.out rfl
 ·intro L a wy Q' hL hi H F hK
  try dsimp only at hi
  obtain⟨_,h41,rfl⟩:=H 6 ⟨.data,by simp,rfl⟩ _ rfl
  replace h41:=h41 _ rfl
  obtain⟨_,h42,rfl⟩:=H 7 ⟨.data,by simp,rfl⟩ _ rfl
  replace h42:=h42 _ rfl
  obtain⟨_,h39,rfl⟩:=H 4 ⟨.guard,by simp,rfl⟩ _ rfl
  replace h39:=h39 _ rfl
  have HI:=Lib.hid hi
  clear H F hi hL
  refine wpList_skip (by simp[Region.wanted,yielded,h39]) ?_
  exact hK _ _ (Below.refl _ _) HI.out rfl
 ·intro L a wy Q' hL hi H F hK
  try dsimp only at hi
  obtain⟨_,h43,rfl⟩:=H 8 ⟨.data,by simp,rfl⟩ _ rfl
  replace h43:=h43 _ rfl
  obtain⟨_,h39,rfl⟩:=H 4 ⟨.guard,by simp,rfl⟩ _ rfl
  replace h39:=h39 _ rfl
  have HI:=Lib.hid hi
  clear H F hi hL
  refine wpList_skip (by simp[Region.wanted,yielded,h39]) ?_
  exact hK _ _ (Below.refl _ _) HI.out rfl
 ·intro L a wy Q' hL hi H F hK
  try dsimp only at hi
  obtain⟨_,h39,rfl⟩:=H 4 ⟨.guard,by simp,rfl⟩ _ rfl
  replace h39:=h39 _ rfl
  have h4:a.tmps[4]?=some (.pointer (some ⟨kb,0,none⟩)):=F 4 rfl
  have HI:=Lib.hid hi
  clear H F hi hL
  refine wpList_skip (by simp[Region.wanted,yielded,h39]) ?_
  exact hK _ _ (Below.refl _ _) HI.out rfl
 ·intro L a wy Q' hL hi H F hK
  try dsimp only at hi
  obtain⟨_,h40,rfl⟩:=H 5 ⟨.data,by simp,rfl⟩ _ rfl
  replace h40:=h40 _ rfl
  obtain⟨_,h44,rfl⟩:=H 9 ⟨.data,by simp,rfl⟩ _ rfl
  replace h44:=h44 _ rfl
  obtain⟨_,h45,rfl⟩:=H 10 ⟨.data,by simp,rfl⟩ _ rfl
  replace h45:=h45 _ rfl
  obtain⟨_,h39,rfl⟩:=H 4 ⟨.guard,by simp,rfl⟩ _ rfl
  replace h39:=h39 _ rfl
  have HI:=Lib.hid hi
  clear H F hi hL
  refine wpList_skip (by simp[Region.wanted,yielded,h39]) ?_
  exact hK _ _ (Below.refl _ _) HI.out rfl
 ·intro L a wy Q' hL hi H F hK
  try dsimp only at hi
  obtain⟨_,h46,rfl⟩:=H 11 ⟨.data,by simp,rfl⟩ _ rfl
  replace h46:=h46 _ rfl
  obtain⟨_,h39,rfl⟩:=H 4 ⟨.guard,by simp,rfl⟩ _ rfl
  replace h39:=h39 _ rfl
  have HI:=Lib.hid hi
  clear H F hi hL
  refine wpList_skip (by simp[Region.wanted,yielded,h39]) ?_
  exact hK _ _ (Below.refl _ _) HI.out rfl
 ·intro L a wy Q' hL hi H F hK
  try dsimp only at hi
  obtain⟨_,h39,rfl⟩:=H 4 ⟨.data,by simp,rfl⟩ _ rfl
  replace h39:=h39 _ rfl
  obtain⟨_,h47,rfl⟩:=H 12 ⟨.data,by simp,rfl⟩ _ rfl
  replace h47:=h47 _ rfl
  have HI:=Lib.hid hi
  clear H F hi hL
  go_wp2_with fail
  exact hK _ _ (Below.refl _ _) HI.out rfl
 ·intro L a wy Q' hL hi H F hK
  try dsimp only at hi
  obtain⟨_,h35,rfl⟩:=H 0 ⟨.data,by simp,rfl⟩ _ rfl
  replace h35:=h35 _ rfl
  have HI:=Lib.hid hi
  clear H F hi hL
  go_wp2_with fail
  exact hK _ _ (Below.refl _ _) HI.out rfl
 ·intro a wy L hl hi hL Q' hK
  try dsimp only at hi
  have HB:=Lib.hid hi
  clear hi hL
  obtain⟨_,rfl,_,rfl,_,rfl,_,rfl,_,rfl,_,rfl,_,rfl,_,rfl,_,rfl,_,rfl,_,rfl,_,rfl,_,rfl,_,rfl,_,rfl,rfl⟩:=hl
  simp only[List.setIfInBounds_toArray,List.set_cons_zero,List.set_cons_succ]
  go_wp2_with fail
  exact HEND.out _ _ _ _ _ _ _ _ _ _ _ _ _ _ _ HB.out
theorem key_len (k:Key4):k.cells.length=4:=rfl
set_option maxRecDepth 100000 in
set_option maxHeartbeats 4000000 in
theorem search_any (w:World) (v:Value) (ks:List Key4) (k:Key4) (h:SliceAt w v 4 ks.length (ks.flatMap Key4.cells)) (hlen:ks.length≤100000001)
 (hdown:∀ (p q:Nat) (y z:Key4),p≤q→ks[p]?=some y→ks[q]?=some z→cmpK z k<0→cmpK y k<0) :
 Calls Tryz.prog 203 #[v,.agg #[.int .i64 k.src,.int .i64 k.tgt,.int .i64 k.cls,.int .i64 k.cond],.func (.func 204) #[] #[]] w fun e w'=>∃ (p:Nat) (f:Value),e=.returned (.tuple #[.int .i64 (p:Int),f])∧p≤ks.length∧(∀ q y,q<p→ks[q]?=some y→cmpK y k<0)∧(∀ q y,p≤q→ks[q]?=some y→¬ cmpK y k<0)∧(k∉ks→f=.bool false)∧RowKit.Below w.heap.size w w':=by
 obtain⟨n,hn⟩:∃ n,n=ks.length:=⟨_,rfl⟩
 obtain⟨a,c,rfl,hc,hmx,hcell⟩:=h.form (by decide)
 have HL:=Lib.hid hn
 have HC:=Lib.hid (And.intro hcell hc)
 have HDW:=Lib.hid hdown
 rw[← hn] at hlen hmx hc ⊢
 obtain⟨wo,hwo⟩:∃ wo,wo=w.alloc (.cells #[.int .i64 k.src,.int .i64 k.tgt,.int .i64 k.cls,.int .i64 k.cond] 102):=⟨_,rfl⟩
 have HWO:=Lib.hid (show RowKit.Below w.heap.size w wo by rw[hwo];exact(Below.refl _ w).alloc (Nat.le_refl _) _)
 have HK0:=Lib.hid (show Whole wo w.heap.size 102 #[.int .i64 k.src,.int .i64 k.tgt,.int .i64 k.cls,.int .i64 k.cond] by rw[hwo];exact Whole.new w 102 _)
 clear hn hcell h hdown
 go_enter Tryz.func203,Tryz.ntmps203
 go_upto_region 1 with fail
 rw[← hwo]
 clear hwo
 go_wp2_with fail
 go_loopw [9,10] (fun u9 u10 wr=>∃ i j:Nat,i≤j∧j≤n∧u9=.int .i64 i∧u10=.int .i64 j∧Hid (∀ q y,q<i→ks[q]?=some y→cmpK y k<0)∧Hid (∀ q y,j≤q→ks[q]?=some y→¬ cmpK y k<0)∧Whole wr w.heap.size 102 #[.int .i64 k.src,.int .i64 k.tgt,.int .i64 k.cls,.int .i64 k.cond]∧RowKit.Below w.heap.size w wr) (fun u9 u10 _=>(intOf u10).toNat-(intOf u9).toNat)
 case atStart=>exact⟨0,n,Nat.zero_le _,Nat.le_refl _,rfl,rfl,(fun q y hq=>by omega),(fun q y hq hy=>by have:=(List.getElem?_eq_some_iff.1 hy).1;have:=HL.out;omega),HK0.out,HWO.out⟩
 case round =>
  obtain⟨i,j,hij,hjn,rfl,rfl,HLo,HHi,hK,hB⟩:=hrel
  have HKr:=Lib.hid hK
  have HBr:=Lib.hid hB
  clear hK hB
  by_cases hlt:i<j
  ·obtain⟨m,hm⟩:∃ m,m=(i+j)/2:=⟨_,rfl⟩
   have hmn:m<n:=by omega
   have hmj:m<j:=by omega
   have him:i≤m:=by omega
   have hmk:m<ks.length:=by rw[← HL.out];exact hmn
   obtain⟨y,hy⟩:∃ y,ks[m]?=some y:=⟨_,List.getElem?_eq_getElem hmk⟩
   have HYI:=Lib.hid hy
   obtain⟨b,off,rfl,hcl⟩:=HC.out.1 m hmk
   have HE:=Lib.hid (show ∀ z u,y.cells[z]?=some u→wr.cell? ⟨b,off+m*4+z,none⟩=some u from fun z u hu=>cell_later HBr.out (hcl z u (by
    have hz:z<4:=(List.getElem?_eq_some_iff.1 hu).1
    rw[flat_at key_len hy z hz];exact hu)))
   have hmid:((i:Int)+(j:Int))/2=(m:Int):=by omega
   clear hy hcl hmk
   have HM:=Lib.hid hm
   clear hm
   go_upto_region 5 with fail
   refine bs5 wr w.heap.size b off m n c k y (cmpK y k) _ _ _ _ _ _ _ _ _ _ _ _ _ _ _ _ _ _ _ _ _ _ _ _ _ _ _ _ _ _ _ _ _ _ _ _ _ _ _ _ _ _ _ _ _ hmn HKr HE (Lib.hid fun W=>compareK_any W y k) ?_
   intro v24 v25 v26 v27 v28 v29 v30 w4 hb4
   have HB4:=Lib.hid (HBr.out.trans (hb4.mono HBr.out.size))
   have HK4:=Lib.hid (Whole.under hb4 HKr.out HKr.out.lt)
   clear hb4 HKr HBr HE
   by_cases hz:cmpK y k<0
   ·have hd:decide (cmpK y k<0)=true:=by simp[hz]
    have HZ:=Lib.hid hz
    simp only[hd]
    clear hz hd hmid
    go_wp2_with fail
    go_roundw
    case rel=>exact⟨m+1,j,by omega,hjn,by go_num,rfl,(fun q z hq hz=>HDW.out q m z y (by omega) hz HYI.out HZ.out),HHi.out,HK4.out,HB4.out⟩
    case measure=>simp[intOf];omega
   ·have hd:decide (cmpK y k<0)=false:=by simp[hz]
    have HZ:=Lib.hid hz
    simp only[hd]
    clear hz hd hmid
    go_wp2_with fail
    go_roundw
    case rel=>exact⟨i,m,by omega,by omega,rfl,rfl,HLo.out,(fun q z hq hz hl=>HZ.out (HDW.out m q y z hq HYI.out hz hl)),HK4.out,HB4.out⟩
    case measure=>simp[intOf];omega
  ·obtain rfl:i=j:=by omega
   by_cases hin:i<n
   ·have hmk:i<ks.length:=by rw[← HL.out];exact hin
    obtain⟨y,hy⟩:∃ y,ks[i]?=some y:=⟨_,List.getElem?_eq_getElem hmk⟩
    obtain⟨b,off,rfl,hcl⟩:=HC.out.1 i hmk
    have HE:=Lib.hid (show ∀ z u,y.cells[z]?=some u→wr.cell? ⟨b,off+i*4+z,none⟩=some u from fun z u hu=>cell_later HBr.out (hcl z u (by
     have hz:z<4:=(List.getElem?_eq_some_iff.1 hu).1
     rw[flat_at key_len hy z hz];exact hu)))
    have HNO:=Lib.hid (show k∉ks→(Value.bool (cmpK y k == 0))=.bool false from fun hno=>by
     have hne:¬ cmpK y k=0:=fun e=>hno (by rw[← (cmpK_zero y k).1 e];exact List.mem_of_getElem? hy)
     simp[hne])
    clear hy hcl hmk
    go_upto_region 8 with fail
    refine bs8_t wr w.heap.size b off i n c k y (cmpK y k) _ _ _ _ _ _ _ _ _ _ _ _ _ _ _ _ _ _ _ _ _ _ _ _ _ _ _ _ _ _ _ _ _ _ _ _ _ _ _ _ _ _ _ _ hin HKr HE (Lib.hid fun W=>compareK_any W y k) ?_
    intro v35 v36 v37 v38 v39 v40 v41 v42 v43 v44 v45 v46 v47 v48 w4 hb4
    have HB4:=Lib.hid (HBr.out.trans (hb4.mono HBr.out.size))
    clear hb4
    go_wp2_with fail
    refine bodyPost_ret (v:=.tuple #[.int .i64 (i:Int),.bool (cmpK y k == 0)]) ?_ rfl ⟨i,_,rfl,hjn,HLo.out,HHi.out,HNO.out,HB4.out⟩
    simp[results,Tryz.results203,go_sem]
   ·go_upto_region 8 with fail
    refine bs8_f wr w.heap.size i n c a _ _ _ _ _ _ _ _ _ _ _ _ _ _ _ _ _ _ _ _ _ _ _ _ _ _ _ _ _ _ _ _ _ _ _ _ _ _ _ _ _ _ _ _ hin ?_
    intro v35 v36 v37 v38 v39 v40 v41 v42 v43 v44 v45 v46 v47 v48 w4 hb4
    have HB4:=Lib.hid (HBr.out.trans (hb4.mono HBr.out.size))
    clear hb4
    go_wp2_with fail
    refine bodyPost_ret (v:=.tuple #[.int .i64 (i:Int),.bool false]) ?_ rfl ⟨i,_,rfl,hjn,HLo.out,HHi.out,fun _=>rfl,HB4.out⟩
    simp[results,Tryz.results203,go_sem]
end Go.Proofs.YtdcofoaihmongaaGreat.V
namespace Go.Proofs.YtdcofoaihmongaaGreat.V
open Go Go.WideMaps Go.RowKit
section
variable {P:Program}
theorem run_copy_k (w:World) (dT sT ty elem:TypeId) (k n b o dLen dCap:Nat) (a:Addr) (sLen sCap:Nat) (cs:List Value)
 (hu:P.underlying dT=some (.slice elem)) (hs:(P.info? elem).map (·.size)=some k) (hm:Nat.min sLen dLen=n) (hn:cs.length=n*k)
 (hsrc:∀ j v,cs[j]?=some v→w.cell? (a.add j)=some v) (hc:∀ j,j<cs.length→(w.cell? ⟨b,o+j,none⟩).isSome=true) (hf:∀ j,j<cs.length→w.frozen? ⟨b,o+j,none⟩=false) (h1:∀ v∈cs,v.oneCell'=true) :
 (Builtin.copy_ #[dT,sT] ty #[.slice (some ⟨b,o,none⟩) dLen dCap,.slice (some a) sLen sCap]).run P w=.ok (goInt n) (w.setCells b o cs):=by
 have hl:=run_loadCells_list (P:=P) w a cs hsrc
 have hst:=run_storeCells_cells (P:=P) b o cs 0 w (by simpa using hc) (by simpa using hf) h1
 cases hq:P.info? elem with
 | none=>simp[hq] at hs
 | some i =>
  have hi:i.size=k:=by simpa[hq] using hs
  simp[Builtin.copy_,run_underlying hu,Builtin.lenOf,Builtin.firstCells,sizeOf,typeInfo,hq,hi,hm,← hn,hl,hst]
end
def flat (ks:List Key4):List Value:=ks.flatMap Key4.cells
theorem flat_len (ks:List Key4):(flat ks).length=ks.length*4:=flat_length key_len ks
theorem flat_one (ks:List Key4):∀ u∈flat ks,u.oneCell'=true:=by
 intro u hu
 obtain⟨k,_,hk⟩:=List.mem_flatMap.1 hu
 exact list_one k u hk
theorem flat_app (a b:List Key4):flat (a++b)=flat a++flat b:=by simp[flat]
theorem flat_tail {ks:List Key4} {i j:Nat} {v:Value} (h:(flat (ks.drop i))[j]?=some v) (hi:i≤ks.length):(flat ks)[i*4+j]?=some v:=by
 have e:flat ks=flat (ks.take i)++flat (ks.drop i):=by rw[← flat_app,List.take_append_drop]
 have hl:(flat (ks.take i)).length=i*4:=by rw[flat_len,List.length_take,Nat.min_eq_left hi]
 rw[e,List.getElem?_append_right (by rw[hl];omega),hl]
 simpa using h
theorem sizeOf102 (w:World):(Go.sizeOf 102).run Tryz.prog w=.ok 4 w:=by kernel_rfl
theorem elem119:Tryz.prog.elem 119=102:=by kernel_rfl
theorem und119:Tryz.prog.underlying 119=some (.slice (Tryz.prog.elem 119)):=by rw[elem119];exact Tryz.underlying119
theorem run_head (w:World) (b off n c m:Nat) (z:Int) (hz:z=m) (hm:m≤c):(Instr.slice 119 (.slice (some ⟨b,off,none⟩) n c) none (some (.int .i64 z)) none).run Tryz.prog w=.ok (.slice (some ⟨b,off,none⟩) m c) w:=by
 subst hz
 rw[run_slice_h w 119 (some ⟨b,off,none⟩) n c und119 .i64 (m:Int) (by omega) (by omega),elem119,Tryz.sizeOf102]
 simp[Result.andThen,sliced,Addr.add_mid]
theorem run_tail (w:World) (b off n c m:Nat) (z:Int) (hz:z=m) (hm:m≤n) (hc:m<c):(Instr.slice 119 (.slice (some ⟨b,off,none⟩) n c) (some (.int .i64 z)) none none).run Tryz.prog w=.ok (.slice (some ⟨b,off+m*4,none⟩) (n-m) (c-m)) w:=by
 subst hz
 rw[run_slice_l w 119 (some ⟨b,off,none⟩) n c und119 .i64 (m:Int) (by omega) (by omega),elem119,Tryz.sizeOf102]
 have:¬ c=m:=by omega
 simp[Result.andThen,sliced,Addr.add_mid,this]
theorem apart {w:World} {g vb o lb cb:Nat} {cur ce:Array Value} (hg:Whole w g 102 cur) (hc:cur.size≠0) (hv:Whole w vb 102 ce) (hne:vb≠g) :
 (callFunc 252 #[.slice (some ⟨vb,0,none⟩) 1 1,.slice (some ⟨g,o,none⟩) lb cb]).run Tryz.prog w=.ok (.value (.bool false)) w:=by
 rw[run_callFunc_extern Tryz.func252 (by kernel_rfl) (by kernel_rfl) (by kernel_rfl) (e:=Extern.SlicesOverlaps.overlaps #[119,119] #[4]) (by kernel_rfl),
  Lib.run_overlaps_apart w 119 4 102 Tryz.underlying119 4 sizeOf102 ⟨vb,0,none⟩ ⟨g,o,none⟩ 1 1 lb cb hne 102 102 ce.size cur.size (by simp[World.shape?,show w.heap[vb]?=_ from hv]) (by simp[World.shape?,show w.heap[g]?=_ from hg]) hc (hv.frozen 0) (hv.frozen _)]
 rfl
theorem undrew {w w':World} {row:Option Nat} (h:w.drew.grownBy w' row):w.grownBy w' row:=⟨h.os,h.tape,h.output,h.size,h.block⟩
set_option maxHeartbeats 4000000 in
theorem insert_shift (w:World) (g cap vb i:Nat) (cur:Array Value) (ks:List Key4) (k:Key4) (hg:Whole w g 102 cur) (hi:i<ks.length) (hroom:ks.length+1≤cap) (hcap:cap≤maxLen)
 (hcur:cur.size=cap*4) (hcs:cur.toList.take (ks.length*4)=flat ks) (hv:Whole w vb 102 k.cells.toArray) (hne:vb≠g) :
 Calls Tryz.prog 205 #[.slice (some ⟨g,0,none⟩) ks.length cap,.int .i64 (i:Int),.slice (some ⟨vb,0,none⟩) 1 1] w fun e w' =>
  e=.returned (.slice (some ⟨g,0,none⟩) (ks.length+1) cap)∧Sto w.drew w' g∧Whole w' g 102 (splice (splice cur ((i+1)*4) (flat (ks.drop i))) (i*4) k.cells):=by
 have hov:∀ W o lb cb,w=W→(callFunc 252 #[.slice (some ⟨vb,0,none⟩) 1 1,.slice (some ⟨g,o,none⟩) lb cb]).run Tryz.prog W=.ok (.value (.bool false)) W:=fun W o lb cb e=>by rw[← e];exact apart (o:=o) (lb:=lb) (cb:=cb) hg (by omega) hv hne
 have hov1:∀ o lb cb,(callFunc 252 #[.slice (some ⟨vb,0,none⟩) 1 1,.slice (some ⟨g,o,none⟩) lb cb]).run Tryz.prog w=.ok (.value (.bool false)) w:=fun o lb cb=>hov w o lb cb rfl
 have hfl:(flat (ks.drop i)).length=(ks.length-i)*4:=by rw[flat_len,List.length_drop]
 unfold maxLen at hcap
 obtain⟨n,hnn⟩:∃ n,n=ks.length:=⟨_,rfl⟩
 have hsrc0:∀ j v,(flat (ks.drop i))[j]?=some v→w.cell? ⟨g,i*4+j,none⟩=some v:=fun j v hj=>by
  have h1:=flat_tail hj (Nat.le_of_lt hi)
  have hjl:i*4+j<ks.length*4:=by have:=(List.getElem?_eq_some_iff.1 h1).1;rw[flat_len] at this;omega
  rw[← hcs,List.getElem?_take,if_pos hjl] at h1
  rw[hg.cell];simpa using h1
 rw[← hnn] at hi hroom hcs hfl ⊢
 clear hnn hov
 have mixed:Tryz.prog.follows Departure.mixedOrders=true:=by kernel_rfl
 have hz1:¬ ((i:Int)=(n:Int)):=by omega
 have hz2:((i:Int) == (n:Int))=false:=by simp;omega
 have hwr:IntKind.i64.wrap 1=1:=by decide
 have hb1:¬ ((cap:Int)<(n:Int)+1):=by omega
 have hwi:IntKind.i64.wrap ((i:Int)+1)=(i:Int)+1:=by rw[IntKind.wrap_i64];omega
 have q1:=fun W=>run_tail W g 0 n cap i (i:Int) rfl (by omega) (by omega)
 have q2:=fun W=>run_head W g 0 n cap (n+1) ((n:Int)+1) (by omega) (by omega)
 have q3:=fun W=>run_tail W g 0 (n+1) cap (i+1) ((i:Int)+1) (by omega) (by omega) (by omega)
 have q4:=fun W=>run_tail W g 0 (n+1) cap i (i:Int) rfl (by omega) (by omega)
 simp only[Nat.zero_add] at q1 q3 q4
 have hin:∀ j,j<cap*4→(w.cell? ⟨g,j,none⟩).isSome=true:=fun j hj=>by rw[hg.cell,Array.getElem?_eq_getElem (by omega)];rfl
 obtain⟨W1,hcp1,hs1,hw1⟩:∃ W1,(∀ ty dc sc,(Builtin.copy_ #[119,119] ty #[.slice (some ⟨g,(i+1)*4,none⟩) (n-i) dc,.slice (some ⟨g,i*4,none⟩) (n+1-i) sc]).run Tryz.prog w.drew=.ok (goInt (n-i:Nat)) W1)∧Sto w.drew W1 g∧Whole W1 g 102 (splice cur ((i+1)*4) (flat (ks.drop i))) :=
  ⟨_,fun ty dc sc=>run_copy_k w.drew 119 119 ty 102 4 (n-i) g ((i+1)*4) (n-i) dc ⟨g,i*4,none⟩ (n+1-i) sc (flat (ks.drop i)) Tryz.underlying119 size102 (by simp only[Nat.min_def];split<;>omega) (by rw[hfl])
   (fun j v hj=>by rw[Addr.add_mid];exact hsrc0 j v hj) (fun j hj=>hin _ (by rw[hfl] at hj;omega)) (fun j hj=>hg.frozen _) (flat_one _),setCells_blk (flat (ks.drop i)) ((i+1)*4) cur w.drew hg⟩
 have hv1:Whole W1 vb 102 k.cells.toArray:=hs1.whole hv hne
 obtain⟨W2,hcp2,hs2,hw2⟩:∃ W2,(∀ ty dc,(Builtin.copy_ #[119,119] ty #[.slice (some ⟨g,i*4,none⟩) (n+1-i) dc,.slice (some ⟨vb,0,none⟩) 1 1]).run Tryz.prog W1=.ok (goInt 1) W2)∧Sto W1 W2 g∧Whole W2 g 102 (splice (splice cur ((i+1)*4) (flat (ks.drop i))) (i*4) k.cells) :=
  ⟨_,fun ty dc=>run_copy_k W1 119 119 ty 102 4 1 g (i*4) (n+1-i) dc ⟨vb,0,none⟩ 1 1 k.cells Tryz.underlying119 size102 (by simp only[Nat.min_def];split<;>omega) (by rfl)
   (fun j v hj=>by rw[Addr.add_lit,Nat.zero_add,hv1.cell];simpa using hj)
   (fun j hj=>by rw[hw1.cell,Array.getElem?_eq_getElem (by rw[splice_size];rw[key_len] at hj;omega)];rfl) (fun j hj=>hw1.frozen _) (list_one k),setCells_blk k.cells (i*4) _ W1 hw1⟩
 clear hsrc0 hin hcs hfl hcur hv hv1 hg
 go_enter Tryz.func205,Tryz.ntmps205
 go_wp2_with (simp only[hov1])
 go_region_law_o (refine step_copy_runI rfl _ _ 119 119 rfl _ _ (by simp[Act.eval,Act.put]) (by simp[Act.eval,Act.put]) (hcp1 _ _ _) ?_)
 go_wp2_with (at_builtin;refine wpList_copy_runI _ rfl _ _ 119 119 rfl _ _ rfl rfl (hcp2 _ _) ?_)
 go_ret
 exact⟨rfl,hs1.trans hs2,hw2⟩
end Go.Proofs.YtdcofoaihmongaaGreat.V
namespace Go.Proofs.YtdcofoaihmongaaGreat.V
open Go Go.WideMaps Go.RowKit
set_option maxRecDepth 100000 in
set_option maxHeartbeats 4000000 in
theorem insert_grow (w:World) (g cap vb i:Nat) (cur:Array Value) (ks:List Key4) (k:Key4) (hg:Whole w g 102 cur) (hi:i<ks.length) (hle:ks.length≤cap) (hroom:cap<ks.length+1) (hbig:ks.length≤100000000)
 (hcs:cur.toList.take (ks.length*4)=flat ks) (hv:Whole w vb 102 k.cells.toArray) :
 Calls Tryz.prog 205 #[.slice (some ⟨g,0,none⟩) ks.length cap,.int .i64 (i:Int),.slice (some ⟨vb,0,none⟩) 1 1] w fun e w' =>
  ∃ G cur',e=.returned (.slice (some ⟨w.heap.size,0,none⟩) (ks.length+1) G)∧ks.length+1≤G∧G≤maxLen∧w.grownBy w' none∧Whole w' w.heap.size 102 (splice (splice cur' (i*4) k.cells) ((i+1)*4) (flat (ks.drop i)))∧cur'.size=G*4∧cur'.toList.take (i*4)=flat (ks.take i):=by
 have hfl:(flat (ks.drop i)).length=(ks.length-i)*4:=by rw[flat_len,List.length_drop]
 have hft:(flat (ks.take i)).length=i*4:=by rw[flat_len,List.length_take,Nat.min_eq_left (Nat.le_of_lt hi)]
 have hsrc0:∀ j v,(flat (ks.drop i))[j]?=some v→cur[i*4+j]?=some v:=fun j v hj=>by
  have h1:=flat_tail hj (Nat.le_of_lt hi)
  have hjl:i*4+j<ks.length*4:=by have:=(List.getElem?_eq_some_iff.1 h1).1;rw[flat_len] at this;omega
  rw[← hcs,List.getElem?_take,if_pos hjl] at h1
  simpa using h1
 have hsrcT:∀ j v,(flat (ks.take i))[j]?=some v→cur[j]?=some v:=fun j v hj=>by
  have e:flat ks=flat (ks.take i)++flat (ks.drop i):=by rw[← flat_app,List.take_append_drop]
  have hjl:=(List.getElem?_eq_some_iff.1 hj).1
  have h1:(flat ks)[j]?=some v:=by rw[e,List.getElem?_append_left hjl];exact hj
  have hjl2:j<ks.length*4:=by rw[hft] at hjl;omega
  rw[← hcs,List.getElem?_take,if_pos hjl2] at h1
  simpa using h1
 obtain⟨n,hnn⟩:∃ n,n=ks.length:=⟨_,rfl⟩
 rw[← hnn] at hi hle hroom hbig hcs hfl ⊢
 clear hnn
 have mixed:Tryz.prog.follows Departure.mixedOrders=true:=by kernel_rfl
 obtain⟨i0,z0,hi0,hz0,hzs,hzb,hzc⟩:=infoOf info102
 obtain⟨N,hN⟩:∃ N,N=w.heap.size:=⟨_,rfl⟩
 have hgN:g<N:=by rw[hN];exact hg.lt
 have hvN:vb<N:=by rw[hN];exact hv.lt
 obtain⟨G,W0,ROW,hrz,hG1,hG2,hgr,hW0,hR,hT⟩:∃ G W0 ROW,(∀ ty,(Builtin.append_ #[119,3] ty #[.slice (some ⟨g,0,none⟩) i cap,.int .i64 ((n:Int)+1-(i:Int))]).run Tryz.prog w=.ok (.slice (some ⟨N,0,none⟩) (n+1) G) W0) ∧
  n+1≤G∧G≤maxLen∧w.grownBy W0 none∧Whole W0 N 102 ROW∧ROW.size=G*4∧ROW.toList.take (i*4)=flat (ks.take i):=by
  refine⟨grownCap w (n+1) cap 102,w.drew.alloc (.cells ((flat (ks.take i)).toArray++Builtin.zeroCells z0.cells (n+1-i)++Builtin.zeroCells z0.cells (grownCap w (n+1) cap 102-(n+1))) 102),_,fun ty=>?_,grownCap_ge w _ _ _,grownCap_le_maxLen w _ _ _ (by unfold maxLen;omega),?_,by rw[hN];exact Whole.new w.drew 102 _,?_,?_⟩
  ·have h:=Lib.run_append_grow_zeros w 119 3 ty 102 i0 z0 .i64 .i64 Tryz.underlying119 Tryz.underlying3 hi0 hz0 (some ⟨g,0,none⟩) i cap (flat (ks.take i)) (run_firstCells_some w.drew _ i _ _ _ (flat (ks.take i)) (by rw[hft,hzs]) (fun j v hj=>by
    rw[Addr.add_lit,Nat.zero_add,show w.drew.cell? _=w.cell? _ from rfl,hg.cell]
    exact hsrcT j v hj)) (n+1-i) (by omega) (by omega) (by omega) (by omega) (by rw[hzb];omega)
    (by rw[hzb];exact growslice_fits (by omega) (by omega))
   rw[show i+(n+1-i)=n+1 by omega] at h
   rw[hN,show((n:Int)+1-(i:Int))=((n+1-i:Nat):Int) by omega]
   exact h
  ·exact undrew (World.grownBy_alloc w.drew _ none)
  ·simp only[Array.size_append,List.size_toArray,size_zeroCells,hzc,hft]
   have:=grownCap_ge w (n+1) cap 102
   omega
  ·simp only[Array.toList_append,List.append_assoc]
   rw[← hft,List.take_left']
   rfl
 have hg0:Whole W0 g 102 cur:=hg.grown hgr (by simp)
 have hv0:Whole W0 vb 102 k.cells.toArray:=hv.grown hgr (by simp)
 obtain⟨W1,hcp1,hs1,hw1⟩:∃ W1,(∀ ty dc,(Builtin.copy_ #[119,119] ty #[.slice (some ⟨N,i*4,none⟩) (n+1-i) dc,.slice (some ⟨vb,0,none⟩) 1 1]).run Tryz.prog W0=.ok (goInt 1) W1)∧Sto W0 W1 N∧Whole W1 N 102 (splice ROW (i*4) k.cells) :=
  ⟨_,fun ty dc=>run_copy_k W0 119 119 ty 102 4 1 N (i*4) (n+1-i) dc ⟨vb,0,none⟩ 1 1 k.cells Tryz.underlying119 size102 (by simp only[Nat.min_def];split<;>omega) (by rfl)
   (fun j v hj=>by rw[Addr.add_lit,Nat.zero_add,hv0.cell];simpa using hj)
   (fun j hj=>by rw[hW0.cell,Array.getElem?_eq_getElem (by rw[key_len] at hj;omega)];rfl) (fun j hj=>hW0.frozen _) (list_one k),setCells_blk k.cells (i*4) _ W0 hW0⟩
 have hg1:Whole W1 g 102 cur:=hs1.whole hg0 (by omega)
 obtain⟨W2,hcp2,hs2,hw2⟩:∃ W2,(∀ ty dc sc,(Builtin.copy_ #[119,119] ty #[.slice (some ⟨N,(i+1)*4,none⟩) (n-i) dc,.slice (some ⟨g,i*4,none⟩) (n-i) sc]).run Tryz.prog W1.drew=.ok (goInt (n-i:Nat)) W2)∧Sto W1.drew W2 N∧Whole W2 N 102 (splice (splice ROW (i*4) k.cells) ((i+1)*4) (flat (ks.drop i))) :=
  ⟨_,fun ty dc sc=>run_copy_k W1.drew 119 119 ty 102 4 (n-i) N ((i+1)*4) (n-i) dc ⟨g,i*4,none⟩ (n-i) sc (flat (ks.drop i)) Tryz.underlying119 size102 (by simp) (by rw[hfl])
   (fun j v hj=>by rw[Addr.add_mid,show W1.drew.cell? _=W1.cell? _ from rfl,hg1.cell];exact hsrc0 j v hj) (fun j hj=>by rw[show W1.drew.cell? _=W1.cell? _ from rfl,hw1.cell,Array.getElem?_eq_getElem (by rw[splice_size];rw[hfl] at hj;omega)];rfl) (fun j hj=>hw1.frozen _) (flat_one _),setCells_blk (flat (ks.drop i)) ((i+1)*4) _ W1.drew hw1⟩
 have hend:w.grownBy W2 none:=by
  refine hgr.andThen (row':=some N) (hs1.grown.andThen (row':=some N) (show W1.grownBy W2 (some N) from undrew hs2.grown) (by intro j hj;right;exact hj)) (by intro j hj;left;cases hj;omega)
 clear hsrc0 hsrcT hfl hv hg hg0 hv0 hg1 hs1 hs2 hgr
 have HN:=Lib.hid hN
 have HT:=Lib.hid hT
 clear hN hgN hvN hT hft
 have hz1:¬ ((i:Int)=(n:Int)):=by omega
 have hz2:((i:Int) == (n:Int))=false:=by simp;omega
 have hwr:IntKind.i64.wrap 1=1:=by decide
 have hwi:IntKind.i64.wrap ((i:Int)+1)=(i:Int)+1:=by rw[IntKind.wrap_i64];omega
 have hwj:IntKind.i64.wrap ((n:Int)+1-(i:Int))=(n:Int)+1-(i:Int):=by rw[IntKind.wrap_i64];omega
 have hb6:(cap:Int)<(n:Int)+1:=by omega
 have q1:=fun W=>run_tail W g 0 n cap i (i:Int) rfl (by omega) (by omega)
 have q2:=fun W=>run_head W g 0 n cap i (i:Int) rfl (by omega)
 have q3:=fun W=>run_tail W N 0 (n+1) G i (i:Int) rfl (by omega) (by omega)
 have q4:=fun W=>run_tail W N 0 (n+1) G (i+1) ((i:Int)+1) (by omega) (by omega) (by omega)
 simp only[Nat.zero_add] at q1 q3 q4
 go_enter Tryz.func205,Tryz.ntmps205
 go_wp2_with (first
  | (at_builtin;refine Lib.wpList_append_run _ rfl _ _ _ _ rfl _ _ rfl rfl _ _ (hrz _) ?_)
  | (at_builtin;refine wpList_copy_runI _ rfl _ _ 119 119 rfl _ _ rfl rfl (hcp1 _ _) ?_)
  | (at_builtin;refine wpList_copy_runI _ rfl _ _ 119 119 rfl _ _ rfl rfl (hcp2 _ _ _) ?_))
 go_region_law_o (refine step_copy_runI rfl _ _ 119 119 rfl _ _ (by simp[Act.eval,Act.put]) (by simp[Act.eval,Act.put]) (hcp2 _ _ _) ?_)
 go_wp2
 go_ret
 exact⟨G,ROW,by rw[HN.out];rfl,hG1,hG2,hend,by rw[← HN.out];exact hw2,hR,HT.out⟩
end Go.Proofs.YtdcofoaihmongaaGreat.V
namespace Go.Proofs.YtdcofoaihmongaaGreat.V
open Go Go.WideMaps Go.RowKit
theorem run_tail_all (w:World) (b n:Nat):(Instr.slice 119 (.slice (some ⟨b,0,none⟩) n n) (some (.int .i64 (n:Int))) none none).run Tryz.prog w=.ok (.slice (some ⟨b,0,none⟩) 0 0) w:=by
 rw[run_slice_l w 119 (some ⟨b,0,none⟩) n n und119 .i64 (n:Int) (by omega) (by omega),elem119,Tryz.sizeOf102]
 simp[Result.andThen,sliced]
theorem whole_row {w:World} {g:Nat} {k:Key4} (hv:Whole w g 102 k.cells.toArray):∀ j u,k.cells[j]?=some u→w.cell? ((⟨g,0,none⟩:Addr).add j)=some u:=fun j u hu=>by
 rw[Addr.add_mid,hv.cell,Nat.zero_add]
 simpa using hu
set_option maxRecDepth 100000 in
set_option maxHeartbeats 4000000 in
theorem insert_end (w:World) (base vb:Nat) (v:Value) (ks:List Key4) (k:Key4) (h:w.ownsRow base 102 4 v ks.length (flat ks)) (hbig:ks.length≤100000000) (hv:Whole w vb 102 k.cells.toArray) (hb:base≤w.heap.size) :
 Calls Tryz.prog 205 #[v,.int .i64 (ks.length:Int),.slice (some ⟨vb,0,none⟩) 1 1] w fun e w'=>∃ v',e=.returned v'∧w'.ownsRow base 102 4 v' (ks.length+1) (flat ks++k.cells)∧w.grownBy w' v.ownBlock:=by
 obtain⟨i0,z0,hi0,hz0,hz1,hz2,hzs⟩:=infoOf info102
 have HO:=Lib.hid h
 have HV:=Lib.hid hv
 have HBS:=Lib.hid hb
 obtain⟨n,hn⟩:∃ n,n=ks.length:=⟨_,rfl⟩
 have HL:=Lib.hid hn
 have hq:∃ a c,v=.slice a n c∧n≤c∧∃ z,∀ W,(Instr.slice 119 (.slice a n c) (some (.int .i64 (n:Int))) none none).run Tryz.prog W=.ok z W:=by
  rcases h.2 with⟨rfl,h0⟩ | ⟨g,cap,cur,rfl,_,_,hnc,_⟩
  ·rw[← hn] at h0
   subst h0
   exact⟨none,0,rfl,Nat.le_refl _,.slice none 0 0,fun W=>by
    rw[run_slice_l W 119 none 0 0 und119 .i64 ((0:Nat):Int) (by omega) (by omega),elem119,Tryz.sizeOf102]
    simp[Result.andThen,sliced]⟩
  ·rw[← hn] at hnc
   rcases Nat.lt_or_ge n cap with hlt | hge
   ·exact⟨_,cap,by rw[hn],hnc,_,fun W=>run_tail W g 0 n cap n (n:Int) rfl (Nat.le_refl _) hlt⟩
   ·obtain rfl:n=cap:=by omega
    exact⟨_,n,by rw[hn],hnc,_,fun W=>run_tail_all W g n⟩
 obtain⟨a,c,rfl,hnc,z,q1⟩:=hq
 rw[← hn] at hbig HO ⊢
 clear h hv hb hn
 have hz:((n:Int) == (n:Int))=true:=by simp
 go_enter Tryz.func205,Tryz.ntmps205
 go_wp2_with (at_builtin;go_must (refine wpList_append_own _ rfl _ _ 119 rfl base 102 i0 z0 4 32 Tryz.underlying119 hi0 hz0 hz1 hz2 hzs (by decide) _ _ _ rfl HO.out ⟨vb,0,none⟩ 1 1 k.cells rfl rfl (whole_row HV.out) ?c2 ?c3 ?c4 ?c5 ?_))
 case c2=>exact list_one k
 case c3=>unfold maxLen;omega
 case c4=>omega
 case c5=>exact HBS.out
 intro v' w9 hown hgrow hnil
 have HO9:=Lib.hid (And.intro hown hgrow)
 clear hown hgrow hnil
 go_wp2
 go_ret
 exact⟨_,rfl,HO9.out.1,HO9.out.2⟩
theorem splice_take (cs:Array Value) (o n:Nat) (l:List Value) (h:o+l.length≤cs.size) (hn:n=o+l.length):(splice cs o l).toList.take n=cs.toList.take o++l:=by
 have hl:(cs.toList.take o++l).length=n:=by simp;omega
 rw[splice_toList cs o l h,← hl,List.take_left']
 rfl
theorem take_keep {cs:Array Value} {o n:Nat} {l:List Value} (h:o+l.length≤cs.size) (hn:n≤o):(splice cs o l).toList.take n=cs.toList.take n:=by
 rw[splice_toList cs o l h,List.append_assoc,List.take_append_of_le_length (by simp;omega),List.take_take,Nat.min_eq_left hn]
theorem grown_any {w w':World} (h:w.grownBy w' none) (row:Option Nat):w.grownBy w' row:=h.but row
theorem insertK_any (w:World) (base vb i:Nat) (v:Value) (ks:List Key4) (k:Key4) (h:w.ownsRow base 102 4 v ks.length (flat ks)) (hi:i≤ks.length) (hbig:ks.length≤100000000) (hv:Whole w vb 102 k.cells.toArray) (hne:v.ownBlock≠some vb) (hb:base≤w.heap.size) :
 Calls Tryz.prog 205 #[v,.int .i64 (i:Int),.slice (some ⟨vb,0,none⟩) 1 1] w fun e w'=>∃ v',e=.returned v'∧w'.ownsRow base 102 4 v' (ks.length+1) (flat (ks.take i++k::ks.drop i))∧w.grownBy w' v.ownBlock:=by
 by_cases hin:i=ks.length
 ·subst hin
  refine(insert_end w base vb v ks k h hbig hv hb).mono ?_
  rintro e w' ⟨v',rfl,h1,h2⟩
  refine⟨v',rfl,?_,h2⟩
  rw[List.take_length,List.drop_length,flat_app]
  simpa[flat] using h1
 ·have hlt:i<ks.length:=by omega
  have hd:(flat (ks.drop i)).length=(ks.length-i)*4:=by rw[flat_len,List.length_drop]
  have ht:(flat (ks.take i)).length=i*4:=by rw[flat_len,List.length_take,Nat.min_eq_left hi]
  have hfl:flat (ks.take i++k::ks.drop i)=(flat (ks.take i)++k.cells)++flat (ks.drop i):=by simp[flat]
  have hlen:(flat (ks.take i++k::ks.drop i)).length=(ks.length+1)*4:=by rw[flat_len];simp;omega
  obtain⟨g,cap,cur,rfl,hg,hw,hnc,hcm,hcs,hct⟩:=own_open h (by omega)
  have hvg:vb≠g:=fun e=>hne (by rw[e];rfl)
  have hcti:cur.toList.take (i*4)=flat (ks.take i):=by
   have e:flat ks=flat (ks.take i)++flat (ks.drop i):=by rw[← flat_app,List.take_append_drop]
   have h1:(cur.toList.take (ks.length*4)).take (i*4)=cur.toList.take (i*4):=by rw[List.take_take,Nat.min_eq_left (by omega)]
   rw[← h1,hct,e,← ht,List.take_left']
   rfl
  by_cases hroom:ks.length+1≤cap
  ·refine(insert_shift w g cap vb i cur ks k hw hlt hroom hcm hcs hct hv hvg).mono ?_
   rintro e w' ⟨rfl,hs,hW⟩
   refine⟨_,rfl,⟨hlen,.inr ⟨g,cap,_,rfl,hg,hW,hroom,hcm,by rw[splice_size,splice_size];exact hcs,?_⟩⟩,undrew hs.grown⟩
   have e1:(splice cur ((i+1)*4) (flat (ks.drop i))).toList.take ((ks.length+1)*4)=cur.toList.take ((i+1)*4)++flat (ks.drop i):=splice_take _ _ _ _ (by rw[hd];omega) (by rw[hd];omega)
   have hsz:(splice cur ((i+1)*4) (flat (ks.drop i))).size=cap*4:=by rw[splice_size];exact hcs
   rw[splice_toList _ _ _ (by rw[hsz,key_len];omega),hfl,key_len]
   have e2:(splice cur ((i+1)*4) (flat (ks.drop i))).toList.take (i*4)=flat (ks.take i):=by rw[take_keep (by rw[hd];omega) (by omega)];exact hcti
   rw[e2,List.take_append,List.take_of_length_le (by rw[List.length_append,ht,key_len];omega)]
   congr 1
   rw[List.length_append,ht,key_len,show i*4+4=(i+1)*4 by omega]
   have e3:((splice cur ((i+1)*4) (flat (ks.drop i))).toList.drop ((i+1)*4)).take ((ks.length+1)*4-(i+1)*4)=((splice cur ((i+1)*4) (flat (ks.drop i))).toList.take ((ks.length+1)*4)).drop ((i+1)*4):=by rw[List.drop_take]
   rw[e3,e1,List.drop_left']
   rw[List.length_take,Array.length_toList,hcs]
   omega
  ·refine(insert_grow w g cap vb i cur ks k hw hlt hnc (by omega) hbig hct hv).mono ?_
   rintro e w' ⟨G,cur',rfl,hG1,hG2,hgr,hW,hs,hct'⟩
   refine⟨_,rfl,⟨hlen,.inr ⟨_,G,_,rfl,hb,hW,hG1,hG2,by rw[splice_size,splice_size];exact hs,?_⟩⟩,grown_any hgr _⟩
   rw[splice_take _ _ _ _ (by rw[splice_size,hd];omega) (by rw[hd];omega),splice_take _ _ _ _ (by rw[key_len];omega) (by rw[key_len];omega),hct',hfl]
end Go.Proofs.YtdcofoaihmongaaGreat.V
namespace Go.Proofs.YtdcofoaihmongaaGreat.V
open Go Go.WideMaps Go.RowKit
def epair (e:AEntry):Value×Value:=(kval e.key,vval e.vecs)
structure StoreAt (w:World) (base sb:Nat) (L:List AEntry):Prop where
 ex:∃ mb kv,Whole w sb 121 #[.map (some mb),kv]∧MapAt w Tryz.prog 102 mb (L.map epair)∧w.ownsRow base 102 4 kv L.length (flat (L.map AEntry.key))∧base≤sb∧base≤mb
 ord:L.Pairwise Bef
 ok:∀ x∈L,x.Ok
structure Chg (base:Nat) (w w':World):Prop where
 blw:RowKit.Below base w w'
 kept:∀ g t cs,Whole w g t cs→t≠121→t≠102→Whole w' g t cs
theorem Chg.refl (base:Nat) (w:World):Chg base w w:=⟨Below.refl _ _,fun _ _ _ h _ _=>h⟩
theorem Chg.trans {base:Nat} {a b c:World} (h:Chg base a b) (k:Chg base b c):Chg base a c:=⟨h.blw.trans k.blw,fun g t cs hw h1 h2=>k.kept g t cs (h.kept g t cs hw h1 h2) h1 h2⟩
theorem Chg.of_below {base:Nat} {w w':World} (h:RowKit.Below w.heap.size w w') (hb:base≤w.heap.size):Chg base w w':=⟨h.mono hb,fun _ _ _ hw _ _=>Whole.under h hw hw.lt⟩
theorem StoreAt.keep {w w':World} {base sb:Nat} {L:List AEntry} (h:StoreAt w base sb L) (hb:RowKit.Below w.heap.size w w'):StoreAt w' base sb L:=by
 obtain⟨mb,kv,h1,h2,h3,h4,h5⟩:=h.ex
 exact⟨⟨mb,kv,Whole.under hb h1 h1.lt,h2.kept (hb.block _ h2.lt),own_keep hb h3 (Nat.le_refl _),h4,h5⟩,h.ord,h.ok⟩
theorem StoreAt.lt {w:World} {base sb:Nat} {L:List AEntry} (h:StoreAt w base sb L):sb<w.heap.size:=by
 obtain⟨mb,kv,h1,_⟩:=h.ex
 exact h1.lt
theorem StoreAt.low {w:World} {base base' sb:Nat} {L:List AEntry} (h:StoreAt w base sb L) (hb:base'≤base):StoreAt w base' sb L:=by
 obtain⟨mb,kv,h1,h2,h3,h4,h5⟩:=h.ex
 exact⟨⟨mb,kv,h1,h2,own_low h3 hb,Nat.le_trans hb h4,Nat.le_trans hb h5⟩,h.ord,h.ok⟩
theorem at_mem {L:List AEntry} {j:Nat} {y:AEntry} (h:L[j]?=some y):y∈L:=List.mem_of_getElem? h
theorem ord_at {L:List AEntry} (h:L.Pairwise Bef) {p q:Nat} {y z:AEntry} (hpq:p<q) (hy:L[p]?=some y) (hz:L[q]?=some z):Bef y z:=by
 obtain⟨h1,rfl⟩:=List.getElem?_eq_some_iff.1 hy
 obtain⟨h2,rfl⟩:=List.getElem?_eq_some_iff.1 hz
 exact(List.pairwise_iff_getElem.1 h) p q h1 h2 hpq
theorem keys_down {L:List AEntry} (h:L.Pairwise Bef) (k:Key4):∀ (p q:Nat) (y z:Key4),p≤q→(L.map AEntry.key)[p]?=some y→(L.map AEntry.key)[q]?=some z→cmpK z k<0→cmpK y k<0:=by
 intro p q y z hpq hy hz hlt
 rw[List.getElem?_map] at hy hz
 obtain⟨a,ha,rfl⟩:=Option.map_eq_some_iff.1 hy
 obtain⟨b,hb,rfl⟩:=Option.map_eq_some_iff.1 hz
 rw[show cmpK b.key k=cmpK b.key (mkE k AVec.zero).key from rfl,cmpK_neg] at hlt
 rw[show cmpK a.key k=cmpK a.key (mkE k AVec.zero).key from rfl,cmpK_neg]
 rcases Nat.lt_or_ge p q with h1 | h1
 ·exact Bef.trans _ _ _ (ord_at h h1 ha hb) hlt
 ·obtain rfl:p=q:=by omega
  rw[ha] at hb
  cases hb
  exact hlt
theorem ins_at {x:AEntry}:∀ {L:List AEntry} {p:Nat},L.Pairwise Bef→x.key∉L.map AEntry.key→p≤L.length→(∀ q y,q<p→L[q]?=some y→befB y x=true)→(∀ q y,p≤q→L[q]?=some y→befB y x=false)→ins x L=L.take p++x::L.drop p
 | [],p,_,_,hp,_,_=>by simp at hp;subst hp;simp[ins]
 | y::L,0,hs,hk,_,_,hhi=>by
  have h1:=hhi 0 y (Nat.le_refl _) rfl
  have h2:befB x y=true:=bef_total (fun e=>hk (by simp[e])) h1
  rw[ins,if_pos h2]
  simp
 | y::L,p+1,hs,hk,hp,hlo,hhi=>by
  have h1:=hlo 0 y (by omega) rfl
  rw[ins,if_neg (by rw[befB_asymm h1];simp),if_pos h1,ins_at (p:=p) (List.pairwise_cons.1 hs).2 (fun e=>hk (by simp at e ⊢;exact .inr e)) (by simpa using hp) (fun q z hq hz=>hlo (q+1) z (by omega) (by simpa using hz)) (fun q z hq hz=>hhi (q+1) z (by omega) (by simpa using hz))]
  simp
theorem place_one {ks:List Key4} {k:Key4} {p q:Nat} (hp:p≤ks.length) (hq:q≤ks.length) (p1:∀ j y,j<p→ks[j]?=some y→cmpK y k<0) (p2:∀ j y,p≤j→ks[j]?=some y→¬ cmpK y k<0) (q1:∀ j y,j<q→ks[j]?=some y→cmpK y k<0) (q2:∀ j y,q≤j→ks[j]?=some y→¬ cmpK y k<0):p=q:=by
 rcases Nat.lt_trichotomy p q with h | h | h
 ·exact absurd (q1 p _ h (List.getElem?_eq_getElem (by omega))) (p2 p _ (Nat.le_refl _) (List.getElem?_eq_getElem (by omega)))
 ·exact h
 ·exact absurd (p1 q _ h (List.getElem?_eq_getElem (by omega))) (q2 q _ (Nat.le_refl _) (List.getElem?_eq_getElem (by omega)))
def posK (ks:List Key4) (k:Key4):Nat:=(ks.takeWhile fun y=>decide (cmpK y k<0)).length
theorem posK_le (ks:List Key4) (k:Key4):posK ks k≤ks.length:=by
 unfold posK
 exact(List.takeWhile_sublist _).length_le
theorem posK_lo:∀ (ks:List Key4) (k:Key4) (j:Nat) (y:Key4),j<posK ks k→ks[j]?=some y→cmpK y k<0
 | [],_,j,y,h,_=>by simp[posK] at h
 | x::ks,k,j,y,h,hy=>by
  unfold posK at h
  by_cases hx:cmpK x k<0
  ·rw[List.takeWhile_cons_of_pos (by simpa using hx),List.length_cons] at h
   cases j with
   | zero=>simp at hy;subst hy;exact hx
   | succ j=>exact posK_lo ks k j y (by unfold posK;omega) (by simpa using hy)
  ·rw[List.takeWhile_cons_of_neg (by simpa using hx)] at h
   simp at h
theorem posK_hi:∀ (ks:List Key4) (k:Key4),(∀ (p q:Nat) (y z:Key4),p≤q→ks[p]?=some y→ks[q]?=some z→cmpK z k<0→cmpK y k<0)→∀ (j:Nat) (y:Key4),posK ks k≤j→ks[j]?=some y→¬ cmpK y k<0
 | [],_,_,j,y,_,hy=>by simp at hy
 | x::ks,k,hd,j,y,h,hy=>by
  by_cases hx:cmpK x k<0
  ·unfold posK at h
   rw[List.takeWhile_cons_of_pos (by simpa using hx),List.length_cons] at h
   cases j with
   | zero=>omega
   | succ j=>exact posK_hi ks k (fun p q y z h1 h2 h3 h4=>hd (p+1) (q+1) y z (by omega) (by simpa using h2) (by simpa using h3) h4) j y (by unfold posK;omega) (by simpa using hy)
  ·exact fun hlt=>hx (hd 0 j x y (Nat.zero_le _) rfl hy hlt)
def lookV (L:List AEntry) (k:Key4):AVec:=match L.find? (fun y=>decide (y.key=k)) with
 | some y=>y.vecs
 | none=>AVec.zero
theorem lookV_no {L:List AEntry} {k:Key4} (h:k∉L.map AEntry.key):lookV L k=AVec.zero:=by
 unfold lookV
 rw[List.find?_eq_none.2 fun x hx=>by simpa using fun e=>h (List.mem_map.2 ⟨x,hx,e⟩)]
theorem lookV_at {L:List AEntry} (hs:L.Pairwise Bef) {j:Nat} {y:AEntry} {k:Key4} (h:L[j]?=some y) (hk:y.key=k):lookV L k=y.vecs:=by
 unfold lookV
 cases e:L.find? (fun z=>decide (z.key=k)) with
 | none=>exact absurd hk (by simpa using List.find?_eq_none.1 e y (at_mem h))
 | some z =>
  have hz:z∈L:=List.mem_of_find?_eq_some e
  have hzk:z.key=k:=by simpa using List.find?_some e
  obtain⟨i,hi⟩:=List.getElem?_of_mem hz
  have:i=j:=by
   rcases Nat.lt_trichotomy i j with h1 | h1 | h1
   ·have:=ord_at hs h1 hi h
    rw[← befB_iff,not_of_key (hzk.trans hk.symm)] at this
    cases this
   ·exact h1
   ·have:=ord_at hs h1 h hi
    rw[← befB_iff,not_of_key (hk.trans hzk.symm)] at this
    cases this
  subst this
  rw[h] at hi
  cases hi
  rfl
theorem epair_key {L:List AEntry} {k:Key4} (h:k∉L.map AEntry.key):∀ p∈L.map epair,p.1≠kval k:=by
 intro p hp e
 obtain⟨y,hy,rfl⟩:=List.mem_map.1 hp
 exact h (List.mem_map.2 ⟨y,hy,kval_inj e⟩)
theorem store_look {w:World} {mb:Nat} {L:List AEntry} (h:MapAt w Tryz.prog 102 mb (L.map epair)) (hs:L.Pairwise Bef) {k:Key4} (hk:k.Ok):(Instr.lookup 118 (.map (some mb)) (kval k) false).run Tryz.prog w=.ok (vval (lookV L k)) w:=by
 obtain⟨l,hl⟩:=key_ok hk
 by_cases hm:k∈L.map AEntry.key
 ·obtain⟨y,hy,rfl⟩:=List.mem_map.1 hm
  obtain⟨j,hj⟩:=List.getElem?_of_mem hy
  rw[lookV_at hs hj rfl]
  exact h.look_some false keyed60 Tryz.underlying118 hl (List.mem_map.2 ⟨y,hy,rfl⟩)
 ·rw[lookV_no hm]
  exact h.look_none false keyed60 Tryz.underlying118 (zero62 w) hl (epair_key hm)
theorem store_look2 {w:World} {mb:Nat} {L:List AEntry} (h:MapAt w Tryz.prog 102 mb (L.map epair)) (hs:L.Pairwise Bef) {k:Key4} (hk:k.Ok):(Instr.lookup 118 (.map (some mb)) (kval k) true).run Tryz.prog w=.ok (.tuple #[vval (lookV L k),.bool (decide (k∈L.map AEntry.key))]) w:=by
 obtain⟨l,hl⟩:=key_ok hk
 by_cases hm:k∈L.map AEntry.key
 ·rw[decide_eq_true hm]
  obtain⟨y,hy,rfl⟩:=List.mem_map.1 hm
  obtain⟨j,hj⟩:=List.getElem?_of_mem hy
  rw[lookV_at hs hj rfl]
  exact h.look_some true keyed60 Tryz.underlying118 hl (List.mem_map.2 ⟨y,hy,rfl⟩)
 ·rw[decide_eq_false hm,lookV_no hm]
  exact h.look_none true keyed60 Tryz.underlying118 (zero62 w) hl (epair_key hm)
end Go.Proofs.YtdcofoaihmongaaGreat.V
namespace Go.Proofs.YtdcofoaihmongaaGreat.V
open Go Go.WideMaps Go.RowKit
theorem upd_was {L:Nat→Bool} {i j:Nat} (h:upd L i j=false):L j=false:=by
 unfold upd at h
 cases hx:L j with
 | false=>rfl
 | true=>rw[hx] at h;simp at h
theorem own_shape {w:World} {b:Nat} {t:TypeId} {k n:Nat} {v:Value} {xs:List Value} (h:w.ownsRow b t k v n xs):∃ a c,v=.slice a n c:=by
 rcases h.2 with⟨rfl,rfl⟩ | ⟨g,cap,cur,rfl,_⟩
 ·exact⟨_,_,rfl⟩
 ·exact⟨_,_,rfl⟩
theorem stays {w w':World} {o:Option Nat} {g:Nat} {t:TypeId} {cs:Array Value} (h:∀ b,b<w.heap.size→o≠some b→w'.heap[b]?=w.heap[b]?) (hw:Whole w g t cs) (hn:o≠some g):Whole w' g t cs:=(h g hw.lt hn).trans hw
set_option maxRecDepth 100000 in
set_option maxHeartbeats 4000000 in
theorem put1 (w:World) (sb kb mb:Nat) (kv:Value) (k:Key4) (u:AVec) (ok:Bool) (x1 x2 x3 x5 x6 x7 x8 x9 x10 x11 x12 x13 x14 x15 x16 x17 x18 x19 x20 x21 x22 x23 x24 x25 x26 x27 x28 x29 x30 x31 x32 x33 x34 x35 x36 x37 x38 x39 x40 x41 x42 x43 x44 x45 x46:Value) (HS:Hid (Whole w sb 121 #[.map (some mb),kv])) (HK:Hid (Whole w kb 102 #[.int .i64 k.src,.int .i64 k.tgt,.int .i64 k.cls,.int .i64 k.cond])) (HL:Hid (∀ W,RowKit.Below w.heap.size w W→(Instr.lookup 118 (.map (some mb)) (.agg #[.int .i64 k.src,.int .i64 k.tgt,.int .i64 k.cls,.int .i64 k.cond]) true).run Tryz.prog W=.ok (.tuple #[.agg #[.int .u32 u.allow,.int .u32 u.audit,.int .u32 u.dont],.bool ok]) W))
 {Q':Exit→Act→World→Prop} (hend:∀ (v6 v10 v11 v12 v13 v14 v15 v16 v17 v18:Value) (w':World),RowKit.Below w.heap.size w w'→Q' .normal ⟨#[.pointer (some ⟨sb,0,none⟩),x1,x2,x3,.pointer (some ⟨kb,0,none⟩),x5,v6,.bool ok,x8,x9,v10,v11,v12,v13,v14,v15,v16,v17,v18,x19,x20,x21,x22,x23,x24,x25,x26,x27,x28,x29,x30,x31,x32,x33,x34,x35,x36,x37,x38,x39,x40,x41,x42,x43,x44,x45,x46],[]⟩ w') :
 Code.wp Tryz.prog (findRegion7 1 ((Tryz.f121.body).getD .skip)) Q' ⟨#[.pointer (some ⟨sb,0,none⟩),x1,x2,x3,.pointer (some ⟨kb,0,none⟩),x5,x6,x7,x8,x9,x10,x11,x12,x13,x14,x15,x16,x17,x18,x19,x20,x21,x22,x23,x24,x25,x26,x27,x28,x29,x30,x31,x32,x33,x34,x35,x36,x37,x38,x39,x40,x41,x42,x43,x44,x45,x46],[]⟩ w:=by
 have HEND:=Lib.hid hend
 clear hend
 conv=>arg 2;whnf
 conv=>arg 4;dsimp only
 refine wp_region_goods [some 11,some 12,some 13,some 14,some 15,some 16,some 10,some 17,some 18,some 6,none] [isW (.pointer (some ⟨sb,0,none⟩)),isW (.pointer (some ⟨sb,0,none⟩)),isW (.pointer (some ⟨sb,0,none⟩)),isW (.map (some mb)),isW (.agg #[.int .i64 k.src,.int .i64 k.tgt,.int .i64 k.cls,.int .i64 k.cond]),isW (.tuple #[.agg #[.int .u32 u.allow,.int .u32 u.audit,.int .u32 u.dont],.bool ok]),isW (.tuple #[.agg #[.int .u32 u.allow,.int .u32 u.audit,.int .u32 u.dont],.bool ok]),isW (.agg #[.int .u32 u.allow,.int .u32 u.audit,.int .u32 u.dont]),isW (.bool ok),(fun L v w'=>L 10=false→∃ g,v=.pointer (some ⟨g,0,none⟩)∧w.heap.size≤g∧Whole w' g 104 #[.int .u32 0,.int .u32 0,.int .u32 0]),(fun _ _ _=>True)] (fun _ w'=>RowKit.Below w.heap.size w w') [10] (by kernel_rfl) (by kernel_rfl) (by kernel_rfl) rfl (by decide) rfl rfl ((Below.refl _ _).drew) ⟨lastsW_is _,lastsW_is _,lastsW_is _,lastsW_is _,lastsW_is _,lastsW_is _,lastsW_is _,lastsW_is _,lastsW_is _,(fun L i v w1 w2 _ h hb h5=>let ⟨g,e,hg,hw⟩:=h (upd_was h5);⟨g,e,hg,Whole.under hb hw hw.lt⟩),(fun _ _ _ _ _ _ _ _=>trivial),trivial⟩ ⟨?_,?_,?_,?_,?_,?_,?_,?_,?_,?_,?_,?_⟩
 ·intro L a wy Q' hL hi H F hK
  try dsimp only at hi
  have h0:a.tmps[0]?=some (.pointer (some ⟨sb,0,none⟩)):=F 0 rfl
  have HI:=Lib.hid hi
  clear H F hi hL
  go_wp2_with fail
  exact hK _ _ (Below.refl _ _) HI.out rfl
 ·intro L a wy Q' hL hi H F hK
  try dsimp only at hi
  obtain⟨_,h11,rfl⟩:=H 0 ⟨.data,by simp,rfl⟩ _ rfl
  replace h11:=h11 _ rfl
  have HI:=Lib.hid hi
  clear H F hi hL
  go_wp2_with fail
  exact hK _ _ (Below.refl _ _) HI.out rfl
 ·intro L a wy Q' hL hi H F hK
  try dsimp only at hi
  obtain⟨_,h12,rfl⟩:=H 1 ⟨.data,by simp,rfl⟩ _ rfl
  replace h12:=h12 _ rfl
  have HI:=Lib.hid hi
  clear H F hi hL
  go_wp2_with fail
  exact hK _ _ (Below.refl _ _) HI.out rfl
 ·intro L a wy Q' hL hi H F hK
  try dsimp only at hi
  obtain⟨_,h13,rfl⟩:=H 2 ⟨.data,by simp,rfl⟩ _ rfl
  replace h13:=h13 _ rfl
  have HI:=Lib.hid hi
  clear H F hi hL
  have kq0:wy.cell? ⟨sb,0,none⟩=some (.map (some mb)):=(Whole.under HI.out HS.out (Whole.lt HS.out)).cell 0
  go_wp2_with fail
  exact hK _ _ (Below.refl _ _) HI.out rfl
 ·intro L a wy Q' hL hi H F hK
  try dsimp only at hi
  have h4:a.tmps[4]?=some (.pointer (some ⟨kb,0,none⟩)):=F 4 rfl
  have HI:=Lib.hid hi
  clear H F hi hL
  have kq0:wy.cell? ⟨kb,0,none⟩=some (.int .i64 k.src):=(Whole.under HI.out HK.out (Whole.lt HK.out)).cell 0
  have kq1:wy.cell? ⟨kb,1,none⟩=some (.int .i64 k.tgt):=(Whole.under HI.out HK.out (Whole.lt HK.out)).cell 1
  have kq2:wy.cell? ⟨kb,2,none⟩=some (.int .i64 k.cls):=(Whole.under HI.out HK.out (Whole.lt HK.out)).cell 2
  have kq3:wy.cell? ⟨kb,3,none⟩=some (.int .i64 k.cond):=(Whole.under HI.out HK.out (Whole.lt HK.out)).cell 3
  go_wp2_with fail
  exact hK _ _ (Below.refl _ _) HI.out rfl
 ·intro L a wy Q' hL hi H F hK
  try dsimp only at hi
  obtain⟨_,h14,rfl⟩:=H 3 ⟨.data,by simp,rfl⟩ _ rfl
  replace h14:=h14 _ rfl
  obtain⟨_,h15,rfl⟩:=H 4 ⟨.data,by simp,rfl⟩ _ rfl
  replace h15:=h15 _ rfl
  have HI:=Lib.hid hi
  clear H F hi hL
  have q:=HL.out wy HI.out
  go_wp2_with fail
  exact hK _ _ (Below.refl _ _) HI.out rfl
 ·intro L a wy Q' hL hi H F hK
  try dsimp only at hi
  obtain⟨_,h16,rfl⟩:=H 5 ⟨.data,by simp,rfl⟩ _ rfl
  replace h16:=h16 _ rfl
  have HI:=Lib.hid hi
  clear H F hi hL
  go_wp2_with fail
  exact hK _ _ (Below.refl _ _) HI.out rfl
 ·intro L a wy Q' hL hi H F hK
  try dsimp only at hi
  obtain⟨_,h10,rfl⟩:=H 6 ⟨.data,by simp,rfl⟩ _ rfl
  replace h10:=h10 _ rfl
  have HI:=Lib.hid hi
  clear H F hi hL
  go_wp2_with fail
  exact hK _ _ (Below.refl _ _) HI.out rfl
 ·intro L a wy Q' hL hi H F hK
  try dsimp only at hi
  obtain⟨_,h10,rfl⟩:=H 6 ⟨.data,by simp,rfl⟩ _ rfl
  replace h10:=h10 _ rfl
  have HI:=Lib.hid hi
  clear H F hi hL
  go_wp2_with fail
  exact hK _ _ (Below.refl _ _) HI.out rfl
 ·intro L a wy Q' hL hi H F hK
  try dsimp only at hi
  have HI:=Lib.hid hi
  clear H F hi hL
  have HK9:=Lib.hid hK
  clear hK
  go_wp2_with fail
  exact HK9.out _ _ ((Below.refl _ _).alloc (Nat.le_refl _) _) (HI.out.alloc HI.out.size _) (fun _=>⟨wy.heap.size,rfl,HI.out.size,Whole.new wy 104 _⟩)
 ·intro L a wy Q' hL hi H F hK
  try dsimp only at hi
  obtain⟨_,h17,rfl⟩:=H 7 ⟨.data,by simp,rfl⟩ _ rfl
  replace h17:=h17 _ rfl
  obtain⟨v6,h6,hv6⟩:=H 9 ⟨.data,by simp,rfl⟩ _ rfl
  replace h6:=h6 _ rfl
  have HV6:=Lib.hid hv6
  clear hv6
  have HI:=Lib.hid hi
  clear H F hi
  obtain⟨g,rfl,hg,hw⟩:=HV6.out hL
  refine wpList_store_blk rfl 104 _ _ rfl g 0 (.agg #[.int .u32 u.allow,.int .u32 u.audit,.int .u32 u.dont]) (by simp[Act.eval, *]) (by simp[Act.eval, *]) 104 _ hw (by simp[Value.cells]) size104 rfl ?_
  intro w2 S2 W2
  exact hK undef w2 (show KeepAll _ _ _ _ _ _ _ _ from⟨(fun _ _ _ _ h=>h),(fun _ _ _ _ h=>h),(fun _ _ _ _ h=>h),(fun _ _ _ _ h=>h),(fun _ _ _ _ h=>h),(fun _ _ _ _ h=>h),(fun _ _ _ _ h=>h),(fun _ _ _ _ h=>h),(fun _ _ _ _ h=>h),(fun _ _ _ _ h=>fun h5=>by simp[upd] at h5),(fun h=>absurd rfl h),trivial⟩) (HI.out.trans (S2.below hg)) trivial
 ·intro a wy L hl hi hL Q' hK
  try dsimp only at hi
  have HB:=Lib.hid hi
  clear hi hL
  obtain⟨_,rfl,_,rfl,_,rfl,_,rfl,_,rfl,_,rfl,_,rfl,_,rfl,_,rfl,u6,hu6,un10,hun10,rfl⟩:=hl
  have HU6:=Lib.hid hu6
  clear hu6
  have HUn10:=Lib.hid hun10
  clear hun10
  simp only[List.setIfInBounds_toArray,List.set_cons_zero,List.set_cons_succ]
  go_wp2_with fail
  exact HEND.out _ _ _ _ _ _ _ _ _ _ _ HB.out
set_option maxRecDepth 100000 in
set_option maxHeartbeats 4000000 in
theorem put3 (w:World) (sb kb mb p:Nat) (kv:Value) (k:Key4) (x1 x2 x3 x5 x6 x7 x8 x9 x10 x11 x12 x13 x14 x15 x16 x17 x18 x19 x20 x21 x22 x23 x24 x25 x26 x27 x28 x29 x30 x31 x32 x33 x34 x35 x36 x37 x38 x39 x40 x41 x42 x43 x44 x45 x46:Value) (HS:Hid (Whole w sb 121 #[.map (some mb),kv])) (HK:Hid (Whole w kb 102 #[.int .i64 k.src,.int .i64 k.tgt,.int .i64 k.cls,.int .i64 k.cond])) (HC:Hid (∀ W,RowKit.Below w.heap.size w W→Calls Tryz.prog 203 #[kv,.agg #[.int .i64 k.src,.int .i64 k.tgt,.int .i64 k.cls,.int .i64 k.cond],.func (.func 204) #[] #[]] W fun e w'=>e=.returned (.tuple #[.int .i64 (p:Nat),.bool false])∧RowKit.Below W.heap.size W w'))
 {Q':Exit→Act→World→Prop} (hend:∀ (v9 v21 v22 v23 v24 v25 v26 v27 v28 v29:Value) (w':World),RowKit.Below w.heap.size w w'→Q' .normal ⟨#[.pointer (some ⟨sb,0,none⟩),x1,x2,x3,.pointer (some ⟨kb,0,none⟩),x5,x6,x7,.int .i64 (p:Nat),v9,x10,x11,x12,x13,x14,x15,x16,x17,x18,x19,x20,v21,v22,v23,v24,v25,v26,v27,v28,v29,x30,x31,x32,x33,x34,x35,x36,x37,x38,x39,x40,x41,x42,x43,x44,x45,x46],[]⟩ w') :
 Code.wp Tryz.prog (findRegion7 3 ((Tryz.f121.body).getD .skip)) Q' ⟨#[.pointer (some ⟨sb,0,none⟩),x1,x2,x3,.pointer (some ⟨kb,0,none⟩),x5,x6,x7,x8,x9,x10,x11,x12,x13,x14,x15,x16,x17,x18,x19,x20,x21,x22,x23,x24,x25,x26,x27,x28,x29,x30,x31,x32,x33,x34,x35,x36,x37,x38,x39,x40,x41,x42,x43,x44,x45,x46],[]⟩ w:=by
 have HEND:=Lib.hid hend
 clear hend
 conv=>arg 2;whnf
 conv=>arg 4;dsimp only
 refine wp_region_goods [some 22,some 23,some 24,some 25,some 26,some 27,some 21,some 28,some 29,some 8] [isW (.pointer (some ⟨sb,0,none⟩)),isW (.pointer (some ⟨sb,0,none⟩)),isW (.pointer (some ⟨sb,1,none⟩)),isW (kv),isW (.agg #[.int .i64 k.src,.int .i64 k.tgt,.int .i64 k.cls,.int .i64 k.cond]),isW (.tuple #[.int .i64 (p:Nat),.bool false]),isW (.tuple #[.int .i64 (p:Nat),.bool false]),isW (.int .i64 (p:Nat)),isW (.bool false),isW (.int .i64 (p:Nat))] (fun _ w'=>RowKit.Below w.heap.size w w') [] (by kernel_rfl) (by kernel_rfl) (by kernel_rfl) rfl (by decide) rfl rfl ((Below.refl _ _).drew) ⟨lastsW_is _,lastsW_is _,lastsW_is _,lastsW_is _,lastsW_is _,lastsW_is _,lastsW_is _,lastsW_is _,lastsW_is _,lastsW_is _,trivial⟩ ⟨?_,?_,?_,?_,?_,?_,?_,?_,?_,?_,?_⟩
 ·intro L a wy Q' hL hi H F hK
  try dsimp only at hi
  have h0:a.tmps[0]?=some (.pointer (some ⟨sb,0,none⟩)):=F 0 rfl
  have HI:=Lib.hid hi
  clear H F hi hL
  go_wp2_with fail
  exact hK _ _ (Below.refl _ _) HI.out rfl
 ·intro L a wy Q' hL hi H F hK
  try dsimp only at hi
  obtain⟨_,h22,rfl⟩:=H 0 ⟨.data,by simp,rfl⟩ _ rfl
  replace h22:=h22 _ rfl
  have HI:=Lib.hid hi
  clear H F hi hL
  go_wp2_with fail
  exact hK _ _ (Below.refl _ _) HI.out rfl
 ·intro L a wy Q' hL hi H F hK
  try dsimp only at hi
  obtain⟨_,h23,rfl⟩:=H 1 ⟨.data,by simp,rfl⟩ _ rfl
  replace h23:=h23 _ rfl
  have HI:=Lib.hid hi
  clear H F hi hL
  go_wp2_with fail
  exact hK _ _ (Below.refl _ _) HI.out rfl
 ·intro L a wy Q' hL hi H F hK
  try dsimp only at hi
  obtain⟨_,h24,rfl⟩:=H 2 ⟨.data,by simp,rfl⟩ _ rfl
  replace h24:=h24 _ rfl
  have HI:=Lib.hid hi
  clear H F hi hL
  have kq0:wy.cell? ⟨sb,1,none⟩=some (kv):=(Whole.under HI.out HS.out (Whole.lt HS.out)).cell 1
  go_wp2_with fail
  exact hK _ _ (Below.refl _ _) HI.out rfl
 ·intro L a wy Q' hL hi H F hK
  try dsimp only at hi
  have h4:a.tmps[4]?=some (.pointer (some ⟨kb,0,none⟩)):=F 4 rfl
  have HI:=Lib.hid hi
  clear H F hi hL
  have kq0:wy.cell? ⟨kb,0,none⟩=some (.int .i64 k.src):=(Whole.under HI.out HK.out (Whole.lt HK.out)).cell 0
  have kq1:wy.cell? ⟨kb,1,none⟩=some (.int .i64 k.tgt):=(Whole.under HI.out HK.out (Whole.lt HK.out)).cell 1
  have kq2:wy.cell? ⟨kb,2,none⟩=some (.int .i64 k.cls):=(Whole.under HI.out HK.out (Whole.lt HK.out)).cell 2
  have kq3:wy.cell? ⟨kb,3,none⟩=some (.int .i64 k.cond):=(Whole.under HI.out HK.out (Whole.lt HK.out)).cell 3
  go_wp2_with fail
  exact hK _ _ (Below.refl _ _) HI.out rfl
 ·intro L a wy Q' hL hi H F hK
  try dsimp only at hi
  obtain⟨_,h25,rfl⟩:=H 3 ⟨.data,by simp,rfl⟩ _ rfl
  replace h25:=h25 _ rfl
  obtain⟨_,h26,rfl⟩:=H 4 ⟨.data,by simp,rfl⟩ _ rfl
  replace h26:=h26 _ rfl
  have HI:=Lib.hid hi
  clear H F hi hL
  have HK:=Lib.hid hK
  clear hK
  go_wp2_with (go_at_call 203;go_must (refine(HC.out wy HI.out).mono ?_;rintro e w1 ⟨rfl,hb1⟩))
  exact HK.out _ _ hb1 (HI.out.trans (hb1.mono HI.out.size)) rfl
 ·intro L a wy Q' hL hi H F hK
  try dsimp only at hi
  obtain⟨_,h27,rfl⟩:=H 5 ⟨.data,by simp,rfl⟩ _ rfl
  replace h27:=h27 _ rfl
  have HI:=Lib.hid hi
  clear H F hi hL
  go_wp2_with fail
  exact hK _ _ (Below.refl _ _) HI.out rfl
 ·intro L a wy Q' hL hi H F hK
  try dsimp only at hi
  obtain⟨_,h21,rfl⟩:=H 6 ⟨.data,by simp,rfl⟩ _ rfl
  replace h21:=h21 _ rfl
  have HI:=Lib.hid hi
  clear H F hi hL
  go_wp2_with fail
  exact hK _ _ (Below.refl _ _) HI.out rfl
 ·intro L a wy Q' hL hi H F hK
  try dsimp only at hi
  obtain⟨_,h21,rfl⟩:=H 6 ⟨.data,by simp,rfl⟩ _ rfl
  replace h21:=h21 _ rfl
  have HI:=Lib.hid hi
  clear H F hi hL
  go_wp2_with fail
  exact hK _ _ (Below.refl _ _) HI.out rfl
 ·intro L a wy Q' hL hi H F hK
  try dsimp only at hi
  obtain⟨_,h28,rfl⟩:=H 7 ⟨.data,by simp,rfl⟩ _ rfl
  replace h28:=h28 _ rfl
  have HI:=Lib.hid hi
  clear H F hi hL
  go_wp2_with fail
  exact hK _ _ (Below.refl _ _) HI.out rfl
 ·intro a wy L hl hi hL Q' hK
  try dsimp only at hi
  have HB:=Lib.hid hi
  clear hi hL
  obtain⟨_,rfl,_,rfl,_,rfl,_,rfl,_,rfl,_,rfl,_,rfl,_,rfl,_,rfl,_,rfl,rfl⟩:=hl
  simp only[List.setIfInBounds_toArray,List.set_cons_zero,List.set_cons_succ]
  go_wp2_with fail
  exact HEND.out _ _ _ _ _ _ _ _ _ _ _ HB.out
set_option maxRecDepth 100000 in
set_option maxHeartbeats 4000000 in
theorem put4 (w:World) (base sb kb mb p n:Nat) (kv:Value) (k:Key4) (FC:List Value) (x1 x2 x3 x5 x6 x7 x9 x10 x11 x12 x13 x14 x15 x16 x17 x18 x19 x20 x21 x22 x23 x24 x25 x26 x27 x28 x29 x30 x31 x32 x33 x34 x35 x36 x37 x38 x39 x40 x41 x42 x43 x44 x45 x46:Value) (HS:Hid (Whole w sb 121 #[.map (some mb),kv])) (HK:Hid (Whole w kb 102 #[.int .i64 k.src,.int .i64 k.tgt,.int .i64 k.cls,.int .i64 k.cond])) (HSBN:Hid (kv.ownBlock≠some sb)) (HKBN:Hid (kv.ownBlock≠some kb)) (HOB:Hid (∀ q,kv.ownBlock=some q→q<w.heap.size)) (HOL:Hid (∀ q,kv.ownBlock=some q→base≤q)) (HBS:Hid (base≤w.heap.size)) (HBL:Hid (base≤sb)) (HC:Hid (∀ W g,RowKit.Below w.heap.size w W→Whole W g 102 #[.int .i64 k.src,.int .i64 k.tgt,.int .i64 k.cls,.int .i64 k.cond]→kv.ownBlock≠some g→Calls Tryz.prog 205 #[kv,.int .i64 (p:Nat),.slice (some ⟨g,0,none⟩) 1 1] W fun e w'=>∃ v,e=.returned v∧w'.ownsRow base 102 4 v (n+1) FC∧W.grownBy w' kv.ownBlock))
 {Q':Exit→Act→World→Prop} (hend:∀ (v30 v31 v32 v33 v34 v35 v36 v37 v38 v39 v40:Value) (v:Value) (w':World),(Whole w' sb 121 #[.map (some mb),v]∧w'.ownsRow base 102 4 v (n+1) FC∧(∀ b,b<w.heap.size→b≠sb→kv.ownBlock≠some b→w'.heap[b]?=w.heap[b]?)∧RowKit.Below base w w')→Q' .normal ⟨#[.pointer (some ⟨sb,0,none⟩),x1,x2,x3,.pointer (some ⟨kb,0,none⟩),x5,x6,x7,.int .i64 (p:Nat),x9,x10,x11,x12,x13,x14,x15,x16,x17,x18,x19,x20,x21,x22,x23,x24,x25,x26,x27,x28,x29,v30,v31,v32,v33,v34,v35,v36,v37,v38,v39,v40,x41,x42,x43,x44,x45,x46],[]⟩ w') :
 Code.wp Tryz.prog (findRegion7 4 ((Tryz.f121.body).getD .skip)) Q' ⟨#[.pointer (some ⟨sb,0,none⟩),x1,x2,x3,.pointer (some ⟨kb,0,none⟩),x5,x6,x7,.int .i64 (p:Nat),x9,x10,x11,x12,x13,x14,x15,x16,x17,x18,x19,x20,x21,x22,x23,x24,x25,x26,x27,x28,x29,x30,x31,x32,x33,x34,x35,x36,x37,x38,x39,x40,x41,x42,x43,x44,x45,x46],[]⟩ w:=by
 have HEND:=Lib.hid hend
 clear hend
 conv=>arg 2;whnf
 conv=>arg 4;dsimp only
 refine wp_region_goods [some 30,some 31,some 32,some 33,some 34,some 35,some 36,some 37,some 38,some 39,some 40] [isW (.pointer (some ⟨sb,0,none⟩)),isW (.pointer (some ⟨sb,0,none⟩)),isW (.pointer (some ⟨sb,0,none⟩)),isW (.pointer (some ⟨sb,1,none⟩)),isW (kv),isW (.int .i64 (p:Nat)),isW (.agg #[.int .i64 k.src,.int .i64 k.tgt,.int .i64 k.cls,.int .i64 k.cond]),(fun L v w'=>L 8=false→∃ g,v=.slice (some ⟨g,0,none⟩) 1 1∧w.heap.size≤g∧Whole w' g 102 #[.int .i64 k.src,.int .i64 k.tgt,.int .i64 k.cls,.int .i64 k.cond]),(fun _ v w'=>w'.ownsRow base 102 4 v (n+1) FC),isW (.pointer (some ⟨sb,0,none⟩)),isW (.pointer (some ⟨sb,1,none⟩))] (fun L w'=>(L 8=false→RowKit.Below w.heap.size w w')∧(∀ b,b<w.heap.size→kv.ownBlock≠some b→w'.heap[b]?=w.heap[b]?)∧RowKit.Below base w w') [8] (by kernel_rfl) (by kernel_rfl) (by kernel_rfl) rfl (by decide) rfl rfl (⟨fun _=>(RowKit.Below.refl _ _).drew,(fun _ _ _=>rfl),(RowKit.Below.refl _ _).drew⟩) ⟨lastsW_is _,lastsW_is _,lastsW_is _,lastsW_is _,lastsW_is _,lastsW_is _,lastsW_is _,(fun L i v w1 w2 _ h hb h5=>let ⟨g,e,hg,hw⟩:=h (upd_was h5);⟨g,e,hg,Whole.under hb hw hw.lt⟩),(fun L i v w1 w2 _ h hb=>own_keep hb h (Nat.le_refl _)),lastsW_is _,lastsW_is _,trivial⟩ ⟨?_,?_,?_,?_,?_,?_,?_,?_,?_,?_,?_,?_⟩
 ·intro L a wy Q' hL hi H F hK
  try dsimp only at hi
  have h0:a.tmps[0]?=some (.pointer (some ⟨sb,0,none⟩)):=F 0 rfl
  have HI:=Lib.hid hi
  clear H F hi hL
  go_wp2_with fail
  exact hK _ _ (Below.refl _ _) HI.out rfl
 ·intro L a wy Q' hL hi H F hK
  try dsimp only at hi
  have h0:a.tmps[0]?=some (.pointer (some ⟨sb,0,none⟩)):=F 0 rfl
  have HI:=Lib.hid hi
  clear H F hi hL
  go_wp2_with fail
  exact hK _ _ (Below.refl _ _) HI.out rfl
 ·intro L a wy Q' hL hi H F hK
  try dsimp only at hi
  obtain⟨_,h31,rfl⟩:=H 1 ⟨.data,by simp,rfl⟩ _ rfl
  replace h31:=h31 _ rfl
  have HI:=Lib.hid hi
  clear H F hi hL
  go_wp2_with fail
  exact hK _ _ (Below.refl _ _) HI.out rfl
 ·intro L a wy Q' hL hi H F hK
  try dsimp only at hi
  obtain⟨_,h32,rfl⟩:=H 2 ⟨.data,by simp,rfl⟩ _ rfl
  replace h32:=h32 _ rfl
  have HI:=Lib.hid hi
  clear H F hi hL
  go_wp2_with fail
  exact hK _ _ (Below.refl _ _) HI.out rfl
 ·intro L a wy Q' hL hi H F hK
  try dsimp only at hi
  obtain⟨_,h33,rfl⟩:=H 3 ⟨.data,by simp,rfl⟩ _ rfl
  replace h33:=h33 _ rfl
  have HI:=Lib.hid hi
  clear H F hi hL
  have kq0:wy.cell? ⟨sb,1,none⟩=some (kv):=(stays HI.out.2.1 HS.out HSBN.out).cell 1
  go_wp2_with fail
  exact hK _ _ (Below.refl _ _) HI.out rfl
 ·intro L a wy Q' hL hi H F hK
  try dsimp only at hi
  have h8:a.tmps[8]?=some (.int .i64 (p:Nat)):=F 8 rfl
  have HI:=Lib.hid hi
  clear H F hi hL
  go_wp2_with fail
  exact hK _ _ (Below.refl _ _) HI.out rfl
 ·intro L a wy Q' hL hi H F hK
  try dsimp only at hi
  have h4:a.tmps[4]?=some (.pointer (some ⟨kb,0,none⟩)):=F 4 rfl
  have HI:=Lib.hid hi
  clear H F hi hL
  have kq0:wy.cell? ⟨kb,0,none⟩=some (.int .i64 k.src):=(stays HI.out.2.1 HK.out HKBN.out).cell 0
  have kq1:wy.cell? ⟨kb,1,none⟩=some (.int .i64 k.tgt):=(stays HI.out.2.1 HK.out HKBN.out).cell 1
  have kq2:wy.cell? ⟨kb,2,none⟩=some (.int .i64 k.cls):=(stays HI.out.2.1 HK.out HKBN.out).cell 2
  have kq3:wy.cell? ⟨kb,3,none⟩=some (.int .i64 k.cond):=(stays HI.out.2.1 HK.out HKBN.out).cell 3
  go_wp2_with fail
  exact hK _ _ (Below.refl _ _) HI.out rfl
 ·intro L a wy Q' hL hi H F hK
  try dsimp only at hi
  obtain⟨_,h36,rfl⟩:=H 6 ⟨.data,by simp,rfl⟩ _ rfl
  replace h36:=h36 _ rfl
  have HI:=Lib.hid hi
  clear H F hi
  have HK9:=Lib.hid hK
  clear hK
  go_wp2_with fail
  exact HK9.out _ _ ((Below.refl _ _).alloc (Nat.le_refl _) _) ⟨fun h=>(HI.out.1 h).alloc (HI.out.1 h).size _,(fun b hb hn=>by rw[(Below.heap_alloc _ _ b (Nat.lt_of_lt_of_le hb HI.out.2.2.size))];exact HI.out.2.1 b hb hn),HI.out.2.2.alloc (Nat.le_trans HBS.out HI.out.2.2.size) _⟩ (fun h=>⟨wy.heap.size,rfl,(HI.out.1 h).size,Whole.new wy 102 _⟩)
 ·intro L a wy Q' hL hi H F hK
  try dsimp only at hi
  obtain⟨_,h34,rfl⟩:=H 4 ⟨.data,by simp,rfl⟩ _ rfl
  replace h34:=h34 _ rfl
  obtain⟨_,h35,rfl⟩:=H 5 ⟨.data,by simp,rfl⟩ _ rfl
  replace h35:=h35 _ rfl
  obtain⟨v37,h37,hv37⟩:=H 7 ⟨.data,by simp,rfl⟩ _ rfl
  replace h37:=h37 _ rfl
  have HV37:=Lib.hid hv37
  clear hv37
  have HI:=Lib.hid hi
  clear H F hi
  obtain⟨g,rfl,hg,hw⟩:=HV37.out hL
  have HW:=Lib.hid hw
  have HG:=Lib.hid hg
  have HK9:=Lib.hid hK
  have HL8:=Lib.hid hL
  clear hK hw hg HV37 hL
  go_wp2_with (go_at_call 205;go_must (refine(HC.out wy g (HI.out.1 HL8.out) HW.out (fun e=>absurd (HOB.out _ e) (Nat.not_lt.2 HG.out))).mono ?_;rintro e w1 ⟨v1,rfl,ho1,hg1⟩))
  exact HK9.out _ _ (show KeepAll _ _ _ _ _ _ _ _ from⟨(fun _ _ _ _ h=>h),(fun _ _ _ _ h=>h),(fun _ _ _ _ h=>h),(fun _ _ _ _ h=>h),(fun _ _ _ _ h=>h),(fun _ _ _ _ h=>h),(fun _ _ _ _ h=>h),(fun _ _ _ _ h=>fun h5=>by simp[upd] at h5),(fun h=>absurd rfl h),(fun _ _ _ _ h=>h),(fun _ _ _ _ h=>h),trivial⟩) ⟨fun h=>by simp[upd] at h,(fun b hb hn=>by rw[hg1.block b (Nat.lt_of_lt_of_le hb HI.out.2.2.size) (fun e=>hn e.symm)];exact HI.out.2.1 b hb hn),HI.out.2.2.grown hg1 (Nat.le_trans HBS.out HI.out.2.2.size) (fun q hq=>HOL.out q hq)⟩ ho1
 ·intro L a wy Q' hL hi H F hK
  try dsimp only at hi
  obtain⟨_,h30,rfl⟩:=H 0 ⟨.data,by simp,rfl⟩ _ rfl
  replace h30:=h30 _ rfl
  have HI:=Lib.hid hi
  clear H F hi hL
  go_wp2_with fail
  exact hK _ _ (Below.refl _ _) HI.out rfl
 ·intro L a wy Q' hL hi H F hK
  try dsimp only at hi
  obtain⟨_,h39,rfl⟩:=H 9 ⟨.data,by simp,rfl⟩ _ rfl
  replace h39:=h39 _ rfl
  have HI:=Lib.hid hi
  clear H F hi hL
  go_wp2_with fail
  exact hK _ _ (Below.refl _ _) HI.out rfl
 ·intro a wy L hl hi hL Q' hK
  try dsimp only at hi
  have HB:=Lib.hid hi
  clear hi hL
  obtain⟨_,rfl,_,rfl,_,rfl,_,rfl,_,rfl,_,rfl,_,rfl,u37,hu37,u38,hu38,_,rfl,_,rfl,rfl⟩:=hl
  have HU37:=Lib.hid hu37
  clear hu37
  have HU38:=Lib.hid hu38
  clear hu38
  simp only[List.setIfInBounds_toArray,List.set_cons_zero,List.set_cons_succ]
  obtain⟨ua,uc,hua⟩:=own_shape HU38.out
  subst hua
  have HWS:=Lib.hid (stays HB.out.2.1 HS.out HSBN.out)
  go_wp2_with (refine wpList_store_blk rfl 119 _ _ rfl sb 1 (.slice ua (n+1) uc) rfl rfl 121 _ HWS.out (by simp[Value.cells]) size119 rfl ?_;intro w9 S9 W9;have HS9:=Lib.hid S9;have HW9:=Lib.hid (show Whole w9 sb 121 #[.map (some mb),.slice ua (n+1) uc] from W9);clear S9 W9)
  exact HEND.out _ _ _ _ _ _ _ _ _ _ _ _ w9 ⟨HW9.out,HS9.out.own HU38.out (own_blk_far HU38.out HWS.out (by decide)),(fun b hb hs hn=>by rw[HS9.out.block b hs];exact HB.out.2.1 b hb hn),HB.out.2.2.trans (HS9.out.below HBL.out)⟩
set_option maxRecDepth 100000 in
set_option maxHeartbeats 4000000 in
theorem put5 (w:World) (sb kb vb mb:Nat) (kv:Value) (k:Key4) (v:AVec) (Post:World→World→Prop) (x1 x2 x3 x6 x7 x8 x9 x10 x11 x12 x13 x14 x15 x16 x17 x18 x19 x20 x21 x22 x23 x24 x25 x26 x27 x28 x29 x30 x31 x32 x33 x34 x35 x36 x37 x38 x39 x40 x41 x42 x43 x44 x45 x46:Value) (HS:Hid (Whole w sb 121 #[.map (some mb),kv])) (HK:Hid (Whole w kb 102 #[.int .i64 k.src,.int .i64 k.tgt,.int .i64 k.cls,.int .i64 k.cond])) (HV:Hid (Whole w vb 104 #[.int .u32 v.allow,.int .u32 v.audit,.int .u32 v.dont])) (HP:Hid (∀ W,RowKit.Below w.heap.size w W→∃ w',(Instr.mapUpdate 118 (.map (some mb)) (.agg #[.int .i64 k.src,.int .i64 k.tgt,.int .i64 k.cls,.int .i64 k.cond]) (.agg #[.int .u32 v.allow,.int .u32 v.audit,.int .u32 v.dont])).run Tryz.prog W=.ok () w'∧Post W w'))
 {Q':Exit→Act→World→Prop} (hend:∀ (v41 v42 v43 v44 v45 v46:Value) (W w':World),(RowKit.Below w.heap.size w W∧Post W w')→Q' .normal ⟨#[.pointer (some ⟨sb,0,none⟩),x1,x2,x3,.pointer (some ⟨kb,0,none⟩),.pointer (some ⟨vb,0,none⟩),x6,x7,x8,x9,x10,x11,x12,x13,x14,x15,x16,x17,x18,x19,x20,x21,x22,x23,x24,x25,x26,x27,x28,x29,x30,x31,x32,x33,x34,x35,x36,x37,x38,x39,x40,v41,v42,v43,v44,v45,v46],[]⟩ w') :
 Code.wp Tryz.prog (findRegion7 5 ((Tryz.f121.body).getD .skip)) Q' ⟨#[.pointer (some ⟨sb,0,none⟩),x1,x2,x3,.pointer (some ⟨kb,0,none⟩),.pointer (some ⟨vb,0,none⟩),x6,x7,x8,x9,x10,x11,x12,x13,x14,x15,x16,x17,x18,x19,x20,x21,x22,x23,x24,x25,x26,x27,x28,x29,x30,x31,x32,x33,x34,x35,x36,x37,x38,x39,x40,x41,x42,x43,x44,x45,x46],[]⟩ w:=by
 have HEND:=Lib.hid hend
 clear hend
 conv=>arg 2;whnf
 conv=>arg 4;dsimp only
 refine wp_region_goods [some 41,some 42,some 43,some 44,some 45,some 46] [isW (.pointer (some ⟨sb,0,none⟩)),isW (.pointer (some ⟨sb,0,none⟩)),isW (.pointer (some ⟨sb,0,none⟩)),isW (.map (some mb)),isW (.agg #[.int .i64 k.src,.int .i64 k.tgt,.int .i64 k.cls,.int .i64 k.cond]),isW (.agg #[.int .u32 v.allow,.int .u32 v.audit,.int .u32 v.dont])] (fun _ w'=>RowKit.Below w.heap.size w w') [] (by kernel_rfl) (by kernel_rfl) (by kernel_rfl) rfl (by decide) rfl rfl ((Below.refl _ _).drew) ⟨lastsW_is _,lastsW_is _,lastsW_is _,lastsW_is _,lastsW_is _,lastsW_is _,trivial⟩ ⟨?_,?_,?_,?_,?_,?_,?_⟩
 ·intro L a wy Q' hL hi H F hK
  try dsimp only at hi
  have h0:a.tmps[0]?=some (.pointer (some ⟨sb,0,none⟩)):=F 0 rfl
  have HI:=Lib.hid hi
  clear H F hi hL
  go_wp2_with fail
  exact hK _ _ (Below.refl _ _) HI.out rfl
 ·intro L a wy Q' hL hi H F hK
  try dsimp only at hi
  obtain⟨_,h41,rfl⟩:=H 0 ⟨.data,by simp,rfl⟩ _ rfl
  replace h41:=h41 _ rfl
  have HI:=Lib.hid hi
  clear H F hi hL
  go_wp2_with fail
  exact hK _ _ (Below.refl _ _) HI.out rfl
 ·intro L a wy Q' hL hi H F hK
  try dsimp only at hi
  obtain⟨_,h42,rfl⟩:=H 1 ⟨.data,by simp,rfl⟩ _ rfl
  replace h42:=h42 _ rfl
  have HI:=Lib.hid hi
  clear H F hi hL
  go_wp2_with fail
  exact hK _ _ (Below.refl _ _) HI.out rfl
 ·intro L a wy Q' hL hi H F hK
  try dsimp only at hi
  obtain⟨_,h43,rfl⟩:=H 2 ⟨.data,by simp,rfl⟩ _ rfl
  replace h43:=h43 _ rfl
  have HI:=Lib.hid hi
  clear H F hi hL
  have kq0:wy.cell? ⟨sb,0,none⟩=some (.map (some mb)):=(Whole.under HI.out HS.out (Whole.lt HS.out)).cell 0
  go_wp2_with fail
  exact hK _ _ (Below.refl _ _) HI.out rfl
 ·intro L a wy Q' hL hi H F hK
  try dsimp only at hi
  have h4:a.tmps[4]?=some (.pointer (some ⟨kb,0,none⟩)):=F 4 rfl
  have HI:=Lib.hid hi
  clear H F hi hL
  have kq0:wy.cell? ⟨kb,0,none⟩=some (.int .i64 k.src):=(Whole.under HI.out HK.out (Whole.lt HK.out)).cell 0
  have kq1:wy.cell? ⟨kb,1,none⟩=some (.int .i64 k.tgt):=(Whole.under HI.out HK.out (Whole.lt HK.out)).cell 1
  have kq2:wy.cell? ⟨kb,2,none⟩=some (.int .i64 k.cls):=(Whole.under HI.out HK.out (Whole.lt HK.out)).cell 2
  have kq3:wy.cell? ⟨kb,3,none⟩=some (.int .i64 k.cond):=(Whole.under HI.out HK.out (Whole.lt HK.out)).cell 3
  go_wp2_with fail
  exact hK _ _ (Below.refl _ _) HI.out rfl
 ·intro L a wy Q' hL hi H F hK
  try dsimp only at hi
  have h5:a.tmps[5]?=some (.pointer (some ⟨vb,0,none⟩)):=F 5 rfl
  have HI:=Lib.hid hi
  clear H F hi hL
  have kq0:wy.cell? ⟨vb,0,none⟩=some (.int .u32 v.allow):=(Whole.under HI.out HV.out (Whole.lt HV.out)).cell 0
  have kq1:wy.cell? ⟨vb,1,none⟩=some (.int .u32 v.audit):=(Whole.under HI.out HV.out (Whole.lt HV.out)).cell 1
  have kq2:wy.cell? ⟨vb,2,none⟩=some (.int .u32 v.dont):=(Whole.under HI.out HV.out (Whole.lt HV.out)).cell 2
  go_wp2_with fail
  exact hK _ _ (Below.refl _ _) HI.out rfl
 ·intro a wy L hl hi hL Q' hK
  try dsimp only at hi
  have HB:=Lib.hid hi
  clear hi hL
  obtain⟨_,rfl,_,rfl,_,rfl,_,rfl,_,rfl,_,rfl,rfl⟩:=hl
  simp only[List.setIfInBounds_toArray,List.set_cons_zero,List.set_cons_succ]
  go_wp2_with (refine wpList_put _ rfl (.tmp 44) (.tmp 45) (.tmp 46) 118 rfl (.map (some mb)) (.agg #[.int .i64 k.src,.int .i64 k.tgt,.int .i64 k.cls,.int .i64 k.cond]) (.agg #[.int .u32 v.allow,.int .u32 v.audit,.int .u32 v.dont]) rfl rfl rfl (Post wy) (HP.out wy HB.out) ?_;intro w9 hp;have HP9:=Lib.hid hp;clear hp)
  exact HEND.out _ _ _ _ _ _ wy w9 ⟨HB.out,HP9.out⟩
end Go.Proofs.YtdcofoaihmongaaGreat.V
namespace Go.Proofs.YtdcofoaihmongaaGreat.V
open Go Go.WideMaps Go.RowKit
theorem whole_ty {w:World} {a b:Nat} {s t:TypeId} {x y:Array Value} (h:Whole w a s x) (k:Whole w b t y) (hne:s≠t):a≠b:=fun e=>by
 subst e
 unfold Whole at h k
 rw[h] at k
 cases k
 exact hne rfl
theorem map_ne {w:World} {mb g:Nat} {t kt:TypeId} {cs:Array Value} {D:List (Value×Value)} (h:MapAt w Tryz.prog kt mb D) (k:Whole w g t cs):mb≠g:=fun e=>by
 subst e
 obtain⟨es,clock,hm,-⟩:=h.size
 unfold Whole at k
 rw[hm] at k
 cases k
theorem map_whole {w:World} {mb g:Nat} {t kt:TypeId} {cs:Array Value} {D:List (Value×Value)} (h:MapAt w Tryz.prog kt mb D) (k:Whole w g t cs) (e:mb=g):False:=map_ne h k e
theorem own_at {w:World} {base:Nat} {e:TypeId} {k n:Nat} {v:Value} {xs:List Value} (h:w.ownsRow base e k v n xs) {g:Nat} (hg:v.ownBlock=some g):∃ cur,w.heap[g]?=some (.cells cur e (0,0)):=by
 rcases h.2 with⟨rfl,_⟩ | ⟨g',cap,cur,rfl,_,hh,_⟩
 ·simp[Value.ownBlock] at hg
 ·have:g'=g:=by simpa[Value.ownBlock] using hg
  subst this
  exact⟨cur,hh⟩
theorem own_map {w:World} {base mb k n:Nat} {t kt:TypeId} {v:Value} {xs:List Value} {D:List (Value×Value)} (h:w.ownsRow base t k v n xs) (m:MapAt w Tryz.prog kt mb D):v.ownBlock≠some mb:=fun e=>by
 obtain⟨cur,hc⟩:=own_at h e
 obtain⟨es,clock,hm,-⟩:=m.size
 rw[hm] at hc
 cases hc
theorem set_keys {L:List AEntry} {j:Nat} {y:AEntry} {k:Key4} {v:AVec} (hj:L[j]?=some y) (hk:y.key=k):(L.set j (mkE k v)).map AEntry.key=L.map AEntry.key:=by
 rw[List.map_set]
 refine List.ext_getElem? fun i=>?_
 rw[List.getElem?_set]
 by_cases e:j=i
 ·subst e
  rw[if_pos rfl,if_pos (by simpa using(List.getElem?_eq_some_iff.1 hj).1),List.getElem?_map,hj,mkE_key,← hk]
  rfl
 ·rw[if_neg e]
theorem set_ord {L:List AEntry} {j:Nat} {y:AEntry} {k:Key4} {v:AVec} (h:L.Pairwise Bef) (hj:L[j]?=some y) (hk:y.key=k):(L.set j (mkE k v)).Pairwise Bef:=by
 have e:=set_keys (v:=v) hj hk
 have h1:(L.map AEntry.key).Pairwise (fun a b=>befB (mkE a AVec.zero) (mkE b AVec.zero)=true):=List.pairwise_map.2 (h.imp fun {a b} hab=>by rw[befB_key (show(mkE a.key AVec.zero).key=a.key from rfl) (show(mkE b.key AVec.zero).key=b.key from rfl)];exact hab)
 rw[← e] at h1
 exact(List.pairwise_map.1 h1).imp fun {a b} hab=>by
  rw[befB_key (show(mkE a.key AVec.zero).key=a.key from rfl) (show(mkE b.key AVec.zero).key=b.key from rfl)] at hab
  exact hab
theorem set_perm {L:List AEntry} {j:Nat} {y:AEntry} {k:Key4} {v:AVec} (hj:L[j]?=some y) (hk:y.key=k):∃ R,(L.map epair).Perm ((kval k,vval y.vecs)::R)∧((kval k,vval v)::R).Perm ((L.set j (mkE k v)).map epair):=by
 obtain⟨hl,rfl⟩:=List.getElem?_eq_some_iff.1 hj
 refine⟨(L.take j++L.drop (j+1)).map epair,?_,?_⟩
 ·have e:L=L.take j++L[j]::L.drop (j+1):=by rw[← List.drop_eq_getElem_cons hl,List.take_append_drop]
  conv=>lhs;rw[e]
  rw[List.map_append,List.map_cons,List.map_append,← hk]
  exact List.perm_middle
 ·have e:L.set j (mkE k v)=L.take j++mkE k v::L.drop (j+1):=by rw[List.set_eq_take_append_cons_drop,if_pos hl]
  rw[e]
  simp only[List.map_append,List.map_cons]
  exact List.perm_middle.symm
set_option maxRecDepth 100000 in
set_option maxHeartbeats 4000000 in
theorem put_new (w:World) (base sb:Nat) (L:List AEntry) (k:Key4) (v:AVec) (h:StoreAt w base sb L) (hb:base≤w.heap.size) (hk:k.Ok) (hv:v.Ok) (hno:k∉L.map AEntry.key) (hlen:L.length≤100000000) :
 Calls Tryz.prog 121 #[.pointer (some ⟨sb,0,none⟩),.agg #[.int .i64 k.src,.int .i64 k.tgt,.int .i64 k.cls,.int .i64 k.cond],.agg #[.int .u32 v.allow,.int .u32 v.audit,.int .u32 v.dont]] w fun e w'=>e=.returned (.tuple #[])∧StoreAt w' base sb (ins (mkE k v) L)∧Chg base w w':=by
 obtain⟨mb,kv,hS,hM,hO,hsb,hmb⟩:=h.ex
 have HORD:=Lib.hid h.ord
 have HOKL:=Lib.hid h.ok
 have HKO:=Lib.hid hk
 have HVO:=Lib.hid hv
 have HBW:=Lib.hid hb
 have HSB:=Lib.hid hsb
 have HMB:=Lib.hid hmb
 obtain⟨wo,hwo⟩:∃ wo,wo=((w.alloc (.cells #[.int .i64 k.src,.int .i64 k.tgt,.int .i64 k.cls,.int .i64 k.cond] 102)).alloc (.cells #[.int .u32 v.allow,.int .u32 v.audit,.int .u32 v.dont] 104)):=⟨_,rfl⟩
 have HBO:=Lib.hid (show RowKit.Below w.heap.size w wo by rw[hwo];exact((Below.refl _ w).alloc (Nat.le_refl _) _).alloc (by simp) _)
 have HK0:=Lib.hid (show Whole wo w.heap.size 102 #[.int .i64 k.src,.int .i64 k.tgt,.int .i64 k.cls,.int .i64 k.cond] by rw[hwo];exact(Whole.new w 102 _).alloc _)
 have HV0:=Lib.hid (show Whole wo (w.heap.size+1) 104 #[.int .u32 v.allow,.int .u32 v.audit,.int .u32 v.dont] by rw[hwo];exact whole_two w _ #[.int .u32 v.allow,.int .u32 v.audit,.int .u32 v.dont] _)
 have HS0:=Lib.hid (Whole.under HBO.out hS hS.lt)
 have HM0:=Lib.hid (hM.kept (HBO.out.block _ hM.lt))
 have HO0:=Lib.hid (own_keep HBO.out hO (Nat.le_refl _))
 have HOW:=Lib.hid hO
 have HNO:=Lib.hid hno
 have HLEN:=Lib.hid hlen
 clear hno hlen h hk hv hb hS hM hO hsb hmb
 go_enter Tryz.func121,Tryz.ntmps121
 go_upto_region 1 with fail
 rw[← hwo]
 clear hwo
 refine put1 wo sb w.heap.size mb kv k (lookV L k) false _ _ _ _ _ _ _ _ _ _ _ _ _ _ _ _ _ _ _ _ _ _ _ _ _ _ _ _ _ _ _ _ _ _ _ _ _ _ _ _ _ _ _ _ _ HS0 HK0 (Lib.hid fun W hW=>by
  have h:=store_look2 (HM0.out.kept (hW.block _ HM0.out.lt)) HORD.out HKO.out
  rw[decide_eq_false HNO.out] at h
  exact h) ?_
 intro v6 v10 v11 v12 v13 v14 v15 v16 v17 v18 w1 hb1
 have HS1:=Lib.hid (Whole.under hb1 HS0.out HS0.out.lt)
 have HK1:=Lib.hid (Whole.under hb1 HK0.out HK0.out.lt)
 have HV1:=Lib.hid (Whole.under hb1 HV0.out HV0.out.lt)
 have HM1:=Lib.hid (HM0.out.kept (hb1.block _ HM0.out.lt))
 have HO1:=Lib.hid (own_keep hb1 HO0.out (Nat.le_refl _))
 have HB1:=Lib.hid (HBO.out.trans (hb1.mono HBO.out.size))
 clear hb1 HS0 HK0 HV0 HM0 HO0
 obtain⟨p,hp⟩:∃ p,p=posK (L.map AEntry.key) k:=⟨_,rfl⟩
 have HP:=Lib.hid hp
 clear hp
 go_upto_region 3 with fail
 refine put3 w1 sb w.heap.size mb p kv k _ _ _ _ _ _ _ _ _ _ _ _ _ _ _ _ _ _ _ _ _ _ _ _ _ _ _ _ _ _ _ _ _ _ _ _ _ _ _ _ _ _ _ _ _ HS1 HK1 (Lib.hid fun W hW=>by
  have h:=search_any W kv (L.map AEntry.key) k (by
   have h:=(SliceAt.of_own HO1.out (flat_one _)).keep hW
   rw[List.length_map]
   exact h) (by rw[List.length_map];have:=HLEN.out;omega) (keys_down HORD.out k)
  refine h.mono ?_
  rintro e w' ⟨q,f,rfl,hq,h1,h2,h3,h4⟩
  have hqp:q=p:=by
   rw[HP.out]
   exact place_one hq (posK_le _ _) h1 h2 (posK_lo _ _) (posK_hi _ _ (keys_down HORD.out k))
  subst hqp
  rw[h3 HNO.out]
  exact⟨rfl,h4⟩) ?_
 intro v9 v21 v22 v23 v24 v25 v26 v27 v28 v29 w2 hb2
 have HS2:=Lib.hid (Whole.under hb2 HS1.out HS1.out.lt)
 have HK2:=Lib.hid (Whole.under hb2 HK1.out HK1.out.lt)
 have HV2:=Lib.hid (Whole.under hb2 HV1.out HV1.out.lt)
 have HM2:=Lib.hid (HM1.out.kept (hb2.block _ HM1.out.lt))
 have HO2:=Lib.hid (own_keep hb2 HO1.out (Nat.le_refl _))
 have HB2:=Lib.hid (HB1.out.trans (hb2.mono HB1.out.size))
 have HOWB:=Lib.hid (show ∀ q,kv.ownBlock=some q→q<w.heap.size from fun q hq=>(HOW.out.lt q hq).2)
 clear hb2 HS1 HK1 HV1 HM1 HO1 HB1
 go_upto_region 4 with fail
 refine put4 w2 base sb w.heap.size mb p L.length kv k (flat ((L.map AEntry.key).take p++k::(L.map AEntry.key).drop p)) _ _ _ _ _ _ _ _ _ _ _ _ _ _ _ _ _ _ _ _ _ _ _ _ _ _ _ _ _ _ _ _ _ _ _ _ _ _ _ _ _ _ _ _ HS2 HK2 (Lib.hid (own_blk_far HO2.out HS2.out (by decide))) (Lib.hid fun e=>absurd (HOWB.out _ e) (Nat.lt_irrefl _)) (Lib.hid fun q hq=>(HO2.out.lt q hq).2) (Lib.hid fun q hq=>(HO2.out.lt q hq).1) (Lib.hid (Nat.le_trans HBW.out HB2.out.size)) HSB (Lib.hid fun W g hW hg hne=>by
  have h:=insertK_any W base g p kv (L.map AEntry.key) k (by rw[List.length_map];exact own_keep hW HO2.out (Nat.le_refl _)) (by rw[HP.out];exact posK_le _ _) (by rw[List.length_map];exact HLEN.out) hg hne (Nat.le_trans HBW.out (Nat.le_trans HB2.out.size hW.size))
  rw[List.length_map] at h
  exact h) ?_
 intro v30 v31 v32 v33 v34 v35 v36 v37 v38 v39 v40 kv4 w4 hf4
 have HF4:=Lib.hid hf4
 have HK4:=Lib.hid ((hf4.2.2.1 _ HK2.out.lt (fun e=>(whole_ty HK2.out HS2.out (by decide)) e) (fun e=>absurd (HOWB.out _ e) (Nat.lt_irrefl _))).trans HK2.out)
 have HV4:=Lib.hid ((hf4.2.2.1 _ HV2.out.lt (fun e=>(whole_ty HV2.out HS2.out (by decide)) e) (own_blk_far HO2.out HV2.out (by decide))).trans HV2.out)
 have HM4:=Lib.hid (HM2.out.kept (hf4.2.2.1 _ HM2.out.lt (map_ne HM2.out HS2.out) (own_map HO2.out HM2.out)))
 have HS4:=Lib.hid hf4.1
 have HO4:=Lib.hid hf4.2.1
 clear hf4
 go_upto_region 5 with fail
 refine put5 w4 sb w.heap.size (w.heap.size+1) mb kv4 k v (fun W w'=>MapAt w' Tryz.prog 102 mb ((kval k,vval v)::L.map epair)∧W.grownBy w' (some mb)∧w'.heap.size=W.heap.size) _ _ _ _ _ _ _ _ _ _ _ _ _ _ _ _ _ _ _ _ _ _ _ _ _ _ _ _ _ _ _ _ _ _ _ _ _ _ _ _ _ _ _ _ HS4 HK4 HV4 (Lib.hid fun W hW=>by
  obtain⟨l,hl⟩:=key_ok HKO.out
  exact(HM4.out.kept (hW.block _ HM4.out.lt)).put_new keyed60 Tryz.underlying118 hl (epair_key HNO.out)) ?_
 intro v41 v42 v43 v44 v45 v46 W w5 hf5
 have HF5:=Lib.hid hf5
 clear hf5
 go_wp2
 go_returns
 have hins:ins (mkE k v) L=L.take p++mkE k v::L.drop p:=ins_at HORD.out HNO.out (by rw[HP.out];have:=posK_le (L.map AEntry.key) k;simpa using this)
  (fun q y hq hy=>by
   rw[← cmpK_neg]
   exact posK_lo (L.map AEntry.key) k q y.key (by rw[← HP.out];exact hq) (by rw[List.getElem?_map,hy];rfl))
  (fun q y hq hy=>by
   cases e:befB y (mkE k v) with
   | false=>rfl
   | true =>
    rw[← cmpK_neg] at e
    exact absurd e (posK_hi (L.map AEntry.key) k (keys_down HORD.out k) q y.key (by rw[← HP.out];exact hq) (by rw[List.getElem?_map,hy];rfl)))
 have hb5:RowKit.Below w4.heap.size w4 W:=HF5.out.1
 have hSm:mb≠sb:=map_ne HM2.out HS2.out
 have hchg:Chg base w w5:=by
  refine⟨?_,fun g t cs hw h1 h2=>?_⟩
  ·have hm4:base≤w4.heap.size:=Nat.le_trans HBW.out (Nat.le_trans HB2.out.size HF4.out.2.2.2.size)
   refine(((HB2.out.mono HBW.out).trans HF4.out.2.2.2).trans (hb5.mono hm4)).grown HF5.out.2.2.1 (Nat.le_trans hm4 hb5.size) (fun q hq=>by cases hq;exact HMB.out)
  ·have hw2:Whole w2 g t cs:=Whole.under HB2.out hw hw.lt
   have hw4:Whole w4 g t cs:=(HF4.out.2.2.1 g hw2.lt (fun e=>whole_ty hw2 HS2.out h1 e) (own_blk_far HO2.out hw2 (fun e=>h2 e.symm))).trans hw2
   have hwW:Whole W g t cs:=Whole.under hb5 hw4 hw4.lt
   exact hwW.grown HF5.out.2.2.1 (fun e=>map_whole HM2.out hw2 (Option.some.inj e).symm)
 refine⟨rfl,⟨⟨mb,kv4,?_,?_,?_,HSB.out,HMB.out⟩,ins_sorted HORD.out,fun y hy=>?_⟩,hchg⟩
 ·exact(Whole.under hb5 HS4.out HS4.out.lt).grown HF5.out.2.2.1 (fun e=>hSm (Option.some.inj e).symm)
 ·rw[hins]
  refine HF5.out.2.1.perm ?_
  rw[List.map_append,List.map_cons]
  have e:L.map epair=(L.take p).map epair++(L.drop p).map epair:=by rw[← List.map_append,List.take_append_drop]
  rw[e]
  exact List.perm_middle.symm
 ·have ho:W.ownsRow base 102 4 kv4 (L.length+1) _:=own_keep hb5 HO4.out (Nat.le_refl _)
  have hl:(ins (mkE k v) L).length=L.length+1:=by rw[(ins_new HNO.out).length_eq];simp
  have hkeys:(ins (mkE k v) L).map AEntry.key=(L.map AEntry.key).take p++k::(L.map AEntry.key).drop p:=by rw[hins];simp[List.map_take,List.map_drop,mkE_key]
  rw[hl,hkeys]
  have hMW:MapAt W Tryz.prog 102 mb (L.map epair):=HM4.out.kept (hb5.block _ HM4.out.lt)
  exact ho.kept HF5.out.2.2.1 (.inr (own_map ho hMW))
 ·rcases List.mem_append.1 ((ins_new HNO.out).mem_iff.1 hy) with hy | hy
  ·exact HOKL.out y hy
  ·rw[List.mem_singleton] at hy
   subst hy
   exact⟨HKO.out,HVO.out⟩
set_option maxRecDepth 100000 in
set_option maxHeartbeats 4000000 in
theorem put_old (w:World) (base sb:Nat) (L:List AEntry) (k:Key4) (v:AVec) (h:StoreAt w base sb L) (hb:base≤w.heap.size) (hk:k.Ok) (hv:v.Ok) (j:Nat) (y:AEntry) (hj:L[j]?=some y) (hyk:y.key=k) :
 Calls Tryz.prog 121 #[.pointer (some ⟨sb,0,none⟩),.agg #[.int .i64 k.src,.int .i64 k.tgt,.int .i64 k.cls,.int .i64 k.cond],.agg #[.int .u32 v.allow,.int .u32 v.audit,.int .u32 v.dont]] w fun e w'=>e=.returned (.tuple #[])∧StoreAt w' base sb (L.set j (mkE k v))∧Chg base w w':=by
 obtain⟨mb,kv,hS,hM,hO,hsb,hmb⟩:=h.ex
 have HORD:=Lib.hid h.ord
 have HOKL:=Lib.hid h.ok
 have HKO:=Lib.hid hk
 have HVO:=Lib.hid hv
 have HBW:=Lib.hid hb
 have HSB:=Lib.hid hsb
 have HMB:=Lib.hid hmb
 obtain⟨wo,hwo⟩:∃ wo,wo=((w.alloc (.cells #[.int .i64 k.src,.int .i64 k.tgt,.int .i64 k.cls,.int .i64 k.cond] 102)).alloc (.cells #[.int .u32 v.allow,.int .u32 v.audit,.int .u32 v.dont] 104)):=⟨_,rfl⟩
 have HBO:=Lib.hid (show RowKit.Below w.heap.size w wo by rw[hwo];exact((Below.refl _ w).alloc (Nat.le_refl _) _).alloc (by simp) _)
 have HK0:=Lib.hid (show Whole wo w.heap.size 102 #[.int .i64 k.src,.int .i64 k.tgt,.int .i64 k.cls,.int .i64 k.cond] by rw[hwo];exact(Whole.new w 102 _).alloc _)
 have HV0:=Lib.hid (show Whole wo (w.heap.size+1) 104 #[.int .u32 v.allow,.int .u32 v.audit,.int .u32 v.dont] by rw[hwo];exact whole_two w _ #[.int .u32 v.allow,.int .u32 v.audit,.int .u32 v.dont] _)
 have HS0:=Lib.hid (Whole.under HBO.out hS hS.lt)
 have HM0:=Lib.hid (hM.kept (HBO.out.block _ hM.lt))
 have HO0:=Lib.hid (own_keep HBO.out hO (Nat.le_refl _))
 have HOW:=Lib.hid hO
 have HJ:=Lib.hid hj
 have HYK:=Lib.hid hyk
 clear hj hyk h hk hv hb hS hM hO hsb hmb
 go_enter Tryz.func121,Tryz.ntmps121
 go_upto_region 1 with fail
 rw[← hwo]
 clear hwo
 refine put1 wo sb w.heap.size mb kv k (lookV L k) true _ _ _ _ _ _ _ _ _ _ _ _ _ _ _ _ _ _ _ _ _ _ _ _ _ _ _ _ _ _ _ _ _ _ _ _ _ _ _ _ _ _ _ _ _ HS0 HK0 (Lib.hid fun W hW=>by
  have h:=store_look2 (HM0.out.kept (hW.block _ HM0.out.lt)) HORD.out HKO.out
  rw[decide_eq_true (show k∈L.map AEntry.key from List.mem_map.2 ⟨y,at_mem HJ.out,HYK.out⟩)] at h
  exact h) ?_
 intro v6 v10 v11 v12 v13 v14 v15 v16 v17 v18 w1 hb1
 have HS1:=Lib.hid (Whole.under hb1 HS0.out HS0.out.lt)
 have HK1:=Lib.hid (Whole.under hb1 HK0.out HK0.out.lt)
 have HV1:=Lib.hid (Whole.under hb1 HV0.out HV0.out.lt)
 have HM1:=Lib.hid (HM0.out.kept (hb1.block _ HM0.out.lt))
 have HO1:=Lib.hid (own_keep hb1 HO0.out (Nat.le_refl _))
 have HB1:=Lib.hid (HBO.out.trans (hb1.mono HBO.out.size))
 clear hb1 HS0 HK0 HV0 HM0 HO0
 go_upto_region 5 with fail
 refine put5 w1 sb w.heap.size (w.heap.size+1) mb kv k v (fun W w'=>MapAt w' Tryz.prog 102 mb ((L.set j (mkE k v)).map epair)∧W.grownBy w' (some mb)∧w'.heap.size=W.heap.size) _ _ _ _ _ _ _ _ _ _ _ _ _ _ _ _ _ _ _ _ _ _ _ _ _ _ _ _ _ _ _ _ _ _ _ _ _ _ _ _ _ _ _ _ HS1 HK1 HV1 (Lib.hid fun W hW=>by
  obtain⟨l,hl⟩:=key_ok HKO.out
  obtain⟨R,h1,h2⟩:=set_perm (v:=v) HJ.out HYK.out
  obtain⟨w',r1,r2,r3⟩:=(HM1.out.kept (hW.block _ HM1.out.lt)).put_old (val:=vval v) keyed60 Tryz.underlying118 hl h1
  exact⟨w',r1,r2.perm h2,r3⟩) ?_
 intro v41 v42 v43 v44 v45 v46 W w5 hf5
 have HF5:=Lib.hid hf5
 clear hf5
 go_wp2
 go_returns
 have hb5:RowKit.Below w1.heap.size w1 W:=HF5.out.1
 have hSm:mb≠sb:=map_ne HM1.out HS1.out
 have hbW:RowKit.Below w.heap.size w W:=HB1.out.trans (hb5.mono HB1.out.size)
 have hchg:Chg base w w5:=by
  refine⟨(hbW.mono HBW.out).grown HF5.out.2.2.1 (Nat.le_trans HBW.out hbW.size) (fun q hq=>by cases hq;exact HMB.out),fun g t cs hw _ _=>?_⟩
  exact(Whole.under hbW hw hw.lt).grown HF5.out.2.2.1 (fun e=>map_whole HM1.out (Whole.under HB1.out hw hw.lt) (Option.some.inj e).symm)
 refine⟨rfl,⟨⟨mb,kv,?_,HF5.out.2.1,?_,HSB.out,HMB.out⟩,set_ord HORD.out HJ.out HYK.out,fun z hz=>?_⟩,hchg⟩
 ·exact(Whole.under hb5 HS1.out HS1.out.lt).grown HF5.out.2.2.1 (fun e=>hSm (Option.some.inj e).symm)
 ·have ho:W.ownsRow base 102 4 kv L.length _:=own_keep hb5 HO1.out (Nat.le_refl _)
  have hMW:MapAt W Tryz.prog 102 mb (L.map epair):=HM1.out.kept (hb5.block _ HM1.out.lt)
  rw[List.length_set,set_keys HJ.out HYK.out]
  exact ho.kept HF5.out.2.2.1 (.inr (own_map ho hMW))
 ·rcases List.mem_or_eq_of_mem_set hz with hz | rfl
  ·exact HOKL.out z hz
  ·exact⟨HKO.out,HVO.out⟩
end Go.Proofs.YtdcofoaihmongaaGreat.V
namespace Go.Proofs.YtdcofoaihmongaaGreat.V
open Go Go.WideMaps Go.RowKit
theorem splice_all (cs:Array Value) (l:List Value) (h:cs.size=l.length):splice cs 0 l=l.toArray:=by
 apply Array.toList_inj.1
 rw[splice_toList _ _ _ (by omega)]
 simp[List.drop_of_length_le (show cs.toList.length≤l.length by simp[h])]
theorem cOf35:Tryz.prog.cellsOf 50=1:=by kernel_rfl
theorem info50:infoB (Tryz.prog.info? 50) 1 4=true:=by kernel_rfl
theorem equ (d:Nat) (a b:Int) (w:World):(Op.equalIn (d+1) 50 (.int .u32 a) (.int .u32 b)).run Tryz.prog w=.ok (decide (a=b)) w:=by
 by_cases h:a=b<;>simp[Op.equalIn,run_underlying Tryz.underlying50,h]
theorem equ9 (a b:Int) (w:World):(Op.equalIn 9999 50 (.int .u32 a) (.int .u32 b)).run Tryz.prog w=.ok (decide (a=b)) w:=equ 9998 a b w
theorem eq_vec (x0 x1 x2 y0 y1 y2:Int) (w:World):(Op.equalIn 10000 104 (.agg #[.int .u32 x0,.int .u32 x1,.int .u32 x2]) (.agg #[.int .u32 y0,.int .u32 y1,.int .u32 y2])).run Tryz.prog w=.ok (decide (x0=y0∧x1=y1∧x2=y2)) w:=by
 obtain⟨i0,z,hi,_⟩:=infoOf info50
 rw[show(10000:Nat)=9999+1 from rfl,run_equalIn_array w 9999 _ _ Tryz.underlying104 hi,cOf35]
 have p0:∀ x0 x1 x2:Int,(part 50 #[.int .u32 x0,.int .u32 x1,.int .u32 x2] (0*1)).run Tryz.prog w=.ok (.int .u32 x0) w:=fun x0 x1 x2=>by kernel_rfl
 have p1:∀ x0 x1 x2:Int,(part 50 #[.int .u32 x0,.int .u32 x1,.int .u32 x2] (1*1)).run Tryz.prog w=.ok (.int .u32 x1) w:=fun x0 x1 x2=>by kernel_rfl
 have p2:∀ x0 x1 x2:Int,(part 50 #[.int .u32 x0,.int .u32 x1,.int .u32 x2] (2*1)).run Tryz.prog w=.ok (.int .u32 x2) w:=fun x0 x1 x2=>by kernel_rfl
 rw[show List.range 3=[0,1,2] from rfl]
 simp only[Op.eqItems,Sem.run_bind,p0,Result.andThen_ok,equ9]
 by_cases h0:x0=y0<;>by_cases h1:x1=y1<;>by_cases h2:x2=y2<;>simp[h0,h1,h2,Sem.run_bind,p1,p2,equ9]
theorem eq_fields {xs ys:Array Value} {W:World} {d:Nat}:∀ (fs:List Field) (rs:List Bool),fs.length=rs.length→(fs.all fun f=>f.name != "_")=true→(∀ (i:Nat) (f:Field) (r:Bool),fs[i]?=some f→rs[i]?=some r→∃ x y,(part f.type xs f.offset).run Tryz.prog W=.ok x W∧(part f.type ys f.offset).run Tryz.prog W=.ok y W∧(Op.equalIn d f.type x y).run Tryz.prog W=.ok r W)→(Op.eqFields d xs ys fs).run Tryz.prog W=.ok (rs.all id) W
 | [],[],_,_,_=>rfl
 | f::fs,r::rs,hl,hn,h=>by
  obtain⟨x,y,h1,h2,h3⟩:=h 0 f r rfl rfl
  have ih:=eq_fields fs rs (by simpa using hl) (by simp at hn;simpa using hn.2) fun i g s hg hs=>h (i+1) g s (by simpa using hg) (by simpa using hs)
  unfold Op.eqFields
  have hne:f.name≠"_":=by simp at hn;exact hn.1
  rw[if_pos hne]
  simp only[Sem.run_bind,h1,h2,h3,Result.andThen_ok]
  cases r with
  | false=>simp
  | true=>simpa using ih
 | [],_::_,h,_,_=>by simp at h
 | _::_,[],h,_,_=>by simp at h
set_option maxRecDepth 100000 in
set_option maxHeartbeats 4000000 in
theorem add2 (w:World) (sb kb mb:Nat) (kv:Value) (k:Key4) (u:AVec) (x1 x2 x3 x5 x6 x7 x8 x9 x10 x11 x12 x13 x14 x15 x16 x17 x18 x19 x20 x21 x22 x23 x24 x25 x26 x27 x28 x29 x30 x31 x32:Value) (HS:Hid (Whole w sb 121 #[.map (some mb),kv])) (HK:Hid (Whole w kb 102 #[.int .i64 k.src,.int .i64 k.tgt,.int .i64 k.cls,.int .i64 k.cond])) (HL:Hid (∀ W,RowKit.Below w.heap.size w W→(Instr.lookup 118 (.map (some mb)) (.agg #[.int .i64 k.src,.int .i64 k.tgt,.int .i64 k.cls,.int .i64 k.cond]) false).run Tryz.prog W=.ok (.agg #[.int .u32 u.allow,.int .u32 u.audit,.int .u32 u.dont]) W))
 {Q':Exit→Act→World→Prop} (hend:∀ (v11 v12 v13 v14 v15 v16:Value) (g:Nat) (w':World),(Whole w' g 104 #[.int .u32 u.allow,.int .u32 u.audit,.int .u32 u.dont]∧w.heap.size≤g∧RowKit.Below w.heap.size w w')→Q' .normal ⟨#[.pointer (some ⟨sb,0,none⟩),x1,x2,x3,.pointer (some ⟨kb,0,none⟩),x5,.pointer (some ⟨g,0,none⟩),x7,x8,x9,x10,v11,v12,v13,v14,v15,v16,x17,x18,x19,x20,x21,x22,x23,x24,x25,x26,x27,x28,x29,x30,x31,x32],[]⟩ w') :
 Code.wp Tryz.prog (findRegion7 2 ((Tryz.f56.body).getD .skip)) Q' ⟨#[.pointer (some ⟨sb,0,none⟩),x1,x2,x3,.pointer (some ⟨kb,0,none⟩),x5,x6,x7,x8,x9,x10,x11,x12,x13,x14,x15,x16,x17,x18,x19,x20,x21,x22,x23,x24,x25,x26,x27,x28,x29,x30,x31,x32],[]⟩ w:=by
 have HEND:=Lib.hid hend
 clear hend
 conv=>arg 2;whnf
 conv=>arg 4;dsimp only
 refine wp_region_goods [some 11,some 12,some 13,some 14,some 15,some 16,some 6] [isW (.pointer (some ⟨sb,0,none⟩)),isW (.pointer (some ⟨sb,0,none⟩)),isW (.pointer (some ⟨sb,0,none⟩)),isW (.map (some mb)),isW (.agg #[.int .i64 k.src,.int .i64 k.tgt,.int .i64 k.cls,.int .i64 k.cond]),isW (.agg #[.int .u32 u.allow,.int .u32 u.audit,.int .u32 u.dont]),(fun _ v w'=>∃ g,v=.pointer (some ⟨g,0,none⟩)∧w.heap.size≤g∧Whole w' g 104 #[.int .u32 0,.int .u32 0,.int .u32 0])] (fun _ w'=>RowKit.Below w.heap.size w w') [] (by kernel_rfl) (by kernel_rfl) (by kernel_rfl) rfl (by decide) rfl rfl ((Below.refl _ _).drew) ⟨lastsW_is _,lastsW_is _,lastsW_is _,lastsW_is _,lastsW_is _,lastsW_is _,(fun L i v w1 w2 _ h hb=>let ⟨g,e,hg,hw⟩:=h;⟨g,e,hg,Whole.under hb hw hw.lt⟩),trivial⟩ ⟨?_,?_,?_,?_,?_,?_,?_,?_⟩
 ·intro L a wy Q' hL hi H F hK
  try dsimp only at hi
  have h0:a.tmps[0]?=some (.pointer (some ⟨sb,0,none⟩)):=F 0 rfl
  have HI:=Lib.hid hi
  clear H F hi hL
  go_wp2_with fail
  exact hK _ _ (Below.refl _ _) HI.out rfl
 ·intro L a wy Q' hL hi H F hK
  try dsimp only at hi
  obtain⟨_,h11,rfl⟩:=H 0 ⟨.data,by simp,rfl⟩ _ rfl
  replace h11:=h11 _ rfl
  have HI:=Lib.hid hi
  clear H F hi hL
  go_wp2_with fail
  exact hK _ _ (Below.refl _ _) HI.out rfl
 ·intro L a wy Q' hL hi H F hK
  try dsimp only at hi
  obtain⟨_,h12,rfl⟩:=H 1 ⟨.data,by simp,rfl⟩ _ rfl
  replace h12:=h12 _ rfl
  have HI:=Lib.hid hi
  clear H F hi hL
  go_wp2_with fail
  exact hK _ _ (Below.refl _ _) HI.out rfl
 ·intro L a wy Q' hL hi H F hK
  try dsimp only at hi
  obtain⟨_,h13,rfl⟩:=H 2 ⟨.data,by simp,rfl⟩ _ rfl
  replace h13:=h13 _ rfl
  have HI:=Lib.hid hi
  clear H F hi hL
  have kq0:wy.cell? ⟨sb,0,none⟩=some (.map (some mb)):=(Whole.under HI.out HS.out (Whole.lt HS.out)).cell 0
  go_wp2_with fail
  exact hK _ _ (Below.refl _ _) HI.out rfl
 ·intro L a wy Q' hL hi H F hK
  try dsimp only at hi
  have h4:a.tmps[4]?=some (.pointer (some ⟨kb,0,none⟩)):=F 4 rfl
  have HI:=Lib.hid hi
  clear H F hi hL
  have kq0:wy.cell? ⟨kb,0,none⟩=some (.int .i64 k.src):=(Whole.under HI.out HK.out (Whole.lt HK.out)).cell 0
  have kq1:wy.cell? ⟨kb,1,none⟩=some (.int .i64 k.tgt):=(Whole.under HI.out HK.out (Whole.lt HK.out)).cell 1
  have kq2:wy.cell? ⟨kb,2,none⟩=some (.int .i64 k.cls):=(Whole.under HI.out HK.out (Whole.lt HK.out)).cell 2
  have kq3:wy.cell? ⟨kb,3,none⟩=some (.int .i64 k.cond):=(Whole.under HI.out HK.out (Whole.lt HK.out)).cell 3
  go_wp2_with fail
  exact hK _ _ (Below.refl _ _) HI.out rfl
 ·intro L a wy Q' hL hi H F hK
  try dsimp only at hi
  obtain⟨_,h14,rfl⟩:=H 3 ⟨.data,by simp,rfl⟩ _ rfl
  replace h14:=h14 _ rfl
  obtain⟨_,h15,rfl⟩:=H 4 ⟨.data,by simp,rfl⟩ _ rfl
  replace h15:=h15 _ rfl
  have HI:=Lib.hid hi
  clear H F hi hL
  have q:=HL.out wy HI.out
  go_wp2_with fail
  exact hK _ _ (Below.refl _ _) HI.out rfl
 ·intro L a wy Q' hL hi H F hK
  try dsimp only at hi
  have HI:=Lib.hid hi
  clear H F hi hL
  have HK9:=Lib.hid hK
  clear hK
  go_wp2_with fail
  exact HK9.out _ _ ((Below.refl _ _).alloc (Nat.le_refl _) _) (HI.out.alloc HI.out.size _) ⟨wy.heap.size,rfl,HI.out.size,Whole.new wy 104 _⟩
 ·intro a wy L hl hi hL Q' hK
  try dsimp only at hi
  have HB:=Lib.hid hi
  clear hi hL
  obtain⟨_,rfl,_,rfl,_,rfl,_,rfl,_,rfl,_,rfl,u6,hu6,rfl⟩:=hl
  have HU6:=Lib.hid hu6
  clear hu6
  simp only[List.setIfInBounds_toArray,List.set_cons_zero,List.set_cons_succ]
  obtain⟨g,rfl,hg,hw⟩:=HU6.out
  have HG:=Lib.hid hg
  have HW:=Lib.hid hw
  clear hg hw
  go_wp2_with (refine wpList_store_blk rfl 104 _ _ rfl g 0 (.agg #[.int .u32 u.allow,.int .u32 u.audit,.int .u32 u.dont]) rfl rfl 104 _ HW.out (by simp[Value.cells]) size104 rfl ?_;intro w9 S9 W9;rw[splice_all _ _ (by rfl)] at W9;have HS9:=Lib.hid S9;have HW9:=Lib.hid (show Whole w9 g 104 #[.int .u32 u.allow,.int .u32 u.audit,.int .u32 u.dont] from W9);clear S9 W9)
  exact HEND.out _ _ _ _ _ _ g w9 ⟨HW9.out,HG.out,HB.out.trans (HS9.out.below HG.out)⟩
set_option maxRecDepth 100000 in
set_option maxHeartbeats 4000000 in
theorem add6_0 (w:World) (vb g:Nat) (a0 a1 a2 b0 b1 b2:Int) (x0 x1 x2 x3 x4 x8 x9 x10 x11 x12 x13 x14 x15 x16 x17 x18 x19 x20 x21 x22 x23 x24 x25 x26 x27 x28 x29 x30 x31 x32:Value) (HG:Hid (Whole w g 104 #[.int .u32 a0,.int .u32 a1,.int .u32 a2])) (HV:Hid (Whole w vb 104 #[.int .u32 b0,.int .u32 b1,.int .u32 b2]))
 {Q':Exit→Act→World→Prop} (hend:∀ (v20 v21 v22 v23 v24 v25 v26 v27:Value) (w':World),(Whole w' g 104 #[.int .u32 (bits .or .u32 a0 b0),.int .u32 a1,.int .u32 a2]∧∀ B,B≤g→B≤w.heap.size→RowKit.Below B w w')→Q' .normal ⟨#[x0,x1,x2,x3,x4,.pointer (some ⟨vb,0,none⟩),.pointer (some ⟨g,0,none⟩),.int .i64 0,x8,x9,x10,x11,x12,x13,x14,x15,x16,x17,x18,x19,v20,v21,v22,v23,v24,v25,v26,v27,x28,x29,x30,x31,x32],[]⟩ w') :
 Code.wp Tryz.prog (findRegion7 6 ((Tryz.f56.body).getD .skip)) Q' ⟨#[x0,x1,x2,x3,x4,.pointer (some ⟨vb,0,none⟩),.pointer (some ⟨g,0,none⟩),.int .i64 0,x8,x9,x10,x11,x12,x13,x14,x15,x16,x17,x18,x19,x20,x21,x22,x23,x24,x25,x26,x27,x28,x29,x30,x31,x32],[]⟩ w:=by
 have HEND:=Lib.hid hend
 clear hend
 conv=>arg 2;whnf
 conv=>arg 4;dsimp only
 refine wp_region_goods [some 20,some 21,some 22,some 23,some 24,some 25,some 26,some 27] [isW (.int .i64 0),isW (.pointer (some ⟨g,0,none⟩)),isW (.int .u32 a0),isW (.int .i64 0),isW (.pointer (some ⟨vb,0,none⟩)),isW (.int .u32 b0),isW (.int .u32 (bits .or .u32 a0 b0)),isW (.pointer (some ⟨g,0,none⟩))] (fun _ w'=>RowKit.Below w.heap.size w w') [] (by kernel_rfl) (by kernel_rfl) (by kernel_rfl) rfl (by decide) rfl rfl ((Below.refl _ _).drew) ⟨lastsW_is _,lastsW_is _,lastsW_is _,lastsW_is _,lastsW_is _,lastsW_is _,lastsW_is _,lastsW_is _,trivial⟩ ⟨?_,?_,?_,?_,?_,?_,?_,?_,?_⟩
 ·intro L a wy Q' hL hi H F hK
  try dsimp only at hi
  have h7:a.tmps[7]?=some (.int .i64 0):=F 7 rfl
  have HI:=Lib.hid hi
  clear H F hi hL
  go_wp2_with fail
  exact hK _ _ (Below.refl _ _) HI.out rfl
 ·intro L a wy Q' hL hi H F hK
  try dsimp only at hi
  obtain⟨_,h20,rfl⟩:=H 0 ⟨.data,by simp,rfl⟩ _ rfl
  replace h20:=h20 _ rfl
  have h6:a.tmps[6]?=some (.pointer (some ⟨g,0,none⟩)):=F 6 rfl
  have HI:=Lib.hid hi
  clear H F hi hL
  go_wp2_with fail
  exact hK _ _ (Below.refl _ _) HI.out rfl
 ·intro L a wy Q' hL hi H F hK
  try dsimp only at hi
  obtain⟨_,h21,rfl⟩:=H 1 ⟨.data,by simp,rfl⟩ _ rfl
  replace h21:=h21 _ rfl
  have HI:=Lib.hid hi
  clear H F hi hL
  have kq0:wy.cell? ⟨g,0,none⟩=some (.int .u32 a0):=(Whole.under HI.out HG.out (Whole.lt HG.out)).cell 0
  go_wp2_with fail
  exact hK _ _ (Below.refl _ _) HI.out rfl
 ·intro L a wy Q' hL hi H F hK
  try dsimp only at hi
  have h7:a.tmps[7]?=some (.int .i64 0):=F 7 rfl
  have HI:=Lib.hid hi
  clear H F hi hL
  go_wp2_with fail
  exact hK _ _ (Below.refl _ _) HI.out rfl
 ·intro L a wy Q' hL hi H F hK
  try dsimp only at hi
  obtain⟨_,h23,rfl⟩:=H 3 ⟨.data,by simp,rfl⟩ _ rfl
  replace h23:=h23 _ rfl
  have h5:a.tmps[5]?=some (.pointer (some ⟨vb,0,none⟩)):=F 5 rfl
  have HI:=Lib.hid hi
  clear H F hi hL
  go_wp2_with fail
  exact hK _ _ (Below.refl _ _) HI.out rfl
 ·intro L a wy Q' hL hi H F hK
  try dsimp only at hi
  obtain⟨_,h24,rfl⟩:=H 4 ⟨.data,by simp,rfl⟩ _ rfl
  replace h24:=h24 _ rfl
  have HI:=Lib.hid hi
  clear H F hi hL
  have kq0:wy.cell? ⟨vb,0,none⟩=some (.int .u32 b0):=(Whole.under HI.out HV.out (Whole.lt HV.out)).cell 0
  go_wp2_with fail
  exact hK _ _ (Below.refl _ _) HI.out rfl
 ·intro L a wy Q' hL hi H F hK
  try dsimp only at hi
  obtain⟨_,h22,rfl⟩:=H 2 ⟨.data,by simp,rfl⟩ _ rfl
  replace h22:=h22 _ rfl
  obtain⟨_,h25,rfl⟩:=H 5 ⟨.data,by simp,rfl⟩ _ rfl
  replace h25:=h25 _ rfl
  have HI:=Lib.hid hi
  clear H F hi hL
  go_wp2_with fail
  exact hK _ _ (Below.refl _ _) HI.out rfl
 ·intro L a wy Q' hL hi H F hK
  try dsimp only at hi
  obtain⟨_,h20,rfl⟩:=H 0 ⟨.data,by simp,rfl⟩ _ rfl
  replace h20:=h20 _ rfl
  have h6:a.tmps[6]?=some (.pointer (some ⟨g,0,none⟩)):=F 6 rfl
  have HI:=Lib.hid hi
  clear H F hi hL
  go_wp2_with fail
  exact hK _ _ (Below.refl _ _) HI.out rfl
 ·intro a wy L hl hi hL Q' hK
  try dsimp only at hi
  have HB:=Lib.hid hi
  clear hi hL
  obtain⟨_,rfl,_,rfl,_,rfl,_,rfl,_,rfl,_,rfl,_,rfl,_,rfl,rfl⟩:=hl
  simp only[List.setIfInBounds_toArray,List.set_cons_zero,List.set_cons_succ]
  have HW:=Lib.hid (Whole.under HB.out HG.out (Whole.lt HG.out))
  go_wp2_with (refine wpList_store_blk rfl 50 _ _ rfl g 0 (.int .u32 (bits .or .u32 a0 b0)) rfl rfl 104 _ HW.out (by simp[Value.cells]) size50 rfl ?_;intro w9 S9 W9;have HS9:=Lib.hid S9;have HW9:=Lib.hid (show Whole w9 g 104 #[.int .u32 (bits .or .u32 a0 b0),.int .u32 a1,.int .u32 a2] from W9);clear S9 W9)
  exact HEND.out _ _ _ _ _ _ _ _ w9 ⟨HW9.out,fun B h1 h2=>(HB.out.mono h2).trans (HS9.out.below h1)⟩
set_option maxRecDepth 100000 in
set_option maxHeartbeats 4000000 in
theorem add6_1 (w:World) (vb g:Nat) (a0 a1 a2 b0 b1 b2:Int) (x0 x1 x2 x3 x4 x8 x9 x10 x11 x12 x13 x14 x15 x16 x17 x18 x19 x20 x21 x22 x23 x24 x25 x26 x27 x28 x29 x30 x31 x32:Value) (HG:Hid (Whole w g 104 #[.int .u32 a0,.int .u32 a1,.int .u32 a2])) (HV:Hid (Whole w vb 104 #[.int .u32 b0,.int .u32 b1,.int .u32 b2]))
 {Q':Exit→Act→World→Prop} (hend:∀ (v20 v21 v22 v23 v24 v25 v26 v27:Value) (w':World),(Whole w' g 104 #[.int .u32 a0,.int .u32 (bits .or .u32 a1 b1),.int .u32 a2]∧∀ B,B≤g→B≤w.heap.size→RowKit.Below B w w')→Q' .normal ⟨#[x0,x1,x2,x3,x4,.pointer (some ⟨vb,0,none⟩),.pointer (some ⟨g,0,none⟩),.int .i64 1,x8,x9,x10,x11,x12,x13,x14,x15,x16,x17,x18,x19,v20,v21,v22,v23,v24,v25,v26,v27,x28,x29,x30,x31,x32],[]⟩ w') :
 Code.wp Tryz.prog (findRegion7 6 ((Tryz.f56.body).getD .skip)) Q' ⟨#[x0,x1,x2,x3,x4,.pointer (some ⟨vb,0,none⟩),.pointer (some ⟨g,0,none⟩),.int .i64 1,x8,x9,x10,x11,x12,x13,x14,x15,x16,x17,x18,x19,x20,x21,x22,x23,x24,x25,x26,x27,x28,x29,x30,x31,x32],[]⟩ w:=by
 have HEND:=Lib.hid hend
 clear hend
 conv=>arg 2;whnf
 conv=>arg 4;dsimp only
 refine wp_region_goods [some 20,some 21,some 22,some 23,some 24,some 25,some 26,some 27] [isW (.int .i64 1),isW (.pointer (some ⟨g,1,none⟩)),isW (.int .u32 a1),isW (.int .i64 1),isW (.pointer (some ⟨vb,1,none⟩)),isW (.int .u32 b1),isW (.int .u32 (bits .or .u32 a1 b1)),isW (.pointer (some ⟨g,1,none⟩))] (fun _ w'=>RowKit.Below w.heap.size w w') [] (by kernel_rfl) (by kernel_rfl) (by kernel_rfl) rfl (by decide) rfl rfl ((Below.refl _ _).drew) ⟨lastsW_is _,lastsW_is _,lastsW_is _,lastsW_is _,lastsW_is _,lastsW_is _,lastsW_is _,lastsW_is _,trivial⟩ ⟨?_,?_,?_,?_,?_,?_,?_,?_,?_⟩
 ·intro L a wy Q' hL hi H F hK
  try dsimp only at hi
  have h7:a.tmps[7]?=some (.int .i64 1):=F 7 rfl
  have HI:=Lib.hid hi
  clear H F hi hL
  go_wp2_with fail
  exact hK _ _ (Below.refl _ _) HI.out rfl
 ·intro L a wy Q' hL hi H F hK
  try dsimp only at hi
  obtain⟨_,h20,rfl⟩:=H 0 ⟨.data,by simp,rfl⟩ _ rfl
  replace h20:=h20 _ rfl
  have h6:a.tmps[6]?=some (.pointer (some ⟨g,0,none⟩)):=F 6 rfl
  have HI:=Lib.hid hi
  clear H F hi hL
  go_wp2_with fail
  exact hK _ _ (Below.refl _ _) HI.out rfl
 ·intro L a wy Q' hL hi H F hK
  try dsimp only at hi
  obtain⟨_,h21,rfl⟩:=H 1 ⟨.data,by simp,rfl⟩ _ rfl
  replace h21:=h21 _ rfl
  have HI:=Lib.hid hi
  clear H F hi hL
  have kq0:wy.cell? ⟨g,1,none⟩=some (.int .u32 a1):=(Whole.under HI.out HG.out (Whole.lt HG.out)).cell 1
  go_wp2_with fail
  exact hK _ _ (Below.refl _ _) HI.out rfl
 ·intro L a wy Q' hL hi H F hK
  try dsimp only at hi
  have h7:a.tmps[7]?=some (.int .i64 1):=F 7 rfl
  have HI:=Lib.hid hi
  clear H F hi hL
  go_wp2_with fail
  exact hK _ _ (Below.refl _ _) HI.out rfl
 ·intro L a wy Q' hL hi H F hK
  try dsimp only at hi
  obtain⟨_,h23,rfl⟩:=H 3 ⟨.data,by simp,rfl⟩ _ rfl
  replace h23:=h23 _ rfl
  have h5:a.tmps[5]?=some (.pointer (some ⟨vb,0,none⟩)):=F 5 rfl
  have HI:=Lib.hid hi
  clear H F hi hL
  go_wp2_with fail
  exact hK _ _ (Below.refl _ _) HI.out rfl
 ·intro L a wy Q' hL hi H F hK
  try dsimp only at hi
  obtain⟨_,h24,rfl⟩:=H 4 ⟨.data,by simp,rfl⟩ _ rfl
  replace h24:=h24 _ rfl
  have HI:=Lib.hid hi
  clear H F hi hL
  have kq0:wy.cell? ⟨vb,1,none⟩=some (.int .u32 b1):=(Whole.under HI.out HV.out (Whole.lt HV.out)).cell 1
  go_wp2_with fail
  exact hK _ _ (Below.refl _ _) HI.out rfl
 ·intro L a wy Q' hL hi H F hK
  try dsimp only at hi
  obtain⟨_,h22,rfl⟩:=H 2 ⟨.data,by simp,rfl⟩ _ rfl
  replace h22:=h22 _ rfl
  obtain⟨_,h25,rfl⟩:=H 5 ⟨.data,by simp,rfl⟩ _ rfl
  replace h25:=h25 _ rfl
  have HI:=Lib.hid hi
  clear H F hi hL
  go_wp2_with fail
  exact hK _ _ (Below.refl _ _) HI.out rfl
 ·intro L a wy Q' hL hi H F hK
  try dsimp only at hi
  obtain⟨_,h20,rfl⟩:=H 0 ⟨.data,by simp,rfl⟩ _ rfl
  replace h20:=h20 _ rfl
  have h6:a.tmps[6]?=some (.pointer (some ⟨g,0,none⟩)):=F 6 rfl
  have HI:=Lib.hid hi
  clear H F hi hL
  go_wp2_with fail
  exact hK _ _ (Below.refl _ _) HI.out rfl
 ·intro a wy L hl hi hL Q' hK
  try dsimp only at hi
  have HB:=Lib.hid hi
  clear hi hL
  obtain⟨_,rfl,_,rfl,_,rfl,_,rfl,_,rfl,_,rfl,_,rfl,_,rfl,rfl⟩:=hl
  simp only[List.setIfInBounds_toArray,List.set_cons_zero,List.set_cons_succ]
  have HW:=Lib.hid (Whole.under HB.out HG.out (Whole.lt HG.out))
  go_wp2_with (refine wpList_store_blk rfl 50 _ _ rfl g 1 (.int .u32 (bits .or .u32 a1 b1)) rfl rfl 104 _ HW.out (by simp[Value.cells]) size50 rfl ?_;intro w9 S9 W9;have HS9:=Lib.hid S9;have HW9:=Lib.hid (show Whole w9 g 104 #[.int .u32 a0,.int .u32 (bits .or .u32 a1 b1),.int .u32 a2] from W9);clear S9 W9)
  exact HEND.out _ _ _ _ _ _ _ _ w9 ⟨HW9.out,fun B h1 h2=>(HB.out.mono h2).trans (HS9.out.below h1)⟩
set_option maxRecDepth 100000 in
set_option maxHeartbeats 4000000 in
theorem add6_2 (w:World) (vb g:Nat) (a0 a1 a2 b0 b1 b2:Int) (x0 x1 x2 x3 x4 x8 x9 x10 x11 x12 x13 x14 x15 x16 x17 x18 x19 x20 x21 x22 x23 x24 x25 x26 x27 x28 x29 x30 x31 x32:Value) (HG:Hid (Whole w g 104 #[.int .u32 a0,.int .u32 a1,.int .u32 a2])) (HV:Hid (Whole w vb 104 #[.int .u32 b0,.int .u32 b1,.int .u32 b2]))
 {Q':Exit→Act→World→Prop} (hend:∀ (v20 v21 v22 v23 v24 v25 v26 v27:Value) (w':World),(Whole w' g 104 #[.int .u32 a0,.int .u32 a1,.int .u32 (bits .or .u32 a2 b2)]∧∀ B,B≤g→B≤w.heap.size→RowKit.Below B w w')→Q' .normal ⟨#[x0,x1,x2,x3,x4,.pointer (some ⟨vb,0,none⟩),.pointer (some ⟨g,0,none⟩),.int .i64 2,x8,x9,x10,x11,x12,x13,x14,x15,x16,x17,x18,x19,v20,v21,v22,v23,v24,v25,v26,v27,x28,x29,x30,x31,x32],[]⟩ w') :
 Code.wp Tryz.prog (findRegion7 6 ((Tryz.f56.body).getD .skip)) Q' ⟨#[x0,x1,x2,x3,x4,.pointer (some ⟨vb,0,none⟩),.pointer (some ⟨g,0,none⟩),.int .i64 2,x8,x9,x10,x11,x12,x13,x14,x15,x16,x17,x18,x19,x20,x21,x22,x23,x24,x25,x26,x27,x28,x29,x30,x31,x32],[]⟩ w:=by
 have HEND:=Lib.hid hend
 clear hend
 conv=>arg 2;whnf
 conv=>arg 4;dsimp only
 refine wp_region_goods [some 20,some 21,some 22,some 23,some 24,some 25,some 26,some 27] [isW (.int .i64 2),isW (.pointer (some ⟨g,2,none⟩)),isW (.int .u32 a2),isW (.int .i64 2),isW (.pointer (some ⟨vb,2,none⟩)),isW (.int .u32 b2),isW (.int .u32 (bits .or .u32 a2 b2)),isW (.pointer (some ⟨g,2,none⟩))] (fun _ w'=>RowKit.Below w.heap.size w w') [] (by kernel_rfl) (by kernel_rfl) (by kernel_rfl) rfl (by decide) rfl rfl ((Below.refl _ _).drew) ⟨lastsW_is _,lastsW_is _,lastsW_is _,lastsW_is _,lastsW_is _,lastsW_is _,lastsW_is _,lastsW_is _,trivial⟩ ⟨?_,?_,?_,?_,?_,?_,?_,?_,?_⟩
 ·intro L a wy Q' hL hi H F hK
  try dsimp only at hi
  have h7:a.tmps[7]?=some (.int .i64 2):=F 7 rfl
  have HI:=Lib.hid hi
  clear H F hi hL
  go_wp2_with fail
  exact hK _ _ (Below.refl _ _) HI.out rfl
 ·intro L a wy Q' hL hi H F hK
  try dsimp only at hi
  obtain⟨_,h20,rfl⟩:=H 0 ⟨.data,by simp,rfl⟩ _ rfl
  replace h20:=h20 _ rfl
  have h6:a.tmps[6]?=some (.pointer (some ⟨g,0,none⟩)):=F 6 rfl
  have HI:=Lib.hid hi
  clear H F hi hL
  go_wp2_with fail
  exact hK _ _ (Below.refl _ _) HI.out rfl
 ·intro L a wy Q' hL hi H F hK
  try dsimp only at hi
  obtain⟨_,h21,rfl⟩:=H 1 ⟨.data,by simp,rfl⟩ _ rfl
  replace h21:=h21 _ rfl
  have HI:=Lib.hid hi
  clear H F hi hL
  have kq0:wy.cell? ⟨g,2,none⟩=some (.int .u32 a2):=(Whole.under HI.out HG.out (Whole.lt HG.out)).cell 2
  go_wp2_with fail
  exact hK _ _ (Below.refl _ _) HI.out rfl
 ·intro L a wy Q' hL hi H F hK
  try dsimp only at hi
  have h7:a.tmps[7]?=some (.int .i64 2):=F 7 rfl
  have HI:=Lib.hid hi
  clear H F hi hL
  go_wp2_with fail
  exact hK _ _ (Below.refl _ _) HI.out rfl
 ·intro L a wy Q' hL hi H F hK
  try dsimp only at hi
  obtain⟨_,h23,rfl⟩:=H 3 ⟨.data,by simp,rfl⟩ _ rfl
  replace h23:=h23 _ rfl
  have h5:a.tmps[5]?=some (.pointer (some ⟨vb,0,none⟩)):=F 5 rfl
  have HI:=Lib.hid hi
  clear H F hi hL
  go_wp2_with fail
  exact hK _ _ (Below.refl _ _) HI.out rfl
 ·intro L a wy Q' hL hi H F hK
  try dsimp only at hi
  obtain⟨_,h24,rfl⟩:=H 4 ⟨.data,by simp,rfl⟩ _ rfl
  replace h24:=h24 _ rfl
  have HI:=Lib.hid hi
  clear H F hi hL
  have kq0:wy.cell? ⟨vb,2,none⟩=some (.int .u32 b2):=(Whole.under HI.out HV.out (Whole.lt HV.out)).cell 2
  go_wp2_with fail
  exact hK _ _ (Below.refl _ _) HI.out rfl
 ·intro L a wy Q' hL hi H F hK
  try dsimp only at hi
  obtain⟨_,h22,rfl⟩:=H 2 ⟨.data,by simp,rfl⟩ _ rfl
  replace h22:=h22 _ rfl
  obtain⟨_,h25,rfl⟩:=H 5 ⟨.data,by simp,rfl⟩ _ rfl
  replace h25:=h25 _ rfl
  have HI:=Lib.hid hi
  clear H F hi hL
  go_wp2_with fail
  exact hK _ _ (Below.refl _ _) HI.out rfl
 ·intro L a wy Q' hL hi H F hK
  try dsimp only at hi
  obtain⟨_,h20,rfl⟩:=H 0 ⟨.data,by simp,rfl⟩ _ rfl
  replace h20:=h20 _ rfl
  have h6:a.tmps[6]?=some (.pointer (some ⟨g,0,none⟩)):=F 6 rfl
  have HI:=Lib.hid hi
  clear H F hi hL
  go_wp2_with fail
  exact hK _ _ (Below.refl _ _) HI.out rfl
 ·intro a wy L hl hi hL Q' hK
  try dsimp only at hi
  have HB:=Lib.hid hi
  clear hi hL
  obtain⟨_,rfl,_,rfl,_,rfl,_,rfl,_,rfl,_,rfl,_,rfl,_,rfl,rfl⟩:=hl
  simp only[List.setIfInBounds_toArray,List.set_cons_zero,List.set_cons_succ]
  have HW:=Lib.hid (Whole.under HB.out HG.out (Whole.lt HG.out))
  go_wp2_with (refine wpList_store_blk rfl 50 _ _ rfl g 2 (.int .u32 (bits .or .u32 a2 b2)) rfl rfl 104 _ HW.out (by simp[Value.cells]) size50 rfl ?_;intro w9 S9 W9;have HS9:=Lib.hid S9;have HW9:=Lib.hid (show Whole w9 g 104 #[.int .u32 a0,.int .u32 a1,.int .u32 (bits .or .u32 a2 b2)] from W9);clear S9 W9)
  exact HEND.out _ _ _ _ _ _ _ _ w9 ⟨HW9.out,fun B h1 h2=>(HB.out.mono h2).trans (HS9.out.below h1)⟩
theorem look_ins {L:List AEntry} (hs:L.Pairwise Bef) {k:Key4} {v:AVec} {j:Nat} {y:AEntry} (hj:L[j]?=some y) (hk:y.key=k):L.set j (mkE k ((lookV L k).or v))=ins (mkE k v) L:=by
 have hm:(mkE k v).key∈L.map AEntry.key:=List.mem_map.2 ⟨y,at_mem hj,hk⟩
 obtain⟨j',y',h1,h2,h3⟩:=ins_old hs hm
 have hjj:j=j':=by
  rcases Nat.lt_trichotomy j j' with h | h | h
  ·exact absurd (ord_at hs h hj h1) (by rw[← befB_iff,not_of_key (hk.trans h2.symm)];simp)
  ·exact h
  ·exact absurd (ord_at hs h h1 hj) (by rw[← befB_iff,not_of_key (h2.trans hk.symm)];simp)
 subst hjj
 obtain rfl:y=y':=Option.some.inj (hj.symm.trans h1)
 rw[h3,lookV_at hs hj hk,joinE,mkE_vecs,hk]
set_option maxRecDepth 100000 in
set_option maxHeartbeats 4000000 in
theorem add_none (w:World) (base sb:Nat) (L:List AEntry) (k:Key4) (v:AVec) (h:StoreAt w base sb L) (hb:base≤w.heap.size) (hz:v=AVec.zero) :
 Calls Tryz.prog 56 #[.pointer (some ⟨sb,0,none⟩),.agg #[.int .i64 k.src,.int .i64 k.tgt,.int .i64 k.cls,.int .i64 k.cond],.agg #[.int .u32 v.allow,.int .u32 v.audit,.int .u32 v.dont]] w fun e w'=>e=.returned (.tuple #[])∧StoreAt w' base sb L∧Chg base w w':=by
 subst hz
 have HS:=Lib.hid h
 have HB:=Lib.hid hb
 clear h hb
 have q:=fun W=>eq_vec 0 0 0 0 0 0 W
 obtain⟨wo,hwo⟩:∃ wo,wo=((w.alloc (.cells #[.int .i64 k.src,.int .i64 k.tgt,.int .i64 k.cls,.int .i64 k.cond] 102)).alloc (.cells #[.int .u32 0,.int .u32 0,.int .u32 0] 104)):=⟨_,rfl⟩
 have HBO:=Lib.hid (show RowKit.Below w.heap.size w wo by rw[hwo];exact((Below.refl _ w).alloc (Nat.le_refl _) _).alloc (by simp) _)
 have HV0:=Lib.hid (show Whole wo (w.heap.size+1) 104 #[.int .u32 0,.int .u32 0,.int .u32 0] by rw[hwo];exact whole_two w _ #[.int .u32 0,.int .u32 0,.int .u32 0] _)
 have c0:=HV0.out.cell 0
 have c1:=HV0.out.cell 1
 have c2:=HV0.out.cell 2
 simp only[List.getElem?_toArray,List.getElem?_cons_zero,List.getElem?_cons_succ] at c0 c1 c2
 show Calls Tryz.prog 56 #[.pointer (some ⟨sb,0,none⟩),.agg #[.int .i64 k.src,.int .i64 k.tgt,.int .i64 k.cls,.int .i64 k.cond],.agg #[.int .u32 0,.int .u32 0,.int .u32 0]] w _
 go_enter Tryz.func56,Tryz.ntmps56
 go_upto_region 1 with fail
 rw[← hwo]
 clear hwo
 go_wp2
 go_returns
 exact⟨rfl,HS.out.keep HBO.out,Chg.of_below HBO.out HB.out⟩
set_option maxRecDepth 100000 in
set_option maxHeartbeats 4000000 in
theorem add_some (w:World) (base sb:Nat) (L:List AEntry) (k:Key4) (v:AVec) (h:StoreAt w base sb L) (hb:base≤w.heap.size) (hk:k.Ok) (hv:v.Ok) (hlen:L.length≤100000000) (hne:v≠AVec.zero) :
 Calls Tryz.prog 56 #[.pointer (some ⟨sb,0,none⟩),.agg #[.int .i64 k.src,.int .i64 k.tgt,.int .i64 k.cls,.int .i64 k.cond],.agg #[.int .u32 v.allow,.int .u32 v.audit,.int .u32 v.dont]] w fun e w'=>e=.returned (.tuple #[])∧StoreAt w' base sb (ins (mkE k v) L)∧Chg base w w':=by
 obtain⟨mb,kv,hS,hM,hO,hsb,hmb⟩:=h.ex
 have HST:=Lib.hid h
 have HKO:=Lib.hid hk
 have HVO:=Lib.hid hv
 have HBW:=Lib.hid hb
 have HLEN:=Lib.hid hlen
 have hq:decide (v.allow=0∧v.audit=0∧v.dont=0)=false:=by
  rw[decide_eq_false_iff_not]
  rintro⟨h1,h2,h3⟩
  exact hne (by cases v;simp only at h1 h2 h3;subst h1 h2 h3;rfl)
 have q:=fun W=>eq_vec v.allow v.audit v.dont 0 0 0 W
 rw[hq] at q
 obtain⟨wo,hwo⟩:∃ wo,wo=((w.alloc (.cells #[.int .i64 k.src,.int .i64 k.tgt,.int .i64 k.cls,.int .i64 k.cond] 102)).alloc (.cells #[.int .u32 v.allow,.int .u32 v.audit,.int .u32 v.dont] 104)):=⟨_,rfl⟩
 have HBO:=Lib.hid (show RowKit.Below w.heap.size w wo by rw[hwo];exact((Below.refl _ w).alloc (Nat.le_refl _) _).alloc (by simp) _)
 have HK0:=Lib.hid (show Whole wo w.heap.size 102 #[.int .i64 k.src,.int .i64 k.tgt,.int .i64 k.cls,.int .i64 k.cond] by rw[hwo];exact(Whole.new w 102 _).alloc _)
 have HV0:=Lib.hid (show Whole wo (w.heap.size+1) 104 #[.int .u32 v.allow,.int .u32 v.audit,.int .u32 v.dont] by rw[hwo];exact whole_two w _ #[.int .u32 v.allow,.int .u32 v.audit,.int .u32 v.dont] _)
 have HS0:=Lib.hid (Whole.under HBO.out hS hS.lt)
 have HM0:=Lib.hid (hM.kept (HBO.out.block _ hM.lt))
 have HORD:=Lib.hid h.ord
 clear h hk hv hb hS hM hO hsb hmb hq hlen hne
 go_enter Tryz.func56,Tryz.ntmps56
 go_upto_region 1 with fail
 rw[← hwo]
 clear hwo
 have c0:=HV0.out.cell 0
 have c1:=HV0.out.cell 1
 have c2:=HV0.out.cell 2
 simp only[List.getElem?_toArray,List.getElem?_cons_zero,List.getElem?_cons_succ] at c0 c1 c2
 go_upto_region 2 with fail
 clear q c0 c1 c2
 refine add2 wo sb w.heap.size mb kv k (lookV L k) _ _ _ _ _ _ _ _ _ _ _ _ _ _ _ _ _ _ _ _ _ _ _ _ _ _ _ _ _ _ _ HS0 HK0 (Lib.hid fun W hW=>store_look (HM0.out.kept (hW.block _ HM0.out.lt)) HORD.out HKO.out) ?_
 intro v11 v12 v13 v14 v15 v16 g w2 hf
 obtain⟨u,hu⟩:∃ u,u=lookV L k:=⟨_,rfl⟩
 rw[← hu] at hf
 have HU:=Lib.hid hu
 have HW2:=Lib.hid hf.1
 have HG2:=Lib.hid hf.2.1
 have HB2:=Lib.hid hf.2.2
 clear hf hu
 go_wp2_with fail
 go_loopw [17] (fun i wr=>∃ (n:Nat) (a0 a1 a2:Int),n≤3∧i=.int .i64 n∧Hid (a0=(if 1≤n then bits .or .u32 u.allow v.allow else u.allow)∧a1=(if 2≤n then bits .or .u32 u.audit v.audit else u.audit)∧a2=(if 3≤n then bits .or .u32 u.dont v.dont else u.dont))∧Whole wr g 104 #[.int .u32 a0,.int .u32 a1,.int .u32 a2]∧RowKit.Below wo.heap.size wo wr) (fun i _=>3-(intOf i).toNat)
 case atStart=>exact⟨0,u.allow,u.audit,u.dont,by omega,rfl,Lib.hid ⟨rfl,rfl,rfl⟩,HW2.out,HB2.out⟩
 case round =>
  obtain⟨n,a0,a1,a2,hn,rfl,HA,hG,hB⟩:=hrel
  have HGr:=Lib.hid hG
  have HBr:=Lib.hid hB
  have HVr:=Lib.hid (Whole.under hB HV0.out HV0.out.lt)
  clear hG hB
  match n,hn with
  | 0,_ =>
   go_upto_region 6 with fail
   refine add6_0 wr (w.heap.size+1) g a0 a1 a2 v.allow v.audit v.dont _ _ _ _ _ _ _ _ _ _ _ _ _ _ _ _ _ _ _ _ _ _ _ _ _ _ _ _ _ _ HGr HVr ?_
   intro v20 v21 v22 v23 v24 v25 v26 v27 w6 hf6
   have HW6:=Lib.hid hf6.1
   have HB6:=Lib.hid (HBr.out.trans (hf6.2 wo.heap.size HG2.out HBr.out.size))
   clear hf6
   go_wp2_with fail
   go_roundw
   case rel=>exact⟨1,bits .or .u32 a0 v.allow,a1,a2,by omega,rfl,Lib.hid (by obtain⟨h0,h1,h2⟩:=HA.out;subst h0 h1 h2;exact⟨rfl,rfl,rfl⟩),HW6.out,HB6.out⟩
   case measure=>simp[intOf]
  | 1,_ =>
   go_upto_region 6 with fail
   refine add6_1 wr (w.heap.size+1) g a0 a1 a2 v.allow v.audit v.dont _ _ _ _ _ _ _ _ _ _ _ _ _ _ _ _ _ _ _ _ _ _ _ _ _ _ _ _ _ _ HGr HVr ?_
   intro v20 v21 v22 v23 v24 v25 v26 v27 w6 hf6
   have HW6:=Lib.hid hf6.1
   have HB6:=Lib.hid (HBr.out.trans (hf6.2 wo.heap.size HG2.out HBr.out.size))
   clear hf6
   go_wp2_with fail
   go_roundw
   case rel=>exact⟨2,a0,bits .or .u32 a1 v.audit,a2,by omega,rfl,Lib.hid (by obtain⟨h0,h1,h2⟩:=HA.out;subst h0 h1 h2;exact⟨rfl,rfl,rfl⟩),HW6.out,HB6.out⟩
   case measure=>simp[intOf]
  | 2,_ =>
   go_upto_region 6 with fail
   refine add6_2 wr (w.heap.size+1) g a0 a1 a2 v.allow v.audit v.dont _ _ _ _ _ _ _ _ _ _ _ _ _ _ _ _ _ _ _ _ _ _ _ _ _ _ _ _ _ _ HGr HVr ?_
   intro v20 v21 v22 v23 v24 v25 v26 v27 w6 hf6
   have HW6:=Lib.hid hf6.1
   have HB6:=Lib.hid (HBr.out.trans (hf6.2 wo.heap.size HG2.out HBr.out.size))
   clear hf6
   go_wp2_with fail
   go_roundw
   case rel=>exact⟨3,a0,a1,bits .or .u32 a2 v.dont,by omega,rfl,Lib.hid (by obtain⟨h0,h1,h2⟩:=HA.out;subst h0 h1 h2;exact⟨rfl,rfl,rfl⟩),HW6.out,HB6.out⟩
   case measure=>simp[intOf]
  | 3,_ =>
   have hA:a0=((lookV L k).or v).allow∧a1=((lookV L k).or v).audit∧a2=((lookV L k).or v).dont:=by
    rw[← HU.out]
    obtain⟨h0,h1,h2⟩:=HA.out
    exact⟨h0,h1,h2⟩
   obtain⟨rfl,rfl,rfl⟩:=hA
   have HKr:=Lib.hid (Whole.under HBr.out HK0.out HK0.out.lt)
   have HG9:=Lib.hid (show Whole wr g 104 #[.int .u32 ((lookV L k).or v).allow,.int .u32 ((lookV L k).or v).audit,.int .u32 ((lookV L k).or v).dont] from HGr.out)
   have kq0:wr.cell? ⟨w.heap.size,0,none⟩=some (.int .i64 k.src):=HKr.out.cell 0
   have kq1:wr.cell? ⟨w.heap.size,1,none⟩=some (.int .i64 k.tgt):=HKr.out.cell 1
   have kq2:wr.cell? ⟨w.heap.size,2,none⟩=some (.int .i64 k.cls):=HKr.out.cell 2
   have kq3:wr.cell? ⟨w.heap.size,3,none⟩=some (.int .i64 k.cond):=HKr.out.cell 3
   have gq0:wr.cell? ⟨g,0,none⟩=some (.int .u32 ((lookV L k).or v).allow):=HG9.out.cell 0
   have gq1:wr.cell? ⟨g,1,none⟩=some (.int .u32 ((lookV L k).or v).audit):=HG9.out.cell 1
   have gq2:wr.cell? ⟨g,2,none⟩=some (.int .u32 ((lookV L k).or v).dont):=HG9.out.cell 2
   have HSr:=Lib.hid (HST.out.keep (HBO.out.trans (HBr.out.mono HBO.out.size)))
   have HBw:=Lib.hid (Nat.le_trans HBW.out (Nat.le_trans HBO.out.size HBr.out.size))
   have HCH:=Lib.hid (Chg.of_below (HBO.out.trans (HBr.out.mono HBO.out.size)) HBW.out)
   by_cases hin:k∈L.map AEntry.key
   ·obtain⟨y,hy,hyk⟩:=List.mem_map.1 hin
    obtain⟨j,hj⟩:=List.getElem?_of_mem hy
    have HP:=Lib.hid (put_old wr base sb L k ((lookV L k).or v) HSr.out HBw.out HKO.out (AVec.or_ok _ _) j y hj hyk)
    have HE:=Lib.hid (look_ins (v:=v) HORD.out hj hyk)
    clear hin hy hyk hj
    go_wp2_with (go_at_call 121;go_must (refine HP.out.mono ?_;rintro e w9 ⟨rfl,hs9,hc9⟩;rw[HE.out] at hs9;have HS9:=Lib.hid hs9;have HC9:=Lib.hid hc9;clear hs9 hc9))
    go_returns
    exact⟨rfl,HS9.out,HCH.out.trans HC9.out⟩
   ·have HP:=Lib.hid (put_new wr base sb L k ((lookV L k).or v) HSr.out HBw.out HKO.out (AVec.or_ok _ _) hin HLEN.out)
    have HE:=Lib.hid (show(lookV L k).or v=v by rw[lookV_no hin,AVec.zero_or HVO.out])
    clear hin
    go_wp2_with (go_at_call 121;go_must (refine HP.out.mono ?_;rintro e w9 ⟨rfl,hs9,hc9⟩;rw[HE.out] at hs9;have HS9:=Lib.hid hs9;have HC9:=Lib.hid hc9;clear hs9 hc9))
    go_returns
    exact⟨rfl,HS9.out,HCH.out.trans HC9.out⟩
theorem add_any (w:World) (base sb:Nat) (L:List AEntry) (k:Key4) (v:AVec) (h:StoreAt w base sb L) (hb:base≤w.heap.size) (hk:k.Ok) (hv:v.Ok) (hlen:L.length≤100000000) :
 Calls Tryz.prog 56 #[.pointer (some ⟨sb,0,none⟩),.agg #[.int .i64 k.src,.int .i64 k.tgt,.int .i64 k.cls,.int .i64 k.cond],.agg #[.int .u32 v.allow,.int .u32 v.audit,.int .u32 v.dont]] w fun e w'=>e=.returned (.tuple #[])∧StoreAt w' base sb (addR L (mkE k v))∧Chg base w w':=by
 unfold addR
 by_cases hz:v=AVec.zero
 ·rw[if_pos (show(mkE k v).vecs=AVec.zero from hz)]
  exact add_none w base sb L k v h hb hz
 ·rw[if_neg (show ¬ (mkE k v).vecs=AVec.zero from hz)]
  exact add_some w base sb L k v h hb hk hv hlen hz
end Go.Proofs.YtdcofoaihmongaaGreat.V
namespace Go.Proofs.YtdcofoaihmongaaGreat.V
open Go Go.WideMaps Go.RowKit
theorem grown_trans {a b c:World} {r:Option Nat} (h:a.grownBy b r) (k:b.grownBy c r):a.grownBy c r :=
 ⟨by first | exact k.os.trans h.os | exact h.os.trans k.os,by first | exact k.tape.trans h.tape | exact h.tape.trans k.tape,by first | exact k.output.trans h.output | exact h.output.trans k.output,Nat.le_trans h.size k.size,fun g hg hne=>(k.block g (Nat.lt_of_lt_of_le hg h.size) hne).trans (h.block g hg hne)⟩
theorem grown_below {a b c:World} {r:Option Nat} (h:a.grownBy b r) (k:RowKit.Below a.heap.size b c):a.grownBy c r :=
 ⟨by first | exact k.os.trans h.os | exact h.os.trans k.os,by first | exact k.tape.trans h.tape | exact h.tape.trans k.tape,by first | exact k.output.trans h.output | exact h.output.trans k.output,Nat.le_trans h.size k.size,fun g hg hne=>(k.block g hg).trans (h.block g hg hne)⟩
theorem below_grown {a b:World} (k:RowKit.Below a.heap.size a b) (r:Option Nat):a.grownBy b r:=grown_below (World.grownBy.refl a r) k
theorem run_makeMap (w:World):(Instr.makeMap 118 none).run Tryz.prog w=.ok (.map (some w.heap.size)) (w.alloc (.map #[] 0)):=by simp[Instr.makeMap]
theorem fresh_any (w:World):Calls Tryz.prog 55 #[] w fun e w'=>∃ sb,e=.returned (.pointer (some ⟨sb,0,none⟩))∧StoreAt w' w.heap.size sb []∧RowKit.Below w.heap.size w w':=by
 have q0:=run_makeMap
 go_enter Tryz.func55,Tryz.ntmps55
 go_wp2
 go_ret
 refine⟨w.heap.size+1,ret_val rfl,⟨⟨w.heap.size,.slice none 0 0,?_,?_,?_,by omega,Nat.le_refl _⟩,List.Pairwise.nil,by simp⟩,((Below.refl _ w).alloc (Nat.le_refl _) _).alloc (by simp) _⟩
 ·exact whole_two w _ _ _
 ·exact(MapAt.made w Tryz.prog 102).kept (Below.heap_alloc _ _ _ (by simp))
 ·exact⟨by simp[flat],.inl ⟨rfl,rfl⟩⟩
def visB (vals:List Bool) (c:Int):Bool:=if c=0 then true else if 0<c then vals.getD (c-1).toNat false else !(vals.getD (-c-1).toNat false)
def aBool (b:Bool):Value:=.bool b
theorem visible_zero (w:World) (tb:Nat):Calls Tryz.prog 122 #[.pointer (some ⟨tb,0,none⟩),.int .i64 0] w fun e w'=>e=.returned (.bool true)∧w=w':=by
 go_enter Tryz.func122,Tryz.ntmps122
 go_wp2
 go_ret
 exact⟨rfl,rfl⟩
set_option maxRecDepth 100000 in
theorem visible_any (w:World) (tb:Nat) (x y vv:Value) (vals:List Bool) (c:Int) (hT:Whole w tb 100 #[x,y,vv]) (hv:SliceAt w vv 1 vals.length (vals.map aBool)) (hc:I64 c) (hbig:vals.length≤1000000) :
 Calls Tryz.prog 122 #[.pointer (some ⟨tb,0,none⟩),.int .i64 c] w fun e w'=>e=.returned (.bool (visB vals c))∧w=w':=by
 by_cases hz:c=0
 ·subst hz
  exact visible_zero w tb
 obtain⟨r,hr⟩:∃ r,r=visB vals c:=⟨_,rfl⟩
 rw[← hr]
 unfold visB at hr
 rw[if_neg hz] at hr
 have HRR:=Lib.hid hr
 clear hr
 obtain⟨n,hn⟩:∃ n,n=vals.length:=⟨_,rfl⟩
 rw[← hn] at hv hbig
 obtain⟨a,cp,rfl,hac,hmx,hcell⟩:=hv.form (by decide)
 have HN:=Lib.hid hn
 have HC:=Lib.hid hcell
 obtain⟨hc1,hc2⟩:=hc
 have t2:w.cell? ⟨tb,2,none⟩=some (.slice a n cp):=hT.cell 2
 clear hn hcell hv hT hac hmx
 by_cases hp:0<c
 ·by_cases hle:c≤n
  ·obtain⟨i,hi⟩:∃ i:Nat,c-1=(i:Int):=⟨(c-1).toNat,by omega⟩
   have hin:i<n:=by omega
   obtain⟨b,off,rfl,hcl⟩:=HC.out i hin
   obtain⟨u,hu⟩:∃ u,vals[i]?=some u:=⟨_,List.getElem?_eq_getElem (by rw[← HN.out];exact hin)⟩
   have c0:w.cell? ⟨b,off+i*1,none⟩=some (.bool u):=hcl 0 _ (by simp[hu,aBool])
   rw[Nat.mul_one] at c0
   have HR:=Lib.hid (show r=u by rw[HRR.out,if_pos hp,show(c-1).toNat=i by omega,List.getD_eq_getElem?_getD,hu];rfl)
   clear hcl hu
   go_enter Tryz.func122,Tryz.ntmps122
   go_wp2
   go_ret
   rw[HR.out]
   exact⟨rfl,rfl⟩
  ·have HR:=Lib.hid (show r=false by rw[HRR.out,if_pos hp,List.getD_eq_getElem?_getD,List.getElem?_eq_none (by have:=HN.out;omega)];rfl)
   go_enter Tryz.func122,Tryz.ntmps122
   go_wp2
   go_ret
   rw[HR.out]
   exact⟨rfl,rfl⟩
 ·by_cases hle:c < -(n:Int)
  ·have HR:=Lib.hid (show r=true by rw[HRR.out,if_neg hp,List.getD_eq_getElem?_getD,List.getElem?_eq_none (by have:=HN.out;omega)];rfl)
   go_enter Tryz.func122,Tryz.ntmps122
   go_wp2
   go_ret
   rw[HR.out]
   exact⟨rfl,rfl⟩
  ·obtain⟨i,hi⟩:∃ i:Nat,-c-1=(i:Int):=⟨(-c-1).toNat,by omega⟩
   have hin:i<n:=by omega
   obtain⟨b,off,rfl,hcl⟩:=HC.out i hin
   obtain⟨u,hu⟩:∃ u,vals[i]?=some u:=⟨_,List.getElem?_eq_getElem (by rw[← HN.out];exact hin)⟩
   have c0:w.cell? ⟨b,off+i*1,none⟩=some (.bool u):=hcl 0 _ (by simp[hu,aBool])
   rw[Nat.mul_one] at c0
   have HR:=Lib.hid (show r=!u by rw[HRR.out,if_neg hp,show(-c-1).toNat=i by omega,List.getD_eq_getElem?_getD,hu];rfl)
   clear hcl hu
   go_enter Tryz.func122,Tryz.ntmps122
   go_wp2
   go_ret
   rw[HR.out]
   exact⟨rfl,rfl⟩
theorem made_any (w:World) (tb sa:Nat) (y vv:Value) (hT:Whole w tb 100 #[.pointer (some ⟨sa,0,none⟩),y,vv]):Calls Tryz.prog 62 #[.pointer (some ⟨tb,0,none⟩)] w fun e w'=>e=.returned (.bool true)∧w=w':=by
 have t0:w.cell? ⟨tb,0,none⟩=some (.pointer (some ⟨sa,0,none⟩)):=hT.cell 0
 go_enter Tryz.func62,Tryz.ntmps62
 go_wp2
 go_ret
 exact⟨rfl,rfl⟩
set_option maxRecDepth 100000 in
set_option maxHeartbeats 4000000 in
theorem show5 (w:World) (tb kb sa ss mb:Nat) (kv vv:Value) (k:Key4) (u:AVec) (Post:World→World→Prop) (x1 x2 x4 x5 x6 x7 x8 x9 x10 x11 x12 x13 x14 x15 x16 x17 x18 x19 x20 x21 x22 x23 x24 x25 x26 x27 x28 x29 x30 x31 x32 x33 x34 x35 x36 x37 x38 x39 x40 x41 x42 x43 x44 x45:Value) (HT:Hid (Whole w tb 100 #[.pointer (some ⟨sa,0,none⟩),.pointer (some ⟨ss,0,none⟩),vv])) (HS:Hid (Whole w sa 121 #[.map (some mb),kv])) (HK:Hid (Whole w kb 102 #[.int .i64 k.src,.int .i64 k.tgt,.int .i64 k.cls,.int .i64 k.cond])) (HL:Hid (∀ W,RowKit.Below w.heap.size w W→(Instr.lookup 118 (.map (some mb)) (.agg #[.int .i64 k.src,.int .i64 k.tgt,.int .i64 k.cls,.int .i64 k.cond]) false).run Tryz.prog W=.ok (.agg #[.int .u32 u.allow,.int .u32 u.audit,.int .u32 u.dont]) W)) (HC:Hid (∀ W,RowKit.Below w.heap.size w W→Calls Tryz.prog 56 #[.pointer (some ⟨ss,0,none⟩),.agg #[.int .i64 k.src,.int .i64 k.tgt,.int .i64 k.cls,.int .i64 0],.agg #[.int .u32 u.allow,.int .u32 u.audit,.int .u32 u.dont]] W fun e w'=>e=.returned (.tuple #[])∧Post W w'))
 {Q':Exit→Act→World→Prop} (hend:∀ (v24 v25 v26 v27 v28 v29 v30 v31 v32 v33 v34 v35 v36 v37 v38 v39 v40 v41 v42 v43 v44:Value) (W w':World),(RowKit.Below w.heap.size w W∧Post W w')→Q' .normal ⟨#[.pointer (some ⟨tb,0,none⟩),x1,x2,.pointer (some ⟨kb,0,none⟩),x4,x5,x6,x7,x8,x9,x10,x11,x12,x13,x14,x15,x16,x17,x18,x19,x20,x21,x22,x23,v24,v25,v26,v27,v28,v29,v30,v31,v32,v33,v34,v35,v36,v37,v38,v39,v40,v41,v42,v43,v44,x45],[]⟩ w') :
 Code.wp Tryz.prog (findRegion7 5 ((Tryz.f57.body).getD .skip)) Q' ⟨#[.pointer (some ⟨tb,0,none⟩),x1,x2,.pointer (some ⟨kb,0,none⟩),x4,x5,x6,x7,x8,x9,x10,x11,x12,x13,x14,x15,x16,x17,x18,x19,x20,x21,x22,x23,x24,x25,x26,x27,x28,x29,x30,x31,x32,x33,x34,x35,x36,x37,x38,x39,x40,x41,x42,x43,x44,x45],[]⟩ w:=by
 have HEND:=Lib.hid hend
 clear hend
 conv=>arg 2;whnf
 conv=>arg 4;dsimp only
 refine wp_region_goods [some 24,some 25,some 26,some 27,some 28,some 29,some 30,some 31,some 32,some 33,some 34,some 35,some 36,some 37,some 38,some 39,some 40,some 41,some 42,some 43] [isW (.pointer (some ⟨tb,0,none⟩)),isW (.pointer (some ⟨tb,0,none⟩)),isW (.pointer (some ⟨tb,1,none⟩)),isW (.pointer (some ⟨ss,0,none⟩)),isW (.pointer (some ⟨kb,0,none⟩)),isW (.int .i64 k.src),isW (.pointer (some ⟨kb,1,none⟩)),isW (.int .i64 k.tgt),isW (.pointer (some ⟨kb,2,none⟩)),isW (.int .i64 k.cls),isW (.agg #[.int .i64 k.src,.int .i64 k.tgt,.int .i64 k.cls,.int .i64 0]),isW (.pointer (some ⟨tb,0,none⟩)),isW (.pointer (some ⟨tb,0,none⟩)),isW (.pointer (some ⟨tb,0,none⟩)),isW (.pointer (some ⟨sa,0,none⟩)),isW (.pointer (some ⟨sa,0,none⟩)),isW (.pointer (some ⟨sa,0,none⟩)),isW (.map (some mb)),isW (.agg #[.int .i64 k.src,.int .i64 k.tgt,.int .i64 k.cls,.int .i64 k.cond]),isW (.agg #[.int .u32 u.allow,.int .u32 u.audit,.int .u32 u.dont])] (fun _ w'=>RowKit.Below w.heap.size w w') [] (by kernel_rfl) (by kernel_rfl) (by kernel_rfl) rfl (by decide) rfl rfl ((Below.refl _ _).drew) ⟨lastsW_is _,lastsW_is _,lastsW_is _,lastsW_is _,lastsW_is _,lastsW_is _,lastsW_is _,lastsW_is _,lastsW_is _,lastsW_is _,lastsW_is _,lastsW_is _,lastsW_is _,lastsW_is _,lastsW_is _,lastsW_is _,lastsW_is _,lastsW_is _,lastsW_is _,lastsW_is _,trivial⟩ ⟨?_,?_,?_,?_,?_,?_,?_,?_,?_,?_,?_,?_,?_,?_,?_,?_,?_,?_,?_,?_,?_⟩
 ·intro L a wy Q' hL hi H F hK
  try dsimp only at hi
  have h0:a.tmps[0]?=some (.pointer (some ⟨tb,0,none⟩)):=F 0 rfl
  have HI:=Lib.hid hi
  clear H F hi hL
  go_wp2_with fail
  exact hK _ _ (Below.refl _ _) HI.out rfl
 ·intro L a wy Q' hL hi H F hK
  try dsimp only at hi
  obtain⟨_,h24,rfl⟩:=H 0 ⟨.data,by simp,rfl⟩ _ rfl
  replace h24:=h24 _ rfl
  have HI:=Lib.hid hi
  clear H F hi hL
  go_wp2_with fail
  exact hK _ _ (Below.refl _ _) HI.out rfl
 ·intro L a wy Q' hL hi H F hK
  try dsimp only at hi
  obtain⟨_,h25,rfl⟩:=H 1 ⟨.data,by simp,rfl⟩ _ rfl
  replace h25:=h25 _ rfl
  have HI:=Lib.hid hi
  clear H F hi hL
  go_wp2_with fail
  exact hK _ _ (Below.refl _ _) HI.out rfl
 ·intro L a wy Q' hL hi H F hK
  try dsimp only at hi
  obtain⟨_,h26,rfl⟩:=H 2 ⟨.data,by simp,rfl⟩ _ rfl
  replace h26:=h26 _ rfl
  have HI:=Lib.hid hi
  clear H F hi hL
  have kq0:wy.cell? ⟨tb,1,none⟩=some (.pointer (some ⟨ss,0,none⟩)):=(Whole.under HI.out HT.out (Whole.lt HT.out)).cell 1
  go_wp2_with fail
  exact hK _ _ (Below.refl _ _) HI.out rfl
 ·intro L a wy Q' hL hi H F hK
  try dsimp only at hi
  have h3:a.tmps[3]?=some (.pointer (some ⟨kb,0,none⟩)):=F 3 rfl
  have HI:=Lib.hid hi
  clear H F hi hL
  go_wp2_with fail
  exact hK _ _ (Below.refl _ _) HI.out rfl
 ·intro L a wy Q' hL hi H F hK
  try dsimp only at hi
  obtain⟨_,h28,rfl⟩:=H 4 ⟨.data,by simp,rfl⟩ _ rfl
  replace h28:=h28 _ rfl
  have HI:=Lib.hid hi
  clear H F hi hL
  have kq0:wy.cell? ⟨kb,0,none⟩=some (.int .i64 k.src):=(Whole.under HI.out HK.out (Whole.lt HK.out)).cell 0
  go_wp2_with fail
  exact hK _ _ (Below.refl _ _) HI.out rfl
 ·intro L a wy Q' hL hi H F hK
  try dsimp only at hi
  have h3:a.tmps[3]?=some (.pointer (some ⟨kb,0,none⟩)):=F 3 rfl
  have HI:=Lib.hid hi
  clear H F hi hL
  go_wp2_with fail
  exact hK _ _ (Below.refl _ _) HI.out rfl
 ·intro L a wy Q' hL hi H F hK
  try dsimp only at hi
  obtain⟨_,h30,rfl⟩:=H 6 ⟨.data,by simp,rfl⟩ _ rfl
  replace h30:=h30 _ rfl
  have HI:=Lib.hid hi
  clear H F hi hL
  have kq0:wy.cell? ⟨kb,1,none⟩=some (.int .i64 k.tgt):=(Whole.under HI.out HK.out (Whole.lt HK.out)).cell 1
  go_wp2_with fail
  exact hK _ _ (Below.refl _ _) HI.out rfl
 ·intro L a wy Q' hL hi H F hK
  try dsimp only at hi
  have h3:a.tmps[3]?=some (.pointer (some ⟨kb,0,none⟩)):=F 3 rfl
  have HI:=Lib.hid hi
  clear H F hi hL
  go_wp2_with fail
  exact hK _ _ (Below.refl _ _) HI.out rfl
 ·intro L a wy Q' hL hi H F hK
  try dsimp only at hi
  obtain⟨_,h32,rfl⟩:=H 8 ⟨.data,by simp,rfl⟩ _ rfl
  replace h32:=h32 _ rfl
  have HI:=Lib.hid hi
  clear H F hi hL
  have kq0:wy.cell? ⟨kb,2,none⟩=some (.int .i64 k.cls):=(Whole.under HI.out HK.out (Whole.lt HK.out)).cell 2
  go_wp2_with fail
  exact hK _ _ (Below.refl _ _) HI.out rfl
 ·intro L a wy Q' hL hi H F hK
  try dsimp only at hi
  obtain⟨_,h29,rfl⟩:=H 5 ⟨.data,by simp,rfl⟩ _ rfl
  replace h29:=h29 _ rfl
  obtain⟨_,h31,rfl⟩:=H 7 ⟨.data,by simp,rfl⟩ _ rfl
  replace h31:=h31 _ rfl
  obtain⟨_,h33,rfl⟩:=H 9 ⟨.data,by simp,rfl⟩ _ rfl
  replace h33:=h33 _ rfl
  have HI:=Lib.hid hi
  clear H F hi hL
  go_wp2_with fail
  exact hK _ _ (Below.refl _ _) HI.out rfl
 ·intro L a wy Q' hL hi H F hK
  try dsimp only at hi
  have h0:a.tmps[0]?=some (.pointer (some ⟨tb,0,none⟩)):=F 0 rfl
  have HI:=Lib.hid hi
  clear H F hi hL
  go_wp2_with fail
  exact hK _ _ (Below.refl _ _) HI.out rfl
 ·intro L a wy Q' hL hi H F hK
  try dsimp only at hi
  obtain⟨_,h35,rfl⟩:=H 11 ⟨.data,by simp,rfl⟩ _ rfl
  replace h35:=h35 _ rfl
  have HI:=Lib.hid hi
  clear H F hi hL
  go_wp2_with fail
  exact hK _ _ (Below.refl _ _) HI.out rfl
 ·intro L a wy Q' hL hi H F hK
  try dsimp only at hi
  obtain⟨_,h36,rfl⟩:=H 12 ⟨.data,by simp,rfl⟩ _ rfl
  replace h36:=h36 _ rfl
  have HI:=Lib.hid hi
  clear H F hi hL
  go_wp2_with fail
  exact hK _ _ (Below.refl _ _) HI.out rfl
 ·intro L a wy Q' hL hi H F hK
  try dsimp only at hi
  obtain⟨_,h37,rfl⟩:=H 13 ⟨.data,by simp,rfl⟩ _ rfl
  replace h37:=h37 _ rfl
  have HI:=Lib.hid hi
  clear H F hi hL
  have kq0:wy.cell? ⟨tb,0,none⟩=some (.pointer (some ⟨sa,0,none⟩)):=(Whole.under HI.out HT.out (Whole.lt HT.out)).cell 0
  go_wp2_with fail
  exact hK _ _ (Below.refl _ _) HI.out rfl
 ·intro L a wy Q' hL hi H F hK
  try dsimp only at hi
  obtain⟨_,h38,rfl⟩:=H 14 ⟨.data,by simp,rfl⟩ _ rfl
  replace h38:=h38 _ rfl
  have HI:=Lib.hid hi
  clear H F hi hL
  go_wp2_with fail
  exact hK _ _ (Below.refl _ _) HI.out rfl
 ·intro L a wy Q' hL hi H F hK
  try dsimp only at hi
  obtain⟨_,h39,rfl⟩:=H 15 ⟨.data,by simp,rfl⟩ _ rfl
  replace h39:=h39 _ rfl
  have HI:=Lib.hid hi
  clear H F hi hL
  go_wp2_with fail
  exact hK _ _ (Below.refl _ _) HI.out rfl
 ·intro L a wy Q' hL hi H F hK
  try dsimp only at hi
  obtain⟨_,h40,rfl⟩:=H 16 ⟨.data,by simp,rfl⟩ _ rfl
  replace h40:=h40 _ rfl
  have HI:=Lib.hid hi
  clear H F hi hL
  have kq0:wy.cell? ⟨sa,0,none⟩=some (.map (some mb)):=(Whole.under HI.out HS.out (Whole.lt HS.out)).cell 0
  go_wp2_with fail
  exact hK _ _ (Below.refl _ _) HI.out rfl
 ·intro L a wy Q' hL hi H F hK
  try dsimp only at hi
  have h3:a.tmps[3]?=some (.pointer (some ⟨kb,0,none⟩)):=F 3 rfl
  have HI:=Lib.hid hi
  clear H F hi hL
  have kq0:wy.cell? ⟨kb,0,none⟩=some (.int .i64 k.src):=(Whole.under HI.out HK.out (Whole.lt HK.out)).cell 0
  have kq1:wy.cell? ⟨kb,1,none⟩=some (.int .i64 k.tgt):=(Whole.under HI.out HK.out (Whole.lt HK.out)).cell 1
  have kq2:wy.cell? ⟨kb,2,none⟩=some (.int .i64 k.cls):=(Whole.under HI.out HK.out (Whole.lt HK.out)).cell 2
  have kq3:wy.cell? ⟨kb,3,none⟩=some (.int .i64 k.cond):=(Whole.under HI.out HK.out (Whole.lt HK.out)).cell 3
  go_wp2_with fail
  exact hK _ _ (Below.refl _ _) HI.out rfl
 ·intro L a wy Q' hL hi H F hK
  try dsimp only at hi
  obtain⟨_,h41,rfl⟩:=H 17 ⟨.data,by simp,rfl⟩ _ rfl
  replace h41:=h41 _ rfl
  obtain⟨_,h42,rfl⟩:=H 18 ⟨.data,by simp,rfl⟩ _ rfl
  replace h42:=h42 _ rfl
  have HI:=Lib.hid hi
  clear H F hi hL
  have q:=HL.out wy HI.out
  go_wp2_with fail
  exact hK _ _ (Below.refl _ _) HI.out rfl
 ·intro a wy L hl hi hL Q' hK
  try dsimp only at hi
  have HB:=Lib.hid hi
  clear hi hL
  obtain⟨_,rfl,_,rfl,_,rfl,_,rfl,_,rfl,_,rfl,_,rfl,_,rfl,_,rfl,_,rfl,_,rfl,_,rfl,_,rfl,_,rfl,_,rfl,_,rfl,_,rfl,_,rfl,_,rfl,_,rfl,rfl⟩:=hl
  simp only[List.setIfInBounds_toArray,List.set_cons_zero,List.set_cons_succ]
  go_wp2_with (go_at_call 56;go_must (refine(HC.out wy HB.out).mono ?_;rintro e w9 ⟨rfl,h9⟩;have HP9:=Lib.hid h9;clear h9))
  exact HEND.out _ _ _ _ _ _ _ _ _ _ _ _ _ _ _ _ _ _ _ _ _ wy w9 ⟨HB.out,HP9.out⟩
end Go.Proofs.YtdcofoaihmongaaGreat.V
namespace Go.Proofs.YtdcofoaihmongaaGreat.V
open Go Go.Shelf Go.Proofs
def lays189_ren:Go.Shelf.Ren:=⟨fun | 189=>202 | 125=>208 | 257=>250 | 128=>262 | 129=>263 | 294=>279 | 295=>280 | 296=>281 | 297=>282 | 298=>283 | 299=>284 | 216=>285 | 300=>286 | 301=>287 | 328=>301 | 329=>290 | 330=>291 | 331=>302 | 332=>303 | 215=>264 | 343=>316 | n=>n,fun | 28=>64 | 3=>3 | 46=>246 | 0=>0 | 51=>50 | 53=>52 | 4=>4 | 183=>325 | 182=>324 | 131=>161 | 5=>5 | 9=>9 | 218=>352 | 222=>356 | 228=>362 | 229=>363 | n=>n,fun | n=>n⟩
theorem lays189:Go.Proofs.Lays.n189 Tryz.prog lays189_ren:={
 mixed:=by kernel_rfl
 f125:=Tryz.func208.trans (congrArg some (by kernel_rfl))
 f128:=Tryz.func262.trans (congrArg some (by kernel_rfl))
 f129:=Tryz.func263.trans (congrArg some (by kernel_rfl))
 f189:=Tryz.func202.trans (congrArg some (by kernel_rfl))
 f215:=Tryz.func264.trans (congrArg some (by kernel_rfl))
 f216:=Tryz.func285.trans (congrArg some (by kernel_rfl))
 f257:=Tryz.func250.trans (congrArg some (by kernel_rfl))
 f294:=Tryz.func279.trans (congrArg some (by kernel_rfl))
 f295:=Tryz.func280.trans (congrArg some (by kernel_rfl))
 f296:=Tryz.func281.trans (congrArg some (by kernel_rfl))
 f297:=Tryz.func282.trans (congrArg some (by kernel_rfl))
 f298:=Tryz.func283.trans (congrArg some (by kernel_rfl))
 f299:=Tryz.func284.trans (congrArg some (by kernel_rfl))
 f300:=Tryz.func286.trans (congrArg some (by kernel_rfl))
 f301:=Tryz.func287.trans (congrArg some (by kernel_rfl))
 f328:=Tryz.func301.trans (congrArg some (by kernel_rfl))
 f329:=Tryz.func290.trans (congrArg some (by kernel_rfl))
 f330:=Tryz.func291.trans (congrArg some (by kernel_rfl))
 f331:=Tryz.func302.trans (congrArg some (by kernel_rfl))
 f332:=Tryz.func303.trans (congrArg some (by kernel_rfl))
 f343:=Tryz.func316.trans (congrArg some (by kernel_rfl))
 t0:=Tryz.underlying0
 a0:=Tryz.isAgg0
 z0:=Tryz.sizeOf0
 v0:=Tryz.zeroValue0
 t3:=Tryz.underlying3
 a3:=Tryz.isAgg3
 z3:=Tryz.sizeOf3
 v3:=Tryz.zeroValue3
 t4:=Tryz.underlying4
 a4:=Tryz.isAgg4
 z4:=Tryz.sizeOf4
 v4:=Tryz.zeroValue4
 t5:=Tryz.underlying5
 a5:=Tryz.isAgg5
 z5:=Tryz.sizeOf5
 v5:=Tryz.zeroValue5
 t9:=Tryz.underlying9
 a9:=Tryz.isAgg9
 z9:=Tryz.sizeOf9
 v9:=Tryz.zeroValue9
 t28:=Tryz.underlying64
 a28:=Tryz.isAgg64
 z28:=Tryz.sizeOf64
 v28:=Tryz.zeroValue64
 t46:=Tryz.underlying246
 a46:=Tryz.isAgg246
 z46:=Tryz.sizeOf246
 v46:=Tryz.zeroValue246
 t51:=Tryz.underlying50
 a51:=Tryz.isAgg50
 z51:=Tryz.sizeOf50
 v51:=Tryz.zeroValue50
 t53:=Tryz.underlying52
 a53:=Tryz.isAgg52
 z53:=Tryz.sizeOf52
 v53:=Tryz.zeroValue52
 t131:=Tryz.underlying161
 a131:=Tryz.isAgg161
 z131:=Tryz.sizeOf161
 v131:=Tryz.zeroValue161
 t182:=Tryz.underlying324
 a182:=Tryz.isAgg324
 z182:=Tryz.sizeOf324
 v182:=Tryz.zeroValue324
 t183:=Tryz.underlying325
 a183:=Tryz.isAgg325
 z183:=Tryz.sizeOf325
 v183:=Tryz.zeroValue325
 t218:=Tryz.underlying352
 a218:=Tryz.isAgg352
 z218:=Tryz.sizeOf352
 v218:=Tryz.zeroValue352
 t222:=Tryz.underlying356
 a222:=Tryz.isAgg356
 z222:=Tryz.sizeOf356
 v222:=Tryz.zeroValue356
 t228:=Tryz.underlying362
 a228:=Tryz.isAgg362
 z228:=Tryz.sizeOf362
 v228:=Tryz.zeroValue362
 t229:=Tryz.underlying363
 a229:=Tryz.isAgg363
 z229:=Tryz.sizeOf363
 v229:=Tryz.zeroValue363 }
open Go.Sort Go.RowKit in
theorem slices_Sort_int (blk off cap:Nat) (zs:List Int) (w:World) (hH:Holds (Value.int .i64) w blk off zs.toArray) (hblk:blk<w.heap.size) (hsz:zs.length<4611686018427387904) :
 Calls Tryz.prog 202 #[.slice (some ⟨blk,off,none⟩) zs.length cap] w fun e w' =>
  e=.returned (.tuple #[])∧∃ n os,w'=grow (putRow (Value.int .i64) (Sort.ahead w n) blk off (zs.mergeSort fun x y=>decide (x≤y)).toArray) os:=Any.slices_Sort_int lays189 blk off cap zs w hH hblk hsz
open Go.RowKit Go.Lib in
open Go.RowKit Go.Lib in
open Go.RowKit Go.Sort in
theorem slices_Sort_int_none (p:Option Addr) (cap:Nat) (w:World) :
 Calls Tryz.prog 202 #[.slice p 0 cap] w fun e w'=>e=.returned (.tuple #[])∧w'=w:=Any.slices_Sort_int_none lays189 p cap w
def laysSlE041_f35_ren:Go.Shelf.Ren:=⟨fun | 41=>63 | n=>n,fun | 22=>40 | 23=>4 | 4=>4 | n=>n,fun | n=>n⟩
theorem laysSlE041_f35:Go.Proofs.SlLaysE0.n41 Tryz.prog laysSlE041_f35_ren:={
 mixed:=by kernel_rfl
 f41:=⟨Tryz.f63.name,by decide,Tryz.func63.trans (congrArg some (by kernel_rfl))⟩
 t4:=Tryz.underlying4
 a4:=Tryz.isAgg4
 z4:=Tryz.sizeOf4
 v4:=Tryz.zeroValue4
 t22:=Tryz.underlying40
 a22:=Tryz.isAgg40
 z22:=Tryz.sizeOf40
 v22:=Tryz.zeroValue40 }
open Go.RowKit Go.Lib in
theorem slices_Clone (i0:TypeInfo) (z:Value) (size bytes:Nat) (hi:Tryz.prog.info? 4=some i0) (hz0:i0.zero=some z) (hz1:i0.size=size) (hz2:i0.bytes=bytes) (hzs:z.cells.size=size) (hsz:0<size) (z23:∀ w,(Go.sizeOf 4).run Tryz.prog w=.ok size w) (b off n c:Nat) (news:List Value) (w:World) (hl:news.length=n*size) (hn:n≤maxLen) (hbig:n*bytes≤140737488355328) (hc:∀ j u,news[j]?=some u→w.cell? ⟨b,off+j,none⟩=some u) (h1:∀ u∈news,u.oneCell'=true) :
 Calls Tryz.prog 63 #[.slice (some ⟨b,off,none⟩) n c] w fun e w'=>∃ v',e=.returned v'∧w'.ownsRow w.heap.size 4 size v' n news∧v'≠.slice none 0 0∧Below w.heap.size w w':=AnyE.slices_Clone laysSlE041_f35 i0 z size bytes hi hz0 hz1 hz2 hzs hsz z23 b off n c news w hl hn hbig hc h1
open Go.RowKit Go.Lib in
theorem slices_Clone_nil (n c:Nat) (w:World) :
 Calls Tryz.prog 63 #[.slice none n c] w fun e w'=>e=.returned (.slice none 0 0)∧w'=w:=AnyE.slices_Clone_nil laysSlE041_f35 n c w
end Go.Proofs.YtdcofoaihmongaaGreat.V
namespace Go.Proofs.YtdcofoaihmongaaGreat.V
open Go Go.WideMaps Go.RowKit
theorem bools_one (l:List Bool):∀ u∈l.map aBool,u.oneCell'=true:=fun u hu=>by
 obtain⟨b,_,rfl⟩:=List.mem_map.1 hu
 rfl
set_option maxRecDepth 100000 in
theorem clone_zero (w:World) (a:Addr) (c:Nat):Calls Tryz.prog 63 #[.slice (some a) 0 c] w fun e w'=>∃ v',e=.returned v'∧w'.ownsRow w.heap.size 4 1 v' 0 []∧RowKit.Below w.heap.size w w':=by
 have q:∀ W,(binOp .eql 40 (.slice (some a) 0 c) (.slice none 0 0)).run Tryz.prog W=.ok (.bool false) W:=fun W=>by kernel_rfl
 go_enter Tryz.func63,Tryz.ntmps63
 go_wp2
 go_ret
 refine⟨_,ret_val rfl,?_,(Below.refl _ w).alloc (Nat.le_refl _) _⟩
 exact⟨by simp,.inr ⟨w.heap.size,0,#[],rfl,Nat.le_refl _,Whole.new w 4 #[],Nat.le_refl _,by simp[maxLen],by simp,by simp⟩⟩
theorem clone_any (w:World) (v:Value) (vals:List Bool) (h:SliceAt w v 1 vals.length (vals.map aBool)) (hbig:vals.length≤1000000) :
 Calls Tryz.prog 63 #[v] w fun e w'=>∃ v',e=.returned v'∧w'.ownsRow w.heap.size 4 1 v' vals.length (vals.map aBool)∧RowKit.Below w.heap.size w w':=by
 obtain⟨i0,z,hi0,hz0,hz1,hz2,hzs⟩:=infoOf info4
 obtain⟨n,hn⟩:∃ n,n=vals.length:=⟨_,rfl⟩
 rcases h.2.2.2 with⟨rfl,h0⟩ | ⟨a,c,rfl,hac,hc⟩
 ·have:vals=[]:=List.eq_nil_of_length_eq_zero h0
  subst this
  refine(slices_Clone_nil 0 0 w).mono ?_
  rintro e w' ⟨rfl,rfl⟩
  exact⟨_,rfl,World.ownsRow_nil _ _ _ _,Below.refl _ _⟩
 ·cases vals with
  | nil=>exact clone_zero w a c
  | cons b0 bs =>
   obtain⟨b,off,rfl⟩:=spot_none (hc 0 _ (by simp;rfl))
   refine(slices_Clone i0 z 1 1 hi0 hz0 hz1 hz2 hzs (by decide) (fun w=>by kernel_rfl) b off _ c ((b0::bs).map aBool) w (by simp) h.2.1 (by omega) (fun j u hu=>by have:=hc j u hu;rwa [Addr.add_mid] at this) (bools_one _)).mono ?_
   rintro e w' ⟨v',rfl,ho,-,hb⟩
   exact⟨v',rfl,ho,hb⟩
structure TabAt (w:World) (base tb:Nat) (L S:List AEntry) (vals:List Bool):Prop where
 ex:∃ sa ss vv,Whole w tb 100 #[.pointer (some ⟨sa,0,none⟩),.pointer (some ⟨ss,0,none⟩),vv]∧StoreAt w base sa L∧StoreAt w base ss S∧w.ownsRow base 4 1 vv vals.length (vals.map aBool)
 lo:base≤tb
theorem StoreAt.grown {w w':World} {base sb tb:Nat} {L:List AEntry} {t:TypeId} {cs:Array Value} (h:StoreAt w base sb L) (hg:w.grownBy w' (some tb)) (hT:Whole w tb t cs) (h1:t≠121) (h2:t≠102):StoreAt w' base sb L:=by
 obtain⟨mb,kv,hS,hM,hO,h4,h5⟩:=h.ex
 refine⟨⟨mb,kv,hS.grown hg fun e=>?_,hM.kept (hg.block _ hM.lt fun e=>?_),hO.kept hg (.inr ?_),h4,h5⟩,h.ord,h.ok⟩
 ·cases e
  exact whole_ty hS hT (fun e=>h1 e.symm) rfl
 ·cases e
  exact map_ne hM hT rfl
 ·exact own_blk_far hO hT (fun e=>h2 e.symm)
theorem TabAt.keep {w w':World} {base tb:Nat} {L S:List AEntry} {vals:List Bool} (h:TabAt w base tb L S vals) (hb:RowKit.Below w.heap.size w w'):TabAt w' base tb L S vals:=by
 obtain⟨sa,ss,vv,h1,h2,h3,h4⟩:=h.ex
 exact⟨⟨sa,ss,vv,Whole.under hb h1 h1.lt,h2.keep hb,h3.keep hb,own_keep hb h4 (Nat.le_refl _)⟩,h.lo⟩
theorem TabAt.lt {w:World} {base tb:Nat} {L S:List AEntry} {vals:List Bool} (h:TabAt w base tb L S vals):tb<w.heap.size:=by
 obtain⟨sa,ss,vv,h1,-⟩:=h.ex
 exact h1.lt
theorem TabAt.low {w:World} {base base' tb:Nat} {L S:List AEntry} {vals:List Bool} (h:TabAt w base tb L S vals) (hb:base'≤base):TabAt w base' tb L S vals:=by
 obtain⟨sa,ss,vv,h1,h2,h3,h4⟩:=h.ex
 exact⟨⟨sa,ss,vv,h1,h2.low hb,h3.low hb,own_low h4 hb⟩,Nat.le_trans hb h.lo⟩
def bare (e:AEntry):AEntry:=⟨e.src,e.tgt,e.cls,0,e.allow,e.audit,e.dont⟩
def seenOf (L:List AEntry) (vals:List Bool):List AEntry:=(L.filter fun e=>visB vals e.cond).map bare
def seenL (L:List AEntry) (vals:List Bool):List AEntry:=joinL (seenOf L vals)
theorem seenOf_snoc (L:List AEntry) (x:AEntry) (vals:List Bool):seenOf (L++[x]) vals=if visB vals x.cond then seenOf L vals++[bare x] else seenOf L vals:=by
 unfold seenOf
 rw[List.filter_append,List.map_append]
 by_cases h:visB vals x.cond<;>simp[h]
theorem ins_length {x:AEntry}:∀ {l:List AEntry},(ins x l).length≤l.length+1
 | []=>by simp[ins]
 | y::l=>by
  rw[ins]
  split
  ·simp
  ·split
   ·have:=ins_length (x:=x) (l:=l)
    simp only[List.length_cons]
    omega
   ·simp
theorem addR_length (l:List AEntry) (x:AEntry):(addR l x).length≤l.length+1:=by
 unfold addR
 split
 ·omega
 ·exact ins_length
theorem joinL_length (l:List AEntry):(joinL l).length≤l.length:=by
 have:∀ (l I:List AEntry),(l.foldl addR I).length≤I.length+l.length:=by
  intro l
  induction l with
  | nil=>intro I;simp
  | cons x l ih =>
   intro I
   rw[List.foldl_cons]
   have h1:=ih (addR I x)
   have h2:=addR_length I x
   simp only[List.length_cons]
   omega
 have h:=this l []
 unfold joinL
 simpa using h
theorem seenOf_length (L:List AEntry) (vals:List Bool):(seenOf L vals).length≤L.length:=by
 unfold seenOf
 rw[List.length_map]
 exact List.length_filter_le _ _
theorem flat_cell {w:World} {b off:Nat} {ks:List Key4} {i:Nat} {k:Key4} (h:∀ j u,(flat ks)[i*4+j]?=some u→w.cell? ⟨b,off+i*4+j,none⟩=some u) (hk:ks[i]?=some k):∀ j u,k.cells[j]?=some u→w.cell? ⟨b,off+i*4+j,none⟩=some u:=fun j u hu=>h j u (by
 have hj:j<4:=(List.getElem?_eq_some_iff.1 hu).1
 rw[show(flat ks)[i*4+j]?=k.cells[j]? from flat_at key_len hk j hj]
 exact hu)
set_option maxRecDepth 100000 in
set_option maxHeartbeats 4000000 in
theorem show_any (w:World) (base tb sa:Nat) (x vv:Value) (L:List AEntry) (vals:List Bool) (hT:Whole w tb 100 #[.pointer (some ⟨sa,0,none⟩),x,vv]) (hS:StoreAt w base sa L) (hv:w.ownsRow base 4 1 vv vals.length (vals.map aBool)) (hlen:L.length≤100000000) (hbig:vals.length≤1000000) :
 Calls Tryz.prog 57 #[.pointer (some ⟨tb,0,none⟩)] w fun e w'=>e=.returned (.tuple #[])∧∃ ss,Whole w' tb 100 #[.pointer (some ⟨sa,0,none⟩),.pointer (some ⟨ss,0,none⟩),vv]∧StoreAt w' w.heap.size ss (seenL L vals)∧w.grownBy w' (some tb):=by
 obtain⟨mb,kv,hSa,hM,hO,-,-⟩:=hS.ex
 obtain⟨n,hn⟩:∃ n,n=L.length:=⟨_,rfl⟩
 have hsl:=SliceAt.of_own hO (flat_one _)
 rw[← hn] at hsl
 obtain⟨ka,kc,rfl,hkc,hkm,hcell⟩:=hsl.form (by decide)
 have HN:=Lib.hid hn
 have HCL:=Lib.hid (show ∀ W,w.grownBy W (some tb)→∀ i,i<n→∃ b off,ka=some ⟨b,off,none⟩∧∀ j u,(flat (L.map AEntry.key))[i*4+j]?=some u→W.cell? ⟨b,off+i*4+j,none⟩=some u from fun W hW=>by
  have hs:=SliceAt.of_own (hO.kept hW (.inr (own_blk_far hO hT (by decide)))) (flat_one _)
  rw[← hn] at hs
  obtain⟨ka',kc',e,-,-,hc⟩:=hs.form (by decide)
  cases e
  exact hc)
 have HT:=Lib.hid hT
 have HS:=Lib.hid hS
 have HSA:=Lib.hid hSa
 have HM:=Lib.hid hM
 have HV:=Lib.hid hv
 have HLEN:=Lib.hid hlen
 have HBIG:=Lib.hid hbig
 have HTS:=Lib.hid (whole_ty hT hSa (by decide))
 rw[← hn] at hlen
 clear hT hS hv hbig hSa hM hO hsl hcell hn
 go_enter Tryz.func57,Tryz.ntmps57
 go_wp2_with (first | (go_at_call 55;go_must (refine(fresh_any w).mono ?_;rintro e w1 ⟨ss,rfl,hs1,hb1⟩;have HS1:=Lib.hid hs1;have HB1:=Lib.hid hb1;have HT1:=Lib.hid (Whole.under hb1 HT.out HT.out.lt);have HSA1:=Lib.hid (Whole.under hb1 HSA.out HSA.out.lt);clear hs1 hb1)) | (refine wpList_store_blk rfl 97 _ _ rfl tb 1 (.pointer (some ⟨ss,0,none⟩)) rfl rfl 100 _ HT1.out (by simp[Value.cells]) size97 rfl ?_;intro w2 S2 W2;have HS2:=Lib.hid S2;have HT2:=Lib.hid (show Whole w2 tb 100 #[.pointer (some ⟨sa,0,none⟩),.pointer (some ⟨ss,0,none⟩),vv] from W2);have HSA2:=Lib.hid (S2.whole HSA1.out (fun e=>HTS.out e.symm));clear S2 W2;have t0:w2.cell? ⟨tb,0,none⟩=some (.pointer (some ⟨sa,0,none⟩)):=HT2.out.cell 0;have k1:w2.cell? ⟨sa,1,none⟩=some (.slice ka n kc):=HSA2.out.cell 1))
 clear t0 k1
 have HG2:=Lib.hid (grown_trans (below_grown HB1.out (some tb)) HS2.out.grown)
 have HSS2:=Lib.hid (HS1.out.grown HS2.out.grown HT1.out (by decide) (by decide))
 clear HS1 HB1 HT1 HSA1 HS2
 go_loopw [16] (fun i wr=>∃ m:Nat,m≤n∧i=.int .i64 m∧Whole wr tb 100 #[.pointer (some ⟨sa,0,none⟩),.pointer (some ⟨ss,0,none⟩),vv]∧StoreAt wr w.heap.size ss (joinL (seenOf (L.take m) vals))∧w.grownBy wr (some tb)) (fun i _=>n-(intOf i).toNat)
 case atStart=>exact⟨0,Nat.zero_le _,rfl,HT2.out,by simpa[seenOf,joinL] using HSS2.out,HG2.out⟩
 case round =>
  obtain⟨m,hm,rfl,hTr,hSr,hGr⟩:=hrel
  have HTr:=Lib.hid hTr
  have HSr:=Lib.hid hSr
  have HGr:=Lib.hid hGr
  clear hTr hSr hGr
  by_cases hlt:m<n
  ·obtain⟨y,hy⟩:∃ y,L[m]?=some y:=⟨_,List.getElem?_eq_getElem (by rw[← HN.out];exact hlt)⟩
   obtain⟨b,off,hka,hcl⟩:=HCL.out wr HGr.out m hlt
   subst hka
   have hk0:wr.cell? ⟨b,off+m*4,none⟩=some (.int .i64 y.key.src):=flat_cell hcl (by rw[List.getElem?_map,hy];rfl) 0 _ rfl
   have hk1:wr.cell? ⟨b,off+m*4+1,none⟩=some (.int .i64 y.key.tgt):=flat_cell hcl (by rw[List.getElem?_map,hy];rfl) 1 _ rfl
   have hk2:wr.cell? ⟨b,off+m*4+2,none⟩=some (.int .i64 y.key.cls):=flat_cell hcl (by rw[List.getElem?_map,hy];rfl) 2 _ rfl
   have hk3:wr.cell? ⟨b,off+m*4+3,none⟩=some (.int .i64 y.key.cond):=flat_cell hcl (by rw[List.getElem?_map,hy];rfl) 3 _ rfl
   have HYO:=Lib.hid (HS.out.ok y (at_mem hy))
   have HY:=Lib.hid hy
   obtain⟨vb,hvb⟩:∃ vb,vb=visB vals y.key.cond:=⟨_,rfl⟩
   have HVB:=Lib.hid hvb
   have HTK:=Lib.hid (show L.take (m+1)=L.take m++[y] from take_snoc hy)
   have HVV:=Lib.hid (show ∀ W,RowKit.Below wr.heap.size wr W→SliceAt W vv 1 vals.length (vals.map aBool) from fun W hW=>(SliceAt.of_own (HV.out.kept HGr.out (.inr (own_blk_far HV.out HT.out (by decide)))) (bools_one _)).keep hW)
   clear hvb hcl hy
   go_upto_region 4 with(refine wpList_store_blk rfl 102 _ _ rfl wr.heap.size 0 (.agg #[.int .i64 y.key.src,.int .i64 y.key.tgt,.int .i64 y.key.cls,.int .i64 y.key.cond]) rfl rfl 102 _ (Whole.new wr 102 _) (by simp[Value.cells]) size102 rfl ?_;intro w3 S3 W3;rw[splice_all _ _ (by rfl)] at W3;have HS3:=Lib.hid S3;have HW3:=Lib.hid (show Whole w3 wr.heap.size 102 #[.int .i64 y.key.src,.int .i64 y.key.tgt,.int .i64 y.key.cls,.int .i64 y.key.cond] from W3);clear S3 W3)
   clear hk0 hk1 hk2 hk3
   have HB3:=Lib.hid (show RowKit.Below wr.heap.size wr w3 from((Below.refl _ wr).alloc (Nat.le_refl _) _).trans (HS3.out.below (Nat.le_refl _)))
   have HT3:=Lib.hid (Whole.under HB3.out HTr.out HTr.out.lt)
   have c3:w3.cell? ⟨wr.heap.size,3,none⟩=some (.int .i64 y.key.cond):=HW3.out.cell 3
   have HVC:=Lib.hid (visible_any w3 tb _ _ vv vals y.key.cond HT3.out (HVV.out w3 HB3.out) HYO.out.1.cond HBIG.out)
   rw[← HVB.out] at HVC
   have HG3:=Lib.hid (grown_below HGr.out (HB3.out.mono HGr.out.size))
   cases vb with
   | true =>
    go_upto_region 5 with(go_at_call 122;go_must (refine HVC.out.mono ?_;rintro e w4 ⟨rfl,rfl⟩))
    clear c3 HVC
    refine show5 w3 tb wr.heap.size sa ss mb (.slice (some ⟨b,off,none⟩) n kc) vv y.key y.vecs (fun W w'=>StoreAt w' w.heap.size ss (joinL (seenOf (L.take (m+1)) vals))∧Chg w.heap.size W w') _ _ _ _ _ _ _ _ _ _ _ _ _ _ _ _ _ _ _ _ _ _ _ _ _ _ _ _ _ _ _ _ _ _ _ _ _ _ _ _ _ _ _ _ HT3 (Lib.hid (HSA.out.grown HG3.out (fun e=>HTS.out (Option.some.inj e).symm))) HW3 (Lib.hid fun W hW=>by
     have h:=store_look (((HM.out.kept (HG3.out.block _ HM.out.lt (fun e=>map_ne HM.out HT.out (Option.some.inj e))))).kept (hW.block _ (Nat.lt_of_lt_of_le HM.out.lt HG3.out.size))) HS.out.ord HYO.out.1
     rwa [lookV_at HS.out.ord HY.out rfl] at h) (Lib.hid fun W hW=>by
     have hst:=(HSr.out.keep HB3.out).keep hW
     have hlen':(joinL (seenOf (L.take m) vals)).length≤100000000:=by
      have h1:=joinL_length (seenOf (L.take m) vals)
      have h2:=seenOf_length (L.take m) vals
      have h3:(L.take m).length≤L.length:=by rw[List.length_take];omega
      have:=HLEN.out
      omega
     have h:=add_any W w.heap.size ss _ ⟨y.key.src,y.key.tgt,y.key.cls,0⟩ y.vecs hst (Nat.le_trans HG3.out.size hW.size) ⟨HYO.out.1.src,HYO.out.1.tgt,HYO.out.1.cls,(⟨by decide,by decide⟩:I64 0)⟩ HYO.out.2 hlen'
     refine h.mono ?_
     rintro e w' ⟨h1,h2,h3⟩
     refine⟨h1,?_,h3⟩
     rw[HTK.out,seenOf_snoc,if_pos (show visB vals y.cond=true from HVB.out.symm),joinL_snoc]
     exact h2) ?_
    intro v24 v25 v26 v27 v28 v29 v30 v31 v32 v33 v34 v35 v36 v37 v38 v39 v40 v41 v42 v43 v44 W w5 hf
    have HW5:=Lib.hid hf.1
    have HST5:=Lib.hid hf.2.1
    have HCH5:=Lib.hid hf.2.2
    clear hf
    go_wp2_with fail
    go_roundw
    case rel=>exact⟨m+1,by omega,by go_num,HCH5.out.kept _ _ _ (Whole.under HW5.out HT3.out HT3.out.lt) (by decide) (by decide),HST5.out,grown_below (grown_below HG3.out (HW5.out.mono HG3.out.size)) HCH5.out.blw⟩
    case measure=>simp[intOf];omega
   | false =>
    go_wp2_with (go_at_call 122;go_must (refine HVC.out.mono ?_;rintro e w4 ⟨rfl,rfl⟩))
    clear c3 HVC
    go_roundw
    case rel=>exact⟨m+1,by omega,by go_num,HT3.out,by rw[HTK.out,seenOf_snoc,if_neg (by rw[show visB vals y.cond=false from HVB.out.symm];simp)];exact HSr.out.keep HB3.out,HG3.out⟩
    case measure=>simp[intOf];omega
  ·obtain rfl:m=n:=by omega
   have hfull:L.take m=L:=List.take_of_length_le (by rw[HN.out];exact Nat.le_refl _)
   rw[hfull] at HSr
   clear hfull
   go_wp2
   go_returns
   exact⟨rfl,ss,HTr.out,HSr.out,HGr.out⟩
end Go.Proofs.YtdcofoaihmongaaGreat.V
namespace Go.Proofs.YtdcofoaihmongaaGreat
open Go Go.RowKit
def AVec.toV (v:AVec):V.AVec:=⟨v.allow,v.audit,v.dont⟩
def Key4.toV (k:Key4):V.Key4:=⟨k.src,k.tgt,k.cls,k.cond⟩
def AEntry.toV (e:AEntry):V.AEntry:=⟨e.src,e.tgt,e.cls,e.cond,e.allow,e.audit,e.dont⟩
theorem toV_cells (l:List AEntry):(l.map AEntry.toV).flatMap V.AEntry.cells=l.flatMap AEntry.cells:=by
 induction l with
 | nil=>rfl
 | cons x l ih=>rw[List.map_cons,List.flatMap_cons,List.flatMap_cons,ih];rfl
theorem toV_ok {l:List AEntry} (h:∀ x∈l,x.Ok):∀ x∈l.map AEntry.toV,x.Ok:=fun x hx=>by
 obtain⟨y,hy,rfl⟩:=List.mem_map.1 hx
 have:=h y hy
 exact⟨⟨this.1.src,this.1.tgt,this.1.cls,this.1.cond⟩,⟨this.2.allow,this.2.audit,this.2.dont⟩⟩
theorem key_toV {a b:Key4} (h:a.toV=b.toV):a=b:=by
 cases a;cases b
 simpa[Key4.toV] using h
def toVP (p:Key4×AVec):V.Key4×V.AVec:=(p.1.toV,p.2.toV)
theorem fold_toV:∀ (L:List (Key4×AVec)) (f:Key4→AVec) (g:V.Key4→V.AVec),(∀ k,(f k).toV=g k.toV)→∀ k:Key4,((L.foldl (fun f p=>updV f p.1 p.2) f) k).toV=((L.map toVP).foldl (fun f p=>V.updV f p.1 p.2) g) k.toV
 | [],_,_,h,k=>h k
 | p::L,f,g,h,k=>by
  refine fold_toV L _ _ (fun k=>?_) k
  show(if k=p.1 then (f p.1).or p.2 else f k).toV=if k.toV=p.1.toV then (g p.1.toV).or p.2.toV else g k.toV
  by_cases e:k=p.1
  ·rw[if_pos e,if_pos (by rw[e]),← h];rfl
  ·rw[if_neg e,if_neg (fun e'=>e (key_toV e'))]
   exact h k
theorem accum_toV (L:List (Key4×AVec)) (k:Key4):(accum L k).toV=V.accum (L.map toVP) k.toV:=fold_toV L _ _ (fun _=>rfl) k
theorem vle_ext {u v:V.AVec} (hu:u.Ok) (hv:v.Ok) (h:∀ m:V.AVec,m.Ok→(u.or m=m↔v.or m=m)):u=v :=
 V.vle_antisymm ((h v hv).2 (V.AVec.or_self hv)) ((h u hu).1 (V.AVec.or_self hu))
theorem vaccum_iff {L:List (V.Key4×V.AVec)} {k:V.Key4} {m:V.AVec} (hm:m.Ok) (hok:∀ p∈L,p.2.Ok):(V.accum L k).or m=m↔∀ p∈L,p.1=k→p.2.or m=m :=
 ⟨fun h p hp e=>V.vle_trans (e▸V.le_accum (hok p hp) hp) h,V.accum_le hm⟩
theorem vlook_canon {f:V.Key4→V.AVec} {l:List V.AEntry} (h:V.Canon f l) (k:V.Key4):V.lookV l k=f k:=by
 by_cases hk:k∈l.map V.AEntry.key
 ·obtain⟨y,hy,rfl⟩:=List.mem_map.1 hk
  obtain⟨j,hj⟩:=List.getElem?_of_mem hy
  rw[V.lookV_at h.ord hj rfl,((h.mem y).1 hy).1]
 ·rw[V.lookV_no hk]
  by_cases hz:f k=V.AVec.zero
  ·exact hz.symm
  ·exact absurd (List.mem_map.2 ⟨V.mkE k (f k),(h.mem _).2 ⟨rfl,hz⟩,rfl⟩) hk
def ruleHits (vals:List Bool) (s o:Nat) (c:Int) (r:ARule):Bool:=decide (r.cls=c)&&V.visB vals r.cond&&r.src.has s&&(r.tgt.has o||r.self&&decide ((s:Int)=(o:Int)))
def rulesJoin (vals:List Bool) (s o:Nat) (c:Int) (l:List ARule) (v:V.AVec):V.AVec:=l.foldl (fun v r=>if ruleHits vals s o c r then v.or (vecOf r.kind r.perms).toV else v) v
theorem vecOf_ok {k p:Int} (h:U32 p):(vecOf k p).toV.Ok:=by
 have z:V.U32 0:=⟨by decide,by decide⟩
 unfold vecOf
 split
 ·exact⟨h,z,z⟩
 ·split
  ·exact⟨z,h,z⟩
  ·split
   ·exact⟨z,z,h⟩
   ·exact⟨z,z,z⟩
theorem vor_le {u v m:V.AVec} (hu:u.Ok) (hv:v.Ok):(u.or v).or m=m↔u.or m=m∧v.or m=m:=by
 constructor
 ·intro h
  refine⟨V.vle_trans (v:=u.or v) ?_ h,V.vle_trans (v:=u.or v) ?_ h⟩
  ·rw[← V.AVec.or_assoc,V.AVec.or_self hu]
  ·rw[V.AVec.or_comm u v,← V.AVec.or_assoc,V.AVec.or_self hv]
 ·rintro⟨h1,h2⟩
  rw[V.AVec.or_assoc,h2,h1]
theorem rulesJoin_ok (vals:List Bool) (s o:Nat) (c:Int):∀ (l:List ARule) (v:V.AVec),v.Ok→(rulesJoin vals s o c l v).Ok
 | [],_,h=>h
 | r::l,v,h=>by
  refine rulesJoin_ok vals s o c l (if ruleHits vals s o c r then v.or (vecOf r.kind r.perms).toV else v) ?_
  split
  ·exact V.AVec.or_ok _ _
  ·exact h
theorem rulesJoin_iff (vals:List Bool) (s o:Nat) (c:Int) {m:V.AVec}:∀ (l:List ARule) (v:V.AVec),v.Ok→(∀ r∈l,r.Wf)→((rulesJoin vals s o c l v).or m=m↔v.or m=m∧∀ r∈l,ruleHits vals s o c r=true→(vecOf r.kind r.perms).toV.or m=m)
 | [],v,_,_=>by simp[rulesJoin]
 | r::l,v,hv,hw=>by
  show(rulesJoin vals s o c l (if ruleHits vals s o c r then v.or (vecOf r.kind r.perms).toV else v)).or m=m↔_
  have hr:=hw r (List.mem_cons_self ..)
  by_cases h:ruleHits vals s o c r=true
  ·rw[if_pos h,rulesJoin_iff vals s o c l _ (V.AVec.or_ok _ _) (fun x hx=>hw x (List.mem_cons_of_mem _ hx)),vor_le hv (vecOf_ok hr.perms)]
   constructor
   ·rintro⟨⟨h1,h3⟩,h2⟩
    refine⟨h1,fun x hx hh=>?_⟩
    rcases List.mem_cons.1 hx with rfl | hx
    ·exact h3
    ·exact h2 x hx hh
   ·rintro⟨h1,h2⟩
    exact⟨⟨h1,h2 r (List.mem_cons_self ..) h⟩,fun x hx=>h2 x (List.mem_cons_of_mem _ hx)⟩
  ·rw[if_neg h,rulesJoin_iff vals s o c l _ hv (fun x hx=>hw x (List.mem_cons_of_mem _ hx))]
   constructor
   ·rintro⟨h1,h2⟩
    refine⟨h1,fun x hx hh=>?_⟩
    rcases List.mem_cons.1 hx with rfl | hx
    ·exact absurd hh h
    ·exact h2 x hx hh
   ·rintro⟨h1,h2⟩
    exact⟨h1,fun x hx=>h2 x (List.mem_cons_of_mem _ hx)⟩
theorem dec_nat (s o:Nat):decide ((s:Int)=(o:Int))=decide (s=o):=decide_eq_decide.2 (by omega)
theorem mem_elems {s:ASet} {k:Nat}:k∈elems s↔k<256∧s.has k=true:=by
 unfold elems elemsTo
 rw[List.mem_filter,List.mem_range]
theorem mem_pairs {r:ARule} {s o:Nat} (hs:s<256) (ho:o<256):(s,o)∈r.pairs↔r.src.has s=true∧(r.tgt.has o||r.self&&decide (s=o))=true:=by
 unfold ARule.pairs ARule.pairsTo
 simp only[List.mem_flatMap,List.mem_map,Prod.mk.injEq,mem_elems]
 constructor
 ·rintro⟨a,⟨-,ha⟩,b,⟨-,hb⟩,rfl,rfl⟩
  refine⟨ha,?_⟩
  unfold ARule.tgts at hb
  cases hq:r.self with
  | false=>rw[hq] at hb;simpa using hb
  | true =>
   rw[hq,if_pos rfl] at hb
   unfold ASet.with at hb
   rw[if_pos ⟨by omega,by omega⟩,Int.toNat_natCast,ASet.has_add _ hs ho] at hb
   rcases Bool.or_eq_true_iff.1 hb with h | h
   ·have:b=a:=by simpa using h
    subst this
    simp
   ·simp[h]
 ·rintro⟨h1,h2⟩
  refine⟨s,⟨hs,h1⟩,o,⟨ho,?_⟩,rfl,rfl⟩
  unfold ARule.tgts
  cases hq:r.self with
  | false=>rw[hq] at h2;simpa using h2
  | true =>
   rw[if_pos rfl]
   unfold ASet.with
   rw[if_pos ⟨by omega,by omega⟩,Int.toNat_natCast,ASet.has_add _ hs ho]
   rw[hq] at h2
   rcases Bool.or_eq_true_iff.1 h2 with h | h
   ·simp[h]
   ·have:s=o:=by simpa using h
    subst this
    simp
theorem zero_toV:AVec.zero.toV=V.AVec.zero:=rfl
theorem canon_toV {f:Key4→AVec} {E:List AEntry} (h:Canon f E) (hE:∀ x∈E,x.Ok) (hf:∀ k,(f k).toV.Ok) (k:Key4):V.accE (E.map AEntry.toV) k.toV=(f k).toV:=by
 refine vle_ext (V.accE_val _ _) (hf k) fun m hm=>?_
 have hok:∀ p∈V.kvs (E.map AEntry.toV),p.2.Ok:=fun p hp=>by
  obtain⟨x,hx,rfl⟩:=List.mem_map.1 hp
  exact(toV_ok hE x hx).2
 unfold V.accE
 rw[vaccum_iff hm hok]
 constructor
 ·intro h1
  by_cases hz:f k=AVec.zero
  ·rw[hz,zero_toV,V.AVec.zero_or hm]
  ·have hx:=(h.mem (mkE k (f k))).2 ⟨rfl,hz⟩
   exact h1 ((mkE k (f k)).toV.key,(mkE k (f k)).toV.vecs) (List.mem_map.2 ⟨_,List.mem_map.2 ⟨_,hx,rfl⟩,rfl⟩) rfl
 ·intro h1 p hp hk
  obtain⟨x,hx,rfl⟩:=List.mem_map.1 hp
  obtain⟨e,he,rfl⟩:=List.mem_map.1 hx
  have e1:e.key=k:=key_toV hk
  have e2:=((h.mem e).1 he).1
  rw[e1] at e2
  show e.vecs.toV.or m=m
  rw[e2];exact h1
theorem acc_key {L:List V.AEntry} {k:V.Key4} (h:V.accE L k≠V.AVec.zero):∃ x∈L,x.key=k:=by
 refine Classical.byContradiction fun hn=>h ?_
 have h1:=V.accum_le (L:=V.kvs L) (k:=k) V.AVec.zero_ok fun p hp e=>by
  obtain⟨x,hx,rfl⟩:=List.mem_map.1 hp
  exact absurd ⟨x,hx,e⟩ hn
 rwa [V.AVec.or_zero (V.accum_ok _ _)] at h1
theorem find_join {l:List ARule} (hwf:∀ r∈l,r.Wf) {E:List AEntry} (hc:Canon (accum (kvR l)) E) (hE:∀ x∈E,x.Ok) (vals:List Bool) {s o:Nat} (c:Int) (hs:s<256) (ho:o<256) :
 V.lookV (V.seenL (V.joinL (E.map AEntry.toV)) vals) ⟨s,o,c,0⟩=rulesJoin vals s o c l V.AVec.zero:=by
 have hkv:∀ p∈(kvR l).map toVP,p.2.Ok:=fun p hp=>by
  obtain⟨q,hq,rfl⟩:=List.mem_map.1 hp
  obtain⟨r,hr,hq⟩:=List.mem_flatMap.1 hq
  obtain⟨x,-,rfl⟩:=List.mem_map.1 hq
  exact vecOf_ok (hwf r hr).perms
 have hf:∀ k,(accum (kvR l) k).toV.Ok:=fun k=>by rw[accum_toV];exact V.accum_ok _ _
 have hG:=canon_toV hc hE hf
 have hJ:=V.joinL_canon (toV_ok hE)
 generalize hJe:V.joinL (E.map AEntry.toV)=J at *
 have hJv:∀ x∈J,x.vecs.Ok:=fun x hx=>by rw[((hJ.mem x).1 hx).1];exact V.accE_val _ _
 have hS:V.Canon (V.accE (V.seenOf J vals)) (V.seenL J vals):=by
  refine V.joinL_canon fun x hx=>?_
  obtain⟨e,he,rfl⟩:=List.mem_map.1 hx
  have hej:=(List.mem_filter.1 he).1
  have h2:=(hJ.mem e).1 hej
  obtain⟨y,hy,hyk⟩:=acc_key h2.2
  have hok:=(toV_ok hE y hy).1
  rw[hyk] at hok
  exact⟨⟨hok.src,hok.tgt,hok.cls,show V.I64 0 from⟨by decide,by decide⟩⟩,hJv e hej⟩
 rw[vlook_canon hS]
 refine vle_ext (V.accE_val _ _) (rulesJoin_ok _ _ _ _ _ _ V.AVec.zero_ok) fun m hm=>?_
 have hSv:∀ p∈V.kvs (V.seenOf J vals),p.2.Ok:=fun p hp=>by
  obtain⟨x,hx,rfl⟩:=List.mem_map.1 hp
  obtain⟨e,he,rfl⟩:=List.mem_map.1 hx
  exact hJv e (List.mem_filter.1 he).1
 unfold V.accE
 rw[vaccum_iff hm hSv,rulesJoin_iff _ _ _ _ _ _ V.AVec.zero_ok hwf]
 have hF:∀ cond:Int,(V.accE (E.map AEntry.toV) ⟨s,o,c,cond⟩).or m=m↔∀ p∈(kvR l).map toVP,p.1=⟨s,o,c,cond⟩→p.2.or m=m:=fun cond=>by
  have:=hG ⟨s,o,c,cond⟩
  rw[show(⟨s,o,c,cond⟩:V.Key4)=Key4.toV ⟨s,o,c,cond⟩ from rfl,this,accum_toV,vaccum_iff hm hkv]
 constructor
 ·intro h
  refine⟨V.AVec.zero_or hm,fun r hr hh=>?_⟩
  unfold ruleHits at hh
  simp only[Bool.and_eq_true,decide_eq_true_eq] at hh
  obtain⟨⟨⟨h1,h2⟩,h3⟩,h4⟩:=hh
  have hall:(V.accE (E.map AEntry.toV) ⟨s,o,c,r.cond⟩).or m=m:=by
   by_cases hz:V.accE (E.map AEntry.toV) ⟨s,o,c,r.cond⟩=V.AVec.zero
   ·rw[hz,V.AVec.zero_or hm]
   ·have hx:=(hJ.mem (V.mkE ⟨s,o,c,r.cond⟩ (V.accE (E.map AEntry.toV) ⟨s,o,c,r.cond⟩))).2 ⟨rfl,hz⟩
    exact h ((V.bare (V.mkE ⟨s,o,c,r.cond⟩ (V.accE (E.map AEntry.toV) ⟨s,o,c,r.cond⟩))).key,_) (List.mem_map.2 ⟨_,List.mem_map.2 ⟨_,List.mem_filter.2 ⟨hx,h2⟩,rfl⟩,rfl⟩) rfl
  refine(hF r.cond).1 hall (toVP (pkey r (s,o),vecOf r.kind r.perms)) (List.mem_map.2 ⟨_,List.mem_flatMap.2 ⟨r,hr,List.mem_map.2 ⟨(s,o),(mem_pairs hs ho).2 ⟨h3,dec_nat s o▸h4⟩,rfl⟩⟩,rfl⟩) ?_
  show(⟨(s:Int),(o:Int),r.cls,r.cond⟩:V.Key4)=_
  rw[h1]
 ·rintro⟨-,h⟩ p hp hk
  obtain⟨x,hx,rfl⟩:=List.mem_map.1 hp
  obtain⟨e,he,rfl⟩:=List.mem_map.1 hx
  obtain⟨hej,hev⟩:=List.mem_filter.1 he
  have hk':e.key=⟨s,o,c,e.cond⟩:=by
   have:(V.bare e).key=⟨s,o,c,0⟩:=hk
   unfold V.bare V.AEntry.key at this
   unfold V.AEntry.key
   simp only[V.Key4.mk.injEq] at this ⊢
   exact⟨this.1,this.2.1,this.2.2.1,trivial⟩
  have h1:=((hJ.mem e).1 hej).1
  rw[hk'] at h1
  show e.vecs.or m=m
  rw[h1,hF e.cond]
  intro q hq hqk
  obtain⟨z,hz,rfl⟩:=List.mem_map.1 hq
  obtain⟨r,hr,hz⟩:=List.mem_flatMap.1 hz
  obtain⟨⟨a,b⟩,hab,rfl⟩:=List.mem_map.1 hz
  have e4:(⟨(a:Int),(b:Int),r.cls,r.cond⟩:V.Key4)=⟨s,o,c,e.cond⟩:=hqk
  simp only[V.Key4.mk.injEq] at e4
  obtain⟨e1,e2,e3,e5⟩:=e4
  have e1:a=s:=by omega
  have e2:b=o:=by omega
  subst e1 e2
  refine h r hr ?_
  obtain⟨g1,g2⟩:=(mem_pairs hs ho).1 hab
  unfold ruleHits
  rw[e3,e5,hev,g1,dec_nat,g2]
  simp
end Go.Proofs.YtdcofoaihmongaaGreat
namespace Go.Proofs.YtdcofoaihmongaaGreat
open Go Go.RowKit
def At (a:Act) (s:Nat) (v:Value):Prop:=a.tmps[s]?=some v
theorem At.ev {a:Act} {s:Nat} {v:Value} (h:At a s v):a.eval (.tmp s)=v:=by
 unfold At at h
 show a.tmps.getD s undef=v
 rw[Array.getD_eq_getD_getElem?,h]
 rfl
theorem At.eq {a:Act} {s:Nat} {v u:Value} (h:At a s v) (e:v=u):At a s u:=e▸h
structure Fr (a:Act) (N:Nat):Prop where
 defers:a.defers=[]
 size:a.tmps.size=N
structure Put (a:Act) (s:Nat) (v:Value) (a':Act):Prop where
 now:At a' s v
 old:∀ {j:Nat} {u:Value},(j == s)=false→At a j u→At a' j u
 fr:∀ {N:Nat},Fr a N→Fr a' N
theorem Put.eq {a a':Act} {s:Nat} {v u:Value} (h:Put a s v a') (e:v=u):Put a s u a':=e▸h
theorem put_of {a:Act} {N d:Nat} {v:Value} (hf:Fr a N) (hd:d<N):Put a d v (a.put (some d) v):=by
 refine⟨?_,fun {j u} hj h=>?_,fun {N} h=>⟨h.defers,?_⟩⟩
 ·show(a.tmps.setIfInBounds d v)[d]?=some v
  rw[Array.getElem?_setIfInBounds_self_of_lt (by rw[hf.size];exact hd)]
 ·show(a.tmps.setIfInBounds d v)[j]?=some u
  have hne:d≠j:=fun e=>by subst e;simp at hj
  rw[Array.getElem?_setIfInBounds_ne hne]
  exact h
 ·show(a.tmps.setIfInBounds d v).size=N
  rw[Array.size_setIfInBounds]
  exact h.size
section
variable {P:Program} {ops:Array Oper} {Q:Exit→Act→World→Prop} {a:Act} {w w':World} {rest:List Oper} {o:Oper} {v:Value} {d N:Nat}
theorem on_plain (hg:o.guard=none):Region.wanted o (yielded ops a.tmps)=true:=by simp[Region.wanted,hg]
theorem on_guard {j s:Nat} {b:Bool} (hg:o.guard=some (j,b)) (hj:(ops[j]?).bind (·.dst)=some s) (h:At a s (.bool b)):Region.wanted o (yielded ops a.tmps)=true:=by
 unfold At at h
 simp[Region.wanted,hg,yielded,hj,h]
theorem off_guard {j s:Nat} {b c:Bool} (hg:o.guard=some (j,b)) (hj:(ops[j]?).bind (·.dst)=some s) (h:At a s (.bool c)) (hne:(c == b)=false):Region.wanted o (yielded ops a.tmps)=false:=by
 unfold At at h
 simp only[Region.wanted,hg,yielded,hj,Option.bind_some,h]
 simpa using hne
theorem off_undef {j s:Nat} {b:Bool} (hg:o.guard=some (j,b)) (hj:(ops[j]?).bind (·.dst)=some s) (h:At a s undef):Region.wanted o (yielded ops a.tmps)=false:=by
 unfold At at h
 simp only[Region.wanted,hg,yielded,hj,Option.bind_some,h]
 simp[undef]
theorem wk_val (hw:Region.wanted o (yielded ops a.tmps)=true) (hr:(execOp a.eval o).run P w=.ok (.value v) w') (hd:o.dst=some d) (hf:Fr a N) (hN:d<N)
 (next:∀ a',Put a d v a'→wpList P ops Q rest a' w'):wpList P ops Q (o::rest) a w :=
 wpList_step fun K hK=>by
  rw[if_pos hw]
  unfold Oper.wp
  rw[hr,Oper.upon_value,hd]
  exact hK _ _ (next _ (put_of hf hN))
theorem wk_off (hw:Region.wanted o (yielded ops a.tmps)=false) (hd:o.dst=some d) (hf:Fr a N) (hN:d<N)
 (next:∀ a',Put a d undef a'→wpList P ops Q rest a' w):wpList P ops Q (o::rest) a w :=
 wpList_skip hw (by rw[hd];exact next _ (put_of hf hN))
theorem wk_call (hw:Region.wanted o (yielded ops a.tmps)=true) {f:FuncId} {args:Array Value} (hr:(execOp a.eval o).run P w=.ok (.enter f args) w) {R:Value→World→Prop}
 (hc:Calls P f args w fun e w'=>∃ v,e=.returned v∧R v w') (hd:o.dst=some d) (hf:Fr a N) (hN:d<N)
 (next:∀ v a' w',R v w'→Put a d v a'→wpList P ops Q rest a' w'):wpList P ops Q (o::rest) a w :=
 wpList_step fun K hK=>by
  rw[if_pos hw]
  unfold Oper.wp
  rw[hr,Oper.upon_enter]
  refine hc.mono ?_
  rintro e w' ⟨v,rfl,h⟩
  show K _ _
  rw[hd]
  exact hK _ _ (next v _ w' h (put_of hf hN))
theorem calls_val {f:FuncId} {args:Array Value} {v:Value} {R:World→Prop} (h:Calls P f args w fun e w'=>e=.returned v∧R w'):Calls P f args w fun e w'=>∃ u,e=.returned u∧(u=v∧R w') :=
 h.mono fun _ _ ⟨h1,h2⟩=>⟨v,h1,rfl,h2⟩
theorem calls_same {f:FuncId} {args:Array Value} {v:Value} (h:Calls P f args w fun e w'=>e=.returned v∧w=w'):Calls P f args w fun e w'=>∃ u,e=.returned u∧(u=v∧w=w') :=
 h.mono fun _ _ ⟨h1,h2⟩=>⟨v,h1,rfl,h2⟩
theorem e_move {x:Operand} (ho:o.op=.move x) (hx:a.eval x=v):(execOp a.eval o).run P w=.ok (.value v) w:=by
 unfold execOp;simp only[ho,hx];rfl
theorem e_assign {x:Operand} (ho:o.op=.assign x) (hx:a.eval x=v):(execOp a.eval o).run P w=.ok (.value v) w:=by
 unfold execOp;simp only[ho,hx];rfl
theorem e_pick {c x y:Operand} {t:Bool} {u:Value} (ho:o.op=.pick c x y) (hc:a.eval c=.bool t) (hx:a.eval x=v) (hy:a.eval y=u):(execOp a.eval o).run P w=.ok (.value (if t then v else u)) w:=by
 unfold execOp;simp only[ho,hc,hx,hy];cases t<;>rfl
theorem e_box {x:Operand} {ty:TypeId} (ho:o.op=.box ty x) (hx:a.eval x=v):(execOp a.eval o).run P w=.ok (.value (.pointer (some ⟨w.heap.size,0,none⟩))) (w.alloc (.cells v.cells ty)):=by
 unfold execOp
 simp only[ho,hx,Sem.run_bind,Instr.box,newVar,newRow,run_newObj_alloc,Sem.run_pure,Result.andThen_ok]
theorem run_zero {ty:TypeId} {z:Value} (hz:(P.info? ty).bind (·.zero)=some z) (w:World):(zeroValue ty).run P w=.ok z w:=by
 unfold zeroValue typeInfo
 cases hi:P.info? ty with
 | none=>rw[hi] at hz;cases hz
 | some i =>
  rw[hi] at hz
  have hz':i.zero=some z:=hz
  simp[Sem.run_bind,hi,hz']
theorem e_alloc {ty:TypeId} {z:Value} (ho:o.op=.alloc ty) (hz:(P.info? ty).bind (·.zero)=some z):(execOp a.eval o).run P w=.ok (.value (.pointer (some ⟨w.heap.size,0,none⟩))) (w.alloc (.cells z.cells ty)):=by
 unfold execOp
 simp only[ho,Instr.alloc,Sem.run_bind,run_zero hz,Result.andThen_ok,newVar,newRow,run_newObj_alloc,Sem.run_pure]
theorem e_load1 {ty:TypeId} {x:Operand} {p:Addr} {dd:TypeDesc} (ho:o.op=.load ty x) (hx:a.eval x=.pointer (some p)) (hu:P.underlying ty=some dd)
 (hd:(match dd with | .struct _ | .array _ _=>false | _=>true)=true) (hc:w.cell? p=some v):(execOp a.eval o).run P w=.ok (.value v) w:=by
 have hagg:(isAgg ty).run P w=.ok false w:=by
  unfold isAgg
  rw[Sem.run_bind,run_underlying hu w]
  cases dd<;>simp_all
 unfold execOp
 simp only[ho,hx,Instr.loadAt,Instr.sureAddr,Sem.run_bind,Sem.run_pure,Result.andThen_ok,loadVar,hagg]
 simp[run_load,hc]
theorem e_loadN {ty:TypeId} {x:Operand} {g f:Nat} (cs:List Value) {dd:TypeDesc} (ho:o.op=.load ty x) (hx:a.eval x=.pointer (some ⟨g,f,none⟩)) (hu:P.underlying ty=some dd)
 (hd:(match dd with | .struct _ | .array _ _=>true | _=>false)=true) (hi:(P.info? ty).map (·.size)=some cs.length) (hc:∀ j u,cs[j]?=some u→w.cell? ⟨g,f+j,none⟩=some u):(execOp a.eval o).run P w=.ok (.value (.agg cs.toArray)) w:=by
 unfold execOp
 simp only[ho,hx,Instr.loadAt,Instr.sureAddr,Sem.run_bind,Sem.run_pure,Result.andThen_ok,run_loadVar_run w g f ty cs dd hc hu hd hi]
theorem e_field {ty:TypeId} {x:Operand} {f g off:Nat} {fs:Array Field} {fd:Field} {k:Nat} (ho:o.op=.fieldAddr ty x f) (hx:a.eval x=.pointer (some ⟨g,off,none⟩)) (hu:P.underlying ty=some (.struct fs)) (hf:fs[f]?=some fd)
 (hs:(P.info? fd.type).map (·.size)=some (k+1)):(execOp a.eval o).run P w=.ok (.value (.pointer (some ⟨g,off+fd.offset,none⟩))) w:=by
 have hadd:(⟨g,off,none⟩:Addr).add fd.offset=⟨g,off+fd.offset,none⟩:=by unfold Addr.add;split<;>simp_all
 have hsz:(sizeOf fd.type).run P w=.ok (k+1) w:=by
  cases hq:P.info? fd.type with
  | none=>simp[hq] at hs
  | some i =>
   have hs':i.size=k+1:=by simpa[hq] using hs
   simp[sizeOf,typeInfo,hq,hs',Sem.run_bind]
 unfold execOp
 simp only[ho,hx,Instr.fieldAt,Sem.run_bind,run_underlying hu w,Result.andThen_ok,hf,Instr.sureAddr,Sem.run_pure,fieldPlace,hsz]
 simp[hadd]
theorem run_sizeOf {ty:TypeId} {k:Nat} (hs:(P.info? ty).map (·.size)=some k) (w:World):(sizeOf ty).run P w=.ok k w:=by
 cases hq:P.info? ty with
 | none=>simp[hq] at hs
 | some i =>
  have hs':i.size=k:=by simpa[hq] using hs
  simp[sizeOf,typeInfo,hq,hs',Sem.run_bind]
theorem e_indexAddr {ty e:TypeId} {x y:Operand} {g off n c i k:Nat} {ik:IntKind} (ho:o.op=.indexAddr ty x y) (hx:a.eval x=.slice (some ⟨g,off,none⟩) n c) (hy:a.eval y=.int ik (i:Int)) (hi:i<n) (hu:P.underlying ty=some (.slice e))
 (hs:(P.info? e).map (·.size)=some k):(execOp a.eval o).run P w=.ok (.value (.pointer (some ⟨g,off+i*k,none⟩))) w:=by
 have hadd:(⟨g,off,none⟩:Addr).add (i*k)=⟨g,off+i*k,none⟩:=by unfold Addr.add;split<;>simp_all
 unfold execOp
 simp only[ho,hx,hy,Instr.indexAt,asIntOf,Sem.run_bind,run_underlying hu w,Result.andThen_ok,Sem.run_pure]
 have h1:(0:Int)≤(i:Int)∧(i:Int)<(n:Int):=by omega
 simp[h1,run_sizeOf hs,hadd]
theorem e_indexArr {ty e:TypeId} {x y:Operand} {g off n i k:Nat} {ik:IntKind} (ho:o.op=.indexAddr ty x y) (hx:a.eval x=.pointer (some ⟨g,off,none⟩)) (hy:a.eval y=.int ik (i:Int)) (hi:i<n) (hu:P.underlying ty=some (.array n e))
 (hs:(P.info? e).map (·.size)=some k):(execOp a.eval o).run P w=.ok (.value (.pointer (some ⟨g,off+i*k,none⟩))) w:=by
 have hadd:(⟨g,off,none⟩:Addr).add (i*k)=⟨g,off+i*k,none⟩:=by unfold Addr.add;split<;>simp_all
 unfold execOp
 simp only[ho,hx,hy,Instr.indexAt,asIntOf,Sem.run_bind,run_underlying hu w,Result.andThen_ok,Sem.run_pure,Instr.sureAddr]
 have h1:(0:Int)≤(i:Int)∧(i:Int)<(n:Int):=by omega
 simp[h1,run_sizeOf hs,hadd]
section
variable {ty yt:TypeId} {x y:Operand} {k:IntKind} {m n:Int}
theorem e_lss (ho:o.op=.binOp .lss ty x y yt) (hx:a.eval x=.int k m) (hy:a.eval y=.int k n):(execOp a.eval o).run P w=.ok (.value (.bool (decide (m<n)))) w:=by
 unfold execOp;simp[ho,hx,hy,eqGuard,binOp,Op.intCmp]
theorem e_leq (ho:o.op=.binOp .leq ty x y yt) (hx:a.eval x=.int k m) (hy:a.eval y=.int k n):(execOp a.eval o).run P w=.ok (.value (.bool (decide (m≤n)))) w:=by
 unfold execOp;simp[ho,hx,hy,eqGuard,binOp,Op.intCmp]
theorem e_gtr (ho:o.op=.binOp .gtr ty x y yt) (hx:a.eval x=.int k m) (hy:a.eval y=.int k n):(execOp a.eval o).run P w=.ok (.value (.bool (decide (n<m)))) w:=by
 unfold execOp;simp[ho,hx,hy,eqGuard,binOp,Op.intCmp]
theorem e_geq (ho:o.op=.binOp .geq ty x y yt) (hx:a.eval x=.int k m) (hy:a.eval y=.int k n):(execOp a.eval o).run P w=.ok (.value (.bool (decide (n≤m)))) w:=by
 unfold execOp;simp[ho,hx,hy,eqGuard,binOp,Op.intCmp]
theorem e_eqI (ho:o.op=.binOp .eql ty x y yt) (hx:a.eval x=.int k m) (hy:a.eval y=.int k n):(execOp a.eval o).run P w=.ok (.value (.bool (decide (m=n)))) w:=by
 unfold execOp
 simp[ho,hx,hy,eqGuard,binOp,Op.intCmp]
 rfl
theorem e_neI (ho:o.op=.binOp .neq ty x y yt) (hx:a.eval x=.int k m) (hy:a.eval y=.int k n):(execOp a.eval o).run P w=.ok (.value (.bool (!decide (m=n)))) w:=by
 unfold execOp
 simp[ho,hx,hy,eqGuard,binOp,Op.intCmp]
 rfl
theorem e_add (ho:o.op=.binOp .add ty x y yt) (hx:a.eval x=.int k m) (hy:a.eval y=.int k n):(execOp a.eval o).run P w=.ok (.value (.int k (k.wrap (m+n)))) w:=by
 unfold execOp;simp[ho,hx,hy,eqGuard,binOp,Op.intArith]
theorem e_or (ho:o.op=.binOp .or ty x y yt) (hx:a.eval x=.int k m) (hy:a.eval y=.int k n):(execOp a.eval o).run P w=.ok (.value (.int k (k.wrap (BitVec.ofInt k.bits m|||BitVec.ofInt k.bits n).toNat))) w:=by
 unfold execOp;simp[ho,hx,hy,eqGuard,binOp,Op.intBits]
theorem e_not {b:Bool} (ho:o.op=.unOp .not ty x) (hx:a.eval x=.bool b):(execOp a.eval o).run P w=.ok (.value (.bool (!b))) w:=by
 unfold execOp;simp[ho,hx,Op.unary]
theorem e_eqS {s t:ByteArray} (ho:o.op=.binOp .eql ty x y yt) (hx:a.eval x=.string s) (hy:a.eval y=.string t):(execOp a.eval o).run P w=.ok (.value (.bool (s.toList == t.toList))) w:=by
 unfold execOp;simp[ho,hx,hy,eqGuard,binOp,Op.stringOp]
theorem e_neS {s t:ByteArray} (ho:o.op=.binOp .neq ty x y yt) (hx:a.eval x=.string s) (hy:a.eval y=.string t):(execOp a.eval o).run P w=.ok (.value (.bool (!(s.toList == t.toList)))) w:=by
 unfold execOp;simp[ho,hx,hy,eqGuard,binOp,Op.stringOp]
def emptyB (s:ByteArray):Bool:=s.toList == (⟨#[]⟩:ByteArray).toList
theorem e_eqE {s:ByteArray} (ho:o.op=.binOp .eql ty x y yt) (hx:a.eval x=.string s) (hy:a.eval y=.string ⟨#[]⟩):(execOp a.eval o).run P w=.ok (.value (.bool (emptyB s))) w:=e_eqS ho hx hy
theorem e_neE {s:ByteArray} (ho:o.op=.binOp .neq ty x y yt) (hx:a.eval x=.string s) (hy:a.eval y=.string ⟨#[]⟩):(execOp a.eval o).run P w=.ok (.value (.bool (!emptyB s))) w:=e_neS ho hx hy
end
theorem e_lenSl {t e:TypeId} {x:Operand} {g:Option Addr} {n c:Nat} (ho:o.op=.call { callee:=.builtin .len,args:=#[x],argTypes:=#[t] }) (hx:a.eval x=.slice g n c) (hu:P.underlying t=some (.slice e)) :
 (execOp a.eval o).run P w=.ok (.value (.int .i64 (n:Int))) w:=by
 unfold execOp
 simp[ho,hx,resolve,invoke,builtin,Builtin.len_,run_underlying hu,Sem.run_bind,goInt]
theorem e_extract {x:Operand} {i:Nat} {vs:Array Value} (ho:o.op=.extract x i) (hx:a.eval x=.tuple vs) (hi:vs[i]?=some v):(execOp a.eval o).run P w=.ok (.value v) w:=by
 unfold execOp
 simp[ho,hx,Instr.extract,hi]
theorem e_call {f:FuncId} {xs:Array Operand} {ts:Array TypeId} {fn:Func} {c:Code} {args:Array Value} (ho:o.op=.call { callee:=.value (.func f),args:=xs,argTypes:=ts }) (hf:P.funcs[f]?=some fn) (hn:(fn.name == "runtime.NumGoroutine")=false) (hb:fn.body=some c)
 (ha:xs.map a.eval=args):(execOp a.eval o).run P w=.ok (.enter f args) w:=by
 have h0:fn.body.isNone=false:=by rw[hb];rfl
 unfold execOp
 simp only[ho,resolve,ha,Act.eval,Deferred.ofValue,invoke,callFunc,Sem.run_bind,Sem.run_pure,Result.andThen_ok,run_program,hf,hn,h0]
 simp
theorem e_buildSlice {t e:TypeId} {len k:Nat} {parts:Array (Nat×Operand)} {cells:Array Value} {z:Value} (ho:o.op=.buildSlice t len parts) (hu:P.underlying t=some (.slice e)) (hs:(P.info? e).map (·.size)=some k) (hz:(P.info? e).bind (·.zero)=some z)
 (hsmall:len*k≤2^24) (hpos:0<len*k) {pv:Array (Nat×Value)} (hp:(parts.map fun(i,x)=>(i,a.eval x))=pv) (h:Instr.fill (fun i=>some (i*k,k)) ((Array.range (len*k)).map (z.cells[·%z.cells.size]!)) pv.toList=some cells) :
 (execOp a.eval o).run P w=.ok (.value (.slice (some ⟨w.heap.size,0,none⟩) len len)) (w.alloc (.cells cells e)):=by
 subst hp
 cases hi:P.info? e with
 | none=>rw[hi] at hz;cases hz
 | some i =>
  rw[hi] at hz hs
  have hz':i.zero=some z:=hz
  have hs':i.size=k:=by simpa using hs
  subst hs'
  have:=run_buildSlice (P:=P) w t e len (parts.map fun(i,x)=>(i,a.eval x)) cells i z hu hi hz' (by omega) (by omega) h
  unfold execOp
  simp only[ho,Sem.run_bind,this,Result.andThen_ok,Sem.run_pure]
structure New (w w':World) (g:Nat) (ty:TypeId) (cs:Array Value):Prop where
 at_:w.heap.size=g
 eq:w'=w.alloc (.cells cs ty)
theorem New.whole {g:Nat} {ty:TypeId} {cs:Array Value} (h:New w w' g ty cs):Whole w' g ty cs:=by
 rw[h.eq,← h.at_];exact Whole.new w ty cs
theorem New.below {g:Nat} {ty:TypeId} {cs:Array Value} (h:New w w' g ty cs):RowKit.Below w.heap.size w w':=by
 rw[h.eq];exact(Below.refl _ w).alloc (Nat.le_refl _) _
theorem wk_new (hw:Region.wanted o (yielded ops a.tmps)=true) {ty:TypeId} {cs:Array Value} {f:Nat→Value} (hr:(execOp a.eval o).run P w=.ok (.value (f w.heap.size)) (w.alloc (.cells cs ty))) (hd:o.dst=some d) (hf:Fr a N) (hN:d<N)
 (next:∀ g a' w',New w w' g ty cs→Put a d (f g) a'→wpList P ops Q rest a' w'):wpList P ops Q (o::rest) a w :=
 wk_val hw hr hd hf hN fun a' p=>next w.heap.size a' _ ⟨rfl,rfl⟩ p
theorem wk_store (hw:Region.wanted o (yielded ops a.tmps)=true) {ty:TypeId} {x y:Operand} (ho:o.op=.store ty x y) {g f:Nat} (hx:a.eval x=.pointer (some ⟨g,f,none⟩)) (hy:a.eval y=v) {t:TypeId} {cs cs':Array Value} (H:Whole w g t cs)
 {l:List Value} (hl:v.cells.toList=l) (hfit:f+l.length≤cs.size) (hi:(P.info? ty).map (·.size)=some l.length) (h1:l.all (·.oneCell')=true) (hsp:splice cs f l=cs') (hd:o.dst=none)
 (next:∀ w',Sto w w' g→Whole w' g t cs'→wpList P ops Q rest a w'):wpList P ops Q (o::rest) a w:=by
 subst hl hsp
 have hsz:v.cells.size=v.cells.toList.length:=by simp
 refine wpList_step fun K hK=>?_
 rw[if_pos hw]
 refine wp_store_blk ty x y ho g f v hx hy t cs H (by rw[hsz];exact hfit) (by rw[hsz];exact hi) h1 fun w' h2 h3=>?_
 rw[hd]
 exact hK _ _ (next w' h2 h3)
theorem e_eqAg {ty yt:TypeId} {x y:Operand} {xs ys:Array Value} {b:Bool} (ho:o.op=.binOp .eql ty x y yt) (hx:a.eval x=.agg xs) (hy:a.eval y=.agg ys) (hm:P.eqGuardType P.depth ty=false)
 (hq:(Op.equalIn 10000 ty (.agg xs) (.agg ys)).run P w=.ok b w):(execOp a.eval o).run P w=.ok (.value (.bool b)) w:=by
 unfold execOp
 simp[ho,hx,hy,run_eqGuard_agg (hm:=hm),run_eql_struct,hq]
theorem e_neAg {ty yt:TypeId} {x y:Operand} {xs ys:Array Value} {b:Bool} (ho:o.op=.binOp .neq ty x y yt) (hx:a.eval x=.agg xs) (hy:a.eval y=.agg ys) (hm:P.eqGuardType P.depth ty=false)
 (hq:(Op.equalIn 10000 ty (.agg xs) (.agg ys)).run P w=.ok b w):(execOp a.eval o).run P w=.ok (.value (.bool (!b))) w:=by
 unfold execOp
 simp[ho,hx,hy,run_eqGuard_agg (hm:=hm),run_neq_struct,hq]
theorem e_build {t:TypeId} {parts:Array (Nat×Operand)} {cells:Array Value} (ho:o.op=.build t parts) {pv:Array (Nat×Value)} (hp:(parts.map fun(i,x)=>(i,a.eval x))=pv) (h:P.built t pv.toList=some cells) :
 (execOp a.eval o).run P w=.ok (.value (.agg cells)) w:=by
 subst hp
 unfold execOp
 simp only[ho,Sem.run_bind,run_build w t _ cells h,Result.andThen_ok,Sem.run_pure]
theorem _root_.Go.RowKit.Below.step {w0 w1 w2:World} {B:Nat} (h:RowKit.Below B w0 w1) (k:RowKit.Below w1.heap.size w1 w2) (hB:B≤w1.heap.size):RowKit.Below B w0 w2:=h.trans (k.mono hB)
end
theorem wk_nf {b:Bool} (h:b=true):¬ b=false:=by rw[h];decide
theorem wk_nt {b:Bool} (h:b=false):¬ b=true:=by rw[h];decide
theorem wk_splice (cs:Array Value) (l:List Value) (h:cs.size=l.length):splice cs 0 l=l.toArray:=by
 apply Array.toList_inj.1
 rw[splice_toList _ _ _ (by omega)]
 simp[List.drop_of_length_le (show cs.toList.length≤l.length by simp[h])]
section
variable {w:World} {a:Act} {g f:Nat} {t:TypeId} {cs:Array Value}
theorem whole_part {l:List Value} (h:Whole w g t cs) (hl:l=(cs.toList.drop f).take l.length):∀ j u,l[j]?=some u→w.cell? ⟨g,f+j,none⟩=some u:=fun j u hu=>by
 rw[h.cell]
 have hj:j<l.length:=(List.getElem?_eq_some_iff.1 hu).1
 rw[hl,List.getElem?_take,if_pos hj,List.getElem?_drop] at hu
 simpa using hu
theorem run_part {b o:Nat} {k l:List Value} (h:∀ j u,k[j]?=some u→w.cell? ⟨b,o+j,none⟩=some u) (hl:l=(k.drop f).take l.length):∀ j u,l[j]?=some u→w.cell? ⟨b,o+f+j,none⟩=some u:=fun j u hu=>by
 have hj:j<l.length:=(List.getElem?_eq_some_iff.1 hu).1
 rw[hl,List.getElem?_take,if_pos hj,List.getElem?_drop] at hu
 rw[Nat.add_assoc]
 exact h _ u hu
variable {x1 x2 x3 x4 x5 x6:Operand} {v1 v2 v3 v4 v5 v6:Value}
theorem args0:(#[]:Array Operand).map a.eval=#[]:=by simp
theorem args1 (h1:a.eval x1=v1):#[x1].map a.eval=#[v1]:=by simp[h1]
theorem args2 (h1:a.eval x1=v1) (h2:a.eval x2=v2):#[x1,x2].map a.eval=#[v1,v2]:=by simp[h1,h2]
theorem args3 (h1:a.eval x1=v1) (h2:a.eval x2=v2) (h3:a.eval x3=v3):#[x1,x2,x3].map a.eval=#[v1,v2,v3]:=by simp[h1,h2,h3]
theorem args4 (h1:a.eval x1=v1) (h2:a.eval x2=v2) (h3:a.eval x3=v3) (h4:a.eval x4=v4):#[x1,x2,x3,x4].map a.eval=#[v1,v2,v3,v4]:=by simp[h1,h2,h3,h4]
end
theorem wrap_i64 {n:Int} (h:-9223372036854775808≤n∧n≤9223372036854775807):IntKind.i64.wrap n=n:=IntWalk.i64_in n h
section
variable {P:Program} {Q:Exit→Act→World→Prop} {a:Act} {w:World}
theorem wk_enter {f:FuncId} {fn:Func} {c:Code} {args:Array Value} {R:Ending→World→Prop} {N:Nat} (hf:P.funcs[f]?=some fn) (hb:fn.body=some c) (hn:fn.ntmps=N) (hN:args.size≤N)
 (h:∀ a,Fr a N→(∀ i v,args[i]?=some v→At a i v)→c.wp P (bodyPost P fn R) a w):Calls P f args w R:=by
 refine calls_of_wp hf hb (h _ ⟨rfl,?_⟩ ?_)
 ·simp;omega
 ·intro i v hv
  have hi:i<args.size:=(Array.getElem?_eq_some_iff.1 hv).1
  show(args++Array.replicate (fn.ntmps-args.size) undef)[i]?=some v
  rw[Array.getElem?_append_left hi]
  exact hv
theorem wk_region {id:Nat} {l:List Oper} (h:wpList P l.toArray Q l a w):(Code.region id l.toArray false).wp P Q a w:=wp_region_lit h
theorem wk_ret {fn:Func} {R:Ending→World→Prop} {N s:Nat} {v:Value} (hr:fn.results=#[.tmp s]) (hf:Fr a N) (h:At a s v) (hR:R (.returned v) w):bodyPost P fn R .ret a w:=by
 refine⟨hf.defers,v,?_,hR⟩
 have he:a.tmps.getD s undef=v:=h.ev
 rw[Array.getD_eq_getD_getElem?] at he
 simp[results,hr,he]
theorem wk_ret2 {fn:Func} {R:Ending→World→Prop} {N s t:Nat} {v u:Value} (hr:fn.results=#[.tmp s,.tmp t]) (hf:Fr a N) (h:At a s v) (k:At a t u) (hR:R (.returned (.tuple #[v,u])) w):bodyPost P fn R .ret a w:=by
 refine⟨hf.defers,_,?_,hR⟩
 have he:a.tmps.getD s undef=v:=h.ev
 have ke:a.tmps.getD t undef=u:=k.ev
 rw[Array.getD_eq_getD_getElem?] at he ke
 simp[results,hr,he,ke]
theorem wk_ret3 {fn:Func} {R:Ending→World→Prop} {N s t r:Nat} {v u x:Value} (hr:fn.results=#[.tmp s,.tmp t,.tmp r]) (hf:Fr a N) (h:At a s v) (k:At a t u) (l:At a r x) (hR:R (.returned (.tuple #[v,u,x])) w):bodyPost P fn R .ret a w:=by
 refine⟨hf.defers,_,?_,hR⟩
 have he:a.tmps.getD s undef=v:=h.ev
 have ke:a.tmps.getD t undef=u:=k.ev
 have le:a.tmps.getD r undef=x:=l.ev
 rw[Array.getD_eq_getD_getElem?] at he ke le
 simp[results,hr,he,ke,le]
theorem wk_ret0 {fn:Func} {R:Ending→World→Prop} {N:Nat} (hr:fn.results=#[]) (hf:Fr a N) (hR:R (.returned (.tuple #[])) w):bodyPost P fn R .ret a w:=by
 refine⟨hf.defers,_,?_,hR⟩
 simp[results,hr]
theorem least {p:Nat→Prop}:∀ n,p n→∃ n,p n∧∀ m,p m→n≤m:=by
 intro n
 induction n using Nat.strongRecOn with
 | _ n ih =>
  intro hn
  by_cases h:∃ m,m<n∧p m
  ·obtain⟨m,hm,hp⟩:=h
   exact ih m hm hp
  ·exact⟨n,hn,fun m hm=>Nat.le_of_not_lt fun hlt=>h ⟨m,hlt,hm⟩⟩
theorem wk_loop {ι:Type} {c:Code} (I:ι→Act→World→Prop) (μ:ι→Nat) (x:ι) (h0:I x a w)
 (round:∀ x a w,I x a w→c.wp P (Exit.then (fun a' w'=>∃ x',I x' a' w'∧μ x'<μ x) Q) a w):(Code.loop c).wp P Q a w:=by
 classical
 have hex:∀ a w,(∃ x,I x a w)→∃ n,(∃ x,I x a w∧μ x=n)∧∀ m,(∃ x,I x a w∧μ x=m)→n≤m:=fun a w ⟨x,hx⟩=>least (μ x) ⟨x,hx,rfl⟩
 refine wp_loop (fun a w=>∃ x,I x a w) (fun a w=>if h:∃ x,I x a w then Classical.choose (hex a w h) else 0) ⟨x,h0⟩ ?_
 intro a w h
 obtain⟨⟨x,hx,hm⟩,-⟩:=Classical.choose_spec (hex a w h)
 refine Code.wp_mono ?_ (round x a w hx)
 intro e a' w' hq
 cases e with
 | normal =>
  obtain⟨x',hx',hlt⟩:=hq
  refine⟨⟨x',hx'⟩,?_⟩
  rw[dif_pos ⟨x',hx'⟩,dif_pos h]
  exact Nat.lt_of_le_of_lt ((Classical.choose_spec (hex a' w' ⟨x',hx'⟩)).2 _ ⟨x',hx',rfl⟩) (by rw[← hm];exact hlt)
 | _=>exact hq
end
abbrev Good:=Value→World→Prop
def TailSteps (P:Program) (ops:Array Oper) (K:Act→World→Prop):List Oper→Act→World→Prop
 | [],a,w=>K a w
 | o::r,a,w=>∀ Q':Exit→Act→World→Prop,(∀ a w,TailSteps P ops K r a w→Q' .normal a w)→wpList P ops Q' [o] a w
structure Drawn (slots:List Nat) (goods:List Good) (inv:World→Prop) (a0:Act) (N:Nat) (L:Nat→Bool) (a:Act) (w:World):Prop where
 fr:Fr a N
 inv:inv w
 done:∀ i,L i=true→∀ s g,slots[i]?=some s→goods[i]?=some g→∃ v,At a s v∧g v w
 rest:∀ j u,slots.contains j=false→At a0 j u→At a j u
def DrawSteps (P:Program) (ops:Array Oper) (slots:List Nat) (goods:List Good) (inv:World→Prop) (a0:Act) (N:Nat):List Oper→List Good→Prop
 | [],_=>True
 | _::_,[]=>False
 | o::r,g::gs=>(∀ (a:Act) (w:World) (Q':Exit→Act→World→Prop),Fr a N→inv w →
  (∀ k,(∃ gr,(⟨k,gr⟩:Edge)∈o.after.toList∧Region.binds .any ⟨k,gr⟩=true)→∀ s g,slots[k]?=some s→goods[k]?=some g→∃ v,At a s v∧g v w) →
  (∀ j u,slots.contains j=false→At a0 j u→At a j u) →
  (∀ v a' w',RowKit.Below w.heap.size w w'→g v w'→Put a (o.dst.getD 0) v a'→Q' .normal a' w')→wpList P ops Q' [o] a w)∧DrawSteps P ops slots goods inv a0 N r gs
theorem draw_at {P:Program} {ops:Array Oper} {slots:List Nat} {goods:List Good} {inv:World→Prop} {a0:Act} {N:Nat}:∀ (l:List Oper) (gs:List Good),DrawSteps P ops slots goods inv a0 N l gs→∀ (i:Nat) (o:Oper),l[i]?=some o →
 (∀ (a:Act) (w:World) (Q':Exit→Act→World→Prop),Fr a N→inv w →
  (∀ k,(∃ gr,(⟨k,gr⟩:Edge)∈o.after.toList∧Region.binds .any ⟨k,gr⟩=true)→∀ s g,slots[k]?=some s→goods[k]?=some g→∃ v,At a s v∧g v w) →
  (∀ j u,slots.contains j=false→At a0 j u→At a j u) →
  (∀ v a' w',RowKit.Below w.heap.size w w'→(∀ g:Good,gs[i]?=some g→g v w')→Put a (o.dst.getD 0) v a'→Q' .normal a' w')→wpList P ops Q' [o] a w)
 | [],_,_,i,o,h=>by simp at h
 | _::_,[],h,_,_,_=>h.elim
 | x::r,g::gs,h,0,o,ho=>by
  simp at ho
  subst ho
  exact fun a w Q' h1 h2 h3 h4 h5=>h.1 a w Q' h1 h2 h3 h4 fun v a' w' hb hg hp=>h5 v a' w' hb (fun g' e=>by simp at e;rw[← e];exact hg) hp
 | x::r,g::gs,h,i+1,o,ho=>by
  have:=draw_at r gs h.2 i o (by simpa using ho)
  simpa using this
def tailOk (k:Nat) (l:List Oper):Bool:=(List.range l.length).all fun j=>decide (j<k)||consumed (l.take (j+1))
theorem ordered_take:∀ (k m:Nat) (l:List Oper),ordered k l=true→ordered k (l.take m)=true
 | _,0,_,_=>by simp[ordered]
 | _,_+1,[],_=>by simp[ordered]
 | k,m+1,o::r,h=>by
  simp only[ordered,Bool.and_eq_true] at h
  simp only[List.take_succ_cons,ordered,Bool.and_eq_true]
  exact⟨h.1,ordered_take (k+1) m r h.2⟩
theorem before_tail {l:List Oper} (hord:ordered 0 l=true) {k:Nat} (ht:tailOk k l=true) (L:Nat→Bool) (hcl:∀ j o,l[j]?=some o→L j=true→∀ e∈o.after.toList,Region.binds .any e=true→L e.on=true)
 {j:Nat} {o:Oper} (hj:l[j]?=some o) (hk:k≤j) (hdep:∀ e∈o.after.toList,Region.binds .any e=true→L e.on=true):∀ i,i<j→L i=true:=by
 have hlt:=(List.getElem?_eq_some_iff.1 hj).1
 have hc:consumed (l.take (j+1))=true:=by
  have:=List.all_eq_true.1 ht j (by simpa using hlt)
  simp only[Bool.or_eq_true,decide_eq_true_eq] at this
  exact this.resolve_left (by omega)
 refine all_before (l:=l.take (j+1)) (ordered_take 0 _ l hord) hc L (n:=j) (by rw[List.length_take];omega) ?_ ?_
 ·intro i o' hi hij hL
  rw[List.getElem?_take,if_pos (by omega)] at hi
  exact hcl i o' hi hL
 ·intro o' ho'
  rw[List.getElem?_take,if_pos (by omega)] at ho'
  obtain rfl:o=o':=Option.some.inj (hj.symm.trans ho')
  exact hdep
section
variable {P:Program} {Q:Exit→Act→World→Prop}
theorem wp_region_tail {id:Nat} {l:List Oper} {a:Act} {w:World} {N:Nat} (k:Nat) (slots:List Nat) (goods:List Good) (inv:World→Prop)
 (hm:P.follows .mixedOrders=true) (hord:ordered 0 l=true) (htail:tailOk k l=true) (hslots:(l.take k).map (·.dst)=slots.map some) (hnd:slots.Nodup) (_:slots.all (fun s=>decide (s<N))=true) (_:goods.length=slots.length)
 (hf:Fr a N) (h0:inv w.drew) (hinv:∀ w w',inv w→RowKit.Below w.heap.size w w'→inv w') (hst:LastsAll goods)
 (hstep:DrawSteps P l.toArray slots goods inv a N (l.take k) goods)
 (hend:∀ a' w',Drawn slots goods inv a N (fun _=>true) a' w'→TailSteps P l.toArray (Q .normal) (l.drop k) a' w'):(Code.region id l.toArray true).wp P Q a w:=by
 have hst':=lasts_mem hst
 have hk:slots.length=(l.take k).length:=by
  have:=congrArg List.length hslots
  simpa using this.symm
 have hsl:∀ (i:Nat) (o:Oper),i<k→l[i]?=some o→∃ s,slots[i]?=some s∧o.dst=some s:=fun i o hi ho=>by
  have h:=congrArg (fun x:List (Option Tmp)=>x[i]?) hslots
  simp only[List.getElem?_map,List.getElem?_take,if_pos hi,ho,Option.map_some] at h
  cases hs:slots[i]? with
  | none=>rw[hs] at h;cases h
  | some s=>rw[hs] at h;exact⟨s,rfl,Option.some.inj h⟩
 refine wp_region_inv hm hord (fun L b u=>(∀ j o,l[j]?=some o→L j=true→∀ e∈o.after.toList,Region.binds .any e=true→L e.on=true) ∧
  ((∀ j,k≤j→j<l.length→L j=false)→Drawn slots goods inv a N L b u) ∧
  (∀ j,k≤j→j<l.length→L j=true→(∀ j',j<j'→j'<l.length→L j'=false)→TailSteps P l.toArray (Q .normal) (l.drop (j+1)) b u)) ?_ ?_ ?_
 ·exact⟨fun _ _ _ h=>(by cases h),fun _=>⟨hf,h0,(fun i h=>(by cases h)),fun _ _ _ h=>h⟩,fun _ _ _ h=>(by cases h)⟩
 ·have key:∀ (i:Nat) (o:Oper),l[i]?=some o→∀ (L:Nat→Bool) (b:Act) (u:World) (Q':Exit→Act→World→Prop),
   ((∀ j o,l[j]?=some o→L j=true→∀ e∈o.after.toList,Region.binds .any e=true→L e.on=true)∧((∀ j,k≤j→j<l.length→L j=false)→Drawn slots goods inv a N L b u) ∧
    (∀ j,k≤j→j<l.length→L j=true→(∀ j',j<j'→j'<l.length→L j'=false)→TailSteps P l.toArray (Q .normal) (l.drop (j+1)) b u))→L i=false →
   (∀ e∈o.after.toList,Region.binds .any e=true→L e.on=true) →
   (∀ b u,((∀ j o,l[j]?=some o→upd L i j=true→∀ e∈o.after.toList,Region.binds .any e=true→upd L i e.on=true)∧((∀ j,k≤j→j<l.length→upd L i j=false)→Drawn slots goods inv a N (upd L i) b u) ∧
    (∀ j,k≤j→j<l.length→upd L i j=true→(∀ j',j<j'→j'<l.length→upd L i j'=false)→TailSteps P l.toArray (Q .normal) (l.drop (j+1)) b u))→Q' .normal b u) →
   wpList P l.toArray Q' [o] b u:=by
   intro i o ho L b u Q' ⟨hcl,hpl,htl⟩ hL hA hK
   have hil:=(List.getElem?_eq_some_iff.1 ho).1
   have up:∀ j,L j=true→upd L i j=true:=fun j hj=>by simp[upd,hj]
   have hcl':∀ j o,l[j]?=some o→upd L i j=true→∀ e∈o.after.toList,Region.binds .any e=true→upd L i e.on=true:=by
    intro j o' hj hLj e he hb
    by_cases hji:j=i
    ·subst hji
     obtain rfl:o=o':=Option.some.inj (ho.symm.trans hj)
     exact up _ (hA e he hb)
    ·have hne:(j == i)=false:=by simpa using hji
     exact up _ (hcl j o' hj (by simpa[upd,hne] using hLj) e he hb)
   have hno:∀ j,k≤j→j<l.length→i<j→L j=false:=fun j hkj hj hij=>by
    cases hx:L j with
    | false=>rfl
    | true =>
     obtain⟨oj,hoj⟩:∃ oj,l[j]?=some oj:=⟨_,List.getElem?_eq_getElem hj⟩
     have:=before_tail hord htail L hcl hoj hkj (hcl j oj hoj hx) i hij
     rw[hL] at this
     cases this
   by_cases hik:i<k
   ·have hD:=hpl fun j hkj hj=>hno j hkj hj (by omega)
    obtain⟨s,hs,hd⟩:=hsl i o hik ho
    refine draw_at (l.take k) goods hstep i o (by rw[List.getElem?_take,if_pos hik];exact ho) b u Q' hD.fr hD.inv (fun j ⟨gr,hj,hb⟩ s g hs hg=>hD.done j (hA _ hj hb) s g hs hg) hD.rest ?_
    intro v b' u' hb hg hp
    rw[hd] at hp
    refine hK b' u' ⟨hcl',fun _=>⟨hp.fr hD.fr,hinv _ _ hD.inv hb,?_,?_⟩,?_⟩
    ·intro j hj s' g' hs' hg'
     by_cases hji:j=i
     ·subst hji
      obtain rfl:s=s':=Option.some.inj (hs.symm.trans hs')
      exact⟨v,hp.now,hg g' hg'⟩
     ·have hne:s'≠s:=fun e=>hji (nodup_at hnd (e▸hs') hs)
      have hLj:L j=true:=by
       have:(j == i)=false:=by simpa using hji
       simpa[upd,this] using hj
      obtain⟨x,hx,hgx⟩:=hD.done j hLj s' g' hs' hg'
      exact⟨x,hp.old (by simpa using hne) hx,hst' g' (List.mem_of_getElem? hg') x u u' hgx hb⟩
    ·intro j x hj hx
     have hne:j≠s:=fun e=>by
      have hm:j∈slots:=e▸List.mem_of_getElem? hs
      have:slots.contains j=true:=by simpa using hm
      rw[this] at hj
      cases hj
     exact hp.old (by simpa using hne) (hD.rest j x hj hx)
    ·intro j hkj hj hLj
     have hne:(j == i)=false:=by simp;omega
     have:=hno j hkj hj (by omega)
     simp[upd,hne,this] at hLj
   ·have hall:=before_tail hord htail L hcl ho (by omega) hA
    have hT:TailSteps P l.toArray (Q .normal) (l.drop i) b u:=by
     by_cases hik':i=k
     ·subst hik'
      have hD:=hpl fun j hkj hj=>by
       by_cases hji:j=i
       ·rw[hji];exact hL
       ·exact hno j hkj hj (by omega)
      refine hend b u ⟨hD.fr,hD.inv,fun j _ s g hs hg=>hD.done j (hall j ?_) s g hs hg,hD.rest⟩
      have:=(List.getElem?_eq_some_iff.1 hs).1
      rw[hk,List.length_take] at this
      omega
     ·have:=htl (i-1) (by omega) (by omega) (hall (i-1) (by omega)) fun j' h1 h2=>by
       by_cases hji:j'=i
       ·rw[hji];exact hL
       ·exact hno j' (by omega) h2 (by omega)
      rwa [show i-1+1=i by omega] at this
    rw[List.drop_eq_getElem_cons hil] at hT
    have ho':l[i]=o:=by
     have:=List.getElem?_eq_getElem hil
     rw[ho] at this
     exact(Option.some.inj this).symm
    rw[ho'] at hT
    refine hT Q' fun b' u' hT'=>hK b' u' ⟨hcl',fun h=>?_,fun j hkj hj hLj hlast=>?_⟩
    ·have:=h i (by omega) hil
     simp[upd] at this
    ·by_cases hji:j=i
     ·subst hji
      exact hT'
     ·have hne:(j == i)=false:=by simpa using hji
      by_cases hlt:j<i
      ·have:=hlast i hlt hil
       simp[upd] at this
      ·have:=hno j hkj hj (by omega)
       simp[upd,hne,this] at hLj
  have all:∀ (r:List Oper) (m:Nat),(∀ i o,r[i]?=some o→l[m+i]?=some o)→InvSteps P l.toArray (fun L b u=>(∀ j o,l[j]?=some o→L j=true→∀ e∈o.after.toList,Region.binds .any e=true→L e.on=true) ∧
   ((∀ j,k≤j→j<l.length→L j=false)→Drawn slots goods inv a N L b u) ∧
   (∀ j,k≤j→j<l.length→L j=true→(∀ j',j<j'→j'<l.length→L j'=false)→TailSteps P l.toArray (Q .normal) (l.drop (j+1)) b u)) m r:=by
   intro r
   induction r with
   | nil=>intro m _;trivial
   | cons o r ih =>
    intro m h
    refine⟨fun L b u Q' hI hL hA hK=>key m o (h 0 o rfl) L b u Q' hI hL hA hK,ih (m+1) fun i o' ho'=>?_⟩
    have:=h (i+1) o' (by simpa using ho')
    rwa [show m+1+i=m+(i+1) by omega]
  exact all l 0 fun i o ho=>by simpa using ho
 ·intro L b u ⟨hcl,hpl,htl⟩ hall
  by_cases hkl:k<l.length
  ·have:=htl (l.length-1) (by omega) (by omega) (hall _ (by omega)) fun j' h1 h2=>by omega
   rw[show l.length-1+1=l.length by omega,List.drop_length] at this
   exact this
  ·have hD:=hpl fun j h1 h2=>by omega
   have:=hend b u ⟨hD.fr,hD.inv,fun j _ s g hs hg=>hD.done j (hall j ?_) s g hs hg,hD.rest⟩
   ·rw[List.drop_of_length_le (by omega)] at this
    exact this
   ·have:=(List.getElem?_eq_some_iff.1 hs).1
    rw[hk,List.length_take] at this
    omega
end
end Go.Proofs.YtdcofoaihmongaaGreat

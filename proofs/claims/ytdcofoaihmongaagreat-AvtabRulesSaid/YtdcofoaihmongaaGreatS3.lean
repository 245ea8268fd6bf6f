import Derived.ChangeKeysEq
import Derived.Laws.Pointers
import Derived.Laws.StructEq
import Derived.Test.YtdcofoaihmongaaGreatProg
import Derived.Test.YtdcofoaihmongaaGreatS2
namespace Go.Proofs.YtdcofoaihmongaaGreat
open Go Go.RowKit
abbrev Slots:=List (Nat×Value)
def look (q:Nat):Slots→Option Value
 | []=>none
 | (s,v)::r=>bif Nat.beq q s then some v else look q r
theorem look_cons (q s:Nat) (v:Value) (l:Slots):look q ((s,v)::l)=bif (q == s) then some v else look q l:=by
 show(bif Nat.beq q s then some v else look q l)=_
 cases h:q == s with
 | true=>rw[show q=s by simpa using h,Nat.beq_refl]
 | false =>
  have hne:q≠s:=by simpa using h
  rw[show Nat.beq q s=false from by cases hb:Nat.beq q s with | false=>rfl | true=>exact absurd (Nat.eq_of_beq_eq_true hb) hne]
structure Fs (a:Act) (N:Nat) (l:Slots):Prop where
 fr:Fr a N
 at_:∀ q v,look q l=some v→At a q v
section
variable {a:Act} {N:Nat} {l:Slots}
theorem Fs.g (h:Fs a N l) (q:Nat) {v:Value} (hv:look q l=some v):At a q v:=h.at_ q v hv
theorem Fs.e (h:Fs a N l) (q:Nat) {v:Value} (hv:look q l=some v):a.eval (.tmp q)=v:=(h.at_ q v hv).ev
theorem Fs.put {a':Act} {d:Nat} {v:Value} (h:Fs a N l) (p:Put a d v a'):Fs a' N ((d,v)::l):=by
 refine⟨p.fr h.fr,fun q u hq=>?_⟩
 rw[look_cons] at hq
 cases e:q == d with
 | true =>
  rw[e] at hq
  have hq':v=u:=Option.some.inj hq
  have e':q=d:=by simpa using e
  subst hq' e'
  exact p.now
 | false =>
  rw[e] at hq
  exact p.old e (h.at_ q u hq)
theorem Fs.eq (h:Fs a N l) (q:Nat) {v u:Value} (hv:look q l=some v) (e:v=u):Fs a N ((q,u)::l):=by
 refine⟨h.fr,fun s x hs=>?_⟩
 rw[look_cons] at hs
 cases he:s == q with
 | true =>
  rw[he] at hs
  have hs':u=x:=Option.some.inj hs
  have e':s=q:=by simpa using he
  subst hs' e' e
  exact h.at_ _ _ hv
 | false =>
  rw[he] at hs
  exact h.at_ s x hs
def Sub (l:Slots):Slots→Prop
 | []=>True
 | p::r=>look p.1 l=some p.2∧Sub l r
theorem Fs.sub {l':Slots} (h:Fs a N l) (hs:Sub l l'):Fs a N l':=by
 refine⟨h.fr,?_⟩
 induction l' with
 | nil=>intro q v hq;cases hq
 | cons p r ih =>
  intro q v hq
  obtain⟨q0,v0⟩:=p
  rw[look_cons] at hq
  cases e:q == q0 with
  | true =>
   rw[e] at hq
   have hq':v0=v:=Option.some.inj hq
   have e':q=q0:=by simpa using e
   subst hq' e'
   exact h.at_ _ _ hs.1
  | false =>
   rw[e] at hq
   exact ih hs.2 q v hq
def ens (k:Nat):List Value→Slots
 | []=>[]
 | v::r=>(k,v)::ens (k+1) r
theorem Fs.args {args:Array Value} (hf:Fr a N) (h:∀ i v,args[i]?=some v→At a i v) {vs:List Value} (e:args=vs.toArray):Fs a N (ens 0 vs):=by
 refine⟨hf,fun q v hq=>h q v ?_⟩
 subst e
 have key:∀ (vs:List Value) (k q:Nat) (v:Value),look q (ens k vs)=some v→k≤q∧vs[q-k]?=some v:=by
  intro vs
  induction vs with
  | nil =>
   intro k q v h
   exact absurd h (by simp[look,ens])
  | cons x r ih =>
   intro k q v h
   rw[ens,look_cons] at h
   cases e:q == k with
   | true =>
    rw[e] at h
    have e':q=k:=by simpa using e
    subst e'
    simpa using h
   | false =>
    rw[e] at h
    have hne:q≠k:=by simpa using e
    obtain⟨h1,h2⟩:=ih (k+1) q v h
    refine⟨by omega,?_⟩
    rw[show q-k=(q-(k+1))+1 by omega]
    simpa using h2
 have:=key vs 0 q v hq
 simpa using this.2
end
abbrev Bx:=Nat×TypeId×Array Value
structure Rw where
 v:Value
 e:TypeId
 k:Nat
 n:Nat
 xs:List Value
def mapCells (D:List (Value×Value)):Array Value:=(D.flatMap fun p=>[p.1,p.2]).toArray
def MapBox (w:World) (b:Bx):Prop:=Nat.blt b.2.1 9000=false∧∃ D,b.2.2=mapCells D∧MapAt w Tryz.prog (b.2.1-9000) b.1 D
def BoxF (w:World) (b:Bx):Prop:=(Nat.blt b.2.1 9000=true∧Whole w b.1 b.2.1 b.2.2)∨MapBox w b
theorem BoxF.lt {w:World} {b:Bx} (h:BoxF w b):b.1<w.heap.size:=by
 rcases h with⟨_,h⟩ | ⟨_,D,_,h⟩
 ·exact h.lt
 ·exact h.lt
theorem BoxF.kept {w w':World} {b:Bx} (h:BoxF w b) (hb:w'.heap[b.1]?=w.heap[b.1]?):BoxF w' b:=by
 rcases h with⟨h0,h⟩ | ⟨h0,D,h1,h⟩
 ·exact .inl ⟨h0,hb.trans h⟩
 ·exact .inr ⟨h0,D,h1,h.kept hb⟩
theorem BoxF.whole {w:World} {g:Nat} {t:TypeId} {cs:Array Value} (h:BoxF w (g,t,cs)) (ht:Nat.blt t 9000=true):Whole w g t cs:=by
 rcases h with⟨_,h⟩ | ⟨h0,_⟩
 ·exact h
 ·have h0:Nat.blt t 9000=false:=h0
  rw[ht] at h0
  cases h0
structure Mm (w0 w:World) (bs:List Bx) (rs:List Rw):Prop where
 below:RowKit.Below w0.heap.size w0 w
 box:∀ b∈bs,BoxF w b
 lo:∀ b∈bs,w0.heap.size≤b.1
 nd:(bs.map (·.1)).Nodup
 row:∀ r∈rs,w.ownsRow w0.heap.size r.e r.k r.v r.n r.xs
 far:∀ r∈rs,∀ b∈bs,r.v.ownBlock≠some b.1
 rnd:rs.Pairwise fun r s=>r.v.ownBlock=none∨r.v.ownBlock≠s.v.ownBlock
section
variable {w0 w w':World} {bs:List Bx} {rs:List Rw}
@[reducible] def Mm.wd (_:Mm w0 w bs rs):World:=w
theorem Mm.start (w:World):Mm w w [] []:=⟨Below.refl _ w,by simp,by simp,by simp,by simp,by simp,.nil⟩
theorem Mm.b (M:Mm w0 w bs rs) (i:Nat) {g:Nat} {t:TypeId} {cs:Array Value} (h:bs[i]?=some (g,t,cs)) (ht:Nat.blt t 9000=true:=by rfl):Whole w g t cs:=(M.box _ (List.mem_of_getElem? h)).whole ht
theorem Mm.r (M:Mm w0 w bs rs) (i:Nat) {r:Rw} (h:rs[i]?=some r):w.ownsRow w0.heap.size r.e r.k r.v r.n r.xs:=M.row _ (List.mem_of_getElem? h)
theorem Mm.keep (M:Mm w0 w bs rs) (hb:RowKit.Below w.heap.size w w'):Mm w0 w' bs rs :=
 ⟨M.below.step hb M.below.size,fun b h=>(M.box b h).kept (hb.block _ (M.box b h).lt),M.lo,M.nd,fun r h=>own_keep hb (M.row r h) (Nat.le_refl _),M.far,M.rnd⟩
theorem Mm.new (M:Mm w0 w bs rs) {g:Nat} {t:TypeId} {cs:Array Value} (n:New w w' g t cs) (ht:Nat.blt t 9000=true:=by rfl):Mm w0 w' ((g,t,cs)::bs) rs:=by
 have M':=M.keep n.below
 have hlt:∀ b∈bs,b.1<g:=fun b h=>n.at_▸(M.box b h).lt
 refine⟨M'.below,?_,?_,?_,M'.row,?_,M.rnd⟩
 ·intro b hb
  rcases List.mem_cons.1 hb with rfl | hb
  ·exact .inl ⟨ht,n.whole⟩
  ·exact M'.box b hb
 ·intro b hb
  rcases List.mem_cons.1 hb with rfl | hb
  ·exact n.at_▸M.below.size
  ·exact M.lo b hb
 ·rw[List.map_cons,List.nodup_cons]
  refine⟨fun h=>?_,M.nd⟩
  obtain⟨b,hb,e⟩:=List.mem_map.1 h
  have:=hlt b hb
  simp only at e
  omega
 ·intro r hr b hb
  rcases List.mem_cons.1 hb with rfl | hb
  ·intro e
   have:=((M.row r hr).lt g e).2
   rw[← n.at_] at this
   omega
  ·exact M.far r hr b hb
theorem Mm.sto (M:Mm w0 w bs rs) (i:Nat) {g:Nat} {t:TypeId} {cs cs':Array Value} (h:bs[i]?=some (g,t,cs)) (s:Sto w w' g) (h':Whole w' g t cs') (ht:Nat.blt t 9000=true:=by rfl):Mm w0 w' (bs.set i (g,t,cs')) rs:=by
 have hi:=(List.getElem?_eq_some_iff.1 h).1
 have hm:=List.mem_of_getElem? h
 have hmap:(bs.set i (g,t,cs')).map (·.1)=bs.map (·.1):=by
  refine List.ext_getElem? fun j=>?_
  rw[List.getElem?_map,List.getElem?_map,List.getElem?_set]
  by_cases e:i=j
  ·subst e;simp[hi,(List.getElem?_eq_some_iff.1 h).2]
  ·simp[e]
 have hfst:∀ b∈bs.set i (g,t,cs'),∃ b'∈bs,b'.1=b.1:=fun b hb=>by
  rcases List.mem_or_eq_of_mem_set hb with hb | rfl
  ·exact⟨b,hb,rfl⟩
  ·exact⟨_,hm,rfl⟩
 refine⟨M.below.trans (s.below (M.lo _ hm)),?_,?_,by rw[hmap];exact M.nd,?_,?_,M.rnd⟩
 ·intro b hb
  obtain⟨j,hj⟩:=List.getElem?_of_mem hb
  rw[List.getElem?_set] at hj
  by_cases e:i=j
  ·subst e
   rw[if_pos rfl,if_pos hi] at hj
   obtain rfl:=Option.some.inj hj
   exact .inl ⟨ht,h'⟩
  ·rw[if_neg e] at hj
   refine(M.box b (List.mem_of_getElem? hj)).kept (s.block _ fun e'=>e ?_)
   have h1:(bs.map (·.1))[i]?=some g:=by rw[List.getElem?_map,h];rfl
   have h2:(bs.map (·.1))[j]?=some g:=by rw[List.getElem?_map,hj];simp[e']
   exact nodup_at M.nd h1 h2
 ·intro b hb
  obtain⟨b',hb',e⟩:=hfst b hb
  rw[← e];exact M.lo b' hb'
 ·intro r hr
  exact s.own (M.row r hr) (M.far r hr _ hm)
 ·intro r hr b hb
  obtain⟨b',hb',e⟩:=hfst b hb
  rw[← e];exact M.far r hr b' hb'
theorem Mm.grow (M:Mm w0 w bs rs) (i:Nat) {r:Rw} (h:rs[i]?=some r) {v':Value} {n':Nat} {xs':List Value} (ho:w'.ownsRow w0.heap.size r.e r.k v' n' xs') (hg:w.grownBy w' r.v.ownBlock)
 (hv:v'.ownBlock=r.v.ownBlock∨v'.ownBlock=none∨∃ g,v'.ownBlock=some g∧w.heap.size≤g):Mm w0 w' bs (rs.set i { r with v:=v',n:=n',xs:=xs' }):=by
 have hi:=(List.getElem?_eq_some_iff.1 h).1
 have hm:=List.mem_of_getElem? h
 refine⟨M.below.grown hg M.below.size (fun q hq=>((M.row r hm).lt q hq).1),?_,M.lo,M.nd,?_,?_,?_⟩
 ·intro b hb
  exact(M.box b hb).kept (hg.block _ (M.box b hb).lt fun e=>M.far r hm b hb e.symm)
 ·intro s hs
  obtain⟨j,hj⟩:=List.getElem?_of_mem hs
  rw[List.getElem?_set] at hj
  by_cases e:i=j
  ·subst e
   rw[if_pos rfl,if_pos hi] at hj
   obtain rfl:=Option.some.inj hj
   exact ho
  ·rw[if_neg e] at hj
   have hsm:=List.mem_of_getElem? hj
   refine(M.row s hsm).kept hg ?_
   have hp:=List.pairwise_iff_getElem.1 M.rnd
   have hjl:=(List.getElem?_eq_some_iff.1 hj).1
   have e1:rs[i]=r:=(List.getElem?_eq_some_iff.1 h).2
   have e2:rs[j]=s:=(List.getElem?_eq_some_iff.1 hj).2
   rcases Nat.lt_or_gt_of_ne e with hlt | hgt
   ·rcases hp i j hi hjl hlt with h0 | h0
    ·rw[e1] at h0
     rw[h0]
     cases hso:s.v.ownBlock with
     | none=>exact .inl rfl
     | some q=>exact .inr (by simp)
    ·rw[e1,e2] at h0
     exact .inr fun e3=>h0 e3.symm
   ·rcases hp j i hjl hi hgt with h0 | h0
    ·rw[e2] at h0
     exact .inl h0
    ·rw[e1,e2] at h0
     exact .inr h0
 ·intro s hs b hb
  rcases List.mem_or_eq_of_mem_set hs with hs | rfl
  ·exact M.far s hs b hb
  ·rcases hv with e | e | ⟨g,e,hge⟩
   ·show v'.ownBlock≠_
    rw[e];exact M.far r hm b hb
   ·show v'.ownBlock≠_
    rw[e];simp
   ·show v'.ownBlock≠_
    rw[e]
    intro e'
    have:=(M.box b hb).lt
    have e2:g=b.1:=Option.some.inj e'
    omega
 ·rw[List.pairwise_iff_getElem]
  intro j k hj hk hjk
  rw[List.length_set] at hj hk
  have hp:=List.pairwise_iff_getElem.1 M.rnd j k hj hk hjk
  have e1:rs[i]=r:=(List.getElem?_eq_some_iff.1 h).2
  simp only[List.getElem_set]
  by_cases ej:i=j
  ·subst ej
   have ek:¬ i=k:=by omega
   simp only[if_true,if_neg ek]
   rcases hv with e | e | ⟨g,e,hge⟩
   ·rw[e];rw[e1] at hp;exact hp
   ·exact .inl e
   ·refine .inr ?_
    rw[e]
    intro e'
    have:=((M.row _ (List.getElem_mem hk)).lt g e'.symm).2
    omega
  ·by_cases ek:i=k
   ·subst ek
    simp only[if_neg ej,if_true]
    rcases hv with e | e | ⟨g,e,hge⟩
    ·rw[e];rw[e1] at hp;exact hp
    ·rw[e]
     cases hso:rs[j].v.ownBlock with
     | none=>exact .inl rfl
     | some q=>exact .inr (by simp)
    ·rw[e]
     refine .inr fun e'=>?_
     have:=((M.row _ (List.getElem_mem hj)).lt g e').2
     omega
   ·simp only[if_neg ej,if_neg ek]
    exact hp
theorem Mm.addRow (M:Mm w0 w bs rs) {r:Rw} (ho:w.ownsRow w0.heap.size r.e r.k r.v r.n r.xs) (hf:∀ b∈bs,r.v.ownBlock≠some b.1) (hr:∀ s∈rs,r.v.ownBlock=none∨r.v.ownBlock≠s.v.ownBlock):Mm w0 w bs (r::rs):=by
 refine⟨M.below,M.box,M.lo,M.nd,?_,?_,List.pairwise_cons.2 ⟨hr,M.rnd⟩⟩
 ·intro s hs
  rcases List.mem_cons.1 hs with rfl | hs
  ·exact ho
  ·exact M.row s hs
 ·intro s hs b hb
  rcases List.mem_cons.1 hs with rfl | hs
  ·exact hf b hb
  ·exact M.far s hs b hb
theorem Mm.nilRow (M:Mm w0 w bs rs) (e:TypeId) (k:Nat):Mm w0 w bs (⟨.slice none 0 0,e,k,0,[]⟩::rs) :=
 M.addRow (World.ownsRow_nil _ _ _ _) (fun _ _=>by simp[Value.ownBlock]) (fun _ _=>.inl rfl)
theorem Mm.gotRow (M:Mm w0 w bs rs) (hb:RowKit.Below w.heap.size w w') {r:Rw} (ho:w'.ownsRow w.heap.size r.e r.k r.v r.n r.xs):Mm w0 w' bs (r::rs):=by
 refine(M.keep hb).addRow (own_low ho M.below.size) ?_ ?_
 ·intro b hb' e
  have:=(ho.lt _ e).1
  have:=(M.box b hb').lt
  omega
 ·intro s hs
  cases hso:r.v.ownBlock with
  | none=>exact .inl rfl
  | some q =>
   refine .inr fun e=>?_
   have h1:=(ho.lt q hso).1
   have h2:=((M.row s hs).lt q (by rw[← e])).2
   omega
theorem Mm.boxRow {g:Nat} {t:TypeId} {cs:Array Value} (M:Mm w0 w ((g,t,cs)::bs) rs) (k n:Nat) (hn:n≤maxLen) (hs:cs.size=n*k) (ht:Nat.blt t 9000=true:=by rfl):Mm w0 w bs (⟨.slice (some ⟨g,0,none⟩) n n,t,k,n,cs.toList⟩::rs):=by
 have hw:=(M.box _ (List.mem_cons_self ..)).whole ht
 have hnd:=List.nodup_cons.1 (show(g::bs.map (·.1)).Nodup from M.nd)
 have M1:Mm w0 w bs rs:=⟨M.below,fun b hb=>M.box b (List.mem_cons_of_mem _ hb),fun b hb=>M.lo b (List.mem_cons_of_mem _ hb),hnd.2,M.row,fun r hr b hb=>M.far r hr b (List.mem_cons_of_mem _ hb),M.rnd⟩
 refine M1.addRow ⟨by simp[hs],.inr ⟨g,n,cs,rfl,M.lo _ (List.mem_cons_self ..),hw,Nat.le_refl _,hn,hs,by rw[List.take_of_length_le (by simp[hs])]⟩⟩ ?_ ?_
 ·intro b hb e
  refine hnd.1 (List.mem_map.2 ⟨b,hb,?_⟩)
  have e2:g=b.1:=by simpa[Value.ownBlock] using e
  exact e2.symm
 ·intro s hs'
  refine .inr fun e=>M.far s hs' _ (List.mem_cons_self ..) ?_
  show s.v.ownBlock=some g
  rw[← e]
  rfl
theorem Mm.cast (M:Mm w0 w bs rs) {bs':List Bx} {rs':List Rw} (hb:bs=bs') (hr:rs=rs'):Mm w0 w bs' rs':=hb▸hr▸M
theorem Mm.only (M:Mm w0 w bs rs) {bs':List Bx} {rs':List Rw} (hb:bs'.Sublist bs) (hr:rs'.Sublist rs):Mm w0 w bs' rs' :=
 ⟨M.below,fun b h=>M.box b (hb.subset h),fun b h=>M.lo b (hb.subset h),(hb.map _).nodup M.nd,fun r h=>M.row r (hr.subset h),fun r h b h'=>M.far r (hr.subset h) b (hb.subset h'),M.rnd.sublist hr⟩
end
theorem append_block {P:Program} (w:World) (base:Nat) (t ty e:TypeId) (i:TypeInfo) (z:Value) (ht:P.underlying t=some (.slice e)) (hi:P.info? e=some i) (hz:i.zero=some z)
 (hzs:z.cells.size=i.size) (hsz:0<i.size) (v:Value) (n:Nat) (xs:List Value) (hown:w.ownsRow base e i.size v n xs)
 (a:Addr) (m c:Nat) (news:List Value) (hl:news.length=m*i.size) (hnews:∀ j u,news[j]?=some u→w.cell? (a.add j)=some u) (h1:∀ u∈news,u.oneCell'=true)
 (h63:n+m≤maxLen) (hbytes:(n+m)*i.bytes≤140737488355328) {v':Value} {w':World} (hr:(Builtin.append_ #[t,t] ty #[v,.slice (some a) m c]).run P w=.ok v' w') :
 v'.ownBlock=v.ownBlock∨v'.ownBlock=none∨∃ g,v'.ownBlock=some g∧w.heap.size≤g:=by
 have hsmall:n+m≤9223372036854775807:=by simp only[maxLen] at h63;omega
 rcases hown.2 with⟨rfl,rfl⟩ | ⟨g,cap,cur,rfl,hbg,hg,hnc,hcm,hcs,htake⟩
 ·have hx:xs=[]:=List.eq_nil_of_length_eq_zero (by simpa using hown.1)
  subst hx
  obtain⟨v2,w2,hr2,h2,-,-⟩:=run_append_own (P:=P) w w.heap.size t ty e i z i.size i.bytes ht hi hz rfl rfl hzs hsz _ 0 [] (World.ownsRow_nil _ _ _ _) a m c news hl hnews h1 h63 hbytes (Nat.le_refl _)
  rw[hr] at hr2
  injection hr2 with e1 e2
  subst e1 e2
  cases hb:v'.ownBlock with
  | none=>exact .inr (.inl rfl)
  | some g=>exact .inr (.inr ⟨g,rfl,(h2.lt g hb).1⟩)
 ·by_cases hroom:n+m≤cap
  ·have hfit:n*i.size+news.length≤cur.size:=by rw[hl,hcs,← Nat.add_mul];exact Nat.mul_le_mul_right _ hroom
   have hr2:=run_append_room (P:=P) w t ty e i ht hi g n cap cur hg a m c news hl hnews h1 hroom hfit
   rw[hr] at hr2
   injection hr2 with e1 e2
   subst e1
   exact .inl rfl
  ·have holds:∀ j u,xs[j]?=some u→w.cell? ((⟨g,0,none⟩:Addr).add j)=some u:=hown.cells (g:=g) rfl
   have hr2:=run_append_grow (P:=P) w t ty e i z ht hi hz ⟨g,0,none⟩ n cap xs hown.1 holds a m c news hl hnews (by omega) (by omega) (growslice_fits (by omega) hbytes)
   rw[hr] at hr2
   injection hr2 with e1 e2
   subst e1
   exact .inr (.inr ⟨w.heap.size,rfl,Nat.le_refl _⟩)
section
variable {P:Program} {ops:Array Oper} {Q:Exit→Act→World→Prop} {a:Act} {w0 w w':World} {rest:List Oper} {o:Oper} {v:Value} {d N:Nat} {l:Slots} {bs:List Bx} {rs:List Rw}
theorem on (hg:o.guard=none):Region.wanted o (yielded ops a.tmps)=true:=on_plain hg
theorem gn {j s:Nat} {b:Bool} (hg:o.guard=some (j,b)) (hj:(ops[j]?).bind (·.dst)=some s) (h:At a s (.bool b)):Region.wanted o (yielded ops a.tmps)=true:=on_guard hg hj h
theorem kv (hw:Region.wanted o (yielded ops a.tmps)=true) (hr:(execOp a.eval o).run P w=.ok (.value v) w) (hd:o.dst=some d) (F:Fs a N l) (hN:Nat.blt d N=true)
 (next:∀ a',Fs a' N ((d,v)::l)→wpList P ops Q rest a' w):wpList P ops Q (o::rest) a w :=
 wk_val hw hr hd F.fr (by simpa using hN) fun a' p=>next a' (F.put p)
theorem ke (hw:Region.wanted o (yielded ops a.tmps)=true) (hr:(execOp a.eval o).run P w=.ok (.value v) w) (hd:o.dst=some d) (F:Fs a N l) (hN:Nat.blt d N=true) {u:Value} (e:v=u)
 (next:∀ a',Fs a' N ((d,u)::l)→wpList P ops Q rest a' w):wpList P ops Q (o::rest) a w :=
 kv hw hr hd F hN fun a' F'=>next a' (e▸F')
theorem ko (hd:o.dst=some d) {j s:Nat} {b c:Bool} (hg:o.guard=some (j,b)) (hj:(ops[j]?).bind (·.dst)=some s) (h:At a s (.bool c)) (hne:(c == b)=false) (F:Fs a N l) (hN:Nat.blt d N=true)
 (next:∀ a',Fs a' N ((d,undef)::l)→wpList P ops Q rest a' w):wpList P ops Q (o::rest) a w :=
 wk_off (off_guard hg hj h hne) hd F.fr (by simpa using hN) fun a' p=>next a' (F.put p)
theorem ku (hd:o.dst=some d) {j s:Nat} {b:Bool} (hg:o.guard=some (j,b)) (hj:(ops[j]?).bind (·.dst)=some s) (h:At a s undef) (F:Fs a N l) (hN:Nat.blt d N=true)
 (next:∀ a',Fs a' N ((d,undef)::l)→wpList P ops Q rest a' w):wpList P ops Q (o::rest) a w :=
 wk_off (off_undef hg hj h) hd F.fr (by simpa using hN) fun a' p=>next a' (F.put p)
theorem kn (hw:Region.wanted o (yielded ops a.tmps)=true) {ty:TypeId} {cs:Array Value} {f:Nat→Value} (hr:(execOp a.eval o).run P w=.ok (.value (f w.heap.size)) (w.alloc (.cells cs ty))) (hd:o.dst=some d) (F:Fs a N l) (hN:Nat.blt d N=true) (M:Mm w0 w bs rs)
 (next:∀ g a' w',Fs a' N ((d,f g)::l)→Mm w0 w' ((g,ty,cs)::bs) rs→wpList P ops Q rest a' w') (ht:Nat.blt ty 9000=true:=by rfl):wpList P ops Q (o::rest) a w :=
 wk_new hw hr hd F.fr (by simpa using hN) fun g a' w' n p=>next g a' w' (F.put p) (M.new n ht)
theorem kb (hw:Region.wanted o (yielded ops a.tmps)=true) {ty:TypeId} {x:Operand} (ho:o.op=.box ty x) (hx:a.eval x=v) {cs:Array Value} (hc:v.cells=cs) (hd:o.dst=some d) (F:Fs a N l) (hN:Nat.blt d N=true) (M:Mm w0 w bs rs)
 (next:∀ g a' w',Fs a' N ((d,.pointer (some ⟨g,0,none⟩))::l)→Mm w0 w' ((g,ty,cs)::bs) rs→wpList P ops Q rest a' w') (ht:Nat.blt ty 9000=true:=by rfl):wpList P ops Q (o::rest) a w :=
 kn (f:=fun n=>.pointer (some ⟨n,0,none⟩)) hw (hc▸e_box ho hx) hd F hN M next ht
theorem ka (hw:Region.wanted o (yielded ops a.tmps)=true) {ty:TypeId} {z:Value} (ho:o.op=.alloc ty) (hz:(P.info? ty).bind (·.zero)=some z) {cs:Array Value} (hc:z.cells=cs) (hd:o.dst=some d) (F:Fs a N l) (hN:Nat.blt d N=true) (M:Mm w0 w bs rs)
 (next:∀ g a' w',Fs a' N ((d,.pointer (some ⟨g,0,none⟩))::l)→Mm w0 w' ((g,ty,cs)::bs) rs→wpList P ops Q rest a' w') (ht:Nat.blt ty 9000=true:=by rfl):wpList P ops Q (o::rest) a w :=
 kn (f:=fun n=>.pointer (some ⟨n,0,none⟩)) hw (hc▸e_alloc ho hz) hd F hN M next ht
theorem kl (hw:Region.wanted o (yielded ops a.tmps)=true) {t e:TypeId} {len k:Nat} {parts:Array (Nat×Operand)} {cells:Array Value} {z:Value} (ho:o.op=.buildSlice t len parts) (hu:P.underlying t=some (.slice e)) (hs:(P.info? e).map (·.size)=some k) (hz:(P.info? e).bind (·.zero)=some z)
 (hsm:(decide (len*k≤2^24)&&decide (0<len*k))=true) {pv:Array (Nat×Value)} (hp:(parts.map fun(i,x)=>(i,a.eval x))=pv) (h:Instr.fill (fun i=>some (i*k,k)) ((Array.range (len*k)).map (z.cells[·%z.cells.size]!)) pv.toList=some cells)
 (hd:o.dst=some d) (F:Fs a N l) (hN:Nat.blt d N=true) (M:Mm w0 w bs rs)
 (next:∀ g a' w',Fs a' N ((d,.slice (some ⟨g,0,none⟩) len len)::l)→Mm w0 w' ((g,e,cells)::bs) rs→wpList P ops Q rest a' w') (ht:Nat.blt e 9000=true:=by rfl):wpList P ops Q (o::rest) a w:=by
 simp only[Bool.and_eq_true,decide_eq_true_eq] at hsm
 exact kn (f:=fun n=>.slice (some ⟨n,0,none⟩) len len) hw (e_buildSlice ho hu hs hz hsm.1 hsm.2 hp h) hd F hN M next ht
theorem ks (hw:Region.wanted o (yielded ops a.tmps)=true) {ty:TypeId} {x y:Operand} (ho:o.op=.store ty x y) {g f:Nat} (hx:a.eval x=.pointer (some ⟨g,f,none⟩)) (hy:a.eval y=v) (_:Fs a N l) (M:Mm w0 w bs rs) (i:Nat) {t:TypeId} {cs cs':Array Value} (hi:bs[i]?=some (g,t,cs))
 {u:List Value} (hl:v.cells.toList=u) (hfit:Nat.ble (f+u.length) cs.size=true) (hz:(P.info? ty).map (·.size)=some u.length) (h1:u.all (·.oneCell')=true) (hsp:splice cs f u=cs') (hd:o.dst=none) {bs':List Bx} (hb:bs.set i (g,t,cs')=bs')
 (next:∀ w',Mm w0 w' bs' rs→wpList P ops Q rest a w') (ht:Nat.blt t 9000=true:=by rfl):wpList P ops Q (o::rest) a w :=
 wk_store hw ho hx hy (M.b i hi ht) hl (Nat.le_of_ble_eq_true hfit) hz h1 hsp hd fun w' s h'=>next w' (hb▸M.sto i hi s h' ht)
theorem kbA (hw:Region.wanted o (yielded ops a.tmps)=true) {ty:TypeId} {x:Operand} (ho:o.op=.box ty x) {cs:Array Value} (hx:a.eval x=.agg cs) (hd:o.dst=some d) (F:Fs a N l) (hN:Nat.blt d N=true) (M:Mm w0 w bs rs)
 (next:∀ g a' w',Fs a' N ((d,.pointer (some ⟨g,0,none⟩))::l)→Mm w0 w' ((g,ty,cs)::bs) rs→wpList P ops Q rest a' w') (ht:Nat.blt ty 9000=true:=by rfl):wpList P ops Q (o::rest) a w :=
 kb hw ho hx rfl hd F hN M next ht
theorem kb1 (hw:Region.wanted o (yielded ops a.tmps)=true) {ty:TypeId} {x:Operand} (ho:o.op=.box ty x) (hx:a.eval x=v) (hc:v.cells=#[v]) (hd:o.dst=some d) (F:Fs a N l) (hN:Nat.blt d N=true) (M:Mm w0 w bs rs)
 (next:∀ g a' w',Fs a' N ((d,.pointer (some ⟨g,0,none⟩))::l)→Mm w0 w' ((g,ty,#[v])::bs) rs→wpList P ops Q rest a' w') (ht:Nat.blt ty 9000=true:=by rfl):wpList P ops Q (o::rest) a w :=
 kb hw ho hx hc hd F hN M next ht
theorem kaA (hw:Region.wanted o (yielded ops a.tmps)=true) {ty:TypeId} {cs:Array Value} (ho:o.op=.alloc ty) (hz:(P.info? ty).bind (·.zero)=some (.agg cs)) (hd:o.dst=some d) (F:Fs a N l) (hN:Nat.blt d N=true) (M:Mm w0 w bs rs)
 (next:∀ g a' w',Fs a' N ((d,.pointer (some ⟨g,0,none⟩))::l)→Mm w0 w' ((g,ty,cs)::bs) rs→wpList P ops Q rest a' w') (ht:Nat.blt ty 9000=true:=by rfl):wpList P ops Q (o::rest) a w :=
 ka hw ho hz rfl hd F hN M next ht
theorem ka1 (hw:Region.wanted o (yielded ops a.tmps)=true) {ty:TypeId} (ho:o.op=.alloc ty) (hz:(P.info? ty).bind (·.zero)=some v) (hc:v.cells=#[v]) (hd:o.dst=some d) (F:Fs a N l) (hN:Nat.blt d N=true) (M:Mm w0 w bs rs)
 (next:∀ g a' w',Fs a' N ((d,.pointer (some ⟨g,0,none⟩))::l)→Mm w0 w' ((g,ty,#[v])::bs) rs→wpList P ops Q rest a' w') (ht:Nat.blt ty 9000=true:=by rfl):wpList P ops Q (o::rest) a w :=
 ka hw ho hz hc hd F hN M next ht
theorem ksA (hw:Region.wanted o (yielded ops a.tmps)=true) {ty:TypeId} {x y:Operand} (ho:o.op=.store ty x y) {g:Nat} {cs':Array Value} (hx:a.eval x=.pointer (some ⟨g,0,none⟩)) (hy:a.eval y=.agg cs') (F:Fs a N l) (M:Mm w0 w bs rs) (i:Nat) {t:TypeId} {cs:Array Value} (hi:bs[i]?=some (g,t,cs))
 {n:Nat} (hz:(P.info? ty).map (·.size)=some n) (hs:(Nat.beq cs.size n&&Nat.beq cs'.size n)=true) (h1:cs'.toList.all (·.oneCell')=true) (hd:o.dst=none)
 (next:∀ w',Mm w0 w' (bs.set i (g,t,cs')) rs→wpList P ops Q rest a w') (ht:Nat.blt t 9000=true:=by rfl):wpList P ops Q (o::rest) a w:=by
 obtain⟨e1,e2⟩:=Bool.and_eq_true_iff.1 hs
 have e1:=Nat.eq_of_beq_eq_true e1
 have e2:=Nat.eq_of_beq_eq_true e2
 refine ks hw ho hx hy F M i hi rfl ?_ (hz.trans ?_) h1 (wk_splice _ _ ?_) hd rfl next ht
 ·show Nat.ble (0+cs'.toList.length) cs.size=true
  exact Nat.ble_eq_true_of_le (by rw[Array.length_toList];omega)
 ·show some n=some cs'.toList.length
  rw[Array.length_toList,e2]
 ·show cs.size=cs'.toList.length
  rw[Array.length_toList];omega
theorem kc (hw:Region.wanted o (yielded ops a.tmps)=true) {f:FuncId} {args:Array Value} (hr:(execOp a.eval o).run P w=.ok (.enter f args) w)
 (hc:Calls P f args w fun e w'=>e=.returned v∧RowKit.Below w.heap.size w w') (hd:o.dst=some d) (F:Fs a N l) (hN:Nat.blt d N=true) (M:Mm w0 w bs rs)
 (next:∀ a' w',Fs a' N ((d,v)::l)→Mm w0 w' bs rs→wpList P ops Q rest a' w'):wpList P ops Q (o::rest) a w :=
 wk_call hw hr (calls_val hc) hd F.fr (by simpa using hN) fun u a' w' h p=>by
  obtain⟨rfl,hb⟩:=h
  exact next a' w' (F.put p) (M.keep hb)
theorem kq (hw:Region.wanted o (yielded ops a.tmps)=true) {f:FuncId} {args:Array Value} (hr:(execOp a.eval o).run P w=.ok (.enter f args) w)
 (hc:Calls P f args w fun e w'=>e=.returned v∧w=w') (hd:o.dst=some d) (F:Fs a N l) (hN:Nat.blt d N=true)
 (next:∀ a',Fs a' N ((d,v)::l)→wpList P ops Q rest a' w):wpList P ops Q (o::rest) a w :=
 wk_call hw hr (calls_same hc) hd F.fr (by simpa using hN) fun u a' w' h p=>by
  obtain⟨rfl,rfl⟩:=h
  exact next a' (F.put p)
theorem kx (hw:Region.wanted o (yielded ops a.tmps)=true) {f:FuncId} {args:Array Value} (hr:(execOp a.eval o).run P w=.ok (.enter f args) w) {R:Value→World→Prop}
 (hc:Calls P f args w fun e w'=>∃ v,e=.returned v∧(R v w'∧RowKit.Below w.heap.size w w')) (hd:o.dst=some d) (F:Fs a N l) (hN:Nat.blt d N=true) (M:Mm w0 w bs rs)
 (next:∀ v a' w',R v w'→RowKit.Below w.heap.size w w'→Fs a' N ((d,v)::l)→Mm w0 w' bs rs→wpList P ops Q rest a' w'):wpList P ops Q (o::rest) a w :=
 wk_call hw hr hc hd F.fr (by simpa using hN) fun u a' w' h p=>next u a' w' h.1 h.2 (F.put p) (M.keep h.2)
theorem kp (hw:Region.wanted o (yielded ops a.tmps)=true) {s x:Operand} {t:TypeId} (ho:o.op=.call { callee:=.builtin .append,args:=#[s,x],argTypes:=#[t,t] })
 {e:TypeId} {size bytes:Nat} (ht:P.underlying t=some (.slice e)) (hi:infoB (P.info? e) size bytes=true) (hsz:Nat.blt 0 size=true) (M:Mm w0 w bs rs) (i:Nat) {n:Nat} {xs:List Value} (hri:rs[i]?=some ⟨v,e,size,n,xs⟩)
 (hs:a.eval s=v) {m:Nat} {news:List Value} {u:Value} (hx:a.eval x=u) (hsl:SliceAt w u size m news) (h63:n+m≤maxLen∧(n+m)*bytes≤140737488355328) (hd:o.dst=some d) (F:Fs a N l) (hN:Nat.blt d N=true)
 (next:∀ v' a' w',Fs a' N ((d,v')::l)→Mm w0 w' bs (rs.set i ⟨v',e,size,n+m,xs++news⟩)→wpList P ops Q rest a' w'):wpList P ops Q (o::rest) a w:=by
 have hown:=M.r i hri
 have hsz':0<size:=by simpa using hsz
 rcases hsl.2.2.2 with⟨rfl,rfl⟩ | ⟨ad,c,rfl,hnc,hcell⟩
 ·obtain⟨ti,z,h2,h3,h4,h5,h6⟩:=infoOf hi
  have hnil:news=[]:=List.eq_nil_of_length_eq_zero (by rw[hsl.1];simp)
  subst hnil
  have hrun:=run_append_owned_none (P:=P) (w:=w) w0.heap.size t o.type e ti size ht h2 v n xs hown
  refine wk_val hw (v:=v) (w':=w) ?_ hd F.fr (by simpa using hN) fun a' p=>next v a' w (F.put p) ?_
  ·unfold execOp
   simp only[ho,resolve,invoke,builtin,Sem.run_bind,Sem.run_pure,Result.andThen_ok,List.map_toArray,List.map_cons,List.map_nil,hs,hx,hrun]
  ·exact M.grow i hri (by simpa using hown) ⟨rfl,rfl,rfl,Nat.le_refl _,fun _ _ _=>rfl⟩ (.inl rfl)
 ·obtain⟨ti,z,h2,h3,h4,h5,h6⟩:=infoOf hi
  subst h4 h5
  obtain⟨v',w',hr,g1,g2,-⟩:=run_append_own (P:=P) w w0.heap.size t o.type e ti z ti.size ti.bytes ht h2 h3 rfl rfl h6 hsz' v n xs hown ad m c news hsl.1 hcell hsl.2.2.1 h63.1 h63.2 M.below.size
  have hblk:=append_block (P:=P) w w0.heap.size t o.type e ti z ht h2 h3 h6 hsz' v n xs hown ad m c news hsl.1 hcell hsl.2.2.1 h63.1 h63.2 hr
  refine wk_val hw (v:=v') (w':=w') ?_ hd F.fr (by simpa using hN) fun a' p=>next v' a' w' (F.put p) (M.grow i hri g1 g2 hblk)
  unfold execOp
  simp only[ho,resolve,invoke,builtin,Sem.run_bind,Sem.run_pure,Result.andThen_ok,List.map_toArray,List.map_cons,List.map_nil,hs,hx,hr]
theorem Mm.slice (M:Mm w0 w bs rs) (i:Nat) {g:Nat} {t:TypeId} {cs:Array Value} (h:bs[i]?=some (g,t,cs)) {k n:Nat} (hl:cs.toList.length=n*k) (h1:cs.toList.all (·.oneCell')=true) (hn:n≤maxLen) (ht:Nat.blt t 9000=true:=by rfl):SliceAt w (.slice (some ⟨g,0,none⟩) n n) k n cs.toList :=
 ⟨hl,hn,fun u hu=>List.all_eq_true.1 h1 u hu,.inr ⟨_,n,rfl,Nat.le_refl _,fun j u hu=>by rw[Addr.add_lit,Nat.zero_add,(M.b i h ht).cell];simpa using hu⟩⟩
end
section
variable {P:Program} {Q:Exit→Act→World→Prop} {a:Act} {w:World} {N:Nat} {l:Slots}
theorem whole_all {g:Nat} {t:TypeId} {cs:Array Value} (h:Whole w g t cs):∀ j u,cs.toList[j]?=some u→w.cell? ⟨g,0+j,none⟩=some u:=fun j u hu=>by
 rw[Nat.zero_add,h.cell];simpa using hu
theorem e_loadW {P:Program} {o:Oper} {ty:TypeId} {x:Operand} {g:Nat} {t:TypeId} {cs:Array Value} {dd:TypeDesc} (ho:o.op=.load ty x) (hx:a.eval x=.pointer (some ⟨g,0,none⟩)) (hu:P.underlying ty=some dd)
 (hd:(match dd with | .struct _ | .array _ _=>true | _=>false)=true) (h:Whole w g t cs) {n:Nat} (hi:(P.info? ty).map (·.size)=some n) (hn:Nat.beq n cs.size=true):(execOp a.eval o).run P w=.ok (.value (.agg cs)) w :=
 e_loadN cs.toList ho hx hu hd (hi.trans (by rw[Array.length_toList,Nat.eq_of_beq_eq_true hn])) (whole_all h)
def nth:List Value→Nat→Option Value
 | [],_=>none
 | x::_,0=>some x
 | _::r,i+1=>nth r i
theorem nth_eq (l:List Value) (i:Nat):nth l i=l[i]?:=by
 induction l generalizing i with
 | nil=>simp[nth]
 | cons x r ih=>cases i with
  | zero=>rfl
  | succ i=>rw[nth,ih];simp
theorem Whole.c1 {g:Nat} {t:TypeId} {cs:Array Value} (h:Whole w g t cs) (i:Nat):w.cell? ⟨g,i,none⟩=nth cs.toList i:=by
 rw[h.cell,nth_eq];simp
theorem lat {w0:World} (hb:RowKit.Below w0.heap.size w0 w) {g f:Nat} {cs:List Value} (h:∀ j u,cs[j]?=some u→w0.cell? ⟨g,f+j,none⟩=some u):∀ j u,cs[j]?=some u→w.cell? ⟨g,f+j,none⟩=some u:=fun j u hu=>cell_later hb (h j u hu)
theorem en {f:FuncId} {fn:Func} {c:Code} {args:Array Value} {R:Ending→World→Prop} (hf:P.funcs[f]?=some fn) (hb:fn.body=some c) (hn:fn.ntmps=N) (hN:Nat.ble args.size N=true) {vs:List Value} (ha:args=vs.toArray)
 (h:∀ a,Fs a N (ens 0 vs)→c.wp P (bodyPost P fn R) a w):Calls P f args w R :=
 wk_enter hf hb hn (Nat.le_of_ble_eq_true hN) fun a h1 h2=>h a (Fs.args h1 h2 ha)
theorem rt0 {fn:Func} {R:Ending→World→Prop} (hr:fn.results=#[]) (F:Fs a N l) (hR:R (.returned (.tuple #[])) w):bodyPost P fn R .ret a w:=wk_ret0 hr F.fr hR
theorem rt1 {fn:Func} {R:Ending→World→Prop} {s:Nat} {v:Value} (hr:fn.results=#[.tmp s]) (F:Fs a N l) (hv:look s l=some v) (hR:R (.returned v) w):bodyPost P fn R .ret a w:=wk_ret hr F.fr (F.g s hv) hR
theorem rt2 {fn:Func} {R:Ending→World→Prop} {s t:Nat} {v u:Value} (hr:fn.results=#[.tmp s,.tmp t]) (F:Fs a N l) (hv:look s l=some v) (hu:look t l=some u) (hR:R (.returned (.tuple #[v,u])) w):bodyPost P fn R .ret a w:=wk_ret2 hr F.fr (F.g s hv) (F.g t hu) hR
theorem rt3 {fn:Func} {R:Ending→World→Prop} {s t r:Nat} {v u x:Value} (hr:fn.results=#[.tmp s,.tmp t,.tmp r]) (F:Fs a N l) (hv:look s l=some v) (hu:look t l=some u) (hx:look r l=some x) (hR:R (.returned (.tuple #[v,u,x])) w):bodyPost P fn R .ret a w:=wk_ret3 hr F.fr (F.g s hv) (F.g t hu) (F.g r hx) hR
theorem hr0 (P:Program) (fn:Func) (R:Ending→World→Prop) (N:Nat) (hr:fn.results=#[]) (a:Act) (w:World) (l:Slots) (F:Fs a N l) (hR:R (.returned (.tuple #[])) w):bodyPost P fn R .ret a w:=rt0 hr F hR
theorem hr1 (P:Program) (fn:Func) (R:Ending→World→Prop) (N s:Nat) (hr:fn.results=#[.tmp s]) (a:Act) (w:World) (l:Slots) (v:Value) (F:Fs a N l) (hv:look s l=some v) (hR:R (.returned v) w):bodyPost P fn R .ret a w:=rt1 hr F hv hR
theorem hr2 (P:Program) (fn:Func) (R:Ending→World→Prop) (N s t:Nat) (hr:fn.results=#[.tmp s,.tmp t]) (a:Act) (w:World) (l:Slots) (v u:Value) (F:Fs a N l) (hv:look s l=some v) (hu:look t l=some u) (hR:R (.returned (.tuple #[v,u])) w):bodyPost P fn R .ret a w:=rt2 hr F hv hu hR
theorem hr3 (P:Program) (fn:Func) (R:Ending→World→Prop) (N s t r:Nat) (hr:fn.results=#[.tmp s,.tmp t,.tmp r]) (a:Act) (w:World) (l:Slots) (v u x:Value) (F:Fs a N l) (hv:look s l=some v) (hu:look t l=some u) (hx:look r l=some x) (hR:R (.returned (.tuple #[v,u,x])) w):bodyPost P fn R .ret a w:=rt3 hr F hv hu hx hR
def RI (w0:World) (x:Int):Ending→World→Prop:=fun e w'=>e=.returned (.int .i64 x)∧RowKit.Below w0.heap.size w0 w'
theorem Fs.add (F:Fs a N l) {q:Nat} {v:Value} (h:At a q v):Fs a N ((q,v)::l):=by
 refine⟨F.fr,fun s x hs=>?_⟩
 rw[look_cons] at hs
 cases he:s == q with
 | true =>
  rw[he] at hs
  have hs':v=x:=Option.some.inj hs
  have e':s=q:=by simpa using he
  subst hs' e'
  exact h
 | false =>
  rw[he] at hs
  exact F.at_ s x hs
end
section
variable {P:Program} {ops:Array Oper} {Q:Exit→Act→World→Prop} {a:Act} {w0 w:World} {rest:List Oper} {o:Oper} {v:Value} {d N:Nat} {l:Slots} {bs:List Bx} {rs:List Rw}
theorem rf {α:Sort _} {x:α}:x=x:=rfl
def vl (l:Slots):Operand→Option Value
 | .tmp q=>look q l
 | .const v=>some v
 | _=>none
theorem Fs.u (F:Fs a N l) {x:Operand} (h:vl l x=some v):a.eval x=v:=by
 cases x with
 | tmp q=>exact F.e q h
 | const u=>exact Option.some.inj h
 | _=>cases h
def pl (N:Nat) (o:Oper):Option Nat:=match o.guard,o.dst with
 | none,some d=>bif Nat.blt d N then some d else none
 | _,_=>none
theorem pl_of (h:pl N o=some d):o.guard=none∧o.dst=some d∧Nat.blt d N=true:=by
 unfold pl at h
 split at h
 ·rename_i d' hg hd
  cases hb:Nat.blt d' N with
  | false=>rw[hb] at h;cases h
  | true =>
   rw[hb] at h
   have e:d'=d:=Option.some.inj h
   subst e
   exact⟨hg,hd,hb⟩
 ·cases h
theorem kz (F:Fs a N l) (h:pl N o=some d) (hr:(execOp a.eval o).run P w=.ok (.value v) w) (next:∀ a',Fs a' N ((d,v)::l)→wpList P ops Q rest a' w):wpList P ops Q (o::rest) a w :=
 have⟨h1,h2,h3⟩:=pl_of h
 kv (on h1) hr h2 F h3 next
theorem xM (F:Fs a N l) (h:pl N o=some d) {x:Operand} (ho:o.op=.move x) (hx:vl l x=some v) (next:∀ a',Fs a' N ((d,v)::l)→wpList P ops Q rest a' w):wpList P ops Q (o::rest) a w :=
 kz F h (e_move ho (F.u hx)) next
theorem xA (F:Fs a N l) (h:pl N o=some d) {x:Operand} (ho:o.op=.assign x) (hx:vl l x=some v) (next:∀ a',Fs a' N ((d,v)::l)→wpList P ops Q rest a' w):wpList P ops Q (o::rest) a w :=
 kz F h (e_assign ho (F.u hx)) next
theorem xF (n:Nat) (F:Fs a N l) (h:pl N o=some d) {ty:TypeId} {x:Operand} {f g off:Nat} {fs:Array Field} {fd:Field} {k:Nat} (ho:o.op=.fieldAddr ty x f) (hx:vl l x=some (.pointer (some ⟨g,off,none⟩))) (hu:P.underlying ty=some (.struct fs)) (hf:fs[f]?=some fd)
 (hs:(P.info? fd.type).map (·.size)=some (k+1)) (e:off+fd.offset=n) (next:∀ a',Fs a' N ((d,.pointer (some ⟨g,n,none⟩))::l)→wpList P ops Q rest a' w):wpList P ops Q (o::rest) a w:=by
 subst e
 exact Proofs.YtdcofoaihmongaaGreat.kz F h (e_field ho (F.u hx) hu hf hs) next
theorem xL (F:Fs a N l) {g:Nat} {t:TypeId} {cs:Array Value} (H:Whole w g t cs) (h:pl N o=some d) {ty:TypeId} {x:Operand} {f:Nat} {dd:TypeDesc} (ho:o.op=.load ty x) (hx:vl l x=some (.pointer (some ⟨g,f,none⟩))) (hu:P.underlying ty=some dd)
 (hd:(match dd with | .struct _ | .array _ _=>false | _=>true)=true) (hc:nth cs.toList f=some v) (next:∀ a',Fs a' N ((d,v)::l)→wpList P ops Q rest a' w):wpList P ops Q (o::rest) a w :=
 kz F h (e_load1 ho (F.u hx) hu hd ((H.c1 f).trans hc)) next
theorem xW (F:Fs a N l) {g:Nat} {t:TypeId} {cs:Array Value} (H:Whole w g t cs) (h:pl N o=some d) {ty:TypeId} {x:Operand} {dd:TypeDesc} (ho:o.op=.load ty x) (hx:vl l x=some (.pointer (some ⟨g,0,none⟩))) (hu:P.underlying ty=some dd)
 (hd:(match dd with | .struct _ | .array _ _=>true | _=>false)=true) {n:Nat} (hi:(P.info? ty).map (·.size)=some n) (hn:Nat.beq n cs.size=true) (next:∀ a',Fs a' N ((d,.agg cs)::l)→wpList P ops Q rest a' w):wpList P ops Q (o::rest) a w :=
 kz F h (e_loadW ho (F.u hx) hu hd H hi hn) next
def okf (P:Program) (f:FuncId):Bool:=match P.funcs[f]? with
 | some fn=>!(fn.name == "runtime.NumGoroutine")&&fn.body.isSome
 | none=>false
theorem okf_run {f:FuncId} (hf:okf P f=true) {xs:Array Operand} {ts:Array TypeId} {args:Array Value} (ho:o.op=.call { callee:=.value (.func f),args:=xs,argTypes:=ts }) (ha:xs.map a.eval=args):(execOp a.eval o).run P w=.ok (.enter f args) w:=by
 unfold okf at hf
 split at hf
 ·rename_i fn hfn
  rw[Bool.and_eq_true,Bool.not_eq_true'] at hf
  obtain⟨c,hc⟩:=Option.isSome_iff_exists.1 hf.2
  exact e_call ho hfn hf.1 hc ha
 ·cases hf
theorem xC (F:Fs a N l) (M:Mm w0 w bs rs) (h:pl N o=some d) {f:FuncId} {xs:Array Operand} {ts:Array TypeId} {args:Array Value} (ho:o.op=.call { callee:=.value (.func f),args:=xs,argTypes:=ts }) (hf:okf P f=true) (ha:xs.map a.eval=args)
 (hc:Calls P f args w fun e w'=>e=.returned v∧RowKit.Below w.heap.size w w') (next:∀ a' w',Fs a' N ((d,v)::l)→Mm w0 w' bs rs→wpList P ops Q rest a' w'):wpList P ops Q (o::rest) a w :=
 have⟨h1,h2,h3⟩:=pl_of h
 kc (on h1) (okf_run hf ho ha) hc h2 F h3 M next
theorem xQ (F:Fs a N l) (h:pl N o=some d) {f:FuncId} {xs:Array Operand} {ts:Array TypeId} {args:Array Value} (ho:o.op=.call { callee:=.value (.func f),args:=xs,argTypes:=ts }) (hf:okf P f=true) (ha:xs.map a.eval=args)
 (hc:Calls P f args w fun e w'=>e=.returned v∧w=w') (next:∀ a',Fs a' N ((d,v)::l)→wpList P ops Q rest a' w):wpList P ops Q (o::rest) a w :=
 have⟨h1,h2,h3⟩:=pl_of h
 kq (on h1) (okf_run hf ho ha) hc h2 F h3 next
theorem xS (F:Fs a N l) (M:Mm w0 w bs rs) (h:pl N o=some d) {t e:TypeId} {x:Operand} {z:Value} (ho:o.op=.buildSlice t 1 #[(0,x)]) (hx:vl l x=some v) (hu:P.underlying t=some (.slice e)) (hs:(P.info? e).map (·.size)=some 1) (hz:(P.info? e).bind (·.zero)=some z)
 (h1:v.cells=#[v]) (hz1:z.cells.size=1) (next:∀ g a' w',Fs a' N ((d,.slice (some ⟨g,0,none⟩) 1 1)::l)→Mm w0 w' ((g,e,#[v])::bs) rs→wpList P ops Q rest a' w') (ht:Nat.blt e 9000=true:=by rfl):wpList P ops Q (o::rest) a w:=by
 obtain⟨g1,g2,g3⟩:=pl_of h
 refine kl (len:=1) (k:=1) (parts:=#[(0,x)]) (pv:=#[(0,v)]) (cells:=#[v]) (on g1) ho hu hs hz rfl (by simp[F.u hx]) ?_ g2 F g3 M next ht
 have hr:(Array.range (1*1)).map (z.cells[·%z.cells.size]!)=#[z.cells[0]!]:=by
  refine Array.ext (by simp) fun i h1 h2=>?_
  have hi:i=0:=by simp at h2;omega
  subst hi
  simp[hz1]
 rw[hr]
 simp[Instr.fill,h1]
end
section
variable {P:Program} {ops:Array Oper} {Q':Exit→Act→World→Prop} {a:Act} {w w':World} {o:Oper} {v:Value} {d N:Nat} {g:Good}
theorem dv (hw:Region.wanted o (yielded ops a.tmps)=true) (hr:(execOp a.eval o).run P w=.ok (.value v) w) (hd:o.dst=some d) (hf:Fr a N) (hN:Nat.blt d N=true)
 (hK:∀ v a' w',RowKit.Below w.heap.size w w'→g v w'→Put a (o.dst.getD 0) v a'→Q' .normal a' w') (hg:g v w):wpList P ops Q' [o] a w :=
 wk_val hw hr hd hf (by simpa using hN) fun a' p=>wpList_nil (hK v a' w (Below.refl _ _) hg (by rw[hd];exact p))
theorem do1 (hd:o.dst=some d) {j s:Nat} {b c:Bool} (hg':o.guard=some (j,b)) (hj:(ops[j]?).bind (·.dst)=some s) (h:At a s (.bool c)) (hne:(c == b)=false) (hf:Fr a N) (hN:Nat.blt d N=true)
 (hK:∀ v a' w',RowKit.Below w.heap.size w w'→g v w'→Put a (o.dst.getD 0) v a'→Q' .normal a' w') (hg:g undef w):wpList P ops Q' [o] a w :=
 wk_off (off_guard hg' hj h hne) hd hf (by simpa using hN) fun a' p=>wpList_nil (hK undef a' w (Below.refl _ _) hg (by rw[hd];exact p))
theorem do2 (hd:o.dst=some d) {j s:Nat} {b:Bool} (hg':o.guard=some (j,b)) (hj:(ops[j]?).bind (·.dst)=some s) (h:At a s undef) (hf:Fr a N) (hN:Nat.blt d N=true)
 (hK:∀ v a' w',RowKit.Below w.heap.size w w'→g v w'→Put a (o.dst.getD 0) v a'→Q' .normal a' w') (hg:g undef w):wpList P ops Q' [o] a w :=
 wk_off (off_undef hg' hj h) hd hf (by simpa using hN) fun a' p=>wpList_nil (hK undef a' w (Below.refl _ _) hg (by rw[hd];exact p))
theorem dc (hw:Region.wanted o (yielded ops a.tmps)=true) {f:FuncId} {args:Array Value} (hr:(execOp a.eval o).run P w=.ok (.enter f args) w)
 (hc:Calls P f args w fun e w'=>e=.returned v∧RowKit.Below w.heap.size w w') (hd:o.dst=some d) (hf:Fr a N) (hN:Nat.blt d N=true)
 (hK:∀ v a' w',RowKit.Below w.heap.size w w'→g v w'→Put a (o.dst.getD 0) v a'→Q' .normal a' w') (hg:∀ w',g v w'):wpList P ops Q' [o] a w :=
 wk_call hw hr (calls_val hc) hd hf (by simpa using hN) fun u a' w' h p=>by
  obtain⟨rfl,hb⟩:=h
  exact wpList_nil (hK u a' w' hb (hg w') (by rw[hd];exact p))
theorem dq (hw:Region.wanted o (yielded ops a.tmps)=true) {f:FuncId} {args:Array Value} (hr:(execOp a.eval o).run P w=.ok (.enter f args) w)
 (hc:Calls P f args w fun e w'=>e=.returned v∧w=w') (hd:o.dst=some d) (hf:Fr a N) (hN:Nat.blt d N=true)
 (hK:∀ v a' w',RowKit.Below w.heap.size w w'→g v w'→Put a (o.dst.getD 0) v a'→Q' .normal a' w') (hg:g v w):wpList P ops Q' [o] a w :=
 wk_call hw hr (calls_same hc) hd hf (by simpa using hN) fun u a' w' h p=>by
  obtain⟨rfl,rfl⟩:=h
  exact wpList_nil (hK u a' w (Below.refl _ _) hg (by rw[hd];exact p))
theorem dx (hw:Region.wanted o (yielded ops a.tmps)=true) {f:FuncId} {args:Array Value} (hr:(execOp a.eval o).run P w=.ok (.enter f args) w)
 (hc:Calls P f args w fun e w'=>∃ v,e=.returned v∧(g v w'∧RowKit.Below w.heap.size w w')) (hd:o.dst=some d) (hf:Fr a N) (hN:Nat.blt d N=true)
 (hK:∀ v a' w',RowKit.Below w.heap.size w w'→g v w'→Put a (o.dst.getD 0) v a'→Q' .normal a' w'):wpList P ops Q' [o] a w :=
 wk_call hw hr hc hd hf (by simpa using hN) fun u a' w' h p=>wpList_nil (hK u a' w' h.2 h.1 (by rw[hd];exact p))
theorem dn (hw:Region.wanted o (yielded ops a.tmps)=true) {ty:TypeId} {cs:Array Value} {f:Nat→Value} (hr:(execOp a.eval o).run P w=.ok (.value (f w.heap.size)) (w.alloc (.cells cs ty))) (hd:o.dst=some d) (hf:Fr a N) (hN:Nat.blt d N=true)
 (hK:∀ v a' w',RowKit.Below w.heap.size w w'→g v w'→Put a (o.dst.getD 0) v a'→Q' .normal a' w') (hg:∀ b w',New w w' b ty cs→g (f b) w'):wpList P ops Q' [o] a w :=
 wk_new hw hr hd hf (by simpa using hN) fun b a' w' n p=>wpList_nil (hK _ a' w' n.below (hg b w' n) (by rw[hd];exact p))
def Made (w:World) (f:Nat→Value) (ty:TypeId) (cs:Array Value):Good:=fun v u=>∃ g,v=f g∧Whole u g ty cs∧w.heap.size≤g
theorem lasts_made (w:World) (f:Nat→Value) (ty:TypeId) (cs:Array Value):Lasts (Made w f ty cs):=fun _ _ _ ⟨g,e,h,k⟩ hb=>⟨g,e,Whole.under hb h h.lt,k⟩
theorem made_new {wb:World} {f:Nat→Value} {ty:TypeId} {cs:Array Value} (hb:RowKit.Below wb.heap.size wb w) (b:Nat) (u:World) (n:New w u b ty cs):Made wb f ty cs (f b) u:=⟨b,rfl,n.whole,n.at_▸hb.size⟩
theorem Mm.newAt {w0:World} {bs:List Bx} {rs:List Rw} (M:Mm w0 w bs rs) (hb:RowKit.Below w.heap.size w w') {g:Nat} {t:TypeId} {cs:Array Value} (h:Whole w' g t cs) (hg:w.heap.size≤g) (ht:Nat.blt t 9000=true:=by rfl):Mm w0 w' ((g,t,cs)::bs) rs:=by
 have M':=M.keep hb
 refine⟨M'.below,?_,?_,?_,M'.row,?_,M.rnd⟩
 ·intro b hb
  rcases List.mem_cons.1 hb with rfl | hb
  ·exact .inl ⟨ht,h⟩
  ·exact M'.box b hb
 ·intro b hb
  rcases List.mem_cons.1 hb with rfl | hb
  ·exact Nat.le_trans M.below.size hg
  ·exact M.lo b hb
 ·rw[List.map_cons,List.nodup_cons]
  refine⟨fun h=>?_,M.nd⟩
  obtain⟨b,hb,e⟩:=List.mem_map.1 h
  have:=(M.box b hb).lt
  simp only at e
  omega
 ·intro r hr b hb
  rcases List.mem_cons.1 hb with rfl | hb
  ·intro e
   have:=((M.row r hr).lt g e).2
   omega
  ·exact M.far r hr b hb
theorem rd {id:Nat} {L:List Oper} {Q:Exit→Act→World→Prop} {l:Slots} (k:Nat) (slots:List Nat) (goods:List Good)
 (hm:P.follows .mixedOrders=true) (hord:ordered 0 L=true) (htail:tailOk k L=true) (hslots:(L.take k).map (·.dst)=slots.map some) (hnd:slots.Nodup) (hbd:slots.all (fun s=>decide (s<N))=true) (hlen:goods.length=slots.length)
 (F:Fs a N l) (hst:LastsAll goods) (hstep:DrawSteps P L.toArray slots goods (RowKit.Below w.heap.size w) a N (L.take k) goods)
 (hend:∀ a' w',RowKit.Below w.heap.size w w'→Fs a' N (l.filter fun p=>!slots.contains p.1)→(∀ (i s:Nat) (g:Good),slots[i]?=some s→goods[i]?=some g→∃ v,At a' s v∧g v w')→TailSteps P L.toArray (Q .normal) (L.drop k) a' w'):(Code.region id L.toArray true).wp P Q a w:=by
 refine wp_region_tail k slots goods (RowKit.Below w.heap.size w) hm hord htail hslots hnd hbd hlen F.fr (Below.refl _ _).drew (fun _ _ h hb=>h.trans (hb.mono h.size)) hst hstep ?_
 intro a' w' D
 refine hend a' w' D.inv ⟨D.fr,?_⟩ fun i s g hs hg=>D.done i rfl s g hs hg
 intro q v hq
 have key:∀ l:Slots,look q (l.filter fun p=>!slots.contains p.1)=some v→slots.contains q=false∧look q l=some v:=by
  intro l
  induction l with
  | nil=>intro h;exact absurd h (by simp[look])
  | cons p r ih =>
   intro h
   obtain⟨s,u⟩:=p
   rw[List.filter_cons] at h
   rw[look_cons]
   split at h
   ·rename_i hc
    rw[look_cons] at h
    cases e:q == s with
    | true =>
     rw[e] at h
     have e':q=s:=by simpa using e
     subst e'
     exact⟨by simpa using hc,h⟩
    | false =>
     rw[e] at h
     exact ih h
   ·rename_i hc
    obtain⟨h1,h2⟩:=ih h
    cases e:q == s with
    | true =>
     have e':q=s:=by simpa using e
     subst e'
     rw[h1] at hc
     simp at hc
    | false=>exact⟨h1,h2⟩
 obtain⟨h1,h2⟩:=key l hq
 exact D.rest q v h1 (F.at_ q v h2)
end
def gd (t:Bool) (v:Value):Value:=bif t then v else undef
theorem At.on {a:Act} {s:Nat} {t:Bool} {v:Value} (h:At a s (gd t v)) (ht:t=true):At a s v:=by subst ht;exact h
theorem At.on2 {a:Act} {s:Nat} {t c:Bool} {v:Value} (h:At a s (gd (t&&c) v)) (ht:t=true):At a s (gd c v):=by subst ht;exact h
theorem a1 {s t:Bool} (h:(s&&t)=true):s=true:=(Bool.and_eq_true_iff.1 h).1
theorem a2 {s t:Bool} (h:(s&&t)=true):t=true:=(Bool.and_eq_true_iff.1 h).2
theorem rq {P:Program} {s:Sem Next} {w:World} {v u:Value} (h:s.run P w=.ok (.value v) w) (e:v=u):s.run P w=.ok (.value u) w:=e▸h
section
variable {P:Program} {ops:Array Oper} {Q':Exit→Act→World→Prop} {a:Act} {w w':World} {o:Oper} {v:Value} {d N:Nat} {g:Good} {j s:Nat} {c t:Bool}
theorem dg1 {b:Bool} (hg:o.guard=some (j,b)) (hj:(ops[j]?).bind (·.dst)=some s) (h:At a s (.bool c)) (ht:(c == b)=t) (hr:t=true→(execOp a.eval o).run P w=.ok (.value v) w) (hd:o.dst=some d) (hf:Fr a N) (hN:Nat.blt d N=true)
 (hK:∀ v a' w',RowKit.Below w.heap.size w w'→g v w'→Put a (o.dst.getD 0) v a'→Q' .normal a' w') (hgd:g (gd t v) w):wpList P ops Q' [o] a w:=by
 cases t with
 | true =>
  have e:c=b:=by simpa using ht
  subst e
  exact dv (on_guard hg hj h) (hr rfl) hd hf hN hK hgd
 | false=>exact do1 hd hg hj h ht hf hN hK hgd
theorem dg2 {b u:Bool} (hg:o.guard=some (j,b)) (hj:(ops[j]?).bind (·.dst)=some s) (h:At a s (gd t (.bool c))) (ht:(c == b)=u) (hr:(t&&u)=true→(execOp a.eval o).run P w=.ok (.value v) w) (hd:o.dst=some d) (hf:Fr a N) (hN:Nat.blt d N=true)
 (hK:∀ v a' w',RowKit.Below w.heap.size w w'→g v w'→Put a (o.dst.getD 0) v a'→Q' .normal a' w') (hgd:g (gd (t&&u) v) w):wpList P ops Q' [o] a w:=by
 cases t with
 | true=>exact dg1 hg hj (h.on rfl) ht hr hd hf hN hK hgd
 | false=>exact do2 hd hg hj h hf hN hK hgd
theorem dgq1 {b:Bool} (hg:o.guard=some (j,b)) (hj:(ops[j]?).bind (·.dst)=some s) (h:At a s (.bool c)) (ht:(c == b)=t) {f:FuncId} {args:t=true→Array Value} (hr:∀ e,(execOp a.eval o).run P w=.ok (.enter f (args e)) w)
 (hc:∀ e,Calls P f (args e) w fun e w'=>e=.returned v∧RowKit.Below w.heap.size w w') (hd:o.dst=some d) (hf:Fr a N) (hN:Nat.blt d N=true)
 (hK:∀ v a' w',RowKit.Below w.heap.size w w'→g v w'→Put a (o.dst.getD 0) v a'→Q' .normal a' w') (hgd:∀ w',g (gd t v) w'):wpList P ops Q' [o] a w:=by
 cases t with
 | true =>
  have e:c=b:=by simpa using ht
  subst e
  exact dc (on_guard hg hj h) (hr rfl) (hc rfl) hd hf hN hK hgd
 | false=>exact do1 hd hg hj h ht hf hN hK (hgd w)
end
theorem pkF (c b:Bool):(if c then gd c (.bool b) else .bool false)=Value.bool (c&&b):=by cases c<;>rfl
theorem pkT (c b:Bool):(if c then .bool true else gd (!c) (.bool b))=Value.bool (c||b):=by cases c<;>rfl
theorem bt (c:Bool):(c == true)=c:=by cases c<;>rfl
theorem bf (c:Bool):(c == false)=!c:=by cases c<;>rfl
section
variable {c b d:Bool}
theorem or1 (h:c=true):(c||b)=true:=by rw[h];rfl
theorem or0 (h:c=false):(c||b)=b:=by rw[h];rfl
end
theorem sm {P:Program} {f:FuncId} {args:Array Value} {w:World} {v:Value} (h:Calls P f args w fun e w'=>e=.returned v∧w=w'):Calls P f args w fun e w'=>e=.returned v∧RowKit.Below w.heap.size w w' :=
 h.mono (by rintro _ _ ⟨rfl,rfl⟩;exact⟨rfl,Below.refl _ _⟩)
end Go.Proofs.YtdcofoaihmongaaGreat
namespace Go.Proofs.YtdcofoaihmongaaGreat
open Go Go.RowKit
section
variable {P:Program} {ops:Array Oper} {Q:Exit→Act→World→Prop} {rest:List Oper} {a:Act} {w w' w0:World} {o:Oper} {v:Value} {d N:Nat} {l:Slots} {j s:Nat} {c t u:Bool} {bs:List Bx} {rs:List Rw}
theorem kg1 {b:Bool} (hg:o.guard=some (j,b)) (hj:(ops[j]?).bind (·.dst)=some s) (h:At a s (.bool c)) (ht:(c == b)=t) (hr:t=true→(execOp a.eval o).run P w=.ok (.value v) w) (hd:o.dst=some d) (F:Fs a N l) (hN:Nat.blt d N=true) {x:Value} (ex:v=x)
 (next:∀ a',Fs a' N ((d,gd t x)::l)→wpList P ops Q rest a' w):wpList P ops Q (o::rest) a w:=by
 subst ex
 cases t with
 | true =>
  have e:c=b:=by simpa using ht
  subst e
  exact kv (gn hg hj h) (hr rfl) hd F hN next
 | false=>exact ko hd hg hj h ht F hN next
theorem kg2 {b:Bool} (hg:o.guard=some (j,b)) (hj:(ops[j]?).bind (·.dst)=some s) (h:At a s (gd t (.bool c))) (ht:(c == b)=u) (hr:(t&&u)=true→(execOp a.eval o).run P w=.ok (.value v) w) (hd:o.dst=some d) (F:Fs a N l) (hN:Nat.blt d N=true) {x:Value} (ex:v=x)
 (next:∀ a',Fs a' N ((d,gd (t&&u) x)::l)→wpList P ops Q rest a' w):wpList P ops Q (o::rest) a w:=by
 subst ex
 cases t with
 | true=>exact kg1 hg hj (h.on rfl) ht hr hd F hN rfl next
 | false=>exact ku hd hg hj h F hN next
theorem kgq1 {b:Bool} (hg:o.guard=some (j,b)) (hj:(ops[j]?).bind (·.dst)=some s) (h:At a s (.bool c)) (ht:(c == b)=t) {f:FuncId} {args:t=true→Array Value} (hr:∀ e,(execOp a.eval o).run P w=.ok (.enter f (args e)) w)
 (hc:∀ e,Calls P f (args e) w fun e w'=>e=.returned v∧RowKit.Below w.heap.size w w') (hd:o.dst=some d) (F:Fs a N l) (hN:Nat.blt d N=true) (M:Mm w0 w bs rs)
 (next:∀ a' w',Fs a' N ((d,gd t v)::l)→Mm w0 w' bs rs→wpList P ops Q rest a' w'):wpList P ops Q (o::rest) a w:=by
 cases t with
 | true =>
  have e:c=b:=by simpa using ht
  subst e
  exact kc (gn hg hj h) (hr rfl) (hc rfl) hd F hN M next
 | false=>exact ko hd hg hj h ht F hN fun a' F=>next a' w F M
theorem kt (hw:Region.wanted o (yielded ops a.tmps)=true) {f:FuncId} {args:Array Value} (hr:(execOp a.eval o).run P w=.ok (.enter f args) w) {R:Value→World→Prop}
 (hc:Calls P f args w fun e w'=>∃ v,e=.returned v∧R v w') (hd:o.dst=some d) (F:Fs a N l) (hN:Nat.blt d N=true)
 (next:∀ v a' w',R v w'→Fs a' N ((d,v)::l)→wpList P ops Q rest a' w'):wpList P ops Q (o::rest) a w :=
 wk_call hw hr hc hd F.fr (by simpa using hN) fun u a' w' h p=>next u a' w' h (F.put p)
theorem e_eqPn {ty yt:TypeId} {x y:Operand} {p:Addr} (ho:o.op=.binOp .eql ty x y yt) (hx:a.eval x=.pointer (some p)) (hy:a.eval y=.pointer none) (hu:P.underlying ty=some (.pointer (P.pointee ty))):(execOp a.eval o).run P w=.ok (.value (.bool false)) w:=by
 unfold execOp;simp[ho,hx,hy,eqGuard,binOp,run_equal_pointer_nil w ty (some p) hu]
theorem iA {x:Value} (h:∃ v,At a s v∧isV x v w):At a s x:=by
 obtain⟨_,h,rfl⟩:=h
 exact h
end
end Go.Proofs.YtdcofoaihmongaaGreat
namespace Go.Proofs.YtdcofoaihmongaaGreat
open Go Go.RowKit
theorem u3:type_of% Tryz.underlying3:=Tryz.underlying3
theorem u4:type_of% Tryz.underlying4:=Tryz.underlying4
theorem u6:type_of% Tryz.underlying6:=Tryz.underlying6
theorem u8:type_of% Tryz.underlying8:=Tryz.underlying8
theorem u9:type_of% Tryz.underlying9:=Tryz.underlying9
theorem u10:type_of% Tryz.underlying10:=Tryz.underlying10
theorem u22:type_of% Tryz.underlying22:=Tryz.underlying22
theorem u23:type_of% Tryz.underlying23:=Tryz.underlying23
theorem u24:type_of% Tryz.underlying24:=Tryz.underlying24
theorem u25:type_of% Tryz.underlying25:=Tryz.underlying25
theorem u26:type_of% Tryz.underlying26:=Tryz.underlying26
theorem u27:type_of% Tryz.underlying27:=Tryz.underlying27
theorem u28:type_of% Tryz.underlying28:=Tryz.underlying28
theorem u29:type_of% Tryz.underlying29:=Tryz.underlying29
theorem u30:type_of% Tryz.underlying30:=Tryz.underlying30
theorem u31:type_of% Tryz.underlying31:=Tryz.underlying31
theorem u32:type_of% Tryz.underlying32:=Tryz.underlying32
theorem u33:type_of% Tryz.underlying33:=Tryz.underlying33
theorem u34:type_of% Tryz.underlying34:=Tryz.underlying34
theorem u35:type_of% Tryz.underlying35:=Tryz.underlying35
theorem u36:type_of% Tryz.underlying36:=Tryz.underlying36
theorem u37:type_of% Tryz.underlying37:=Tryz.underlying37
theorem u38:type_of% Tryz.underlying38:=Tryz.underlying38
theorem u39:type_of% Tryz.underlying39:=Tryz.underlying39
theorem u40:type_of% Tryz.underlying40:=Tryz.underlying40
theorem u50:type_of% Tryz.underlying50:=Tryz.underlying50
theorem u51:type_of% Tryz.underlying51:=Tryz.underlying51
theorem u54:type_of% Tryz.underlying54:=Tryz.underlying54
theorem u56:type_of% Tryz.underlying56:=Tryz.underlying56
theorem u64:type_of% Tryz.underlying64:=Tryz.underlying64
theorem u70:type_of% Tryz.underlying70:=Tryz.underlying70
theorem u72:type_of% Tryz.underlying72:=Tryz.underlying72
theorem u74:type_of% Tryz.underlying74:=Tryz.underlying74
theorem u82:type_of% Tryz.underlying82:=Tryz.underlying82
theorem u84:type_of% Tryz.underlying84:=Tryz.underlying84
theorem u86:type_of% Tryz.underlying86:=Tryz.underlying86
theorem u89:type_of% Tryz.underlying89:=Tryz.underlying89
theorem u91:type_of% Tryz.underlying91:=Tryz.underlying91
theorem u125:type_of% Tryz.underlying125:=Tryz.underlying125
theorem u127:type_of% Tryz.underlying127:=Tryz.underlying127
theorem u178:type_of% Tryz.underlying178:=Tryz.underlying178
theorem u180:type_of% Tryz.underlying180:=Tryz.underlying180
theorem u184:type_of% Tryz.underlying184:=Tryz.underlying184
theorem u188:type_of% Tryz.underlying188:=Tryz.underlying188
theorem u192:type_of% Tryz.underlying192:=Tryz.underlying192
theorem u203:type_of% Tryz.underlying203:=Tryz.underlying203
theorem u205:type_of% Tryz.underlying205:=Tryz.underlying205
theorem u212:type_of% Tryz.underlying212:=Tryz.underlying212
theorem sz3:(Tryz.prog.info? 3).map (·.size)=some 1:=by kernel_rfl
theorem sz4:(Tryz.prog.info? 4).map (·.size)=some 1:=by kernel_rfl
theorem sz9:(Tryz.prog.info? 9).map (·.size)=some 1:=by kernel_rfl
theorem sz22:(Tryz.prog.info? 22).map (·.size)=some 1:=by kernel_rfl
theorem sz23:(Tryz.prog.info? 23).map (·.size)=some 1:=by kernel_rfl
theorem sz24:(Tryz.prog.info? 24).map (·.size)=some 1:=by kernel_rfl
theorem sz25:(Tryz.prog.info? 25).map (·.size)=some 1:=by kernel_rfl
theorem sz26:(Tryz.prog.info? 26).map (·.size)=some 1:=by kernel_rfl
theorem sz27:(Tryz.prog.info? 27).map (·.size)=some 1:=by kernel_rfl
theorem sz28:(Tryz.prog.info? 28).map (·.size)=some 1:=by kernel_rfl
theorem sz29:(Tryz.prog.info? 29).map (·.size)=some 1:=by kernel_rfl
theorem sz30:(Tryz.prog.info? 30).map (·.size)=some 1:=by kernel_rfl
theorem sz31:(Tryz.prog.info? 31).map (·.size)=some 1:=by kernel_rfl
theorem sz32:(Tryz.prog.info? 32).map (·.size)=some 1:=by kernel_rfl
theorem sz33:(Tryz.prog.info? 33).map (·.size)=some 1:=by kernel_rfl
theorem sz34:(Tryz.prog.info? 34).map (·.size)=some 1:=by kernel_rfl
theorem sz35:(Tryz.prog.info? 35).map (·.size)=some 1:=by kernel_rfl
theorem sz36:(Tryz.prog.info? 36).map (·.size)=some 1:=by kernel_rfl
theorem sz37:(Tryz.prog.info? 37).map (·.size)=some 1:=by kernel_rfl
theorem sz39:(Tryz.prog.info? 39).map (·.size)=some 17:=by kernel_rfl
theorem sz42:(Tryz.prog.info? 42).map (·.size)=some 1:=by kernel_rfl
theorem sz50:(Tryz.prog.info? 50).map (·.size)=some 1:=by kernel_rfl
theorem sz52:(Tryz.prog.info? 52).map (·.size)=some 1:=by kernel_rfl
theorem sz54:(Tryz.prog.info? 54).map (·.size)=some 4:=by kernel_rfl
theorem sz56:(Tryz.prog.info? 56).map (·.size)=some 13:=by kernel_rfl
theorem sz70:(Tryz.prog.info? 70).map (·.size)=some 2:=by kernel_rfl
theorem sz72:(Tryz.prog.info? 72).map (·.size)=some 4:=by kernel_rfl
theorem sz74:(Tryz.prog.info? 74).map (·.size)=some 7:=by kernel_rfl
theorem sz84:(Tryz.prog.info? 84).map (·.size)=some 13:=by kernel_rfl
theorem sz86:(Tryz.prog.info? 86).map (·.size)=some 3:=by kernel_rfl
theorem sz89:(Tryz.prog.info? 89).map (·.size)=some 10:=by kernel_rfl
theorem sz91:(Tryz.prog.info? 91).map (·.size)=some 13:=by kernel_rfl
theorem sz125:(Tryz.prog.info? 125).map (·.size)=some 8:=by kernel_rfl
theorem sz127:(Tryz.prog.info? 127).map (·.size)=some 9:=by kernel_rfl
theorem sz180:(Tryz.prog.info? 180).map (·.size)=some 2:=by kernel_rfl
theorem sz184:(Tryz.prog.info? 184).map (·.size)=some 5:=by kernel_rfl
theorem sz188:(Tryz.prog.info? 188).map (·.size)=some 9:=by kernel_rfl
theorem sz192:(Tryz.prog.info? 192).map (·.size)=some 11:=by kernel_rfl
theorem sz203:(Tryz.prog.info? 203).map (·.size)=some 10:=by kernel_rfl
theorem sz205:(Tryz.prog.info? 205).map (·.size)=some 13:=by kernel_rfl
theorem zr9:(Tryz.prog.info? 9).bind (·.zero)=some (.string ByteArray.empty):=by kernel_rfl
theorem zr42:(Tryz.prog.info? 42).bind (·.zero)=some (.int .i64 0):=by kernel_rfl
theorem zr51:(Tryz.prog.info? 51).bind (·.zero)=some (.agg #[.int .u32 0,.int .u32 0,.int .u32 0,.int .u32 0,.int .u32 0]):=by kernel_rfl
theorem zr54:(Tryz.prog.info? 54).bind (·.zero)=some (.agg #[.int .u64 0,.int .u64 0,.int .u64 0,.int .u64 0]):=by kernel_rfl
theorem zr56:(Tryz.prog.info? 56).bind (·.zero)=some (.agg #[.int .i64 0,.int .u64 0,.int .u64 0,.int .u64 0,.int .u64 0,.int .u64 0,.int .u64 0,.int .u64 0,.int .u64 0,.bool false,.int .i64 0,.int .u32 0,.int .i64 0]):=by kernel_rfl
theorem zr82:(Tryz.prog.info? 82).bind (·.zero)=some (.agg #[.int .i64 0,.int .i64 0,.int .i64 0,.int .i64 0]):=by kernel_rfl
theorem zr84:(Tryz.prog.info? 84).bind (·.zero)=some (.agg #[.int .i64 0,.int .u64 0,.int .u64 0,.int .u64 0,.int .u64 0,.int .u64 0,.int .u64 0,.int .u64 0,.int .u64 0,.int .i64 0,.string ByteArray.empty,.int .i64 0,.int .i64 0]):=by kernel_rfl
theorem zr127:(Tryz.prog.info? 127).bind (·.zero)=some (.agg #[.string ByteArray.empty,.int .i64 0,.int .i64 0,.int .i64 0,.int .i64 0,.int .i64 0,.int .u64 0,.int .i64 0,.int .u64 0]):=by kernel_rfl
theorem zr180:(Tryz.prog.info? 180).bind (·.zero)=some (.agg #[.string ByteArray.empty,.slice none 0 0]):=by kernel_rfl
theorem zr188:(Tryz.prog.info? 188).bind (·.zero)=some (.agg #[.string ByteArray.empty,.int .u64 0,.int .u64 0,.int .u64 0,.int .u64 0,.int .u64 0,.int .u64 0,.int .u64 0,.int .u64 0]):=by kernel_rfl
theorem zr192:(Tryz.prog.info? 192).bind (·.zero)=some (.agg #[.string ByteArray.empty,.int .u64 0,.int .u64 0,.int .u64 0,.int .u64 0,.int .i64 0,.int .u64 0,.int .i64 0,.int .u64 0,.int .i64 0,.int .u64 0]):=by kernel_rfl
theorem zr203:(Tryz.prog.info? 203).bind (·.zero)=some (.agg #[.int .u64 0,.int .u64 0,.int .u64 0,.int .u64 0,.int .u64 0,.int .u64 0,.int .u64 0,.int .u64 0,.int .i64 0,.int .i64 0]):=by kernel_rfl
theorem zr205:(Tryz.prog.info? 205).bind (·.zero)=some (.agg #[.int .u64 0,.int .u64 0,.int .u64 0,.int .u64 0,.int .u64 0,.int .u64 0,.int .u64 0,.int .u64 0,.int .i64 0,.int .i64 0,.int .u64 0,.int .i64 0,.int .u64 0]):=by kernel_rfl
theorem inf9:infoB (Tryz.prog.info? 9) 1 16=true:=by kernel_rfl
theorem eg54:Tryz.prog.eqGuardType Tryz.prog.depth 54=false:=by kernel_rfl
theorem eg188:Tryz.prog.eqGuardType Tryz.prog.depth 188=false:=by kernel_rfl
theorem q13:okf Tryz.prog 13=true:=by kernel_rfl
theorem q19:okf Tryz.prog 19=true:=by kernel_rfl
theorem q39:okf Tryz.prog 39=true:=by kernel_rfl
theorem q101:okf Tryz.prog 101=true:=by kernel_rfl
theorem q103:okf Tryz.prog 103=true:=by kernel_rfl
theorem q104:okf Tryz.prog 104=true:=by kernel_rfl
theorem q105:okf Tryz.prog 105=true:=by kernel_rfl
theorem q106:okf Tryz.prog 106=true:=by kernel_rfl
theorem q107:okf Tryz.prog 107=true:=by kernel_rfl
theorem q109:okf Tryz.prog 109=true:=by kernel_rfl
theorem q113:okf Tryz.prog 113=true:=by kernel_rfl
theorem q116:okf Tryz.prog 116=true:=by kernel_rfl
theorem q196:okf Tryz.prog 196=true:=by kernel_rfl
theorem q197:okf Tryz.prog 197=true:=by kernel_rfl
theorem q200:okf Tryz.prog 200=true:=by kernel_rfl
theorem q245:okf Tryz.prog 245=true:=by kernel_rfl
theorem q246:okf Tryz.prog 246=true:=by kernel_rfl
theorem q247:okf Tryz.prog 247=true:=by kernel_rfl
theorem nm11:(Tryz.f11.name == "runtime.NumGoroutine")=false:=by kernel_rfl
theorem nm12:(Tryz.f12.name == "runtime.NumGoroutine")=false:=by kernel_rfl
theorem nm14:(Tryz.f14.name == "runtime.NumGoroutine")=false:=by kernel_rfl
theorem nm15:(Tryz.f15.name == "runtime.NumGoroutine")=false:=by kernel_rfl
theorem nm16:(Tryz.f16.name == "runtime.NumGoroutine")=false:=by kernel_rfl
theorem nm17:(Tryz.f17.name == "runtime.NumGoroutine")=false:=by kernel_rfl
theorem nm18:(Tryz.f18.name == "runtime.NumGoroutine")=false:=by kernel_rfl
theorem nm40:(Tryz.f40.name == "runtime.NumGoroutine")=false:=by kernel_rfl
theorem nm41:(Tryz.f41.name == "runtime.NumGoroutine")=false:=by kernel_rfl
theorem nm42:(Tryz.f42.name == "runtime.NumGoroutine")=false:=by kernel_rfl
theorem nm43:(Tryz.f43.name == "runtime.NumGoroutine")=false:=by kernel_rfl
theorem nm44:(Tryz.f44.name == "runtime.NumGoroutine")=false:=by kernel_rfl
theorem nm45:(Tryz.f45.name == "runtime.NumGoroutine")=false:=by kernel_rfl
theorem nm46:(Tryz.f46.name == "runtime.NumGoroutine")=false:=by kernel_rfl
theorem nm47:(Tryz.f47.name == "runtime.NumGoroutine")=false:=by kernel_rfl
theorem nm48:(Tryz.f48.name == "runtime.NumGoroutine")=false:=by kernel_rfl
theorem nm49:(Tryz.f49.name == "runtime.NumGoroutine")=false:=by kernel_rfl
theorem nm50:(Tryz.f50.name == "runtime.NumGoroutine")=false:=by kernel_rfl
theorem nm51:(Tryz.f51.name == "runtime.NumGoroutine")=false:=by kernel_rfl
theorem nm102:(Tryz.f102.name == "runtime.NumGoroutine")=false:=by kernel_rfl
theorem nm103:(Tryz.f103.name == "runtime.NumGoroutine")=false:=by kernel_rfl
theorem nm106:(Tryz.f106.name == "runtime.NumGoroutine")=false:=by kernel_rfl
theorem nm108:(Tryz.f108.name == "runtime.NumGoroutine")=false:=by kernel_rfl
theorem nm109:(Tryz.f109.name == "runtime.NumGoroutine")=false:=by kernel_rfl
theorem nm112:(Tryz.f112.name == "runtime.NumGoroutine")=false:=by kernel_rfl
theorem nm113:(Tryz.f113.name == "runtime.NumGoroutine")=false:=by kernel_rfl
theorem nm114:(Tryz.f114.name == "runtime.NumGoroutine")=false:=by kernel_rfl
theorem nm116:(Tryz.f116.name == "runtime.NumGoroutine")=false:=by kernel_rfl
theorem nm117:(Tryz.f117.name == "runtime.NumGoroutine")=false:=by kernel_rfl
theorem nm196:(Tryz.f196.name == "runtime.NumGoroutine")=false:=by kernel_rfl
theorem nm197:(Tryz.f197.name == "runtime.NumGoroutine")=false:=by kernel_rfl
theorem nm244:(Tryz.f244.name == "runtime.NumGoroutine")=false:=by kernel_rfl
end Go.Proofs.YtdcofoaihmongaaGreat
namespace Go.Proofs.YtdcofoaihmongaaGreat
open Go Go.WideMaps Go.RowKit
theorem eqT52 (d:Nat) (x0 y0:Int) (w:World):(Op.equalIn (d+1) 52 (.int .u64 x0) (.int .u64 y0)).run Tryz.prog w=.ok (decide (x0=y0)) w:=by
 by_cases h:x0=y0<;>simp[Op.equalIn,run_underlying Tryz.underlying52,h]
theorem eqT54 (d:Nat) (x0 x1 x2 x3 y0 y1 y2 y3:Int) (w:World):(Op.equalIn (d+2) 54 (.agg #[.int .u64 x0,.int .u64 x1,.int .u64 x2,.int .u64 x3]) (.agg #[.int .u64 y0,.int .u64 y1,.int .u64 y2,.int .u64 y3])).run Tryz.prog w=.ok (decide (x0=y0∧x1=y1∧x2=y2∧x3=y3)) w:=by
 have hsz:=sz52
 obtain⟨i0,hi,-⟩:∃ i,Tryz.prog.info? 52=some i∧True:=by
  cases h:Tryz.prog.info? 52 with
  | none=>rw[h] at hsz;cases hsz
  | some i=>exact⟨i,rfl,trivial⟩
 rw[show d+2=(d+1)+1 from rfl,run_equalIn_array w (d+1) _ _ Tryz.underlying54 hi,show Tryz.prog.cellsOf 52=1 from by kernel_rfl]
 have p0:∀ x0 x1 x2 x3:Int,(part 52 #[.int .u64 x0,.int .u64 x1,.int .u64 x2,.int .u64 x3] (0*1)).run Tryz.prog w=.ok (.int .u64 x0) w:=fun x0 x1 x2 x3=>by kernel_rfl
 have p1:∀ x0 x1 x2 x3:Int,(part 52 #[.int .u64 x0,.int .u64 x1,.int .u64 x2,.int .u64 x3] (1*1)).run Tryz.prog w=.ok (.int .u64 x1) w:=fun x0 x1 x2 x3=>by kernel_rfl
 have p2:∀ x0 x1 x2 x3:Int,(part 52 #[.int .u64 x0,.int .u64 x1,.int .u64 x2,.int .u64 x3] (2*1)).run Tryz.prog w=.ok (.int .u64 x2) w:=fun x0 x1 x2 x3=>by kernel_rfl
 have p3:∀ x0 x1 x2 x3:Int,(part 52 #[.int .u64 x0,.int .u64 x1,.int .u64 x2,.int .u64 x3] (3*1)).run Tryz.prog w=.ok (.int .u64 x3) w:=fun x0 x1 x2 x3=>by kernel_rfl
 have eq:=fun a b=>eqT52 d a b w
 rw[show List.range 4=[0,1,2,3] from rfl]
 simp only[Op.eqItems,Sem.run_bind,p0,Result.andThen_ok,eq]
 by_cases h0:x0=y0<;>by_cases h1:x1=y1<;>by_cases h2:x2=y2<;>by_cases h3:x3=y3<;>simp[h0,h1,h2,h3,Sem.run_bind,p1,p2,p3,eq]
theorem eqT9 (d:Nat) (x0 y0:ByteArray) (w:World):(Op.equalIn (d+1) 9 (.string x0) (.string y0)).run Tryz.prog w=.ok (decide (x0=y0)) w:=by
 have e:(x0 == y0)=decide (x0=y0):=by
  rw[Bool.eq_iff_iff,decide_eq_true_eq]
  constructor
  ·intro h
   have h':(x0.data == y0.data)=true:=h
   exact ByteArray.ext (by simpa using h')
  ·intro h
   subst h
   show(x0.data == x0.data)=true
   simp
 simp[Op.equalIn,run_underlying Tryz.underlying9,e]
set_option maxRecDepth 100000 in
theorem eqT188 (d:Nat) (x1 x2 x3 x4 x5 x6 x7 x8 y1 y2 y3 y4 y5 y6 y7 y8:Int) (x0 y0:ByteArray) (w:World):(Op.equalIn (d+3) 188 (.agg #[.string x0,.int .u64 x1,.int .u64 x2,.int .u64 x3,.int .u64 x4,.int .u64 x5,.int .u64 x6,.int .u64 x7,.int .u64 x8]) (.agg #[.string y0,.int .u64 y1,.int .u64 y2,.int .u64 y3,.int .u64 y4,.int .u64 y5,.int .u64 y6,.int .u64 y7,.int .u64 y8])).run Tryz.prog w=.ok (decide (x0=y0∧x1=y1∧x2=y2∧x3=y3∧x4=y4∧x5=y5∧x6=y6∧x7=y7∧x8=y8)) w:=by
 have hf:(Tryz.prog.fieldsOf 188).toList.map (fun f=>(f.type,f.offset))=[(9,0),(54,1),(54,5)]:=by kernel_rfl
 have hq:(Op.eqFields (d+2) #[.string x0,.int .u64 x1,.int .u64 x2,.int .u64 x3,.int .u64 x4,.int .u64 x5,.int .u64 x6,.int .u64 x7,.int .u64 x8] #[.string y0,.int .u64 y1,.int .u64 y2,.int .u64 y3,.int .u64 y4,.int .u64 y5,.int .u64 y6,.int .u64 y7,.int .u64 y8] (Tryz.prog.fieldsOf 188).toList).run Tryz.prog w=.ok ([decide (x0=y0),decide (x1=y1∧x2=y2∧x3=y3∧x4=y4),decide (x5=y5∧x6=y6∧x7=y7∧x8=y8)].all id) w:=by
  refine eq_fields _ _ (by kernel_rfl) (by kernel_rfl) fun i f r hi hr=>?_
  have hm:=congrArg (fun z:List (Nat×Nat)=>z[i]?) hf
  simp only[List.getElem?_map,hi,Option.map_some] at hm
  have hlt:i<3:=(List.getElem?_eq_some_iff.1 hr).1
  match i,hlt with
  | 0,_ =>
   obtain⟨h1,h2⟩:=Prod.mk.inj (Option.some.inj hm)
   obtain rfl:=Option.some.inj hr
   rw[h1,h2]
   exact⟨.string x0,.string y0,by kernel_rfl,by kernel_rfl,eqT9 (d+1) x0 y0 w⟩
  | 1,_ =>
   obtain⟨h1,h2⟩:=Prod.mk.inj (Option.some.inj hm)
   obtain rfl:=Option.some.inj hr
   rw[h1,h2]
   exact⟨.agg #[.int .u64 x1,.int .u64 x2,.int .u64 x3,.int .u64 x4],.agg #[.int .u64 y1,.int .u64 y2,.int .u64 y3,.int .u64 y4],by kernel_rfl,by kernel_rfl,eqT54 d x1 x2 x3 x4 y1 y2 y3 y4 w⟩
  | 2,_ =>
   obtain⟨h1,h2⟩:=Prod.mk.inj (Option.some.inj hm)
   obtain rfl:=Option.some.inj hr
   rw[h1,h2]
   exact⟨.agg #[.int .u64 x5,.int .u64 x6,.int .u64 x7,.int .u64 x8],.agg #[.int .u64 y5,.int .u64 y6,.int .u64 y7,.int .u64 y8],by kernel_rfl,by kernel_rfl,eqT54 d x5 x6 x7 x8 y5 y6 y7 y8 w⟩
 rw[show d+3=(d+2)+1 from rfl,run_equalIn_agg w (d+2) 188 _ _ (by kernel_rfl) (by kernel_rfl),hq]
 congr 1
 rw[Bool.eq_iff_iff]
 simp[and_assoc]
theorem eq_zero (s:ASet) (w:World):(Op.equalIn 10000 54 (.agg #[.int .u64 s.a,.int .u64 s.b,.int .u64 s.c,.int .u64 s.d]) (.agg #[.int .u64 0,.int .u64 0,.int .u64 0,.int .u64 0])).run Tryz.prog w=.ok (decide (s=ASet.zero)) w:=by
 rw[show(10000:Nat)=9998+2 from rfl,eqT54]
 congr 1
 rw[Bool.eq_iff_iff]
 obtain⟨a,b,c,d⟩:=s
 simp only[decide_eq_true_eq,ASet.zero,ASet.mk.injEq]
 omega
end Go.Proofs.YtdcofoaihmongaaGreat
namespace Go.Proofs.YtdcofoaihmongaaGreat
open Go Go.RowKit
def atI (l:List Int) (i:Nat):Int:=match l[i]? with
 | some x=>x
 | none=>0
def firstL (l:List Int):Int:=firstE (atI l) l.length 0
theorem firstL_zero {l:List Int}:firstL l=0↔∀ x∈l,x=0:=by
 unfold firstL
 rw[firstE_zero]
 constructor
 ·intro h x hx
  obtain⟨i,hi⟩:=List.getElem?_of_mem hx
  have:=h i (Nat.zero_le _) (by have:=(List.getElem?_eq_some_iff.1 hi).1;omega)
  unfold atI at this
  rw[hi] at this
  exact this
 ·intro h i _ hi
  unfold atI
  rw[List.getElem?_eq_getElem (by omega:i<l.length)]
  exact h _ (List.getElem_mem _)
set_option maxRecDepth 100000 in
set_option maxHeartbeats 4000000 in
theorem first_any (w:World) (v:Value) (l:List Int) (h:SliceAt w v 1 l.length (l.map anInt)):Calls Tryz.prog 40 #[v] w fun e w'=>e=.returned (.int .i64 (firstL l))∧w=w':=by
 obtain⟨a,c,rfl,hac,hmx,HA⟩:=h.form (by decide)
 have H1:=Lib.hid HA
 clear HA h
 unfold firstL
 obtain⟨n,hn⟩:∃ n,n=l.length:=⟨_,rfl⟩
 have HN:=Lib.hid hn
 rw[← hn] at H1 hac hmx ⊢
 clear hn
 go_enter Tryz.func40,Tryz.ntmps40
 go_wp2_with fail
 go_loopw [3] (fun i wr=>wr=w∧∃ k:Nat,k≤n∧i=.int .i64 k∧Hid (firstE (atI l) n 0=firstE (atI l) (n-k) k)) (fun i _=>n-(intOf i).toNat)
 case atStart=>exact⟨rfl,0,Nat.zero_le _,rfl,Lib.hid (by rw[Nat.sub_zero])⟩
 case round =>
  obtain⟨rfl,k,hk,rfl,hinv⟩:=hrel
  by_cases hlt:k<n
  ·obtain⟨x,hx⟩:∃ x,l[k]?=some x:=⟨_,List.getElem?_eq_getElem (by rw[← HN.out];exact hlt)⟩
   obtain⟨b,off,rfl,hc⟩:=H1.out k hlt
   have k0:wr.cell? ⟨b,off+k,none⟩=some (.int .i64 x):=by
    have h:=hc 0 (.int .i64 x) (by simp[hx,anInt])
    rwa [Nat.mul_one] at h
   have HF:=Lib.hid (show atI l k=x by unfold atI;rw[hx])
   clear hx hc
   by_cases hx0:x=0
   ·subst hx0
    go_wp2_with fail
    go_roundw
    case rel=>exact⟨by first | trivial | rfl,k+1,by omega,by go_num,Lib.hid (hinv.out.trans (firstE_next hlt HF.out))⟩
    case measure=>simp[intOf];omega
   ·have d0:(x != 0)=true:=by simp[hx0]
    have HX0:=Lib.hid hx0
    clear hx0
    go_wp2_with fail
    go_ret
    exact⟨ret_int (by rw[hinv.out,firstE_at hlt (by rw[HF.out];exact HX0.out),HF.out]),rfl⟩
  ·obtain rfl:n=k:=by omega
   go_wp2_with fail
   go_ret
   exact⟨ret_int (by rw[hinv.out,firstE_stop]),rfl⟩
end Go.Proofs.YtdcofoaihmongaaGreat
namespace Go.Proofs.YtdcofoaihmongaaGreat
open Go Go.RowKit
def levelsM:Nat→AExp→Int
 | 0,_=>0
 | m+1,e=>maxPre (fun i=>match e.kids[i]? with | some k=>levelsM m k | none=>0) e.kids.length+1
theorem levelsM_range:∀ (m:Nat) (e:AExp),0≤levelsM m e∧levelsM m e≤m
 | 0,_=>⟨Int.le_refl 0,Int.le_refl 0⟩
 | m+1,e=>by
  unfold levelsM
  have h1:=maxPre_nonneg (fun i=>match e.kids[i]? with | some k=>levelsM m k | none=>0) e.kids.length
  have h2:=maxPre_le (f:=fun i=>match e.kids[i]? with | some k=>levelsM m k | none=>0) (b:=m) (by omega) e.kids.length fun i _=>by
   split
   ·exact(levelsM_range m _).2
   ·omega
  omega
set_option maxRecDepth 100000 in
set_option maxHeartbeats 4000000 in
theorem levels_any:∀ (m:Nat) (w:World) (cs:List Value) (e:AExp),m≤13→ExpAt w cs e→Calls Tryz.prog 100 #[.agg cs.toArray,.int .i64 (m:Int)] w fun r w'=>r=.returned (.int .i64 (levelsM m e))∧RowKit.Below w.heap.size w w':=by
 intro m
 induction m with
 | zero =>
  intro w cs e _ h
  obtain⟨nv,kv,rfl,-,-⟩:=h.open
  show Calls Tryz.prog 100 #[.agg #[.int .i64 e.op,.int .i64 e.a,.int .i64 e.rel,.int .i64 e.b,nv,.int .u64 e.set.a,.int .u64 e.set.b,.int .u64 e.set.c,.int .u64 e.set.d,kv],.int .i64 0] w _
  clear h
  obtain⟨wo,hwo⟩:∃ wo,wo=(w).alloc (.cells #[.int .i64 e.op,.int .i64 e.a,.int .i64 e.rel,.int .i64 e.b,nv,.int .u64 e.set.a,.int .u64 e.set.b,.int .u64 e.set.c,.int .u64 e.set.d,kv] 89):=⟨_,rfl⟩
  have W0:=Lib.hid (show Whole wo w.heap.size 89 #[.int .i64 e.op,.int .i64 e.a,.int .i64 e.rel,.int .i64 e.b,nv,.int .u64 e.set.a,.int .u64 e.set.b,.int .u64 e.set.c,.int .u64 e.set.d,kv] by rw[hwo];exact(Whole.new w 89 _))
  have HBO:=Lib.hid (show RowKit.Below w.heap.size w wo by rw[hwo];exact((Below.refl _ w).alloc (Nat.le_refl _) _))
  go_enter Tryz.func100,Tryz.ntmps100
  go_upto_region 1 with(fail)
  rw[← hwo]
  clear hwo
  go_wp2_with fail
  go_ret
  exact⟨rfl,HBO.out⟩
 | succ m ih =>
  intro w cs e hm h
  have IH:=Lib.hid ih
  obtain⟨nv,kv,rfl,-,hk⟩:=h.open
  obtain⟨a,c,rfl,hc,hmx,hcell⟩:=hk.form (by decide)
  obtain⟨n,hn⟩:∃ n,n=e.kids.length:=⟨_,rfl⟩
  have HN:=Lib.hid hn
  have HC:=Lib.hid hcell
  rw[← hn] at hc hmx ⊢
  clear h hk hcell ih
  obtain⟨f,hf⟩:∃ f:Nat→Int,f=fun i=>match e.kids[i]? with | some k=>levelsM m k | none=>0:=⟨_,rfl⟩
  have HF:=Lib.hid hf
  have hval:levelsM (m+1) e=maxPre f n+1:=by rw[hf,hn];rfl
  have hfr:∀ i,0≤maxPre f i∧maxPre f i≤m:=fun i=>⟨maxPre_nonneg f i,maxPre_le (by omega) i fun j _=>by
   rw[hf]
   dsimp only
   split
   ·exact(levelsM_range m _).2
   ·omega⟩
  have HFR:=Lib.hid hfr
  rw[hval]
  clear hval hf hfr hn
  show Calls Tryz.prog 100 #[.agg #[.int .i64 e.op,.int .i64 e.a,.int .i64 e.rel,.int .i64 e.b,nv,.int .u64 e.set.a,.int .u64 e.set.b,.int .u64 e.set.c,.int .u64 e.set.d,.slice a n c],.int .i64 ((m+1:Nat):Int)] w _
  obtain⟨M,hM⟩:∃ M:Int,M=((m+1:Nat):Int):=⟨_,rfl⟩
  rw[← hM]
  have hm1:(M == 0)=false:=by simp;omega
  have HM:=Lib.hid (show M-1=(m:Int) by omega)
  have hMr:1≤M∧M≤13:=by omega
  clear hM
  obtain⟨wo,hwo⟩:∃ wo,wo=(w).alloc (.cells #[.int .i64 e.op,.int .i64 e.a,.int .i64 e.rel,.int .i64 e.b,nv,.int .u64 e.set.a,.int .u64 e.set.b,.int .u64 e.set.c,.int .u64 e.set.d,.slice a n c] 89):=⟨_,rfl⟩
  have W0:=Lib.hid (show Whole wo w.heap.size 89 #[.int .i64 e.op,.int .i64 e.a,.int .i64 e.rel,.int .i64 e.b,nv,.int .u64 e.set.a,.int .u64 e.set.b,.int .u64 e.set.c,.int .u64 e.set.d,.slice a n c] by rw[hwo];exact(Whole.new w 89 _))
  have HBO:=Lib.hid (show RowKit.Below w.heap.size w wo by rw[hwo];exact((Below.refl _ w).alloc (Nat.le_refl _) _))
  go_enter Tryz.func100,Tryz.ntmps100
  go_upto_region 1 with(fail)
  rw[← hwo]
  clear hwo
  go_wp2_with fail
  go_loopw [5,6] (fun g i wr=>∃ k:Nat,k≤n∧g=.int .i64 (maxPre f k)∧i=.int .i64 k∧RowKit.Below w.heap.size w wr∧Whole wr w.heap.size 89 #[.int .i64 e.op,.int .i64 e.a,.int .i64 e.rel,.int .i64 e.b,nv,.int .u64 e.set.a,.int .u64 e.set.b,.int .u64 e.set.c,.int .u64 e.set.d,.slice a n c]) (fun _ i _=>n-(intOf i).toNat)
  case atStart=>exact⟨0,Nat.zero_le _,rfl,rfl,HBO.out,W0.out⟩
  case round =>
   clear W0 HBO
   obtain⟨k,hk,rfl,rfl,hb,hW⟩:=hrel
   have HBR:=Lib.hid hb
   have HWr:=Lib.hid hW
   have hfk:=HFR.out k
   have k9:wr.cell? ⟨w.heap.size,9,none⟩=some (.slice a n c):=HWr.out.cell 9
   clear hb hW
   by_cases hlt:k<n
   ·obtain⟨y,hy⟩:∃ y,e.kids[k]?=some y:=⟨_,List.getElem?_eq_getElem (by rw[← HN.out];exact hlt)⟩
    obtain⟨b,off,cs,rfl,hrow,hlen,hcc⟩:=HC.out k y hy
    have HKC:=Lib.hid (show ∀ j u,cs[j]?=some u→wr.cell? ⟨b,off+k*10+j,none⟩=some u from fun j u hu=>cell_later HBR.out (hcc j u hu))
    have HKE:=Lib.hid (ExpAt.keep HBR.out hrow)
    have HLEN:=Lib.hid hlen
    have HFK:=Lib.hid (show f k=levelsM m y by rw[HF.out];dsimp only;rw[hy])
    have hly:=levelsM_range m y
    obtain⟨x,hx⟩:∃ x,x=levelsM m y:=⟨_,rfl⟩
    have HX:=Lib.hid hx
    obtain⟨g,hg⟩:∃ g,g=maxPre f k:=⟨_,rfl⟩
    have HG:=Lib.hid hg
    rw[← hg] at hfk ⊢
    rw[← hx] at hly
    clear hy hrow hlen hcc hx hg
    go_wp2_with (first | (refine wpList_load_run rfl 89 _ rfl b (off+k*10) rfl cs _ HKC.out Tryz.underlying89 rfl (by rw[HLEN.out];exact size89) ?_) | (rw[show M-1=(m:Int) from HM.out];go_at_call 100;go_must (refine(IH.out wr cs y (by omega) HKE.out).mono ?_;rintro r w1 ⟨rfl,hb1⟩;rw[← HX.out];have HB1:=Lib.hid hb1;clear hb1)) | (go_at_call 100;go_must (refine(show Calls Tryz.prog 100 #[.agg cs.toArray,.int .i64 (M-1)] wr _ from by rw[HM.out];exact IH.out wr cs y (by omega) HKE.out).mono ?_;rintro r w1 ⟨rfl,hb1⟩;rw[← HX.out];have HB1:=Lib.hid hb1;clear hb1)))
    go_roundw
    case rel=>exact⟨k+1,by omega,by show _=Value.int .i64 (max (maxPre f k) (f k));rw[HFK.out,← HX.out,← HG.out],by go_num,HBR.out.trans (HB1.out.mono HBR.out.size),Whole.under HB1.out HWr.out HWr.out.lt⟩
    case measure=>simp[intOf];omega
   ·obtain rfl:k=n:=by omega
    go_wp2_with fail
    go_ret
    exact⟨rfl,HBR.out⟩
end Go.Proofs.YtdcofoaihmongaaGreat
namespace Go.Proofs.YtdcofoaihmongaaGreat
open Go Go.RowKit
def findRegion7 (k:Nat):Code→Code
 | .seq a b=>match findRegion7 k a with
  | .skip=>findRegion7 k b
  | c=>c
 | .cond _ a b=>match findRegion7 k a with
  | .skip=>findRegion7 k b
  | c=>c
 | .block _ a=>findRegion7 k a
 | .loop a=>findRegion7 k a
 | .region id ops d=>if id=k then .region id ops d else .skip
 | _=>.skip
def kidsM (o:Int):Int:=if o=1 then 0 else if o=8 then 0 else if o=9 then 0 else if o=2 then 1 else if o=3 then 2 else if o=4 then 2 else if o=5 then 2 else if o=6 then 2 else if o=7 then 2 else -1
set_option maxRecDepth 100000 in
set_option maxHeartbeats 4000000 in
theorem kids_any (w:World) (o:Int):Calls Tryz.prog 244 #[.int .i64 o] w fun e w'=>e=.returned (.int .i64 (kidsM o))∧w=w':=by
 unfold kidsM
 by_cases h0:o=1
 ·rw[if_pos h0]
  subst h0
  go_enter Tryz.func244,Tryz.ntmps244
  go_wp2
  go_ret
  exact⟨rfl,rfl⟩
 ·rw[if_neg h0]
  by_cases h1:o=8
  ·rw[if_pos h1]
   subst h1
   go_enter Tryz.func244,Tryz.ntmps244
   go_wp2
   go_ret
   exact⟨rfl,rfl⟩
  ·rw[if_neg h1]
   by_cases h2:o=9
   ·rw[if_pos h2]
    subst h2
    go_enter Tryz.func244,Tryz.ntmps244
    go_wp2
    go_ret
    exact⟨rfl,rfl⟩
   ·rw[if_neg h2]
    by_cases h3:o=2
    ·rw[if_pos h3]
     subst h3
     go_enter Tryz.func244,Tryz.ntmps244
     go_wp2
     go_ret
     exact⟨rfl,rfl⟩
    ·rw[if_neg h3]
     by_cases h4:o=3
     ·rw[if_pos h4]
      subst h4
      go_enter Tryz.func244,Tryz.ntmps244
      go_wp2
      go_ret
      exact⟨rfl,rfl⟩
     ·rw[if_neg h4]
      by_cases h5:o=4
      ·rw[if_pos h5]
       subst h5
       go_enter Tryz.func244,Tryz.ntmps244
       go_wp2
       go_ret
       exact⟨rfl,rfl⟩
      ·rw[if_neg h5]
       by_cases h6:o=5
       ·rw[if_pos h6]
        subst h6
        go_enter Tryz.func244,Tryz.ntmps244
        go_wp2
        go_ret
        exact⟨rfl,rfl⟩
       ·rw[if_neg h6]
        by_cases h7:o=6
        ·rw[if_pos h7]
         subst h7
         go_enter Tryz.func244,Tryz.ntmps244
         go_wp2
         go_ret
         exact⟨rfl,rfl⟩
        ·rw[if_neg h7]
         by_cases h8:o=7
         ·rw[if_pos h8]
          subst h8
          go_enter Tryz.func244,Tryz.ntmps244
          go_wp2
          go_ret
          exact⟨rfl,rfl⟩
         ·rw[if_neg h8]
          go_enter Tryz.func244,Tryz.ntmps244
          go_wp2
          go_ret
          exact⟨rfl,rfl⟩
set_option maxRecDepth 100000 in
set_option maxHeartbeats 4000000 in
theorem Levels_any (w:World) (cs:List Value) (e:AExp) (h:ExpAt w cs e):Calls Tryz.prog 39 #[.agg cs.toArray] w fun r w'=>r=.returned (.int .i64 (levelsM 13 e))∧RowKit.Below w.heap.size w w':=by
 have HE:=Lib.hid h
 obtain⟨nv,kv,hcs,-,-⟩:=h.open
 rw[hcs] at HE
 subst hcs
 clear h
 show Calls Tryz.prog 39 #[.agg #[.int .i64 e.op,.int .i64 e.a,.int .i64 e.rel,.int .i64 e.b,nv,.int .u64 e.set.a,.int .u64 e.set.b,.int .u64 e.set.c,.int .u64 e.set.d,kv]] w _
 obtain⟨wo,hwo⟩:∃ wo,wo=(w).alloc (.cells #[.int .i64 e.op,.int .i64 e.a,.int .i64 e.rel,.int .i64 e.b,nv,.int .u64 e.set.a,.int .u64 e.set.b,.int .u64 e.set.c,.int .u64 e.set.d,kv] 89):=⟨_,rfl⟩
 have W0:=Lib.hid (show Whole wo w.heap.size 89 #[.int .i64 e.op,.int .i64 e.a,.int .i64 e.rel,.int .i64 e.b,nv,.int .u64 e.set.a,.int .u64 e.set.b,.int .u64 e.set.c,.int .u64 e.set.d,kv] by rw[hwo];exact(Whole.new w 89 _))
 have HBO:=Lib.hid (show RowKit.Below w.heap.size w wo by rw[hwo];exact((Below.refl _ w).alloc (Nat.le_refl _) _))
 go_enter Tryz.func39,Tryz.ntmps39
 go_upto_region 1 with(fail)
 rw[← hwo]
 clear hwo
 go_wp2_with (first | (refine wpList_load_row rfl 89 _ rfl (w.heap.size) rfl 89 _ (0,0) _ W0.out Tryz.underlying89 rfl size89 ?_) | (go_at_call 100;go_must (refine(levels_any 13 wo _ e (by omega) (ExpAt.keep HBO.out HE.out)).mono ?_;rintro r w1 ⟨rfl,hb1⟩;have HB1:=Lib.hid hb1;clear hb1)))
 go_ret
 exact⟨rfl,HBO.out.trans (HB1.out.mono HBO.out.size)⟩
def condBad (e:AExp):Bool:=(((((((decide (e.op=8)||decide (e.op=9))||(!decide (kidsM e.op=(e.kids.length:Int))))||(!decide (e.rel=0)))||(!decide (e.b=0)))||decide (0<(e.names.length:Int)))||(!decide (e.set=ASet.zero)))||((!decide (e.op=1))&&(!decide (e.a=0))))
end Go.Proofs.YtdcofoaihmongaaGreat
namespace Go.Proofs.YtdcofoaihmongaaGreat
open Go Go.RowKit
theorem AExp.ind {M:AExp→Prop} (h:∀ e,(∀ k∈e.kids,M k)→M e):∀ e,M e :=
 fun e=>AExp.rec (motive_1:=M) (motive_2:=fun l=>∀ k∈l,M k) (fun _ _ _ _ _ _ _ ih=>h _ ih) (fun _ hk=>by cases hk) (fun _ _ hk hl x hx=>by
  rcases List.mem_cons.1 hx with rfl | hx
  ·exact hk
  ·exact hl x hx) e
mutual
def condM (nB:Nat):AExp→Int
 | .node op a rel b names set kids=>if condBad (.node op a rel b names set kids)=true then 2 else if (decide (op=1)&&!belowB a (nB:Int))=true then 3 else condL nB kids
def condL (nB:Nat):List AExp→Int
 | []=>0
 | k::l=>if condM nB k=0 then condL nB l else condM nB k
end
theorem condM_eq (nB:Nat) (e:AExp):condM nB e=if condBad e=true then 2 else if (decide (e.op=1)&&!belowB e.a (nB:Int))=true then 3 else condL nB e.kids:=by
 cases e
 rw[condM]
 rfl
theorem condL_drop {nB:Nat} {l:List AExp} {k:Nat} {y:AExp} (h:l[k]?=some y):condL nB (l.drop k)=if condM nB y=0 then condL nB (l.drop (k+1)) else condM nB y:=by
 obtain⟨hk,rfl⟩:=List.getElem?_eq_some_iff.1 h
 rw[List.drop_eq_getElem_cons hk,condL]
section
variable {nB:Nat} {e:AExp}
theorem condM_bad (h:condBad e=true):condM nB e=2:=by rw[condM_eq,if_pos h]
theorem condM_rng (h:condBad e=false) (h2:(decide (e.op=1)&&!belowB e.a (nB:Int))=true):condM nB e=3:=by rw[condM_eq,if_neg (by rw[h];decide),if_pos h2]
theorem condM_kids (h:condBad e=false) (h2:(decide (e.op=1)&&!belowB e.a (nB:Int))=false):condM nB e=condL nB e.kids:=by rw[condM_eq,if_neg (by rw[h];decide),if_neg (by rw[h2];decide)]
end
set_option maxRecDepth 100000 in
set_option maxHeartbeats 4000000 in
theorem condition_any:∀ e:AExp,∀ (w0:World) (cs:List Value) (c0 c1 c2 c3 c4 c5 c6 c7 c8 c9 c10 c11 c12 c13 c14 c15 c16:Value) (p:APol),PolAt w0 c0 c1 c2 c3 c4 c5 c6 c7 c8 c9 c10 c11 c12 c13 c14 c15 c16 p→ExpAt w0 cs e→Calls Tryz.prog 196 #[.agg #[c0,c1,c2,c3,c4,c5,c6,c7,c8,c9,c10,c11,c12,c13,c14,c15,c16],.agg cs.toArray] w0 (RI w0 (condM p.bools.length e)):=by
 refine AExp.ind fun e ih=>?_
 intro w0 cs c0 c1 c2 c3 c4 c5 c6 c7 c8 c9 c10 c11 c12 c13 c14 c15 c16 p hp h
 obtain⟨nv,kv,rfl,hnv,hk⟩:=h.open
 obtain⟨na,nc,rfl,-,-,-⟩:=hnv.open
 obtain⟨ka,kc,rfl,hc,hmx,hcell⟩:=hk.form (by decide)
 obtain⟨la5,lk5,rfl,hk5,hm5⟩:=PolAt.f5 hp
 have HRET:=hr1 Tryz.prog Tryz.f196 (RI w0 (condM p.bools.length e)) 85 4 rfl
 refine en Tryz.func196 rfl Tryz.ntmps196 rfl (vs:=[.agg #[c0,c1,c2,c3,c4,.slice la5 p.bools.length lk5,c6,c7,c8,c9,c10,c11,c12,c13,c14,c15,c16],.agg #[.int .i64 e.op,.int .i64 e.a,.int .i64 e.rel,.int .i64 e.b,.slice na e.names.length nc,.int .u64 e.set.a,.int .u64 e.set.b,.int .u64 e.set.c,.int .u64 e.set.d,.slice ka e.kids.length kc]]) rfl fun _ F=>?_
 have M:=Mm.start w0
 refine wp_seq_k fun K1 hK1 =>
  wk_region <|
  kbA (on rfl) rfl (F.u rf) rfl F rfl M fun g1 _ _ F M =>
  kbA (on rfl) rfl (F.u rf) rfl F rfl M fun g2 _ _ F M =>
  xA (v:=.int .i64 0) F rf rf rf fun _ F =>
  wpList_nil <|
  hK1 _ _ ?_
 refine wp_seq_k fun K2 hK2 =>
  wp_seq_k fun K3 hK3=>?_
 refine rd 49 [7,8,9,10,11,12,13,14,15,16,17,18,19,20,21,22,23,24,25,26,27,28,29,30,31,32,33,34,35,36,37,38,39,40,41,42,43,44,45,46,47,48,49,50,51,52,53,54,55] [isV (.pointer (some ⟨g2,0,none⟩)),isV (.int .i64 e.op),isV (.bool (decide (e.op=8))),isV (.bool (decide (e.op=8))),isV (gd (!(decide (e.op=8))) (.pointer (some ⟨g2,0,none⟩))),isV (gd (!(decide (e.op=8))) (.int .i64 e.op)),isV (gd (!(decide (e.op=8))) (.bool (decide (e.op=9)))),isV (.bool ((decide (e.op=8))||(decide (e.op=9)))),isV (.bool ((decide (e.op=8))||(decide (e.op=9)))),isV (gd (!((decide (e.op=8))||(decide (e.op=9)))) (.pointer (some ⟨g2,0,none⟩))),isV (gd (!((decide (e.op=8))||(decide (e.op=9)))) (.int .i64 e.op)),isV (gd (!((decide (e.op=8))||(decide (e.op=9)))) (.int .i64 (kidsM e.op))),isV (gd (!((decide (e.op=8))||(decide (e.op=9)))) (.pointer (some ⟨g2,9,none⟩))),isV (gd (!((decide (e.op=8))||(decide (e.op=9)))) (.slice ka e.kids.length kc)),isV (gd (!((decide (e.op=8))||(decide (e.op=9)))) (.int .i64 (e.kids.length:Int))),isV (gd (!((decide (e.op=8))||(decide (e.op=9)))) (.bool (!decide (kidsM e.op=(e.kids.length:Int))))),isV (.bool (((decide (e.op=8))||(decide (e.op=9)))||(!decide (kidsM e.op=(e.kids.length:Int))))),isV (.bool (((decide (e.op=8))||(decide (e.op=9)))||(!decide (kidsM e.op=(e.kids.length:Int))))),isV (gd (!(((decide (e.op=8))||(decide (e.op=9)))||(!decide (kidsM e.op=(e.kids.length:Int))))) (.pointer (some ⟨g2,2,none⟩))),isV (gd (!(((decide (e.op=8))||(decide (e.op=9)))||(!decide (kidsM e.op=(e.kids.length:Int))))) (.int .i64 e.rel)),isV (gd (!(((decide (e.op=8))||(decide (e.op=9)))||(!decide (kidsM e.op=(e.kids.length:Int))))) (.bool (!decide (e.rel=0)))),isV (.bool ((((decide (e.op=8))||(decide (e.op=9)))||(!decide (kidsM e.op=(e.kids.length:Int))))||(!decide (e.rel=0)))),isV (.bool ((((decide (e.op=8))||(decide (e.op=9)))||(!decide (kidsM e.op=(e.kids.length:Int))))||(!decide (e.rel=0)))),isV (gd (!((((decide (e.op=8))||(decide (e.op=9)))||(!decide (kidsM e.op=(e.kids.length:Int))))||(!decide (e.rel=0)))) (.pointer (some ⟨g2,3,none⟩))),isV (gd (!((((decide (e.op=8))||(decide (e.op=9)))||(!decide (kidsM e.op=(e.kids.length:Int))))||(!decide (e.rel=0)))) (.int .i64 e.b)),isV (gd (!((((decide (e.op=8))||(decide (e.op=9)))||(!decide (kidsM e.op=(e.kids.length:Int))))||(!decide (e.rel=0)))) (.bool (!decide (e.b=0)))),isV (.bool (((((decide (e.op=8))||(decide (e.op=9)))||(!decide (kidsM e.op=(e.kids.length:Int))))||(!decide (e.rel=0)))||(!decide (e.b=0)))),isV (.bool (((((decide (e.op=8))||(decide (e.op=9)))||(!decide (kidsM e.op=(e.kids.length:Int))))||(!decide (e.rel=0)))||(!decide (e.b=0)))),isV (gd (!(((((decide (e.op=8))||(decide (e.op=9)))||(!decide (kidsM e.op=(e.kids.length:Int))))||(!decide (e.rel=0)))||(!decide (e.b=0)))) (.pointer (some ⟨g2,4,none⟩))),isV (gd (!(((((decide (e.op=8))||(decide (e.op=9)))||(!decide (kidsM e.op=(e.kids.length:Int))))||(!decide (e.rel=0)))||(!decide (e.b=0)))) (.slice na e.names.length nc)),isV (gd (!(((((decide (e.op=8))||(decide (e.op=9)))||(!decide (kidsM e.op=(e.kids.length:Int))))||(!decide (e.rel=0)))||(!decide (e.b=0)))) (.int .i64 (e.names.length:Int))),isV (gd (!(((((decide (e.op=8))||(decide (e.op=9)))||(!decide (kidsM e.op=(e.kids.length:Int))))||(!decide (e.rel=0)))||(!decide (e.b=0)))) (.bool (decide (0<(e.names.length:Int))))),isV (.bool ((((((decide (e.op=8))||(decide (e.op=9)))||(!decide (kidsM e.op=(e.kids.length:Int))))||(!decide (e.rel=0)))||(!decide (e.b=0)))||(decide (0<(e.names.length:Int))))),isV (.bool ((((((decide (e.op=8))||(decide (e.op=9)))||(!decide (kidsM e.op=(e.kids.length:Int))))||(!decide (e.rel=0)))||(!decide (e.b=0)))||(decide (0<(e.names.length:Int))))),isV (gd (!((((((decide (e.op=8))||(decide (e.op=9)))||(!decide (kidsM e.op=(e.kids.length:Int))))||(!decide (e.rel=0)))||(!decide (e.b=0)))||(decide (0<(e.names.length:Int))))) (.pointer (some ⟨g2,5,none⟩))),isV (gd (!((((((decide (e.op=8))||(decide (e.op=9)))||(!decide (kidsM e.op=(e.kids.length:Int))))||(!decide (e.rel=0)))||(!decide (e.b=0)))||(decide (0<(e.names.length:Int))))) (.agg #[.int .u64 e.set.a,.int .u64 e.set.b,.int .u64 e.set.c,.int .u64 e.set.d])),isV (gd (!((((((decide (e.op=8))||(decide (e.op=9)))||(!decide (kidsM e.op=(e.kids.length:Int))))||(!decide (e.rel=0)))||(!decide (e.b=0)))||(decide (0<(e.names.length:Int))))) (.agg #[.int .u64 0,.int .u64 0,.int .u64 0,.int .u64 0])),isV (gd (!((((((decide (e.op=8))||(decide (e.op=9)))||(!decide (kidsM e.op=(e.kids.length:Int))))||(!decide (e.rel=0)))||(!decide (e.b=0)))||(decide (0<(e.names.length:Int))))) (.bool (!(decide (e.set=ASet.zero))))),isV (.bool (((((((decide (e.op=8))||(decide (e.op=9)))||(!decide (kidsM e.op=(e.kids.length:Int))))||(!decide (e.rel=0)))||(!decide (e.b=0)))||(decide (0<(e.names.length:Int))))||(!(decide (e.set=ASet.zero))))),isV (.bool (((((((decide (e.op=8))||(decide (e.op=9)))||(!decide (kidsM e.op=(e.kids.length:Int))))||(!decide (e.rel=0)))||(!decide (e.b=0)))||(decide (0<(e.names.length:Int))))||(!(decide (e.set=ASet.zero))))),isV (gd (!(((((((decide (e.op=8))||(decide (e.op=9)))||(!decide (kidsM e.op=(e.kids.length:Int))))||(!decide (e.rel=0)))||(!decide (e.b=0)))||(decide (0<(e.names.length:Int))))||(!(decide (e.set=ASet.zero))))) (.pointer (some ⟨g2,0,none⟩))),isV (gd (!(((((((decide (e.op=8))||(decide (e.op=9)))||(!decide (kidsM e.op=(e.kids.length:Int))))||(!decide (e.rel=0)))||(!decide (e.b=0)))||(decide (0<(e.names.length:Int))))||(!(decide (e.set=ASet.zero))))) (.int .i64 e.op)),isV (gd (!(((((((decide (e.op=8))||(decide (e.op=9)))||(!decide (kidsM e.op=(e.kids.length:Int))))||(!decide (e.rel=0)))||(!decide (e.b=0)))||(decide (0<(e.names.length:Int))))||(!(decide (e.set=ASet.zero))))) (.bool (!decide (e.op=1)))),isV (gd (!(((((((decide (e.op=8))||(decide (e.op=9)))||(!decide (kidsM e.op=(e.kids.length:Int))))||(!decide (e.rel=0)))||(!decide (e.b=0)))||(decide (0<(e.names.length:Int))))||(!(decide (e.set=ASet.zero))))) (.bool (!decide (e.op=1)))),isV (gd (!(((((((decide (e.op=8))||(decide (e.op=9)))||(!decide (kidsM e.op=(e.kids.length:Int))))||(!decide (e.rel=0)))||(!decide (e.b=0)))||(decide (0<(e.names.length:Int))))||(!(decide (e.set=ASet.zero))))&&!decide (e.op=1)) (.pointer (some ⟨g2,1,none⟩))),isV (gd (!(((((((decide (e.op=8))||(decide (e.op=9)))||(!decide (kidsM e.op=(e.kids.length:Int))))||(!decide (e.rel=0)))||(!decide (e.b=0)))||(decide (0<(e.names.length:Int))))||(!(decide (e.set=ASet.zero))))&&!decide (e.op=1)) (.int .i64 e.a)),isV (gd (!(((((((decide (e.op=8))||(decide (e.op=9)))||(!decide (kidsM e.op=(e.kids.length:Int))))||(!decide (e.rel=0)))||(!decide (e.b=0)))||(decide (0<(e.names.length:Int))))||(!(decide (e.set=ASet.zero))))&&!decide (e.op=1)) (.bool (!decide (e.a=0)))),isV (gd (!(((((((decide (e.op=8))||(decide (e.op=9)))||(!decide (kidsM e.op=(e.kids.length:Int))))||(!decide (e.rel=0)))||(!decide (e.b=0)))||(decide (0<(e.names.length:Int))))||(!(decide (e.set=ASet.zero))))) (.bool ((!decide (e.op=1))&&(!decide (e.a=0))))),isV (.bool ((((((((decide (e.op=8))||(decide (e.op=9)))||(!decide (kidsM e.op=(e.kids.length:Int))))||(!decide (e.rel=0)))||(!decide (e.b=0)))||(decide (0<(e.names.length:Int))))||(!(decide (e.set=ASet.zero))))||((!decide (e.op=1))&&(!decide (e.a=0)))))] (by kernel_rfl) (by kernel_rfl) (by kernel_rfl) rfl (by decide) rfl rfl F ⟨lasts_is _,lasts_is _,lasts_is _,lasts_is _,lasts_is _,lasts_is _,lasts_is _,lasts_is _,lasts_is _,lasts_is _,lasts_is _,lasts_is _,lasts_is _,lasts_is _,lasts_is _,lasts_is _,lasts_is _,lasts_is _,lasts_is _,lasts_is _,lasts_is _,lasts_is _,lasts_is _,lasts_is _,lasts_is _,lasts_is _,lasts_is _,lasts_is _,lasts_is _,lasts_is _,lasts_is _,lasts_is _,lasts_is _,lasts_is _,lasts_is _,lasts_is _,lasts_is _,lasts_is _,lasts_is _,lasts_is _,lasts_is _,lasts_is _,lasts_is _,lasts_is _,lasts_is _,lasts_is _,lasts_is _,lasts_is _,lasts_is _,trivial⟩ ⟨?_,?_,?_,?_,?_,?_,?_,?_,?_,?_,?_,?_,?_,?_,?_,?_,?_,?_,?_,?_,?_,?_,?_,?_,?_,?_,?_,?_,?_,?_,?_,?_,?_,?_,?_,?_,?_,?_,?_,?_,?_,?_,?_,?_,?_,?_,?_,?_,?_,trivial⟩ ?_
 ·exact fun a w Q' hf hi H G hK=>dv (on rfl) (e_field rfl (G 3 _ rfl (F.g 3 rfl)).ev u89 rfl sz3) rfl hf rfl hK rfl
 ·exact fun a w Q' hf hi H G hK=>dv (on rfl) (e_load1 rfl (iA (H 0 ⟨.data,by simp,rfl⟩ _ _ rfl rfl)).ev u3 rfl (((M.keep hi).b 0 rfl).c1 0)) rfl hf rfl hK rfl
 ·exact fun a w Q' hf hi H G hK=>dv (on rfl) (e_eqI rfl (iA (H 1 ⟨.data,by simp,rfl⟩ _ _ rfl rfl)).ev rfl) rfl hf rfl hK rfl
 ·exact fun a w Q' hf hi H G hK=>dv (on rfl) (e_move rfl (iA (H 2 ⟨.data,by simp,rfl⟩ _ _ rfl rfl)).ev) rfl hf rfl hK rfl
 ·exact fun a w Q' hf hi H G hK=>dg1 rfl rfl (iA (H 3 ⟨.guard,by simp,rfl⟩ _ _ rfl rfl)) (bf _) (fun ge=>(e_field rfl (G 3 _ rfl (F.g 3 rfl)).ev u89 rfl sz3)) rfl hf rfl hK rfl
 ·exact fun a w Q' hf hi H G hK=>dg1 rfl rfl (iA (H 3 ⟨.guard,by simp,rfl⟩ _ _ rfl rfl)) (bf _) (fun ge=>(e_load1 rfl ((iA (H 4 ⟨.data,by simp,rfl⟩ _ _ rfl rfl)).on ge).ev u3 rfl (((M.keep hi).b 0 rfl).c1 0))) rfl hf rfl hK rfl
 ·exact fun a w Q' hf hi H G hK=>dg1 rfl rfl (iA (H 3 ⟨.guard,by simp,rfl⟩ _ _ rfl rfl)) (bf _) (fun ge=>(e_eqI rfl ((iA (H 5 ⟨.data,by simp,rfl⟩ _ _ rfl rfl)).on ge).ev rfl)) rfl hf rfl hK rfl
 ·exact fun a w Q' hf hi H G hK=>dv (on rfl) (rq (e_pick rfl (iA (H 3 ⟨.data,by simp,rfl⟩ _ _ rfl rfl)).ev rfl (iA (H 6 ⟨.data,by simp,rfl⟩ _ _ rfl rfl)).ev) (pkT _ _)) rfl hf rfl hK rfl
 ·exact fun a w Q' hf hi H G hK=>dv (on rfl) (e_move rfl (iA (H 7 ⟨.data,by simp,rfl⟩ _ _ rfl rfl)).ev) rfl hf rfl hK rfl
 ·exact fun a w Q' hf hi H G hK=>dg1 rfl rfl (iA (H 8 ⟨.guard,by simp,rfl⟩ _ _ rfl rfl)) (bf _) (fun ge=>(e_field rfl (G 3 _ rfl (F.g 3 rfl)).ev u89 rfl sz3)) rfl hf rfl hK rfl
 ·exact fun a w Q' hf hi H G hK=>dg1 rfl rfl (iA (H 8 ⟨.guard,by simp,rfl⟩ _ _ rfl rfl)) (bf _) (fun ge=>(e_load1 rfl ((iA (H 9 ⟨.data,by simp,rfl⟩ _ _ rfl rfl)).on ge).ev u3 rfl (((M.keep hi).b 0 rfl).c1 0))) rfl hf rfl hK rfl
 ·exact fun a w Q' hf hi H G hK=>dgq1 rfl rfl (iA (H 8 ⟨.chain,by simp,rfl⟩ _ _ rfl rfl)) (bf _) (fun ge=>(e_call rfl Tryz.func244 nm244 rfl (args1 ((iA (H 10 ⟨.data,by simp,rfl⟩ _ _ rfl rfl)).on ge).ev))) (fun ge=>sm (kids_any _ e.op)) rfl hf rfl hK (fun _=>rfl)
 ·exact fun a w Q' hf hi H G hK=>dg1 rfl rfl (iA (H 8 ⟨.guard,by simp,rfl⟩ _ _ rfl rfl)) (bf _) (fun ge=>(e_field rfl (G 3 _ rfl (F.g 3 rfl)).ev u89 rfl sz29)) rfl hf rfl hK rfl
 ·exact fun a w Q' hf hi H G hK=>dg1 rfl rfl (iA (H 8 ⟨.guard,by simp,rfl⟩ _ _ rfl rfl)) (bf _) (fun ge=>(e_load1 rfl ((iA (H 12 ⟨.data,by simp,rfl⟩ _ _ rfl rfl)).on ge).ev u29 rfl (((M.keep hi).b 0 rfl).c1 9))) rfl hf rfl hK rfl
 ·exact fun a w Q' hf hi H G hK=>dg1 rfl rfl (iA (H 8 ⟨.guard,by simp,rfl⟩ _ _ rfl rfl)) (bf _) (fun ge=>(e_lenSl rfl ((iA (H 13 ⟨.data,by simp,rfl⟩ _ _ rfl rfl)).on ge).ev u29)) rfl hf rfl hK rfl
 ·exact fun a w Q' hf hi H G hK=>dg1 rfl rfl (iA (H 8 ⟨.guard,by simp,rfl⟩ _ _ rfl rfl)) (bf _) (fun ge=>(e_neI rfl ((iA (H 11 ⟨.data,by simp,rfl⟩ _ _ rfl rfl)).on ge).ev ((iA (H 14 ⟨.data,by simp,rfl⟩ _ _ rfl rfl)).on ge).ev)) rfl hf rfl hK rfl
 ·exact fun a w Q' hf hi H G hK=>dv (on rfl) (rq (e_pick rfl (iA (H 8 ⟨.data,by simp,rfl⟩ _ _ rfl rfl)).ev rfl (iA (H 15 ⟨.data,by simp,rfl⟩ _ _ rfl rfl)).ev) (pkT _ _)) rfl hf rfl hK rfl
 ·exact fun a w Q' hf hi H G hK=>dv (on rfl) (e_move rfl (iA (H 16 ⟨.data,by simp,rfl⟩ _ _ rfl rfl)).ev) rfl hf rfl hK rfl
 ·exact fun a w Q' hf hi H G hK=>dg1 rfl rfl (iA (H 17 ⟨.guard,by simp,rfl⟩ _ _ rfl rfl)) (bf _) (fun ge=>(e_field rfl (G 3 _ rfl (F.g 3 rfl)).ev u89 rfl sz3)) rfl hf rfl hK rfl
 ·exact fun a w Q' hf hi H G hK=>dg1 rfl rfl (iA (H 17 ⟨.guard,by simp,rfl⟩ _ _ rfl rfl)) (bf _) (fun ge=>(e_load1 rfl ((iA (H 18 ⟨.data,by simp,rfl⟩ _ _ rfl rfl)).on ge).ev u3 rfl (((M.keep hi).b 0 rfl).c1 2))) rfl hf rfl hK rfl
 ·exact fun a w Q' hf hi H G hK=>dg1 rfl rfl (iA (H 17 ⟨.guard,by simp,rfl⟩ _ _ rfl rfl)) (bf _) (fun ge=>(e_neI rfl ((iA (H 19 ⟨.data,by simp,rfl⟩ _ _ rfl rfl)).on ge).ev rfl)) rfl hf rfl hK rfl
 ·exact fun a w Q' hf hi H G hK=>dv (on rfl) (rq (e_pick rfl (iA (H 17 ⟨.data,by simp,rfl⟩ _ _ rfl rfl)).ev rfl (iA (H 20 ⟨.data,by simp,rfl⟩ _ _ rfl rfl)).ev) (pkT _ _)) rfl hf rfl hK rfl
 ·exact fun a w Q' hf hi H G hK=>dv (on rfl) (e_move rfl (iA (H 21 ⟨.data,by simp,rfl⟩ _ _ rfl rfl)).ev) rfl hf rfl hK rfl
 ·exact fun a w Q' hf hi H G hK=>dg1 rfl rfl (iA (H 22 ⟨.guard,by simp,rfl⟩ _ _ rfl rfl)) (bf _) (fun ge=>(e_field rfl (G 3 _ rfl (F.g 3 rfl)).ev u89 rfl sz3)) rfl hf rfl hK rfl
 ·exact fun a w Q' hf hi H G hK=>dg1 rfl rfl (iA (H 22 ⟨.guard,by simp,rfl⟩ _ _ rfl rfl)) (bf _) (fun ge=>(e_load1 rfl ((iA (H 23 ⟨.data,by simp,rfl⟩ _ _ rfl rfl)).on ge).ev u3 rfl (((M.keep hi).b 0 rfl).c1 3))) rfl hf rfl hK rfl
 ·exact fun a w Q' hf hi H G hK=>dg1 rfl rfl (iA (H 22 ⟨.guard,by simp,rfl⟩ _ _ rfl rfl)) (bf _) (fun ge=>(e_neI rfl ((iA (H 24 ⟨.data,by simp,rfl⟩ _ _ rfl rfl)).on ge).ev rfl)) rfl hf rfl hK rfl
 ·exact fun a w Q' hf hi H G hK=>dv (on rfl) (rq (e_pick rfl (iA (H 22 ⟨.data,by simp,rfl⟩ _ _ rfl rfl)).ev rfl (iA (H 25 ⟨.data,by simp,rfl⟩ _ _ rfl rfl)).ev) (pkT _ _)) rfl hf rfl hK rfl
 ·exact fun a w Q' hf hi H G hK=>dv (on rfl) (e_move rfl (iA (H 26 ⟨.data,by simp,rfl⟩ _ _ rfl rfl)).ev) rfl hf rfl hK rfl
 ·exact fun a w Q' hf hi H G hK=>dg1 rfl rfl (iA (H 27 ⟨.guard,by simp,rfl⟩ _ _ rfl rfl)) (bf _) (fun ge=>(e_field rfl (G 3 _ rfl (F.g 3 rfl)).ev u89 rfl sz28)) rfl hf rfl hK rfl
 ·exact fun a w Q' hf hi H G hK=>dg1 rfl rfl (iA (H 27 ⟨.guard,by simp,rfl⟩ _ _ rfl rfl)) (bf _) (fun ge=>(e_load1 rfl ((iA (H 28 ⟨.data,by simp,rfl⟩ _ _ rfl rfl)).on ge).ev u28 rfl (((M.keep hi).b 0 rfl).c1 4))) rfl hf rfl hK rfl
 ·exact fun a w Q' hf hi H G hK=>dg1 rfl rfl (iA (H 27 ⟨.guard,by simp,rfl⟩ _ _ rfl rfl)) (bf _) (fun ge=>(e_lenSl rfl ((iA (H 29 ⟨.data,by simp,rfl⟩ _ _ rfl rfl)).on ge).ev u28)) rfl hf rfl hK rfl
 ·exact fun a w Q' hf hi H G hK=>dg1 rfl rfl (iA (H 27 ⟨.guard,by simp,rfl⟩ _ _ rfl rfl)) (bf _) (fun ge=>(e_gtr rfl ((iA (H 30 ⟨.data,by simp,rfl⟩ _ _ rfl rfl)).on ge).ev rfl)) rfl hf rfl hK rfl
 ·exact fun a w Q' hf hi H G hK=>dv (on rfl) (rq (e_pick rfl (iA (H 27 ⟨.data,by simp,rfl⟩ _ _ rfl rfl)).ev rfl (iA (H 31 ⟨.data,by simp,rfl⟩ _ _ rfl rfl)).ev) (pkT _ _)) rfl hf rfl hK rfl
 ·exact fun a w Q' hf hi H G hK=>dv (on rfl) (e_move rfl (iA (H 32 ⟨.data,by simp,rfl⟩ _ _ rfl rfl)).ev) rfl hf rfl hK rfl
 ·exact fun a w Q' hf hi H G hK=>dg1 rfl rfl (iA (H 33 ⟨.guard,by simp,rfl⟩ _ _ rfl rfl)) (bf _) (fun ge=>(e_field rfl (G 3 _ rfl (F.g 3 rfl)).ev u89 rfl sz54)) rfl hf rfl hK rfl
 ·exact fun a w Q' hf hi H G hK=>dg1 rfl rfl (iA (H 33 ⟨.guard,by simp,rfl⟩ _ _ rfl rfl)) (bf _) (fun ge=>(e_loadN [.int .u64 e.set.a,.int .u64 e.set.b,.int .u64 e.set.c,.int .u64 e.set.d] rfl ((iA (H 34 ⟨.data,by simp,rfl⟩ _ _ rfl rfl)).on ge).ev u54 rfl sz54 (whole_part ((M.keep hi).b 0 rfl) rfl))) rfl hf rfl hK rfl
 ·exact fun a w Q' hf hi H G hK=>dg1 rfl rfl (iA (H 33 ⟨.guard,by simp,rfl⟩ _ _ rfl rfl)) (bf _) (fun ge=>(e_build rfl (pv:=#[]) (by simp[]) (cells:=#[.int .u64 0,.int .u64 0,.int .u64 0,.int .u64 0]) (by kernel_rfl))) rfl hf rfl hK rfl
 ·exact fun a w Q' hf hi H G hK=>dg1 rfl rfl (iA (H 33 ⟨.guard,by simp,rfl⟩ _ _ rfl rfl)) (bf _) (fun ge=>(e_neAg rfl ((iA (H 35 ⟨.data,by simp,rfl⟩ _ _ rfl rfl)).on ge).ev ((iA (H 36 ⟨.data,by simp,rfl⟩ _ _ rfl rfl)).on ge).ev eg54 (within_eq _ _))) rfl hf rfl hK rfl
 ·exact fun a w Q' hf hi H G hK=>dv (on rfl) (rq (e_pick rfl (iA (H 33 ⟨.data,by simp,rfl⟩ _ _ rfl rfl)).ev rfl (iA (H 37 ⟨.data,by simp,rfl⟩ _ _ rfl rfl)).ev) (pkT _ _)) rfl hf rfl hK rfl
 ·exact fun a w Q' hf hi H G hK=>dv (on rfl) (e_move rfl (iA (H 38 ⟨.data,by simp,rfl⟩ _ _ rfl rfl)).ev) rfl hf rfl hK rfl
 ·exact fun a w Q' hf hi H G hK=>dg1 rfl rfl (iA (H 39 ⟨.guard,by simp,rfl⟩ _ _ rfl rfl)) (bf _) (fun ge=>(e_field rfl (G 3 _ rfl (F.g 3 rfl)).ev u89 rfl sz3)) rfl hf rfl hK rfl
 ·exact fun a w Q' hf hi H G hK=>dg1 rfl rfl (iA (H 39 ⟨.guard,by simp,rfl⟩ _ _ rfl rfl)) (bf _) (fun ge=>(e_load1 rfl ((iA (H 40 ⟨.data,by simp,rfl⟩ _ _ rfl rfl)).on ge).ev u3 rfl (((M.keep hi).b 0 rfl).c1 0))) rfl hf rfl hK rfl
 ·exact fun a w Q' hf hi H G hK=>dg1 rfl rfl (iA (H 39 ⟨.guard,by simp,rfl⟩ _ _ rfl rfl)) (bf _) (fun ge=>(e_neI rfl ((iA (H 41 ⟨.data,by simp,rfl⟩ _ _ rfl rfl)).on ge).ev rfl)) rfl hf rfl hK rfl
 ·exact fun a w Q' hf hi H G hK=>dg1 rfl rfl (iA (H 39 ⟨.chain,by simp,rfl⟩ _ _ rfl rfl)) (bf _) (fun ge=>(e_move rfl ((iA (H 42 ⟨.data,by simp,rfl⟩ _ _ rfl rfl)).on ge).ev)) rfl hf rfl hK rfl
 ·exact fun a w Q' hf hi H G hK=>dg2 rfl rfl (iA (H 43 ⟨.guard,by simp,rfl⟩ _ _ rfl rfl)) (bt _) (fun ge=>(e_field rfl (G 3 _ rfl (F.g 3 rfl)).ev u89 rfl sz3)) rfl hf rfl hK rfl
 ·exact fun a w Q' hf hi H G hK=>dg2 rfl rfl (iA (H 43 ⟨.guard,by simp,rfl⟩ _ _ rfl rfl)) (bt _) (fun ge=>(e_load1 rfl ((iA (H 44 ⟨.data,by simp,rfl⟩ _ _ rfl rfl)).on ge).ev u3 rfl (((M.keep hi).b 0 rfl).c1 1))) rfl hf rfl hK rfl
 ·exact fun a w Q' hf hi H G hK=>dg2 rfl rfl (iA (H 43 ⟨.guard,by simp,rfl⟩ _ _ rfl rfl)) (bt _) (fun ge=>(e_neI rfl ((iA (H 45 ⟨.data,by simp,rfl⟩ _ _ rfl rfl)).on ge).ev rfl)) rfl hf rfl hK rfl
 ·exact fun a w Q' hf hi H G hK=>dg1 rfl rfl (iA (H 39 ⟨.guard,by simp,rfl⟩ _ _ rfl rfl)) (bf _) (fun ge=>(rq (e_pick rfl ((iA (H 43 ⟨.data,by simp,rfl⟩ _ _ rfl rfl)).on ge).ev ((iA (H 46 ⟨.data,by simp,rfl⟩ _ _ rfl rfl)).on2 ge).ev rfl) (pkF _ _))) rfl hf rfl hK rfl
 ·exact fun a w Q' hf hi H G hK=>dv (on rfl) (rq (e_pick rfl (iA (H 39 ⟨.data,by simp,rfl⟩ _ _ rfl rfl)).ev rfl (iA (H 47 ⟨.data,by simp,rfl⟩ _ _ rfl rfl)).ev) (pkT _ _)) rfl hf rfl hK rfl
 (repeat clear F);intro _ _ hbq F D
 obtain⟨_,h,rfl⟩:=D 48 _ _ rfl rfl;have F:=F.add h
 have M:=M.keep hbq
 clear D hbq
 refine hK3 _ _ ?_
 refine wp_cond_split (F.e 55 rfl) (fun hc3=>?_) (fun hc3=>?_)
 ·
  refine wp_seq_k fun K4 hK4 =>
   wk_region <|
   xA (v:=.int .i64 2) F rf rf rf fun _ F =>
   wpList_nil <|
   hK4 _ _ ?_
  refine wp_ret <|
   HRET _ _ _ _ F rfl ?_
  exact⟨ret_int (condM_bad hc3).symm,M.below⟩
 ·
  refine wp_skip <|
   hK2 _ _ ?_
  refine wp_seq_k fun K5 hK5 =>
   wp_seq_k fun K6 hK6 =>
   wk_region <|
   xF 0 F rf rf rf u89 rf sz3 rf fun _ F =>
   xL F (M.b 0 rfl) rf rf rf u3 rf rf fun _ F =>
   kz F rf (e_eqI rfl (F.u rf) rfl) fun _ F =>
   xM F rf rf rf fun _ F =>
   kg1 (x:=.pointer (some ⟨g2,1,none⟩)) rfl rfl (F.g 59 rfl) (bt _) (fun ge=>(e_field rfl (F.u rf) u89 rfl sz3)) rfl F rfl rfl fun _ F =>
   kg1 (x:=.int .i64 e.a) rfl rfl (F.g 59 rfl) (bt _) (fun ge=>(e_load1 rfl ((F.g 60 rfl).on ge).ev u3 rfl ((M.b 0 rfl).c1 1))) rfl F rfl rfl fun _ F =>
   kg1 (x:=.pointer (some ⟨g1,5,none⟩)) rfl rfl (F.g 59 rfl) (bt _) (fun ge=>(e_field rfl (F.u rf) u39 rfl sz27)) rfl F rfl rfl fun _ F =>
   kg1 (x:=.slice la5 p.bools.length lk5) rfl rfl (F.g 59 rfl) (bt _) (fun ge=>(e_load1 rfl ((F.g 62 rfl).on ge).ev u27 rfl ((M.b 1 rfl).c1 5))) rfl F rfl rfl fun _ F =>
   kg1 (x:=.int .i64 (p.bools.length:Int)) rfl rfl (F.g 59 rfl) (bt _) (fun ge=>(e_lenSl rfl ((F.g 63 rfl).on ge).ev u27)) rfl F rfl rfl fun _ F =>
   kgq1 rfl rfl (F.g 59 rfl) (bt _) (fun ge=>(e_call rfl Tryz.func113 nm113 rfl (args2 ((F.g 61 rfl).on ge).ev ((F.g 64 rfl).on ge).ev))) (fun ge=>sm (below_any _ e.a (p.bools.length:Int))) rfl F rfl M fun _ _ F M =>
   kg1 (x:=.bool (!(belowB e.a (p.bools.length:Int)))) rfl rfl (F.g 59 rfl) (bt _) (fun ge=>(e_not rfl ((F.g 65 rfl).on ge).ev)) rfl F rfl rfl fun _ F =>
   kz F rf (rq (e_pick rfl (F.u rf) (F.u rf) rfl) (pkF _ _)) fun _ F =>
   wpList_nil <|
   hK6 _ _ ?_
  refine wp_cond_split (F.e 67 rfl) (fun hc4=>?_) (fun hc4=>?_)
  ·
   refine wp_seq_k fun K7 hK7 =>
    wk_region <|
    xA (v:=.int .i64 3) F rf rf rf fun _ F =>
    wpList_nil <|
    hK7 _ _ ?_
   refine wp_ret <|
    HRET _ _ _ _ F rfl ?_
   exact⟨ret_int (condM_rng hc3 hc4).symm,M.below⟩
  ·
   refine wp_skip <|
    hK5 _ _ ?_
   refine wp_seq_k fun K8 hK8 =>
    wp_seq_k fun K9 hK9 =>
    wk_region <|
    xA (v:=.int .i64 0) F rf rf rf fun _ F =>
    wpList_nil <|
    hK9 _ _ ?_
   refine wp_block <| ?_
   refine wk_loop (ι:=Nat) (fun m a w=>Fs a 85 [(2,.pointer (some ⟨g1,0,none⟩)),(3,.pointer (some ⟨g2,0,none⟩)),(5,.int .i64 (m:Int))]∧Mm w0 w [(g2,89,#[.int .i64 e.op,.int .i64 e.a,.int .i64 e.rel,.int .i64 e.b,.slice na e.names.length nc,.int .u64 e.set.a,.int .u64 e.set.b,.int .u64 e.set.c,.int .u64 e.set.d,.slice ka e.kids.length kc]),(g1,39,#[c0,c1,c2,c3,c4,.slice la5 p.bools.length lk5,c6,c7,c8,c9,c10,c11,c12,c13,c14,c15,c16])] []∧m≤e.kids.length∧condL p.bools.length e.kids=condL p.bools.length (e.kids.drop m)) (fun m=>e.kids.length-m) 0 ⟨F.sub ⟨rfl,rfl,rfl,trivial⟩,M,Nat.zero_le _,rfl⟩ ?_
   (repeat clear F);(repeat clear M)
   rintro m _ _ ⟨F,M,hm,hinv⟩
   refine wp_seq_k fun K10 hK10 =>
    wp_seq_k fun K11 hK11 =>
    wk_region <|
    xM F rf rf rf fun _ F =>
    xF 9 F rf rf rf u89 rf sz29 rf fun _ F =>
    xL F (M.b 0 rfl) rf rf rf u29 rf rf fun _ F =>
    kz F rf (e_lenSl rfl (F.u rf) u29) fun _ F =>
    kz F rf (e_lss rfl (F.u rf) (F.u rf)) fun _ F =>
    wpList_nil <|
    hK11 _ _ ?_
   refine wp_cond_split (F.e 72 rfl) (fun hc5=>?_) (fun hc5=>?_)
   ·
    have hd6:=of_decide_eq_true hc5
    refine wp_skip <|
     hK10 _ _ ?_
    refine wp_seq_k fun K12 hK12 =>
     wp_block <|
     wp_seq_k fun K13 hK13=>?_
    have hlt:m<e.kids.length:=by omega
    obtain⟨y,hy⟩:∃ y,e.kids[m]?=some y:=⟨_,List.getElem?_eq_getElem hlt⟩
    obtain⟨b8,ob8,cs8,rfl,heb,hnb,hrb⟩:=hcell m y hy
    refine rd 8 [75,76,77,78,79,80,81,6] [isV (.agg #[c0,c1,c2,c3,c4,.slice la5 p.bools.length lk5,c6,c7,c8,c9,c10,c11,c12,c13,c14,c15,c16]),isV (.pointer (some ⟨g2,9,none⟩)),isV (.slice (some ⟨b8,ob8,none⟩) e.kids.length kc),isV (.int .i64 (m:Int)),isV (.pointer (some ⟨b8,ob8+m*10,none⟩)),isV (.agg cs8.toArray),isV (.int .i64 (condM p.bools.length y)),isV (.int .i64 (condM p.bools.length y))] (by kernel_rfl) (by kernel_rfl) (by kernel_rfl) rfl (by decide) rfl rfl F ⟨lasts_is _,lasts_is _,lasts_is _,lasts_is _,lasts_is _,lasts_is _,lasts_is _,lasts_is _,trivial⟩ ⟨?_,?_,?_,?_,?_,?_,?_,?_,trivial⟩ ?_
    ·exact fun a w Q' hf hi H G hK=>dv (on rfl) (e_loadW rfl (G 2 _ rfl (F.g 2 rfl)).ev u39 rfl ((M.keep hi).b 1 rfl) sz39 rfl) rfl hf rfl hK rfl
    ·exact fun a w Q' hf hi H G hK=>dv (on rfl) (e_field rfl (G 3 _ rfl (F.g 3 rfl)).ev u89 rfl sz29) rfl hf rfl hK rfl
    ·exact fun a w Q' hf hi H G hK=>dv (on rfl) (e_load1 rfl (iA (H 1 ⟨.data,by simp,rfl⟩ _ _ rfl rfl)).ev u29 rfl (((M.keep hi).b 0 rfl).c1 9)) rfl hf rfl hK rfl
    ·exact fun a w Q' hf hi H G hK=>dv (on rfl) (e_move rfl (G 5 _ rfl (F.g 5 rfl)).ev) rfl hf rfl hK rfl
    ·exact fun a w Q' hf hi H G hK=>dv (on rfl) (e_indexAddr (i:=m) rfl (iA (H 2 ⟨.data,by simp,rfl⟩ _ _ rfl rfl)).ev (iA (H 3 ⟨.data,by simp,rfl⟩ _ _ rfl rfl)).ev (by omega) u29 sz89) rfl hf rfl hK rfl
    ·exact fun a w Q' hf hi H G hK=>dv (on rfl) (e_loadN cs8 rfl (iA (H 4 ⟨.data,by simp,rfl⟩ _ _ rfl rfl)).ev u89 rfl (by rw[hnb];exact sz89) (lat (M.keep hi).below hrb)) rfl hf rfl hK rfl
    ·exact fun a w Q' hf hi H G hK=>dc (on rfl) (e_call rfl Tryz.func196 nm196 rfl (args2 (iA (H 0 ⟨.data,by simp,rfl⟩ _ _ rfl rfl)).ev (iA (H 5 ⟨.data,by simp,rfl⟩ _ _ rfl rfl)).ev)) (ih y (List.mem_of_getElem? hy) _ _ _ _ _ _ _ _ _ _ _ _ _ _ _ _ _ _ _ p (hp.keep (M.keep hi).below) (ExpAt.keep (M.keep hi).below heb)) rfl hf rfl hK (fun _=>rfl)
    ·exact fun a w Q' hf hi H G hK=>dv (on rfl) (e_assign rfl (iA (H 6 ⟨.data,by simp,rfl⟩ _ _ rfl rfl)).ev) rfl hf rfl hK rfl
    (repeat clear F);intro _ _ hbq F D
    obtain⟨_,h,rfl⟩:=D 7 _ _ rfl rfl;have F:=F.add h
    have M:=M.keep hbq
    clear D hbq
    refine hK13 _ _ ?_
    refine wp_seq_k fun K14 hK14 =>
     wk_region <|
     xM F rf rf rf fun _ F =>
     kz F rf (e_neI rfl (F.u rf) rfl) fun _ F =>
     wpList_nil <|
     hK14 _ _ ?_
    refine wp_cond_split (F.e 83 rfl) (fun hc7=>?_) (fun hc7=>?_)
    ·
     have hd8:=of_decide_eq_false (show decide (condM p.bools.length y=0)=false by simpa using hc7)
     have hk9:(decide (condM p.bools.length y=0))=false:=by simpa using hc7
     refine wp_seq_k fun K15 hK15 =>
      wk_region <|
      xM F rf rf rf fun _ F =>
      xA F rf rf rf fun _ F =>
      wpList_nil <|
      hK15 _ _ ?_
     refine wp_ret <|
      HRET _ _ _ _ F rfl ?_
     exact⟨ret_int (by rw[condM_kids hc3 hc4,hinv,condL_drop hy,if_neg (by omega)]),M.below⟩
    ·
     have hd10:=of_decide_eq_true (show decide (condM p.bools.length y=0)=true by simpa using hc7)
     have hk11:(decide (condM p.bools.length y=0))=true:=by simpa using hc7
     refine wp_skip <|
      hK12 _ _ ?_
     refine wk_region <|
      xM F rf rf rf fun _ F =>
      ke (on rfl) (e_add rfl (F.u rf) rfl) rfl F rfl (congrArg (Value.int .i64) (wrap_i64 (by omega))) fun _ F =>
      xA F rf rf rf fun _ F =>
      wpList_nil <| ?_
     have hv:condM p.bools.length y=0:=by omega
     exact⟨m+1,⟨F.sub ⟨rfl,rfl,rfl,trivial⟩,M,by omega,hinv.trans (by rw[condL_drop hy,if_pos hv])⟩,by show e.kids.length-(m+1)<e.kids.length-m;omega⟩
   ·
    have hd12:=of_decide_eq_false hc5
    refine wp_exit <|
     hK8 _ _ ?_
    refine wp_seq_k fun K16 hK16 =>
     wk_region <|
     xA (v:=.int .i64 0) F rf rf rf fun _ F =>
     wpList_nil <|
     hK16 _ _ ?_
    refine wp_ret <|
     HRET _ _ _ _ F rfl ?_
    exact⟨ret_int (by rw[condM_kids hc3 hc4,hinv,show m=e.kids.length by omega,List.drop_length];rfl),M.below⟩
def conditionM (nB:Nat) (e:AExp):Int:=if (12:Int)<levelsM 13 e then 4 else condM nB e
set_option maxRecDepth 100000 in
set_option maxHeartbeats 4000000 in
theorem Condition_any (e:AExp) (w0:World) (cs:List Value) (c0 c1 c2 c3 c4 c5 c6 c7 c8 c9 c10 c11 c12 c13 c14 c15 c16:Value) (p:APol) (hp:PolAt w0 c0 c1 c2 c3 c4 c5 c6 c7 c8 c9 c10 c11 c12 c13 c14 c15 c16 p) (h:ExpAt w0 cs e):Calls Tryz.prog 110 #[.agg #[c0,c1,c2,c3,c4,c5,c6,c7,c8,c9,c10,c11,c12,c13,c14,c15,c16],.agg cs.toArray] w0 (RI w0 (conditionM p.bools.length e)):=by
 obtain⟨nv,kv,rfl,-,-⟩:=h.open
 have HRET:=hr1 Tryz.prog Tryz.f110 (RI w0 (conditionM p.bools.length e)) 11 4 rfl
 refine en Tryz.func110 rfl Tryz.ntmps110 rfl (vs:=[.agg #[c0,c1,c2,c3,c4,c5,c6,c7,c8,c9,c10,c11,c12,c13,c14,c15,c16],.agg #[.int .i64 e.op,.int .i64 e.a,.int .i64 e.rel,.int .i64 e.b,nv,.int .u64 e.set.a,.int .u64 e.set.b,.int .u64 e.set.c,.int .u64 e.set.d,kv]]) rfl fun _ F=>?_
 have M:=Mm.start w0
 refine wp_seq_k fun K1 hK1 =>
  wk_region <|
  kbA (on rfl) rfl (F.u rf) rfl F rfl M fun g1 _ _ F M =>
  kbA (on rfl) rfl (F.u rf) rfl F rfl M fun g2 _ _ F M =>
  xA (v:=.int .i64 0) F rf rf rf fun _ F =>
  wpList_nil <|
  hK1 _ _ ?_
 refine wp_seq_k fun K2 hK2 =>
  wp_seq_k fun K3 hK3 =>
  wk_region <|
  xW F (M.b 0 rfl) rf rf rf u89 rf sz89 rf fun _ F =>
  xC F M rf rf q39 (args1 (F.u rf)) (Levels_any _ _ e (ExpAt.keep M.below h)) fun _ _ F M =>
  kz F rf (e_gtr rfl (F.u rf) rfl) fun _ F =>
  wpList_nil <|
  hK3 _ _ ?_
 refine wp_cond_split (F.e 7 rfl) (fun hc3=>?_) (fun hc3=>?_)
 ·
  have hd4:=of_decide_eq_true hc3
  refine wp_seq_k fun K4 hK4 =>
   wk_region <|
   xA (v:=.int .i64 4) F rf rf rf fun _ F =>
   wpList_nil <|
   hK4 _ _ ?_
  refine wp_ret <|
   HRET _ _ _ _ F rfl ?_
  exact⟨ret_int (by unfold conditionM;repeat (first | with_reducible rfl | assumption | (with_reducible refine Eq.trans (if_pos ?_) ?_;focus (first | assumption | (refine wk_nf ?_;assumption) | (refine wk_nt ?_;assumption) | omega | (simp[hd4];done))) | (with_reducible refine Eq.trans (if_neg ?_) ?_;focus (first | assumption | (refine wk_nf ?_;assumption) | (refine wk_nt ?_;assumption) | omega | (simp[hd4];done))) | omega)),M.below⟩
 ·
  have hd5:=of_decide_eq_false hc3
  refine wp_skip <|
   hK2 _ _ ?_
  refine wp_seq_k fun K5 hK5 =>
   wk_region <|
   xW F (M.b 1 rfl) rf rf rf u39 rf sz39 rf fun _ F =>
   xW F (M.b 0 rfl) rf rf rf u89 rf sz89 rf fun _ F =>
   xC F M rf rf q196 (args2 (F.u rf) (F.u rf)) (condition_any e _ _ _ _ _ _ _ _ _ _ _ _ _ _ _ _ _ _ _ p (hp.keep M.below) (ExpAt.keep M.below h)) fun _ _ F M =>
   xA F rf rf rf fun _ F =>
   wpList_nil <|
   hK5 _ _ ?_
  refine wp_ret <|
   HRET _ _ _ _ F rfl ?_
  exact⟨ret_int (by unfold conditionM;repeat (first | with_reducible rfl | assumption | (with_reducible refine Eq.trans (if_pos ?_) ?_;focus (first | assumption | (refine wk_nf ?_;assumption) | (refine wk_nt ?_;assumption) | omega | (simp[hd5];done))) | (with_reducible refine Eq.trans (if_neg ?_) ?_;focus (first | assumption | (refine wk_nf ?_;assumption) | (refine wk_nt ?_;assumption) | omega | (simp[hd5];done))) | omega)),M.below⟩
end Go.Proofs.YtdcofoaihmongaaGreat
namespace Go.Proofs.YtdcofoaihmongaaGreat
open Go Go.RowKit
def fieldsB (e:AExp):Bool :=
 if e.op=2∨e.op=3∨e.op=4 then (((((decide ((e.kids.length:Int)=kidsM e.op)&&decide (e.a=0))&&decide (e.rel=0))&&decide (e.b=0))&&decide ((e.names.length:Int)=0))&&decide (e.set=ASet.zero))
 else if e.op=8 then ((decide ((e.kids.length:Int)=0)&&decide ((e.names.length:Int)=0))&&decide (e.set=ASet.zero))
 else if e.op=9 then (((decide ((e.kids.length:Int)=0)&&decide (e.rel=0))&&decide (e.b=0))&&decide ((e.names.length:Int)=0))
 else false
set_option maxRecDepth 100000 in
set_option maxHeartbeats 4000000 in
theorem fields_any (w0:World) (cs:List Value) (e:AExp) (h:ExpAt w0 cs e):Calls Tryz.prog 245 #[.agg cs.toArray] w0 (fun(r:Ending) (w':World)=>r=.returned (.bool (fieldsB e))∧RowKit.Below w0.heap.size w0 w'):=by
 obtain⟨nv,kv,rfl,hnv,hk⟩:=h.open
 obtain⟨na,nc,rfl,-,-,-⟩:=hnv.open
 obtain⟨ka,kc,rfl,hc,hmx,hcell⟩:=hk.form (by decide)
 have HRET:=hr1 Tryz.prog Tryz.f245 (fun(r:Ending) (w':World)=>r=.returned (.bool (fieldsB e))∧RowKit.Below w0.heap.size w0 w') 83 2 rfl
 refine en Tryz.func245 rfl Tryz.ntmps245 rfl (vs:=[.agg #[.int .i64 e.op,.int .i64 e.a,.int .i64 e.rel,.int .i64 e.b,.slice na e.names.length nc,.int .u64 e.set.a,.int .u64 e.set.b,.int .u64 e.set.c,.int .u64 e.set.d,.slice ka e.kids.length kc]]) rfl fun _ F=>?_
 have M:=Mm.start w0
 refine wp_seq_k fun K1 hK1 =>
  wk_region <|
  kbA (on rfl) rfl (F.u rf) rfl F rfl M fun g1 _ _ F M =>
  xA (v:=.bool false) F rf rf rf fun _ F =>
  wpList_nil <|
  hK1 _ _ ?_
 refine wp_seq_k fun K2 hK2 =>
  wp_seq_k fun K3 hK3 =>
  wk_region <|
  xF 0 F rf rf rf u89 rf sz3 rf fun _ F =>
  xL F (M.b 0 rfl) rf rf rf u3 rf rf fun _ F =>
  wpList_nil <|
  hK3 _ _ ?_
 refine wp_block <|
  wp_seq_k fun K4 hK4=>?_
 have J4:∀  (a:Act) (w:World),Fs a 83 [(1,.pointer (some ⟨g1,0,none⟩)),(4,.int .i64 e.op),(5,.bool (decide (e.op=2∨e.op=3∨e.op=4)))]→Mm w0 w [(g1,89,#[.int .i64 e.op,.int .i64 e.a,.int .i64 e.rel,.int .i64 e.b,.slice na e.names.length nc,.int .u64 e.set.a,.int .u64 e.set.b,.int .u64 e.set.c,.int .u64 e.set.d,.slice ka e.kids.length kc])] []→K4 a w:=by
  intro  a w F M;refine hK4 _ _ ?_
  refine wp_cond_split (F.e 5 rfl) (fun hc2=>?_) (fun hc2=>?_)
  ·
   have hd3:=of_decide_eq_true hc2
   refine wp_seq_k fun K5 hK5=>?_
   refine rd 35 [9,10,11,12,13,14,15,16,17,18,19,20,21,22,23,24,25,26,27,28,29,30,31,32,33,34,35,36,37,38,39,40,41,42,2] [isV (.pointer (some ⟨g1,9,none⟩)),isV (.slice ka e.kids.length kc),isV (.int .i64 (e.kids.length:Int)),isV (.pointer (some ⟨g1,0,none⟩)),isV (.int .i64 e.op),isV (.int .i64 (kidsM e.op)),isV (.bool (decide ((e.kids.length:Int)=kidsM e.op))),isV (.bool (decide ((e.kids.length:Int)=kidsM e.op))),isV (gd (decide ((e.kids.length:Int)=kidsM e.op)) (.pointer (some ⟨g1,1,none⟩))),isV (gd (decide ((e.kids.length:Int)=kidsM e.op)) (.int .i64 e.a)),isV (gd (decide ((e.kids.length:Int)=kidsM e.op)) (.bool (decide (e.a=0)))),isV (.bool ((decide ((e.kids.length:Int)=kidsM e.op))&&(decide (e.a=0)))),isV (.bool ((decide ((e.kids.length:Int)=kidsM e.op))&&(decide (e.a=0)))),isV (gd ((decide ((e.kids.length:Int)=kidsM e.op))&&(decide (e.a=0))) (.pointer (some ⟨g1,2,none⟩))),isV (gd ((decide ((e.kids.length:Int)=kidsM e.op))&&(decide (e.a=0))) (.int .i64 e.rel)),isV (gd ((decide ((e.kids.length:Int)=kidsM e.op))&&(decide (e.a=0))) (.bool (decide (e.rel=0)))),isV (.bool (((decide ((e.kids.length:Int)=kidsM e.op))&&(decide (e.a=0)))&&(decide (e.rel=0)))),isV (.bool (((decide ((e.kids.length:Int)=kidsM e.op))&&(decide (e.a=0)))&&(decide (e.rel=0)))),isV (gd (((decide ((e.kids.length:Int)=kidsM e.op))&&(decide (e.a=0)))&&(decide (e.rel=0))) (.pointer (some ⟨g1,3,none⟩))),isV (gd (((decide ((e.kids.length:Int)=kidsM e.op))&&(decide (e.a=0)))&&(decide (e.rel=0))) (.int .i64 e.b)),isV (gd (((decide ((e.kids.length:Int)=kidsM e.op))&&(decide (e.a=0)))&&(decide (e.rel=0))) (.bool (decide (e.b=0)))),isV (.bool ((((decide ((e.kids.length:Int)=kidsM e.op))&&(decide (e.a=0)))&&(decide (e.rel=0)))&&(decide (e.b=0)))),isV (.bool ((((decide ((e.kids.length:Int)=kidsM e.op))&&(decide (e.a=0)))&&(decide (e.rel=0)))&&(decide (e.b=0)))),isV (gd ((((decide ((e.kids.length:Int)=kidsM e.op))&&(decide (e.a=0)))&&(decide (e.rel=0)))&&(decide (e.b=0))) (.pointer (some ⟨g1,4,none⟩))),isV (gd ((((decide ((e.kids.length:Int)=kidsM e.op))&&(decide (e.a=0)))&&(decide (e.rel=0)))&&(decide (e.b=0))) (.slice na e.names.length nc)),isV (gd ((((decide ((e.kids.length:Int)=kidsM e.op))&&(decide (e.a=0)))&&(decide (e.rel=0)))&&(decide (e.b=0))) (.int .i64 (e.names.length:Int))),isV (gd ((((decide ((e.kids.length:Int)=kidsM e.op))&&(decide (e.a=0)))&&(decide (e.rel=0)))&&(decide (e.b=0))) (.bool (decide ((e.names.length:Int)=0)))),isV (.bool (((((decide ((e.kids.length:Int)=kidsM e.op))&&(decide (e.a=0)))&&(decide (e.rel=0)))&&(decide (e.b=0)))&&(decide ((e.names.length:Int)=0)))),isV (.bool (((((decide ((e.kids.length:Int)=kidsM e.op))&&(decide (e.a=0)))&&(decide (e.rel=0)))&&(decide (e.b=0)))&&(decide ((e.names.length:Int)=0)))),isV (gd (((((decide ((e.kids.length:Int)=kidsM e.op))&&(decide (e.a=0)))&&(decide (e.rel=0)))&&(decide (e.b=0)))&&(decide ((e.names.length:Int)=0))) (.pointer (some ⟨g1,5,none⟩))),isV (gd (((((decide ((e.kids.length:Int)=kidsM e.op))&&(decide (e.a=0)))&&(decide (e.rel=0)))&&(decide (e.b=0)))&&(decide ((e.names.length:Int)=0))) (.agg #[.int .u64 e.set.a,.int .u64 e.set.b,.int .u64 e.set.c,.int .u64 e.set.d])),isV (gd (((((decide ((e.kids.length:Int)=kidsM e.op))&&(decide (e.a=0)))&&(decide (e.rel=0)))&&(decide (e.b=0)))&&(decide ((e.names.length:Int)=0))) (.agg #[.int .u64 0,.int .u64 0,.int .u64 0,.int .u64 0])),isV (gd (((((decide ((e.kids.length:Int)=kidsM e.op))&&(decide (e.a=0)))&&(decide (e.rel=0)))&&(decide (e.b=0)))&&(decide ((e.names.length:Int)=0))) (.bool (decide (e.set=ASet.zero)))),isV (.bool ((((((decide ((e.kids.length:Int)=kidsM e.op))&&(decide (e.a=0)))&&(decide (e.rel=0)))&&(decide (e.b=0)))&&(decide ((e.names.length:Int)=0)))&&(decide (e.set=ASet.zero)))),isV (.bool ((((((decide ((e.kids.length:Int)=kidsM e.op))&&(decide (e.a=0)))&&(decide (e.rel=0)))&&(decide (e.b=0)))&&(decide ((e.names.length:Int)=0)))&&(decide (e.set=ASet.zero))))] (by kernel_rfl) (by kernel_rfl) (by kernel_rfl) rfl (by decide) rfl rfl F ⟨lasts_is _,lasts_is _,lasts_is _,lasts_is _,lasts_is _,lasts_is _,lasts_is _,lasts_is _,lasts_is _,lasts_is _,lasts_is _,lasts_is _,lasts_is _,lasts_is _,lasts_is _,lasts_is _,lasts_is _,lasts_is _,lasts_is _,lasts_is _,lasts_is _,lasts_is _,lasts_is _,lasts_is _,lasts_is _,lasts_is _,lasts_is _,lasts_is _,lasts_is _,lasts_is _,lasts_is _,lasts_is _,lasts_is _,lasts_is _,lasts_is _,trivial⟩ ⟨?_,?_,?_,?_,?_,?_,?_,?_,?_,?_,?_,?_,?_,?_,?_,?_,?_,?_,?_,?_,?_,?_,?_,?_,?_,?_,?_,?_,?_,?_,?_,?_,?_,?_,?_,trivial⟩ ?_
   ·exact fun a w Q' hf hi H G hK=>dv (on rfl) (e_field rfl (G 1 _ rfl (F.g 1 rfl)).ev u89 rfl sz29) rfl hf rfl hK rfl
   ·exact fun a w Q' hf hi H G hK=>dv (on rfl) (e_load1 rfl (iA (H 0 ⟨.data,by simp,rfl⟩ _ _ rfl rfl)).ev u29 rfl (((M.keep hi).b 0 rfl).c1 9)) rfl hf rfl hK rfl
   ·exact fun a w Q' hf hi H G hK=>dv (on rfl) (e_lenSl rfl (iA (H 1 ⟨.data,by simp,rfl⟩ _ _ rfl rfl)).ev u29) rfl hf rfl hK rfl
   ·exact fun a w Q' hf hi H G hK=>dv (on rfl) (e_field rfl (G 1 _ rfl (F.g 1 rfl)).ev u89 rfl sz3) rfl hf rfl hK rfl
   ·exact fun a w Q' hf hi H G hK=>dv (on rfl) (e_load1 rfl (iA (H 3 ⟨.data,by simp,rfl⟩ _ _ rfl rfl)).ev u3 rfl (((M.keep hi).b 0 rfl).c1 0)) rfl hf rfl hK rfl
   ·exact fun a w Q' hf hi H G hK=>dc (on rfl) (e_call rfl Tryz.func244 nm244 rfl (args1 (iA (H 4 ⟨.data,by simp,rfl⟩ _ _ rfl rfl)).ev)) (sm (kids_any _ e.op)) rfl hf rfl hK (fun _=>rfl)
   ·exact fun a w Q' hf hi H G hK=>dv (on rfl) (e_eqI rfl (iA (H 2 ⟨.data,by simp,rfl⟩ _ _ rfl rfl)).ev (iA (H 5 ⟨.data,by simp,rfl⟩ _ _ rfl rfl)).ev) rfl hf rfl hK rfl
   ·exact fun a w Q' hf hi H G hK=>dv (on rfl) (e_move rfl (iA (H 6 ⟨.data,by simp,rfl⟩ _ _ rfl rfl)).ev) rfl hf rfl hK rfl
   ·exact fun a w Q' hf hi H G hK=>dg1 rfl rfl (iA (H 7 ⟨.guard,by simp,rfl⟩ _ _ rfl rfl)) (bt _) (fun ge=>(e_field rfl (G 1 _ rfl (F.g 1 rfl)).ev u89 rfl sz3)) rfl hf rfl hK rfl
   ·exact fun a w Q' hf hi H G hK=>dg1 rfl rfl (iA (H 7 ⟨.guard,by simp,rfl⟩ _ _ rfl rfl)) (bt _) (fun ge=>(e_load1 rfl ((iA (H 8 ⟨.data,by simp,rfl⟩ _ _ rfl rfl)).on ge).ev u3 rfl (((M.keep hi).b 0 rfl).c1 1))) rfl hf rfl hK rfl
   ·exact fun a w Q' hf hi H G hK=>dg1 rfl rfl (iA (H 7 ⟨.guard,by simp,rfl⟩ _ _ rfl rfl)) (bt _) (fun ge=>(e_eqI rfl ((iA (H 9 ⟨.data,by simp,rfl⟩ _ _ rfl rfl)).on ge).ev rfl)) rfl hf rfl hK rfl
   ·exact fun a w Q' hf hi H G hK=>dv (on rfl) (rq (e_pick rfl (iA (H 7 ⟨.data,by simp,rfl⟩ _ _ rfl rfl)).ev (iA (H 10 ⟨.data,by simp,rfl⟩ _ _ rfl rfl)).ev rfl) (pkF _ _)) rfl hf rfl hK rfl
   ·exact fun a w Q' hf hi H G hK=>dv (on rfl) (e_move rfl (iA (H 11 ⟨.data,by simp,rfl⟩ _ _ rfl rfl)).ev) rfl hf rfl hK rfl
   ·exact fun a w Q' hf hi H G hK=>dg1 rfl rfl (iA (H 12 ⟨.guard,by simp,rfl⟩ _ _ rfl rfl)) (bt _) (fun ge=>(e_field rfl (G 1 _ rfl (F.g 1 rfl)).ev u89 rfl sz3)) rfl hf rfl hK rfl
   ·exact fun a w Q' hf hi H G hK=>dg1 rfl rfl (iA (H 12 ⟨.guard,by simp,rfl⟩ _ _ rfl rfl)) (bt _) (fun ge=>(e_load1 rfl ((iA (H 13 ⟨.data,by simp,rfl⟩ _ _ rfl rfl)).on ge).ev u3 rfl (((M.keep hi).b 0 rfl).c1 2))) rfl hf rfl hK rfl
   ·exact fun a w Q' hf hi H G hK=>dg1 rfl rfl (iA (H 12 ⟨.guard,by simp,rfl⟩ _ _ rfl rfl)) (bt _) (fun ge=>(e_eqI rfl ((iA (H 14 ⟨.data,by simp,rfl⟩ _ _ rfl rfl)).on ge).ev rfl)) rfl hf rfl hK rfl
   ·exact fun a w Q' hf hi H G hK=>dv (on rfl) (rq (e_pick rfl (iA (H 12 ⟨.data,by simp,rfl⟩ _ _ rfl rfl)).ev (iA (H 15 ⟨.data,by simp,rfl⟩ _ _ rfl rfl)).ev rfl) (pkF _ _)) rfl hf rfl hK rfl
   ·exact fun a w Q' hf hi H G hK=>dv (on rfl) (e_move rfl (iA (H 16 ⟨.data,by simp,rfl⟩ _ _ rfl rfl)).ev) rfl hf rfl hK rfl
   ·exact fun a w Q' hf hi H G hK=>dg1 rfl rfl (iA (H 17 ⟨.guard,by simp,rfl⟩ _ _ rfl rfl)) (bt _) (fun ge=>(e_field rfl (G 1 _ rfl (F.g 1 rfl)).ev u89 rfl sz3)) rfl hf rfl hK rfl
   ·exact fun a w Q' hf hi H G hK=>dg1 rfl rfl (iA (H 17 ⟨.guard,by simp,rfl⟩ _ _ rfl rfl)) (bt _) (fun ge=>(e_load1 rfl ((iA (H 18 ⟨.data,by simp,rfl⟩ _ _ rfl rfl)).on ge).ev u3 rfl (((M.keep hi).b 0 rfl).c1 3))) rfl hf rfl hK rfl
   ·exact fun a w Q' hf hi H G hK=>dg1 rfl rfl (iA (H 17 ⟨.guard,by simp,rfl⟩ _ _ rfl rfl)) (bt _) (fun ge=>(e_eqI rfl ((iA (H 19 ⟨.data,by simp,rfl⟩ _ _ rfl rfl)).on ge).ev rfl)) rfl hf rfl hK rfl
   ·exact fun a w Q' hf hi H G hK=>dv (on rfl) (rq (e_pick rfl (iA (H 17 ⟨.data,by simp,rfl⟩ _ _ rfl rfl)).ev (iA (H 20 ⟨.data,by simp,rfl⟩ _ _ rfl rfl)).ev rfl) (pkF _ _)) rfl hf rfl hK rfl
   ·exact fun a w Q' hf hi H G hK=>dv (on rfl) (e_move rfl (iA (H 21 ⟨.data,by simp,rfl⟩ _ _ rfl rfl)).ev) rfl hf rfl hK rfl
   ·exact fun a w Q' hf hi H G hK=>dg1 rfl rfl (iA (H 22 ⟨.guard,by simp,rfl⟩ _ _ rfl rfl)) (bt _) (fun ge=>(e_field rfl (G 1 _ rfl (F.g 1 rfl)).ev u89 rfl sz28)) rfl hf rfl hK rfl
   ·exact fun a w Q' hf hi H G hK=>dg1 rfl rfl (iA (H 22 ⟨.guard,by simp,rfl⟩ _ _ rfl rfl)) (bt _) (fun ge=>(e_load1 rfl ((iA (H 23 ⟨.data,by simp,rfl⟩ _ _ rfl rfl)).on ge).ev u28 rfl (((M.keep hi).b 0 rfl).c1 4))) rfl hf rfl hK rfl
   ·exact fun a w Q' hf hi H G hK=>dg1 rfl rfl (iA (H 22 ⟨.guard,by simp,rfl⟩ _ _ rfl rfl)) (bt _) (fun ge=>(e_lenSl rfl ((iA (H 24 ⟨.data,by simp,rfl⟩ _ _ rfl rfl)).on ge).ev u28)) rfl hf rfl hK rfl
   ·exact fun a w Q' hf hi H G hK=>dg1 rfl rfl (iA (H 22 ⟨.guard,by simp,rfl⟩ _ _ rfl rfl)) (bt _) (fun ge=>(e_eqI rfl ((iA (H 25 ⟨.data,by simp,rfl⟩ _ _ rfl rfl)).on ge).ev rfl)) rfl hf rfl hK rfl
   ·exact fun a w Q' hf hi H G hK=>dv (on rfl) (rq (e_pick rfl (iA (H 22 ⟨.data,by simp,rfl⟩ _ _ rfl rfl)).ev (iA (H 26 ⟨.data,by simp,rfl⟩ _ _ rfl rfl)).ev rfl) (pkF _ _)) rfl hf rfl hK rfl
   ·exact fun a w Q' hf hi H G hK=>dv (on rfl) (e_move rfl (iA (H 27 ⟨.data,by simp,rfl⟩ _ _ rfl rfl)).ev) rfl hf rfl hK rfl
   ·exact fun a w Q' hf hi H G hK=>dg1 rfl rfl (iA (H 28 ⟨.guard,by simp,rfl⟩ _ _ rfl rfl)) (bt _) (fun ge=>(e_field rfl (G 1 _ rfl (F.g 1 rfl)).ev u89 rfl sz54)) rfl hf rfl hK rfl
   ·exact fun a w Q' hf hi H G hK=>dg1 rfl rfl (iA (H 28 ⟨.guard,by simp,rfl⟩ _ _ rfl rfl)) (bt _) (fun ge=>(e_loadN [.int .u64 e.set.a,.int .u64 e.set.b,.int .u64 e.set.c,.int .u64 e.set.d] rfl ((iA (H 29 ⟨.data,by simp,rfl⟩ _ _ rfl rfl)).on ge).ev u54 rfl sz54 (whole_part ((M.keep hi).b 0 rfl) rfl))) rfl hf rfl hK rfl
   ·exact fun a w Q' hf hi H G hK=>dg1 rfl rfl (iA (H 28 ⟨.guard,by simp,rfl⟩ _ _ rfl rfl)) (bt _) (fun ge=>(e_build rfl (pv:=#[]) (by simp[]) (cells:=#[.int .u64 0,.int .u64 0,.int .u64 0,.int .u64 0]) (by kernel_rfl))) rfl hf rfl hK rfl
   ·exact fun a w Q' hf hi H G hK=>dg1 rfl rfl (iA (H 28 ⟨.guard,by simp,rfl⟩ _ _ rfl rfl)) (bt _) (fun ge=>(e_eqAg rfl ((iA (H 30 ⟨.data,by simp,rfl⟩ _ _ rfl rfl)).on ge).ev ((iA (H 31 ⟨.data,by simp,rfl⟩ _ _ rfl rfl)).on ge).ev eg54 (within_eq _ _))) rfl hf rfl hK rfl
   ·exact fun a w Q' hf hi H G hK=>dv (on rfl) (rq (e_pick rfl (iA (H 28 ⟨.data,by simp,rfl⟩ _ _ rfl rfl)).ev (iA (H 32 ⟨.data,by simp,rfl⟩ _ _ rfl rfl)).ev rfl) (pkF _ _)) rfl hf rfl hK rfl
   ·exact fun a w Q' hf hi H G hK=>dv (on rfl) (e_assign rfl (iA (H 33 ⟨.data,by simp,rfl⟩ _ _ rfl rfl)).ev) rfl hf rfl hK rfl
   (repeat clear F);intro _ _ hbq F D
   obtain⟨_,h,rfl⟩:=D 34 _ _ rfl rfl;have F:=F.add h
   have M:=M.keep hbq
   clear D hbq
   refine hK5 _ _ ?_
   refine wp_ret <|
    HRET _ _ _ _ F rfl ?_
   exact⟨ret_bool (by unfold fieldsB;refine Eq.symm ?_;repeat (first | with_reducible rfl | assumption | (with_reducible refine Eq.trans (if_pos ?_) ?_;focus (first | assumption | (refine wk_nf ?_;assumption) | (refine wk_nt ?_;assumption) | omega | (simp[hd3];done))) | (with_reducible refine Eq.trans (if_neg ?_) ?_;focus (first | assumption | (refine wk_nf ?_;assumption) | (refine wk_nt ?_;assumption) | omega | (simp[hd3];done))) | omega)),M.below⟩
  ·
   have hd4:=of_decide_eq_false hc2
   refine wp_seq_k fun K6 hK6 =>
    wk_region <|
    kz F rf (e_eqI rfl (F.u rf) rfl) fun _ F =>
    xA F rf rf rf fun _ F =>
    wpList_nil <|
    hK6 _ _ ?_
   refine wp_cond_split (F.e 43 rfl) (fun hc5=>?_) (fun hc5=>?_)
   ·
    have hd6:=of_decide_eq_true hc5
    refine wp_seq_k fun K7 hK7 =>
     wk_region <|
     xF 9 F rf rf rf u89 rf sz29 rf fun _ F =>
     xL F (M.b 0 rfl) rf rf rf u29 rf rf fun _ F =>
     kz F rf (e_lenSl rfl (F.u rf) u29) fun _ F =>
     kz F rf (e_eqI rfl (F.u rf) rfl) fun _ F =>
     xM F rf rf rf fun _ F =>
     kg1 (x:=.pointer (some ⟨g1,4,none⟩)) rfl rfl (F.g 49 rfl) (bt _) (fun ge=>(e_field rfl (F.u rf) u89 rfl sz28)) rfl F rfl rfl fun _ F =>
     kg1 (x:=.slice na e.names.length nc) rfl rfl (F.g 49 rfl) (bt _) (fun ge=>(e_load1 rfl ((F.g 50 rfl).on ge).ev u28 rfl ((M.b 0 rfl).c1 4))) rfl F rfl rfl fun _ F =>
     kg1 (x:=.int .i64 (e.names.length:Int)) rfl rfl (F.g 49 rfl) (bt _) (fun ge=>(e_lenSl rfl ((F.g 51 rfl).on ge).ev u28)) rfl F rfl rfl fun _ F =>
     kg1 (x:=.bool (decide ((e.names.length:Int)=0))) rfl rfl (F.g 49 rfl) (bt _) (fun ge=>(e_eqI rfl ((F.g 52 rfl).on ge).ev rfl)) rfl F rfl rfl fun _ F =>
     kz F rf (rq (e_pick rfl (F.u rf) (F.u rf) rfl) (pkF _ _)) fun _ F =>
     xM F rf rf rf fun _ F =>
     kg1 (x:=.pointer (some ⟨g1,5,none⟩)) rfl rfl (F.g 55 rfl) (bt _) (fun ge=>(e_field rfl (F.u rf) u89 rfl sz54)) rfl F rfl rfl fun _ F =>
     kg1 (x:=.agg #[.int .u64 e.set.a,.int .u64 e.set.b,.int .u64 e.set.c,.int .u64 e.set.d]) rfl rfl (F.g 55 rfl) (bt _) (fun ge=>(e_loadN [.int .u64 e.set.a,.int .u64 e.set.b,.int .u64 e.set.c,.int .u64 e.set.d] rfl ((F.g 56 rfl).on ge).ev u54 rfl sz54 (whole_part (M.b 0 rfl) rfl))) rfl F rfl rfl fun _ F =>
     kg1 (x:=.agg #[.int .u64 0,.int .u64 0,.int .u64 0,.int .u64 0]) rfl rfl (F.g 55 rfl) (bt _) (fun ge=>(e_build rfl (pv:=#[]) (by simp[]) (cells:=#[.int .u64 0,.int .u64 0,.int .u64 0,.int .u64 0]) (by kernel_rfl))) rfl F rfl rfl fun _ F =>
     kg1 (x:=.bool (decide (e.set=ASet.zero))) rfl rfl (F.g 55 rfl) (bt _) (fun ge=>(e_eqAg rfl ((F.g 57 rfl).on ge).ev ((F.g 58 rfl).on ge).ev eg54 (within_eq _ _))) rfl F rfl rfl fun _ F =>
     kz F rf (rq (e_pick rfl (F.u rf) (F.u rf) rfl) (pkF _ _)) fun _ F =>
     xA F rf rf rf fun _ F =>
     wpList_nil <|
     hK7 _ _ ?_
    refine wp_ret <|
     HRET _ _ _ _ F rfl ?_
    exact⟨ret_bool (by unfold fieldsB;refine Eq.symm ?_;repeat (first | with_reducible rfl | assumption | (with_reducible refine Eq.trans (if_pos ?_) ?_;focus (first | assumption | (refine wk_nf ?_;assumption) | (refine wk_nt ?_;assumption) | omega | (simp[hd6];done))) | (with_reducible refine Eq.trans (if_neg ?_) ?_;focus (first | assumption | (refine wk_nf ?_;assumption) | (refine wk_nt ?_;assumption) | omega | (simp[hd4,hd6];done))) | omega)),M.below⟩
   ·
    have hd7:=of_decide_eq_false hc5
    refine wp_seq_k fun K8 hK8 =>
     wk_region <|
     kz F rf (e_eqI rfl (F.u rf) rfl) fun _ F =>
     xA F rf rf rf fun _ F =>
     wpList_nil <|
     hK8 _ _ ?_
    refine wp_cond_split (F.e 61 rfl) (fun hc8=>?_) (fun hc8=>?_)
    ·
     have hd9:=of_decide_eq_true hc8
     refine wp_seq_k fun K9 hK9 =>
      wk_region <|
      xF 9 F rf rf rf u89 rf sz29 rf fun _ F =>
      xL F (M.b 0 rfl) rf rf rf u29 rf rf fun _ F =>
      kz F rf (e_lenSl rfl (F.u rf) u29) fun _ F =>
      kz F rf (e_eqI rfl (F.u rf) rfl) fun _ F =>
      xM F rf rf rf fun _ F =>
      kg1 (x:=.pointer (some ⟨g1,2,none⟩)) rfl rfl (F.g 67 rfl) (bt _) (fun ge=>(e_field rfl (F.u rf) u89 rfl sz3)) rfl F rfl rfl fun _ F =>
      kg1 (x:=.int .i64 e.rel) rfl rfl (F.g 67 rfl) (bt _) (fun ge=>(e_load1 rfl ((F.g 68 rfl).on ge).ev u3 rfl ((M.b 0 rfl).c1 2))) rfl F rfl rfl fun _ F =>
      kg1 (x:=.bool (decide (e.rel=0))) rfl rfl (F.g 67 rfl) (bt _) (fun ge=>(e_eqI rfl ((F.g 69 rfl).on ge).ev rfl)) rfl F rfl rfl fun _ F =>
      kz F rf (rq (e_pick rfl (F.u rf) (F.u rf) rfl) (pkF _ _)) fun _ F =>
      xM F rf rf rf fun _ F =>
      kg1 (x:=.pointer (some ⟨g1,3,none⟩)) rfl rfl (F.g 72 rfl) (bt _) (fun ge=>(e_field rfl (F.u rf) u89 rfl sz3)) rfl F rfl rfl fun _ F =>
      kg1 (x:=.int .i64 e.b) rfl rfl (F.g 72 rfl) (bt _) (fun ge=>(e_load1 rfl ((F.g 73 rfl).on ge).ev u3 rfl ((M.b 0 rfl).c1 3))) rfl F rfl rfl fun _ F =>
      kg1 (x:=.bool (decide (e.b=0))) rfl rfl (F.g 72 rfl) (bt _) (fun ge=>(e_eqI rfl ((F.g 74 rfl).on ge).ev rfl)) rfl F rfl rfl fun _ F =>
      kz F rf (rq (e_pick rfl (F.u rf) (F.u rf) rfl) (pkF _ _)) fun _ F =>
      xM F rf rf rf fun _ F =>
      kg1 (x:=.pointer (some ⟨g1,4,none⟩)) rfl rfl (F.g 77 rfl) (bt _) (fun ge=>(e_field rfl (F.u rf) u89 rfl sz28)) rfl F rfl rfl fun _ F =>
      kg1 (x:=.slice na e.names.length nc) rfl rfl (F.g 77 rfl) (bt _) (fun ge=>(e_load1 rfl ((F.g 78 rfl).on ge).ev u28 rfl ((M.b 0 rfl).c1 4))) rfl F rfl rfl fun _ F =>
      kg1 (x:=.int .i64 (e.names.length:Int)) rfl rfl (F.g 77 rfl) (bt _) (fun ge=>(e_lenSl rfl ((F.g 79 rfl).on ge).ev u28)) rfl F rfl rfl fun _ F =>
      kg1 (x:=.bool (decide ((e.names.length:Int)=0))) rfl rfl (F.g 77 rfl) (bt _) (fun ge=>(e_eqI rfl ((F.g 80 rfl).on ge).ev rfl)) rfl F rfl rfl fun _ F =>
      kz F rf (rq (e_pick rfl (F.u rf) (F.u rf) rfl) (pkF _ _)) fun _ F =>
      xA F rf rf rf fun _ F =>
      wpList_nil <|
      hK9 _ _ ?_
     refine wp_ret <|
      HRET _ _ _ _ F rfl ?_
     exact⟨ret_bool (by unfold fieldsB;refine Eq.symm ?_;repeat (first | with_reducible rfl | assumption | (with_reducible refine Eq.trans (if_pos ?_) ?_;focus (first | assumption | (refine wk_nf ?_;assumption) | (refine wk_nt ?_;assumption) | omega | (simp[hd9];done))) | (with_reducible refine Eq.trans (if_neg ?_) ?_;focus (first | assumption | (refine wk_nf ?_;assumption) | (refine wk_nt ?_;assumption) | omega | (simp[hd4,hd7,hd9];done))) | omega)),M.below⟩
    ·
     have hd10:=of_decide_eq_false hc8
     refine wp_skip <|
      hK2 _ _ ?_
     refine wp_seq_k fun K10 hK10 =>
      wk_region <|
      xA (v:=.bool false) F rf rf rf fun _ F =>
      wpList_nil <|
      hK10 _ _ ?_
     refine wp_ret <|
      HRET _ _ _ _ F rfl ?_
     exact⟨ret_bool (by unfold fieldsB;refine Eq.symm ?_;repeat (first | with_reducible rfl | assumption | (with_reducible refine Eq.trans (if_pos ?_) ?_;focus (first | assumption | (refine wk_nf ?_;assumption) | (refine wk_nt ?_;assumption) | omega | (simp[hd4,hd7,hd10];done))) | (with_reducible refine Eq.trans (if_neg ?_) ?_;focus (first | assumption | (refine wk_nf ?_;assumption) | (refine wk_nt ?_;assumption) | omega | (simp[hd4,hd7,hd10];done))) | omega)),M.below⟩
 refine wp_seq_k fun K11 hK11 =>
  wk_region <|
  kz F rf (e_eqI rfl (F.u rf) rfl) fun _ F =>
  xA F rf rf rf fun _ F =>
  wpList_nil <|
  hK11 _ _ ?_
 refine wp_cond_split (F.e 5 rfl) (fun hc11=>?_) (fun hc11=>?_)
 ·
  have hd12:=of_decide_eq_true hc11
  refine wp_skip <| ?_
  have F:=F.eq 5 rfl (congrArg Value.bool (show(decide (e.op=2):Bool)=decide (e.op=2∨e.op=3∨e.op=4) from decide_eq_decide.2 (by omega)))
  exact J4  _ _ (F.sub ⟨rfl,rfl,rfl,trivial⟩) M
 ·
  have hd13:=of_decide_eq_false hc11
  refine wp_seq_k fun K12 hK12 =>
   wk_region <|
   kz F rf (e_eqI rfl (F.u rf) rfl) fun _ F =>
   xA F rf rf rf fun _ F =>
   wpList_nil <|
   hK12 _ _ ?_
  refine wp_cond_split (F.e 5 rfl) (fun hc14=>?_) (fun hc14=>?_)
  ·
   have hd15:=of_decide_eq_true hc14
   refine wp_skip <| ?_
   have F:=F.eq 5 rfl (congrArg Value.bool (show(decide (e.op=3):Bool)=decide (e.op=2∨e.op=3∨e.op=4) from decide_eq_decide.2 (by omega)))
   exact J4  _ _ (F.sub ⟨rfl,rfl,rfl,trivial⟩) M
  ·
   have hd16:=of_decide_eq_false hc14
   refine wk_region <|
    kz F rf (e_eqI rfl (F.u rf) rfl) fun _ F =>
    xA F rf rf rf fun _ F =>
    wpList_nil <| ?_
   have F:=F.eq 5 rfl (congrArg Value.bool (show(decide (e.op=4):Bool)=decide (e.op=2∨e.op=3∨e.op=4) from decide_eq_decide.2 (by omega)))
   exact J4  _ _ (F.sub ⟨rfl,rfl,rfl,trivial⟩) M
end Go.Proofs.YtdcofoaihmongaaGreat
namespace Go.Proofs.YtdcofoaihmongaaGreat
open Go Go.RowKit
def numberM (nU nR nT k:Nat):Int:=if k%5=0 then (nU:Int) else if k%5=1 then (nR:Int) else if k%5=2 then (nT:Int) else -1
set_option maxRecDepth 100000 in
set_option maxHeartbeats 4000000 in
theorem number_any (w:World) (c0 c1 c2 c3 c4 c5 c6 c7 c8 c9 c10 c11 c12 c13 c14 c15 c16:Value) (p:APol) (hp:PolAt w c0 c1 c2 c3 c4 c5 c6 c7 c8 c9 c10 c11 c12 c13 c14 c15 c16 p) (k:Nat) (hk:k<1000):Calls Tryz.prog 247 #[.agg #[c0,c1,c2,c3,c4,c5,c6,c7,c8,c9,c10,c11,c12,c13,c14,c15,c16],.int .i64 (k:Int)] w fun e w'=>e=.returned (.int .i64 (numberM p.users.length p.roles.length p.types.length k))∧RowKit.Below w.heap.size w w':=by
 obtain⟨a1,k1,rfl,hk1,hm1⟩:=PolAt.f1 hp
 obtain⟨n1,hn1⟩:∃ n,n=p.types.length:=⟨_,rfl⟩
 have N1:=Lib.hid hn1
 rw[← hn1] at hk1 hm1 ⊢
 clear hn1
 obtain⟨a3,k3,rfl,hk3,hm3⟩:=PolAt.f3 hp
 obtain⟨n3,hn3⟩:∃ n,n=p.roles.length:=⟨_,rfl⟩
 have N3:=Lib.hid hn3
 rw[← hn3] at hk3 hm3 ⊢
 clear hn3
 obtain⟨a4,k4,rfl,hk4,hm4⟩:=PolAt.f4 hp
 obtain⟨n4,hn4⟩:∃ n,n=p.users.length:=⟨_,rfl⟩
 have N4:=Lib.hid hn4
 rw[← hn4] at hk4 hm4 ⊢
 clear hn4
 clear hp
 unfold numberM
 obtain⟨wo,hwo⟩:∃ wo,wo=(w).alloc (.cells #[c0,.slice a1 n1 k1,c2,.slice a3 n3 k3,.slice a4 n4 k4,c5,c6,c7,c8,c9,c10,c11,c12,c13,c14,c15,c16] 39):=⟨_,rfl⟩
 have W0:=Lib.hid (show Whole wo w.heap.size 39 #[c0,.slice a1 n1 k1,c2,.slice a3 n3 k3,.slice a4 n4 k4,c5,c6,c7,c8,c9,c10,c11,c12,c13,c14,c15,c16] by rw[hwo];exact(Whole.new w 39 _))
 have HBO:=Lib.hid (show RowKit.Below w.heap.size w wo by rw[hwo];exact((Below.refl _ w).alloc (Nat.le_refl _) _))
 have kp1:wo.cell? ⟨w.heap.size,1,none⟩=some (.slice a1 n1 k1):=W0.out.cell 1
 have kp3:wo.cell? ⟨w.heap.size,3,none⟩=some (.slice a3 n3 k3):=W0.out.cell 3
 have kp4:wo.cell? ⟨w.heap.size,4,none⟩=some (.slice a4 n4 k4):=W0.out.cell 4
 by_cases h0:k%5=0
 ·rw[if_pos h0]
  go_enter Tryz.func247,Tryz.ntmps247
  go_upto_region 1 with(fail)
  rw[← hwo]
  clear hwo
  go_wp2_with fail
  go_ret
  exact⟨rfl,HBO.out⟩
 ·rw[if_neg h0]
  by_cases h1:k%5=1
  ·rw[if_pos h1]
   go_enter Tryz.func247,Tryz.ntmps247
   go_upto_region 1 with(fail)
   rw[← hwo]
   clear hwo
   go_wp2_with fail
   go_ret
   exact⟨rfl,HBO.out⟩
  ·rw[if_neg h1]
   by_cases h2:k%5=2
   ·rw[if_pos h2]
    go_enter Tryz.func247,Tryz.ntmps247
    go_upto_region 1 with(fail)
    rw[← hwo]
    clear hwo
    go_wp2_with fail
    go_ret
    exact⟨rfl,HBO.out⟩
   ·rw[if_neg h2]
    have g0:¬ ((k%5:Nat):Int)=0:=by omega
    have g1:¬ ((k%5:Nat):Int)=1:=by omega
    have g2:¬ ((k%5:Nat):Int)=2:=by omega
    go_enter Tryz.func247,Tryz.ntmps247
    go_upto_region 1 with(fail)
    rw[← hwo]
    clear hwo
    go_wp2_with fail
    go_ret
    exact⟨rfl,HBO.out⟩
def compareN (er:Int) (ka kb:Nat):Int:=if 3≤ka%5∧3≤kb%5 then 0 else if ¬ ka%5=kb%5 then 13 else if (1:Int)<er then 13 else 0
def compareM (n:Nat) (e:AExp):Int:=if belowB e.a (n:Int)=false then 3 else if belowB e.b (n:Int)=false then 3 else if belowB e.rel 5=false then 3 else compareN e.rel e.a.toNat e.b.toNat
set_option maxRecDepth 100000 in
set_option maxHeartbeats 4000000 in
theorem rcompare_any (w:World) (cs:List Value) (e:AExp) (h:ExpAt w cs e) (n:Nat):Calls Tryz.prog 246 #[.agg cs.toArray,.int .i64 (n:Int)] w fun r w'=>r=.returned (.int .i64 (compareM n e))∧RowKit.Below w.heap.size w w':=by
 obtain⟨nv,kv,rfl,-,-⟩:=h.open
 obtain⟨z,hz⟩:∃ z,z=compareM n e:=⟨_,rfl⟩
 rw[← hz]
 unfold compareM at hz
 obtain⟨o,ea,er,eb,nm,s,kd⟩:=e
 change z=if belowB ea (n:Int)=false then 3 else if belowB eb (n:Int)=false then 3 else if belowB er 5=false then 3 else compareN er ea.toNat eb.toNat at hz
 show Calls Tryz.prog 246 #[.agg #[.int .i64 o,.int .i64 ea,.int .i64 er,.int .i64 eb,nv,.int .u64 s.a,.int .u64 s.b,.int .u64 s.c,.int .u64 s.d,kv],.int .i64 (n:Int)] w _
 clear h
 obtain⟨wo,hwo⟩:∃ wo,wo=(w).alloc (.cells #[.int .i64 o,.int .i64 ea,.int .i64 er,.int .i64 eb,nv,.int .u64 s.a,.int .u64 s.b,.int .u64 s.c,.int .u64 s.d,kv] 89):=⟨_,rfl⟩
 have W0:=Lib.hid (show Whole wo w.heap.size 89 #[.int .i64 o,.int .i64 ea,.int .i64 er,.int .i64 eb,nv,.int .u64 s.a,.int .u64 s.b,.int .u64 s.c,.int .u64 s.d,kv] by rw[hwo];exact(Whole.new w 89 _))
 have HBO:=Lib.hid (show RowKit.Below w.heap.size w wo by rw[hwo];exact((Below.refl _ w).alloc (Nat.le_refl _) _))
 have kx1:wo.cell? ⟨w.heap.size,1,none⟩=some (.int .i64 ea):=W0.out.cell 1
 have kx2:wo.cell? ⟨w.heap.size,2,none⟩=some (.int .i64 er):=W0.out.cell 2
 have kx3:wo.cell? ⟨w.heap.size,3,none⟩=some (.int .i64 eb):=W0.out.cell 3
 cases ha:belowB ea (n:Int) with
 | false =>
  have HV:=Lib.hid (show z=3 by rw[hz,ha];rfl)
  have HA:=Lib.hid ha
  clear hz ha
  go_enter Tryz.func246,Tryz.ntmps246
  go_upto_region 1 with(fail)
  rw[← hwo]
  clear hwo
  go_wp2_with (have hZ:=HA;clear hZ;go_at_call 113;go_must (refine(show Calls Tryz.prog 113 _ _ (fun e w'=>e=.returned (.bool false)∧wo=w') from by have h:=below_any wo ea (n:Int);rw[HA.out] at h;exact h).mono ?_;rintro e w' ⟨rfl,rfl⟩;clear HA))
  go_ret
  exact⟨ret_int HV.out.symm,HBO.out⟩
 | true =>
  rw[ha,if_neg (by decide)] at hz
  have hra:0≤ea∧ea<(n:Int):=by unfold belowB at ha;simpa using ha
  have HA:=Lib.hid ha
  clear ha
  cases hb:belowB eb (n:Int) with
  | false =>
   have HV:=Lib.hid (show z=3 by rw[hz,hb];rfl)
   have HBB:=Lib.hid hb
   clear hz hb
   go_enter Tryz.func246,Tryz.ntmps246
   go_upto_region 1 with(fail)
   rw[← hwo]
   clear hwo
   go_wp2_with (first | (have hZ:=HA;clear hZ;go_at_call 113;go_must (refine(show Calls Tryz.prog 113 _ _ (fun e w'=>e=.returned (.bool true)∧wo=w') from by have h:=below_any wo ea (n:Int);rw[HA.out] at h;exact h).mono ?_;rintro e w' ⟨rfl,rfl⟩;clear HA)) | (have hZ:=HBB;clear hZ;go_at_call 113;go_must (refine(show Calls Tryz.prog 113 _ _ (fun e w'=>e=.returned (.bool false)∧wo=w') from by have h:=below_any wo eb (n:Int);rw[HBB.out] at h;exact h).mono ?_;rintro e w' ⟨rfl,rfl⟩;clear HBB)))
   go_ret
   exact⟨ret_int HV.out.symm,HBO.out⟩
  | true =>
   rw[hb,if_neg (by decide)] at hz
   have hrb:0≤eb∧eb<(n:Int):=by unfold belowB at hb;simpa using hb
   have HBB:=Lib.hid hb
   clear hb
   cases hr:belowB er 5 with
   | false =>
    have HV:=Lib.hid (show z=3 by rw[hz,hr];rfl)
    have HR:=Lib.hid hr
    clear hz hr
    go_enter Tryz.func246,Tryz.ntmps246
    go_upto_region 1 with(fail)
    rw[← hwo]
    clear hwo
    go_wp2_with (first | (have hZ:=HA;clear hZ;go_at_call 113;go_must (refine(show Calls Tryz.prog 113 _ _ (fun e w'=>e=.returned (.bool true)∧wo=w') from by have h:=below_any wo ea (n:Int);rw[HA.out] at h;exact h).mono ?_;rintro e w' ⟨rfl,rfl⟩;clear HA)) | (have hZ:=HBB;clear hZ;go_at_call 113;go_must (refine(show Calls Tryz.prog 113 _ _ (fun e w'=>e=.returned (.bool true)∧wo=w') from by have h:=below_any wo eb (n:Int);rw[HBB.out] at h;exact h).mono ?_;rintro e w' ⟨rfl,rfl⟩;clear HBB)) | (have hZ:=HR;clear hZ;go_at_call 113;go_must (refine(show Calls Tryz.prog 113 _ _ (fun e w'=>e=.returned (.bool false)∧wo=w') from by have h:=below_any wo er 5;rw[HR.out] at h;exact h).mono ?_;rintro e w' ⟨rfl,rfl⟩;clear HR)))
    go_ret
    exact⟨ret_int HV.out.symm,HBO.out⟩
   | true =>
    rw[hr,if_neg (by decide)] at hz
    have HR:=Lib.hid hr
    clear hr
    obtain⟨ka,rfl⟩:∃ k:Nat,ea=k:=⟨ea.toNat,by omega⟩
    obtain⟨kb,rfl⟩:∃ k:Nat,eb=k:=⟨eb.toNat,by omega⟩
    rw[Int.toNat_natCast,Int.toNat_natCast] at hz
    unfold compareN at hz
    have HZ:=Lib.hid hz
    clear hz
    go_enter Tryz.func246,Tryz.ntmps246
    go_upto_region 1 with(fail)
    rw[← hwo]
    clear hwo
    go_upto_region 3 with(first | (have hZ:=HA;clear hZ;go_at_call 113;go_must (refine(show Calls Tryz.prog 113 _ _ (fun e w'=>e=.returned (.bool true)∧wo=w') from by have h:=below_any wo (ka:Int) (n:Int);rw[HA.out] at h;exact h).mono ?_;rintro e w' ⟨rfl,rfl⟩;clear HA)) | (have hZ:=HBB;clear hZ;go_at_call 113;go_must (refine(show Calls Tryz.prog 113 _ _ (fun e w'=>e=.returned (.bool true)∧wo=w') from by have h:=below_any wo (kb:Int) (n:Int);rw[HBB.out] at h;exact h).mono ?_;rintro e w' ⟨rfl,rfl⟩;clear HBB)) | (have hZ:=HR;clear hZ;go_at_call 113;go_must (refine(show Calls Tryz.prog 113 _ _ (fun e w'=>e=.returned (.bool true)∧wo=w') from by have h:=below_any wo er 5;rw[HR.out] at h;exact h).mono ?_;rintro e w' ⟨rfl,rfl⟩;clear HR)))
    clear kx1 kx2 kx3
    refine wp_region_goods [some 25,some 26,some 27,some 28,some 29,some 30,some 5] [isW (.pointer (some ⟨w.heap.size,1,none⟩)),isW (.int .i64 (ka:Int)),isW (.int .i64 ((ka%5:Nat):Int)),isW (.pointer (some ⟨w.heap.size,3,none⟩)),isW (.int .i64 (kb:Int)),isW (.int .i64 ((kb%5:Nat):Int)),isW (.int .i64 ((ka%5:Nat):Int))] (fun _ w'=>RowKit.Below wo.heap.size wo w') [] (by kernel_rfl) (by kernel_rfl) (by kernel_rfl) rfl (by decide) rfl rfl ((Below.refl _ _).drew) ⟨lastsW_is _,lastsW_is _,lastsW_is _,lastsW_is _,lastsW_is _,lastsW_is _,lastsW_is _,trivial⟩ ⟨?_,?_,?_,?_,?_,?_,?_,?_⟩
    ·intro L a wy Q' hL hi H F hK
     try dsimp only at hi
     have h2:a.tmps[2]?=some (.pointer (some ⟨w.heap.size,0,none⟩)):=F 2 rfl
     have HI:=Lib.hid hi
     clear H F hi hL
     go_wp2_with fail
     exact hK _ _ (Below.refl _ _) HI.out rfl
    ·intro L a wy Q' hL hi H F hK
     try dsimp only at hi
     obtain⟨_,h25,rfl⟩:=H 0 ⟨.data,by simp,rfl⟩ _ rfl
     replace h25:=h25 _ rfl
     have HI:=Lib.hid hi
     clear H F hi hL
     have kq0:wy.cell? ⟨w.heap.size,1,none⟩=some (.int .i64 (ka:Int)):=(Whole.under HI.out W0.out (Whole.lt W0.out)).cell 1
     go_wp2_with fail
     exact hK _ _ (Below.refl _ _) HI.out rfl
    ·intro L a wy Q' hL hi H F hK
     try dsimp only at hi
     obtain⟨_,h26,rfl⟩:=H 1 ⟨.data,by simp,rfl⟩ _ rfl
     replace h26:=h26 _ rfl
     have HI:=Lib.hid hi
     clear H F hi hL
     go_wp2_with fail
     exact hK _ _ (Below.refl _ _) HI.out rfl
    ·intro L a wy Q' hL hi H F hK
     try dsimp only at hi
     have h2:a.tmps[2]?=some (.pointer (some ⟨w.heap.size,0,none⟩)):=F 2 rfl
     have HI:=Lib.hid hi
     clear H F hi hL
     go_wp2_with fail
     exact hK _ _ (Below.refl _ _) HI.out rfl
    ·intro L a wy Q' hL hi H F hK
     try dsimp only at hi
     obtain⟨_,h28,rfl⟩:=H 3 ⟨.data,by simp,rfl⟩ _ rfl
     replace h28:=h28 _ rfl
     have HI:=Lib.hid hi
     clear H F hi hL
     have kq0:wy.cell? ⟨w.heap.size,3,none⟩=some (.int .i64 (kb:Int)):=(Whole.under HI.out W0.out (Whole.lt W0.out)).cell 3
     go_wp2_with fail
     exact hK _ _ (Below.refl _ _) HI.out rfl
    ·intro L a wy Q' hL hi H F hK
     try dsimp only at hi
     obtain⟨_,h29,rfl⟩:=H 4 ⟨.data,by simp,rfl⟩ _ rfl
     replace h29:=h29 _ rfl
     have HI:=Lib.hid hi
     clear H F hi hL
     go_wp2_with fail
     exact hK _ _ (Below.refl _ _) HI.out rfl
    ·intro L a wy Q' hL hi H F hK
     try dsimp only at hi
     obtain⟨_,h27,rfl⟩:=H 2 ⟨.data,by simp,rfl⟩ _ rfl
     replace h27:=h27 _ rfl
     have HI:=Lib.hid hi
     clear H F hi hL
     go_wp2_with fail
     exact hK _ _ (Below.refl _ _) HI.out rfl
    ·intro a wy L hl hi hL Q' hK
     try dsimp only at hi
     have HB:=Lib.hid hi
     clear hi hL
     obtain⟨_,rfl,_,rfl,_,rfl,_,rfl,_,rfl,_,rfl,_,rfl,rfl⟩:=hl
     simp only[List.setIfInBounds_toArray,List.set_cons_zero,List.set_cons_succ]
     have W1:=Lib.hid (Whole.under HB.out W0.out W0.out.lt)
     have m2:wy.cell? ⟨w.heap.size,2,none⟩=some (.int .i64 er):=W1.out.cell 2
     by_cases g1:3≤ka%5
     ·have d1:decide ((3:Int)≤((ka%5:Nat):Int))=true:=by simp;omega
      have d1n:decide (3≤ka%5)=true:=by simp;omega
      by_cases g2:3≤kb%5
      ·have HV:=Lib.hid (show z=0 by rw[HZ.out,if_pos ⟨g1,g2⟩])
       go_wp2_with fail
       go_ret
       exact⟨ret_int HV.out.symm,HBO.out.trans (HB.out.mono HBO.out.size)⟩
      ·have hz2:=HZ.out.trans (if_neg fun h=>g2 h.2)
       have g3:¬ ka%5=kb%5:=by omega
       have HV:=Lib.hid (hz2.trans (if_pos g3))
       have d3:(((ka%5:Nat):Int) != ((kb%5:Nat):Int))=true:=by simp;omega
       clear hz2 HZ
       go_wp2_with fail
       go_ret
       exact⟨ret_int HV.out.symm,HBO.out.trans (HB.out.mono HBO.out.size)⟩
     ·have d1:decide ((3:Int)≤((ka%5:Nat):Int))=false:=by simp;omega
      have d1n:decide (3≤ka%5)=false:=by simp;omega
      have hz2:=HZ.out.trans (if_neg fun h=>g1 h.1)
      by_cases g3:ka%5=kb%5
      ·have HV2:=Lib.hid (hz2.trans (if_neg fun h=>h g3))
       have d3:(((ka%5:Nat):Int) != ((kb%5:Nat):Int))=false:=by simp[g3]
       by_cases g4:(1:Int)<er
       ·have HV:=Lib.hid (HV2.out.trans (if_pos g4))
        clear hz2 HV2 HZ
        go_wp2_with fail
        go_ret
        exact⟨ret_int HV.out.symm,HBO.out.trans (HB.out.mono HBO.out.size)⟩
       ·have HV:=Lib.hid (HV2.out.trans (if_neg g4))
        clear hz2 HV2 HZ
        go_wp2_with fail
        go_ret
        exact⟨ret_int HV.out.symm,HBO.out.trans (HB.out.mono HBO.out.size)⟩
      ·have HV:=Lib.hid (hz2.trans (if_pos g3))
       have d3:(((ka%5:Nat):Int) != ((kb%5:Nat):Int))=true:=by simp;omega
       clear hz2 HZ
       go_wp2_with fail
       go_ret
       exact⟨ret_int HV.out.symm,HBO.out.trans (HB.out.mono HBO.out.size)⟩
end Go.Proofs.YtdcofoaihmongaaGreat
namespace Go.Proofs.YtdcofoaihmongaaGreat
open Go Go.RowKit
theorem AExp.Ok.set' {e:AExp} (h:e.Ok):e.set.Ok:=by cases h;assumption
theorem AExp.Ok.kids' {e:AExp} (h:e.Ok):∀ k∈e.kids,k.Ok:=by cases h;assumption
def exprSelf (nU nR nT N:Nat) (e:AExp):Option Int :=
 if fieldsB e=false then some 2
 else if e.op=8 then some (compareM N e)
 else if e.op=9 then
  (if belowB e.a (N:Int)=false then some 3
   else if numberM nU nR nT e.a.toNat<0 then some 13
   else if e.set.within (ASet.all (numberM nU nR nT e.a.toNat).toNat)=false then some 3
   else if someB e.set=false then some 2 else none)
 else none
mutual
def exprM (nU nR nT N:Nat):AExp→Int
 | .node op a rel b names set kids=>match exprSelf nU nR nT N (.node op a rel b names set kids) with
  | some r=>r
  | none=>exprL nU nR nT N kids
def exprL (nU nR nT N:Nat):List AExp→Int
 | []=>0
 | k::l=>if exprM nU nR nT N k=0 then exprL nU nR nT N l else exprM nU nR nT N k
end
theorem exprM_some {nU nR nT N:Nat} {e:AExp} {r:Int} (h:exprSelf nU nR nT N e=some r):exprM nU nR nT N e=r:=by
 cases e
 rw[exprM,h]
theorem exprM_none {nU nR nT N:Nat} {e:AExp} (h:exprSelf nU nR nT N e=none):exprM nU nR nT N e=exprL nU nR nT N e.kids:=by
 cases e
 rw[exprM,h]
 rfl
theorem exprL_drop {nU nR nT N:Nat} {l:List AExp} {k:Nat} {y:AExp} (h:l[k]?=some y):exprL nU nR nT N (l.drop k)=if exprM nU nR nT N y=0 then exprL nU nR nT N (l.drop (k+1)) else exprM nU nR nT N y:=by
 obtain⟨hk,rfl⟩:=List.getElem?_eq_some_iff.1 h
 rw[List.drop_eq_getElem_cons hk,exprL]
theorem number_le {nU nR nT:Nat} (k:Nat) {B:Nat} (h1:nU≤B) (h2:nR≤B) (h3:nT≤B):numberM nU nR nT k≤(B:Int):=by
 unfold numberM
 split
 ·omega
 ·split
  ·omega
  ·split<;>omega
set_option maxRecDepth 100000 in
set_option maxHeartbeats 4000000 in
theorem expression_any (N:Nat) (hN:N≤100):∀ e:AExp,e.Ok→∀ (w0:World) (cs:List Value) (c0 c1 c2 c3 c4 c5 c6 c7 c8 c9 c10 c11 c12 c13 c14 c15 c16:Value) (p:APol),PolAt w0 c0 c1 c2 c3 c4 c5 c6 c7 c8 c9 c10 c11 c12 c13 c14 c15 c16 p→p.Ok→ExpAt w0 cs e→Calls Tryz.prog 197 #[.agg #[c0,c1,c2,c3,c4,c5,c6,c7,c8,c9,c10,c11,c12,c13,c14,c15,c16],.agg cs.toArray,.int .i64 (N:Int)] w0 (RI w0 (exprM p.users.length p.roles.length p.types.length N e)):=by
 refine AExp.ind fun e ih=>?_
 intro he w0 cs c0 c1 c2 c3 c4 c5 c6 c7 c8 c9 c10 c11 c12 c13 c14 c15 c16 p hp hok h
 obtain⟨nv,kv,rfl,hnv,hk⟩:=h.open
 obtain⟨ka,kc,rfl,hc,hmx,hcell⟩:=hk.form (by decide)
 have HRET:=hr1 Tryz.prog Tryz.f197 (RI w0 (exprM p.users.length p.roles.length p.types.length N e)) 64 6 rfl
 refine en Tryz.func197 rfl Tryz.ntmps197 rfl (vs:=[.agg #[c0,c1,c2,c3,c4,c5,c6,c7,c8,c9,c10,c11,c12,c13,c14,c15,c16],.agg #[.int .i64 e.op,.int .i64 e.a,.int .i64 e.rel,.int .i64 e.b,nv,.int .u64 e.set.a,.int .u64 e.set.b,.int .u64 e.set.c,.int .u64 e.set.d,.slice ka e.kids.length kc],.int .i64 (N:Int)]) rfl fun _ F=>?_
 have M:=Mm.start w0
 refine wp_seq_k fun K1 hK1 =>
  wk_region <|
  kbA (on rfl) rfl (F.u rf) rfl F rfl M fun g1 _ _ F M =>
  kbA (on rfl) rfl (F.u rf) rfl F rfl M fun g2 _ _ F M =>
  xA (v:=.int .i64 0) F rf rf rf fun _ F =>
  wpList_nil <|
  hK1 _ _ ?_
 refine wp_seq_k fun K2 hK2 =>
  wp_seq_k fun K3 hK3 =>
  wk_region <|
  xW F (M.b 0 rfl) rf rf rf u89 rf sz89 rf fun _ F =>
  xC F M rf rf q245 (args1 (F.u rf)) (fields_any _ _ e (ExpAt.keep M.below h)) fun _ _ F M =>
  kz F rf (e_not rfl (F.u rf)) fun _ F =>
  wpList_nil <|
  hK3 _ _ ?_
 refine wp_cond_split (F.e 14 rfl) (fun hc3=>?_) (fun hc3=>?_)
 ·
  have hd4:(fieldsB e)=false:=by simpa using hc3
  refine wp_seq_k fun K4 hK4 =>
   wk_region <|
   xA (v:=.int .i64 2) F rf rf rf fun _ F =>
   wpList_nil <|
   hK4 _ _ ?_
  refine wp_ret <|
   HRET _ _ _ _ F rfl ?_
  exact⟨ret_int (exprM_some (r:=2) (by unfold exprSelf;repeat (first | with_reducible rfl | assumption | (with_reducible refine Eq.trans (if_pos ?_) ?_;focus (first | assumption | (refine wk_nf ?_;assumption) | (refine wk_nt ?_;assumption) | omega | (simp[hd4];done))) | (with_reducible refine Eq.trans (if_neg ?_) ?_;focus (first | assumption | (refine wk_nf ?_;assumption) | (refine wk_nt ?_;assumption) | omega | (simp[hd4];done))) | omega))).symm,M.below⟩
 ·
  have hd5:(fieldsB e)=true:=by simpa using hc3
  refine wp_skip <|
   hK2 _ _ ?_
  refine wp_seq_k fun K5 hK5 =>
   wp_seq_k fun K6 hK6 =>
   wk_region <|
   xF 0 F rf rf rf u89 rf sz3 rf fun _ F =>
   xL F (M.b 0 rfl) rf rf rf u3 rf rf fun _ F =>
   kz F rf (e_eqI rfl (F.u rf) rfl) fun _ F =>
   wpList_nil <|
   hK6 _ _ ?_
  refine wp_cond_split (F.e 17 rfl) (fun hc6=>?_) (fun hc6=>?_)
  ·
   have hd7:=of_decide_eq_true hc6
   refine wp_seq_k fun K7 hK7 =>
    wk_region <|
    xW F (M.b 0 rfl) rf rf rf u89 rf sz89 rf fun _ F =>
    xM F rf rf rf fun _ F =>
    xC F M rf rf q246 (args2 (F.u rf) (F.u rf)) (rcompare_any _ _ e (ExpAt.keep M.below h) N) fun _ _ F M =>
    xA F rf rf rf fun _ F =>
    wpList_nil <|
    hK7 _ _ ?_
   refine wp_ret <|
    HRET _ _ _ _ F rfl ?_
   exact⟨ret_int (exprM_some (r:=compareM N e) (by unfold exprSelf;repeat (first | with_reducible rfl | assumption | (with_reducible refine Eq.trans (if_pos ?_) ?_;focus (first | assumption | (refine wk_nf ?_;assumption) | (refine wk_nt ?_;assumption) | omega | (simp[hd5];done))) | (with_reducible refine Eq.trans (if_neg ?_) ?_;focus (first | assumption | (refine wk_nf ?_;assumption) | (refine wk_nt ?_;assumption) | omega | (simp[hd5,hd7];done))) | omega))).symm,M.below⟩
  ·
   have hd8:=of_decide_eq_false hc6
   refine wp_skip <|
    hK5 _ _ ?_
   refine wp_seq_k fun K8 hK8=>?_
   have J8:∀  (a:Act) (w:World),Fs a 64 [(2,.int .i64 (N:Int)),(3,.pointer (some ⟨g1,0,none⟩)),(4,.pointer (some ⟨g2,0,none⟩))]→Mm w0 w [(g2,89,#[.int .i64 e.op,.int .i64 e.a,.int .i64 e.rel,.int .i64 e.b,nv,.int .u64 e.set.a,.int .u64 e.set.b,.int .u64 e.set.c,.int .u64 e.set.d,.slice ka e.kids.length kc]),(g1,39,#[c0,c1,c2,c3,c4,c5,c6,c7,c8,c9,c10,c11,c12,c13,c14,c15,c16])] []→exprSelf p.users.length p.roles.length p.types.length N e=none→K8 a w:=by
    intro  a w F M hno;refine hK8 _ _ ?_
    refine wp_seq_k fun K9 hK9 =>
     wp_seq_k fun K10 hK10 =>
     wk_region <|
     xA (v:=.int .i64 0) F rf rf rf fun _ F =>
     wpList_nil <|
     hK10 _ _ ?_
    refine wp_block <| ?_
    refine wk_loop (ι:=Nat) (fun m a w=>Fs a 64 [(2,.int .i64 (N:Int)),(3,.pointer (some ⟨g1,0,none⟩)),(4,.pointer (some ⟨g2,0,none⟩)),(10,.int .i64 (m:Int))]∧Mm w0 w [(g2,89,#[.int .i64 e.op,.int .i64 e.a,.int .i64 e.rel,.int .i64 e.b,nv,.int .u64 e.set.a,.int .u64 e.set.b,.int .u64 e.set.c,.int .u64 e.set.d,.slice ka e.kids.length kc]),(g1,39,#[c0,c1,c2,c3,c4,c5,c6,c7,c8,c9,c10,c11,c12,c13,c14,c15,c16])] []∧m≤e.kids.length∧exprL p.users.length p.roles.length p.types.length N e.kids=exprL p.users.length p.roles.length p.types.length N (e.kids.drop m)) (fun m=>e.kids.length-m) 0 ⟨F.sub ⟨rfl,rfl,rfl,rfl,trivial⟩,M,Nat.zero_le _,rfl⟩ ?_
    (repeat clear F);(repeat clear M)
    rintro m _ _ ⟨F,M,hm,hinv⟩
    refine wp_seq_k fun K11 hK11 =>
     wp_seq_k fun K12 hK12 =>
     wk_region <|
     xM F rf rf rf fun _ F =>
     xF 9 F rf rf rf u89 rf sz29 rf fun _ F =>
     xL F (M.b 0 rfl) rf rf rf u29 rf rf fun _ F =>
     kz F rf (e_lenSl rfl (F.u rf) u29) fun _ F =>
     kz F rf (e_lss rfl (F.u rf) (F.u rf)) fun _ F =>
     wpList_nil <|
     hK12 _ _ ?_
    refine wp_cond_split (F.e 50 rfl) (fun hc9=>?_) (fun hc9=>?_)
    ·
     have hd10:=of_decide_eq_true hc9
     refine wp_skip <|
      hK11 _ _ ?_
     refine wp_seq_k fun K13 hK13 =>
      wp_block <|
      wp_seq_k fun K14 hK14=>?_
     have hlt:m<e.kids.length:=by omega
     obtain⟨y,hy⟩:∃ y,e.kids[m]?=some y:=⟨_,List.getElem?_eq_getElem hlt⟩
     obtain⟨b8,ob8,cs8,rfl,heb,hnb,hrb⟩:=hcell m y hy
     refine rd 9 [53,54,55,56,57,58,59,60,11] [isV (.agg #[c0,c1,c2,c3,c4,c5,c6,c7,c8,c9,c10,c11,c12,c13,c14,c15,c16]),isV (.pointer (some ⟨g2,9,none⟩)),isV (.slice (some ⟨b8,ob8,none⟩) e.kids.length kc),isV (.int .i64 (m:Int)),isV (.pointer (some ⟨b8,ob8+m*10,none⟩)),isV (.agg cs8.toArray),isV (.int .i64 (N:Int)),isV (.int .i64 (exprM p.users.length p.roles.length p.types.length N y)),isV (.int .i64 (exprM p.users.length p.roles.length p.types.length N y))] (by kernel_rfl) (by kernel_rfl) (by kernel_rfl) rfl (by decide) rfl rfl F ⟨lasts_is _,lasts_is _,lasts_is _,lasts_is _,lasts_is _,lasts_is _,lasts_is _,lasts_is _,lasts_is _,trivial⟩ ⟨?_,?_,?_,?_,?_,?_,?_,?_,?_,trivial⟩ ?_
     ·exact fun a w Q' hf hi H G hK=>dv (on rfl) (e_loadW rfl (G 3 _ rfl (F.g 3 rfl)).ev u39 rfl ((M.keep hi).b 1 rfl) sz39 rfl) rfl hf rfl hK rfl
     ·exact fun a w Q' hf hi H G hK=>dv (on rfl) (e_field rfl (G 4 _ rfl (F.g 4 rfl)).ev u89 rfl sz29) rfl hf rfl hK rfl
     ·exact fun a w Q' hf hi H G hK=>dv (on rfl) (e_load1 rfl (iA (H 1 ⟨.data,by simp,rfl⟩ _ _ rfl rfl)).ev u29 rfl (((M.keep hi).b 0 rfl).c1 9)) rfl hf rfl hK rfl
     ·exact fun a w Q' hf hi H G hK=>dv (on rfl) (e_move rfl (G 10 _ rfl (F.g 10 rfl)).ev) rfl hf rfl hK rfl
     ·exact fun a w Q' hf hi H G hK=>dv (on rfl) (e_indexAddr (i:=m) rfl (iA (H 2 ⟨.data,by simp,rfl⟩ _ _ rfl rfl)).ev (iA (H 3 ⟨.data,by simp,rfl⟩ _ _ rfl rfl)).ev (by omega) u29 sz89) rfl hf rfl hK rfl
     ·exact fun a w Q' hf hi H G hK=>dv (on rfl) (e_loadN cs8 rfl (iA (H 4 ⟨.data,by simp,rfl⟩ _ _ rfl rfl)).ev u89 rfl (by rw[hnb];exact sz89) (lat (M.keep hi).below hrb)) rfl hf rfl hK rfl
     ·exact fun a w Q' hf hi H G hK=>dv (on rfl) (e_move rfl (G 2 _ rfl (F.g 2 rfl)).ev) rfl hf rfl hK rfl
     ·exact fun a w Q' hf hi H G hK=>dc (on rfl) (e_call rfl Tryz.func197 nm197 rfl (args3 (iA (H 0 ⟨.data,by simp,rfl⟩ _ _ rfl rfl)).ev (iA (H 5 ⟨.data,by simp,rfl⟩ _ _ rfl rfl)).ev (iA (H 6 ⟨.data,by simp,rfl⟩ _ _ rfl rfl)).ev)) (ih y (List.mem_of_getElem? hy) (he.kids' y (List.mem_of_getElem? hy)) _ _ _ _ _ _ _ _ _ _ _ _ _ _ _ _ _ _ _ p (hp.keep (M.keep hi).below) hok (ExpAt.keep (M.keep hi).below heb)) rfl hf rfl hK (fun _=>rfl)
     ·exact fun a w Q' hf hi H G hK=>dv (on rfl) (e_assign rfl (iA (H 7 ⟨.data,by simp,rfl⟩ _ _ rfl rfl)).ev) rfl hf rfl hK rfl
     (repeat clear F);intro _ _ hbq F D
     obtain⟨_,h,rfl⟩:=D 8 _ _ rfl rfl;have F:=F.add h
     have M:=M.keep hbq
     clear D hbq
     refine hK14 _ _ ?_
     refine wp_seq_k fun K15 hK15 =>
      wk_region <|
      xM F rf rf rf fun _ F =>
      kz F rf (e_neI rfl (F.u rf) rfl) fun _ F =>
      wpList_nil <|
      hK15 _ _ ?_
     refine wp_cond_split (F.e 62 rfl) (fun hc11=>?_) (fun hc11=>?_)
     ·
      have hd12:=of_decide_eq_false (show decide (exprM p.users.length p.roles.length p.types.length N y=0)=false by simpa using hc11)
      have hk13:(decide (exprM p.users.length p.roles.length p.types.length N y=0))=false:=by simpa using hc11
      refine wp_seq_k fun K16 hK16 =>
       wk_region <|
       xM F rf rf rf fun _ F =>
       xA F rf rf rf fun _ F =>
       wpList_nil <|
       hK16 _ _ ?_
      refine wp_ret <|
       HRET _ _ _ _ F rfl ?_
      exact⟨ret_int (by rw[exprM_none hno,hinv,exprL_drop hy,if_neg (by omega)]),M.below⟩
     ·
      have hd14:=of_decide_eq_true (show decide (exprM p.users.length p.roles.length p.types.length N y=0)=true by simpa using hc11)
      have hk15:(decide (exprM p.users.length p.roles.length p.types.length N y=0))=true:=by simpa using hc11
      refine wp_skip <|
       hK13 _ _ ?_
      refine wk_region <|
       xM F rf rf rf fun _ F =>
       ke (on rfl) (e_add rfl (F.u rf) rfl) rfl F rfl (congrArg (Value.int .i64) (wrap_i64 (by omega))) fun _ F =>
       xA F rf rf rf fun _ F =>
       wpList_nil <| ?_
      have hv:exprM p.users.length p.roles.length p.types.length N y=0:=by omega
      exact⟨m+1,⟨F.sub ⟨rfl,rfl,rfl,rfl,trivial⟩,M,by omega,hinv.trans (by rw[exprL_drop hy,if_pos hv])⟩,by show e.kids.length-(m+1)<e.kids.length-m;omega⟩
    ·
     have hd16:=of_decide_eq_false hc9
     refine wp_exit <|
      hK9 _ _ ?_
     refine wp_seq_k fun K17 hK17 =>
      wk_region <|
      xA (v:=.int .i64 0) F rf rf rf fun _ F =>
      wpList_nil <|
      hK17 _ _ ?_
     refine wp_ret <|
      HRET _ _ _ _ F rfl ?_
     exact⟨ret_int (by rw[exprM_none hno,hinv,show m=e.kids.length by omega,List.drop_length];rfl),M.below⟩
   refine wp_seq_k fun K18 hK18 =>
    wk_region <|
    xF 0 F rf rf rf u89 rf sz3 rf fun _ F =>
    xL F (M.b 0 rfl) rf rf rf u3 rf rf fun _ F =>
    kz F rf (e_eqI rfl (F.u rf) rfl) fun _ F =>
    wpList_nil <|
    hK18 _ _ ?_
   refine wp_cond_split (F.e 23 rfl) (fun hc17=>?_) (fun hc17=>?_)
   ·
    have hd18:=of_decide_eq_true hc17
    refine wp_seq_k fun K19 hK19 =>
     wp_seq_k fun K20 hK20 =>
     wk_region <|
     xF 1 F rf rf rf u89 rf sz3 rf fun _ F =>
     xL F (M.b 0 rfl) rf rf rf u3 rf rf fun _ F =>
     xM F rf rf rf fun _ F =>
     xQ F rf rf q113 (args2 (F.u rf) (F.u rf)) (below_any _ e.a (N:Int)) fun _ F =>
     kz F rf (e_not rfl (F.u rf)) fun _ F =>
     wpList_nil <|
     hK20 _ _ ?_
    refine wp_cond_split (F.e 28 rfl) (fun hc19=>?_) (fun hc19=>?_)
    ·
     have hd20:(belowB e.a (N:Int))=false:=by simpa using hc19
     refine wp_seq_k fun K21 hK21 =>
      wk_region <|
      xA (v:=.int .i64 3) F rf rf rf fun _ F =>
      wpList_nil <|
      hK21 _ _ ?_
     refine wp_ret <|
      HRET _ _ _ _ F rfl ?_
     exact⟨ret_int (exprM_some (r:=3) (by unfold exprSelf;repeat (first | with_reducible rfl | assumption | (with_reducible refine Eq.trans (if_pos ?_) ?_;focus (first | assumption | (refine wk_nf ?_;assumption) | (refine wk_nt ?_;assumption) | omega | (simp[hd5,hd18];done))) | (with_reducible refine Eq.trans (if_neg ?_) ?_;focus (first | assumption | (refine wk_nf ?_;assumption) | (refine wk_nt ?_;assumption) | omega | (simp[hd5,hd8,hd18,hd20];done))) | omega))).symm,M.below⟩
    ·
     have hd21:(belowB e.a (N:Int))=true:=by simpa using hc19
     refine wp_skip <|
      hK19 _ _ ?_
     refine wp_seq_k fun K22 hK22 =>
      wk_region <|
      xW F (M.b 1 rfl) rf rf rf u39 rf sz39 rf fun _ F =>
      xF 1 F rf rf rf u89 rf sz3 rf fun _ F =>
      xL F (M.b 0 rfl) rf rf rf u3 rf rf fun _ F=>?_
     have hea:(e.a.toNat:Int)=e.a:=by
      have hb:belowB e.a (N:Int)=true:=by assumption
      unfold belowB at hb;simp at hb;omega
     have hea2:e.a.toNat<1000:=by
      have hb:belowB e.a (N:Int)=true:=by assumption
      unfold belowB at hb;simp at hb;omega
     refine xC F M rf rf q247 (args2 (F.u rf) (F.u rf)) ((hea▸number_any _ _ _ _ _ _ _ _ _ _ _ _ _ _ _ _ _ _ p (hp.keep M.below) e.a.toNat hea2 :)) fun _ _ F M =>
      xA F rf rf rf fun _ F =>
      wpList_nil <|
      hK22 _ _ ?_
     refine wp_seq_k fun K23 hK23 =>
      wp_seq_k fun K24 hK24 =>
      wk_region <|
      xM F rf rf rf fun _ F =>
      kz F rf (e_lss rfl (F.u rf) rfl) fun _ F =>
      wpList_nil <|
      hK24 _ _ ?_
     refine wp_cond_split (F.e 34 rfl) (fun hc22=>?_) (fun hc22=>?_)
     ·
      have hd23:=of_decide_eq_true hc22
      refine wp_seq_k fun K25 hK25 =>
       wk_region <|
       xA (v:=.int .i64 13) F rf rf rf fun _ F =>
       wpList_nil <|
       hK25 _ _ ?_
      refine wp_ret <|
       HRET _ _ _ _ F rfl ?_
      exact⟨ret_int (exprM_some (r:=13) (by unfold exprSelf;repeat (first | with_reducible rfl | assumption | (with_reducible refine Eq.trans (if_pos ?_) ?_;focus (first | assumption | (refine wk_nf ?_;assumption) | (refine wk_nt ?_;assumption) | omega | (simp[hd5,hd18,hd21];done))) | (with_reducible refine Eq.trans (if_neg ?_) ?_;focus (first | assumption | (refine wk_nf ?_;assumption) | (refine wk_nt ?_;assumption) | omega | (simp[hd5,hd8,hd18,hd21,hd23];done))) | omega))).symm,M.below⟩
     ·
      have hd24:=of_decide_eq_false hc22
      refine wp_skip <|
       hK23 _ _ ?_
      refine wp_seq_k fun K26 hK26 =>
       wk_region <|
       xF 5 F rf rf rf u89 rf sz54 rf fun _ F =>
       kz F rf (e_loadN [.int .u64 e.set.a,.int .u64 e.set.b,.int .u64 e.set.c,.int .u64 e.set.d] rfl (F.u rf) u54 rfl sz54 (whole_part (M.b 0 rfl) rfl)) fun _ F =>
       xM F rf rf rf fun _ F=>?_
      have hnn:((numberM p.users.length p.roles.length p.types.length e.a.toNat).toNat:Int)=numberM p.users.length p.roles.length p.types.length e.a.toNat:=by omega
      have hnb:=number_le (nU:=p.users.length) (nR:=p.roles.length) (nT:=p.types.length) e.a.toNat hok.usersL hok.rolesL hok.typesL
      skip
      refine xC F M rf rf q103 (args2 (F.u rf) (F.u rf)) ((hnn▸some_any _ e.set he.set' (numberM p.users.length p.roles.length p.types.length e.a.toNat).toNat (show Big _ by unfold Big;omega) :)) fun _ _ F M =>
       xM F rf rf rf fun _ F =>
       kz F rf (e_extract rfl (F.u rf) rfl) fun _ F =>
       kz F rf (e_extract rfl (F.u rf) rfl) fun _ F =>
       xA F rf rf rf fun _ F =>
       xA F rf rf rf fun _ F =>
       wpList_nil <|
       hK26 _ _ ?_
      refine wp_seq_k fun K27 hK27 =>
       wp_seq_k fun K28 hK28 =>
       wk_region <|
       xM F rf rf rf fun _ F =>
       kz F rf (e_not rfl (F.u rf)) fun _ F =>
       wpList_nil <|
       hK28 _ _ ?_
      refine wp_cond_split (F.e 43 rfl) (fun hc25=>?_) (fun hc25=>?_)
      ·
       have hd26:(e.set.within (ASet.all (numberM p.users.length p.roles.length p.types.length e.a.toNat).toNat))=false:=by simpa using hc25
       refine wp_seq_k fun K29 hK29 =>
        wk_region <|
        xA (v:=.int .i64 3) F rf rf rf fun _ F =>
        wpList_nil <|
        hK29 _ _ ?_
       refine wp_ret <|
        HRET _ _ _ _ F rfl ?_
       exact⟨ret_int (exprM_some (r:=3) (by unfold exprSelf;repeat (first | with_reducible rfl | assumption | (with_reducible refine Eq.trans (if_pos ?_) ?_;focus (first | assumption | (refine wk_nf ?_;assumption) | (refine wk_nt ?_;assumption) | omega | (simp[hd5,hd18,hd21,hd24];done))) | (with_reducible refine Eq.trans (if_neg ?_) ?_;focus (first | assumption | (refine wk_nf ?_;assumption) | (refine wk_nt ?_;assumption) | omega | (simp[hd5,hd8,hd18,hd21,hd24,hd26];done))) | omega))).symm,M.below⟩
      ·
       have hd27:(e.set.within (ASet.all (numberM p.users.length p.roles.length p.types.length e.a.toNat).toNat))=true:=by simpa using hc25
       refine wp_skip <|
        hK27 _ _ ?_
       refine wp_seq_k fun K30 hK30 =>
        wk_region <|
        xM F rf rf rf fun _ F =>
        kz F rf (e_not rfl (F.u rf)) fun _ F =>
        wpList_nil <|
        hK30 _ _ ?_
       refine wp_cond_split (F.e 45 rfl) (fun hc28=>?_) (fun hc28=>?_)
       ·
        have hd29:(someB e.set)=false:=by simpa using hc28
        refine wp_seq_k fun K31 hK31 =>
         wk_region <|
         xA (v:=.int .i64 2) F rf rf rf fun _ F =>
         wpList_nil <|
         hK31 _ _ ?_
        refine wp_ret <|
         HRET _ _ _ _ F rfl ?_
        exact⟨ret_int (exprM_some (r:=2) (by unfold exprSelf;repeat (first | with_reducible rfl | assumption | (with_reducible refine Eq.trans (if_pos ?_) ?_;focus (first | assumption | (refine wk_nf ?_;assumption) | (refine wk_nt ?_;assumption) | omega | (simp[hd5,hd18,hd21,hd24,hd27];done))) | (with_reducible refine Eq.trans (if_neg ?_) ?_;focus (first | assumption | (refine wk_nf ?_;assumption) | (refine wk_nt ?_;assumption) | omega | (simp[hd5,hd8,hd18,hd21,hd24,hd27,hd29];done))) | omega))).symm,M.below⟩
       ·
        have hd30:(someB e.set)=true:=by simpa using hc28
        refine wp_skip <| ?_
        exact J8  _ _ (F.sub ⟨rfl,rfl,rfl,trivial⟩) M (by unfold exprSelf;repeat (first | with_reducible rfl | assumption | (with_reducible refine Eq.trans (if_pos ?_) ?_;focus (first | assumption | (refine wk_nf ?_;assumption) | (refine wk_nt ?_;assumption) | omega | (simp[hd5,hd18,hd21,hd24,hd27,hd30];done))) | (with_reducible refine Eq.trans (if_neg ?_) ?_;focus (first | assumption | (refine wk_nf ?_;assumption) | (refine wk_nt ?_;assumption) | omega | (simp[hd5,hd8,hd18,hd21,hd24,hd27,hd30];done))) | omega))
   ·
    have hd31:=of_decide_eq_false hc17
    refine wp_skip <| ?_
    exact J8  _ _ (F.sub ⟨rfl,rfl,rfl,trivial⟩) M (by unfold exprSelf;repeat (first | with_reducible rfl | assumption | (with_reducible refine Eq.trans (if_pos ?_) ?_;focus (first | assumption | (refine wk_nf ?_;assumption) | (refine wk_nt ?_;assumption) | omega | (simp[hd5,hd8,hd31];done))) | (with_reducible refine Eq.trans (if_neg ?_) ?_;focus (first | assumption | (refine wk_nf ?_;assumption) | (refine wk_nt ?_;assumption) | omega | (simp[hd5,hd8,hd31];done))) | omega))
def expressionM (nU nR nT:Nat) (v:Bool) (e:AExp):Int:=if (12:Int)<levelsM 13 e then 4 else if v=true then exprM nU nR nT 15 e else exprM nU nR nT 10 e
set_option maxRecDepth 100000 in
set_option maxHeartbeats 4000000 in
theorem Expression_any (e:AExp) (he:e.Ok) (w0:World) (cs:List Value) (c0 c1 c2 c3 c4 c5 c6 c7 c8 c9 c10 c11 c12 c13 c14 c15 c16:Value) (p:APol) (hp:PolAt w0 c0 c1 c2 c3 c4 c5 c6 c7 c8 c9 c10 c11 c12 c13 c14 c15 c16 p) (hok:p.Ok) (h:ExpAt w0 cs e) (v:Bool):Calls Tryz.prog 115 #[.agg #[c0,c1,c2,c3,c4,c5,c6,c7,c8,c9,c10,c11,c12,c13,c14,c15,c16],.agg cs.toArray,.bool v] w0 (RI w0 (expressionM p.users.length p.roles.length p.types.length v e)):=by
 obtain⟨nv,kv,rfl,-,-⟩:=h.open
 have HRET:=hr1 Tryz.prog Tryz.f115 (RI w0 (expressionM p.users.length p.roles.length p.types.length v e)) 17 6 rfl
 refine en Tryz.func115 rfl Tryz.ntmps115 rfl (vs:=[.agg #[c0,c1,c2,c3,c4,c5,c6,c7,c8,c9,c10,c11,c12,c13,c14,c15,c16],.agg #[.int .i64 e.op,.int .i64 e.a,.int .i64 e.rel,.int .i64 e.b,nv,.int .u64 e.set.a,.int .u64 e.set.b,.int .u64 e.set.c,.int .u64 e.set.d,kv],.bool v]) rfl fun _ F=>?_
 have M:=Mm.start w0
 refine wp_seq_k fun K1 hK1 =>
  wk_region <|
  kbA (on rfl) rfl (F.u rf) rfl F rfl M fun g1 _ _ F M =>
  kbA (on rfl) rfl (F.u rf) rfl F rfl M fun g2 _ _ F M =>
  xA (v:=.int .i64 0) F rf rf rf fun _ F =>
  wpList_nil <|
  hK1 _ _ ?_
 refine wp_seq_k fun K2 hK2 =>
  wp_seq_k fun K3 hK3 =>
  wk_region <|
  xW F (M.b 0 rfl) rf rf rf u89 rf sz89 rf fun _ F =>
  xC F M rf rf q39 (args1 (F.u rf)) (Levels_any _ _ e (ExpAt.keep M.below h)) fun _ _ F M =>
  kz F rf (e_gtr rfl (F.u rf) rfl) fun _ F =>
  wpList_nil <|
  hK3 _ _ ?_
 refine wp_cond_split (F.e 9 rfl) (fun hc3=>?_) (fun hc3=>?_)
 ·
  have hd4:=of_decide_eq_true hc3
  refine wp_seq_k fun K4 hK4 =>
   wk_region <|
   xA (v:=.int .i64 4) F rf rf rf fun _ F =>
   wpList_nil <|
   hK4 _ _ ?_
  refine wp_ret <|
   HRET _ _ _ _ F rfl ?_
  exact⟨ret_int (by unfold expressionM;refine Eq.symm ?_;repeat (first | with_reducible rfl | assumption | (with_reducible refine Eq.trans (if_pos ?_) ?_;focus (first | assumption | (refine wk_nf ?_;assumption) | (refine wk_nt ?_;assumption) | omega | (simp[hd4];done))) | (with_reducible refine Eq.trans (if_neg ?_) ?_;focus (first | assumption | (refine wk_nf ?_;assumption) | (refine wk_nt ?_;assumption) | omega | (simp[hd4];done))) | omega)),M.below⟩
 ·
  have hd5:=of_decide_eq_false hc3
  refine wp_skip <|
   hK2 _ _ ?_
  refine wp_seq_k fun K5 hK5 =>
   wp_seq_k fun K6 hK6 =>
   wk_region <|
   xM F rf rf rf fun _ F =>
   wpList_nil <|
   hK6 _ _ ?_
  refine wp_cond_split (F.e 10 rfl) (fun hc6=>?_) (fun hc6=>?_)
  ·
   refine wp_seq_k fun K7 hK7 =>
    wk_region <|
    xW F (M.b 1 rfl) rf rf rf u39 rf sz39 rf fun _ F =>
    xW F (M.b 0 rfl) rf rf rf u89 rf sz89 rf fun _ F =>
    xC F M rf rf q197 (args3 (F.u rf) (F.u rf) rfl) (expression_any 15 (by decide) e he _ _ _ _ _ _ _ _ _ _ _ _ _ _ _ _ _ _ _ p (hp.keep M.below) hok (ExpAt.keep M.below h)) fun _ _ F M =>
    xA F rf rf rf fun _ F =>
    wpList_nil <|
    hK7 _ _ ?_
   refine wp_ret <|
    HRET _ _ _ _ F rfl ?_
   exact⟨ret_int (by unfold expressionM;refine Eq.symm ?_;repeat (first | with_reducible rfl | assumption | (with_reducible refine Eq.trans (if_pos ?_) ?_;focus (first | assumption | (refine wk_nf ?_;assumption) | (refine wk_nt ?_;assumption) | omega | (simp[hd5];done))) | (with_reducible refine Eq.trans (if_neg ?_) ?_;focus (first | assumption | (refine wk_nf ?_;assumption) | (refine wk_nt ?_;assumption) | omega | (simp[hd5,hc6];done))) | omega)),M.below⟩
  ·
   refine wp_skip <|
    hK5 _ _ ?_
   refine wp_seq_k fun K8 hK8 =>
    wk_region <|
    xW F (M.b 1 rfl) rf rf rf u39 rf sz39 rf fun _ F =>
    xW F (M.b 0 rfl) rf rf rf u89 rf sz89 rf fun _ F =>
    xC F M rf rf q197 (args3 (F.u rf) (F.u rf) rfl) (expression_any 10 (by decide) e he _ _ _ _ _ _ _ _ _ _ _ _ _ _ _ _ _ _ _ p (hp.keep M.below) hok (ExpAt.keep M.below h)) fun _ _ F M =>
    xA F rf rf rf fun _ F =>
    wpList_nil <|
    hK8 _ _ ?_
   refine wp_ret <|
    HRET _ _ _ _ F rfl ?_
   exact⟨ret_int (by unfold expressionM;refine Eq.symm ?_;repeat (first | with_reducible rfl | assumption | (with_reducible refine Eq.trans (if_pos ?_) ?_;focus (first | assumption | (refine wk_nf ?_;assumption) | (refine wk_nt ?_;assumption) | omega | (simp[hd5,hc6];done))) | (with_reducible refine Eq.trans (if_neg ?_) ?_;focus (first | assumption | (refine wk_nf ?_;assumption) | (refine wk_nt ?_;assumption) | omega | (simp[hd5,hc6];done))) | omega)),M.below⟩
end Go.Proofs.YtdcofoaihmongaaGreat
namespace Go.Proofs.YtdcofoaihmongaaGreat
open Go Go.RowKit
def ruleOut (ok ig vc cd:Bool):Bool:=!ok||!ig||!vc||!cd
def ruleArg (sa sb:Bool) (r:ARule):Bool:=!sa||(!sb&&!r.self)||decide (r.perms=0)||(decide (r.kind=4)&&!(decide (r.cond=0)))
def ruleM (nT nC:Nat) (cl:List ACls) (r:ARule):Int :=
 if r.kind<1 then 13 else if 4<r.kind then 13
 else if ruleOut (r.src.within (ASet.all nT)) (r.tgt.within (ASet.all nT)) (vectorB cl r.cls r.perms) (condB nC r.cond)=true then 3
 else if ruleArg (someB r.src) (someB r.tgt) r=true then 2 else 0
set_option maxRecDepth 100000 in
set_option maxHeartbeats 4000000 in
theorem r19_a (w:World) (g h:Nat) (c0 c1 c2 c3 c4 c5 c6 c7 c8 c9 c10 c11 c12 c13 c14 c15 c16:Value) (p:APol) (r:ARule) (x0 x2 x3 x4 x5 x7 x9 x10 x11 x12 x13 x14 x15 x16 x17 x18 x19 x20 x21 x22 x23 x24 x25 x26 x27 x28 x29 x30 x31 x32 x33 x34 x35 x36 x37 x38 x39 x40 x41 x42 x43 x44 x45 x46 x47 x48 x49 x50 x51 x52 x53 x54 x55 x56 x57 x58 x59 x60 x61 x62 x63 x64 x65 x66 x67 x68 x69 x70 x71 x72 x73 x74 x75 x76 x77 x78 x79 x80 x81 x82 x83 x84 x85 x86 x87 x88 x89 x90 x91 x92 x93 x94 x95 x96 x97 x98 x99 x100 x101 x102 x103 x104 x105 x106 x107 x108 x109 x110 x111 x112 x113 x114 x115 x116 x117 x118 x119 x120 x121:Value) (_HP:Hid (PolAt w c0 c1 c2 c3 c4 c5 c6 c7 c8 c9 c10 c11 c12 c13 c14 c15 c16 p)) (_HU:Hid (U32 r.perms)) (_HG:Hid (Whole w g 39 #[c0,c1,c2,c3,c4,c5,c6,c7,c8,c9,c10,c11,c12,c13,c14,c15,c16])) (HH:Hid (Whole w h 56 #[.int .i64 r.kind,.int .u64 r.src.a,.int .u64 r.src.b,.int .u64 r.src.c,.int .u64 r.src.d,.int .u64 r.tgt.a,.int .u64 r.tgt.b,.int .u64 r.tgt.c,.int .u64 r.tgt.d,.bool r.self,.int .i64 r.cls,.int .u32 r.perms,.int .i64 r.cond]))
 {Q':Exit→Act→World→Prop} (hend:∀ (v74 v75 v76 v77 v78 v79 v80 v81 v82 v83 v84 v85 v86 v87 v88 v89 v90 v91 v92 v93 v94:Value) (w':World),RowKit.Below w.heap.size w w'→Q' .normal ⟨#[x0,.pointer (some ⟨g,0,none⟩),x2,x3,x4,x5,.pointer (some ⟨h,0,none⟩),x7,.bool false,x9,x10,x11,x12,x13,x14,x15,x16,x17,x18,x19,x20,x21,x22,x23,x24,x25,x26,x27,x28,x29,x30,x31,x32,x33,x34,x35,x36,x37,x38,x39,x40,x41,x42,x43,x44,x45,x46,x47,x48,x49,x50,x51,x52,x53,x54,x55,x56,x57,x58,x59,x60,x61,x62,x63,x64,x65,x66,x67,x68,x69,x70,x71,x72,x73,v74,v75,v76,v77,v78,v79,v80,v81,v82,v83,v84,v85,v86,v87,v88,v89,v90,v91,v92,v93,v94,.bool true,x96,x97,x98,x99,x100,x101,x102,x103,x104,x105,x106,x107,x108,x109,x110,x111,x112,x113,x114,x115,x116,x117,x118,x119,x120,x121],[]⟩ w') :
 Code.wp Tryz.prog (findRegion7 19 ((Tryz.f46.body).getD .skip)) Q' ⟨#[x0,.pointer (some ⟨g,0,none⟩),x2,x3,x4,x5,.pointer (some ⟨h,0,none⟩),x7,.bool false,x9,x10,x11,x12,x13,x14,x15,x16,x17,x18,x19,x20,x21,x22,x23,x24,x25,x26,x27,x28,x29,x30,x31,x32,x33,x34,x35,x36,x37,x38,x39,x40,x41,x42,x43,x44,x45,x46,x47,x48,x49,x50,x51,x52,x53,x54,x55,x56,x57,x58,x59,x60,x61,x62,x63,x64,x65,x66,x67,x68,x69,x70,x71,x72,x73,x74,x75,x76,x77,x78,x79,x80,x81,x82,x83,x84,x85,x86,x87,x88,x89,x90,x91,x92,x93,x94,x95,x96,x97,x98,x99,x100,x101,x102,x103,x104,x105,x106,x107,x108,x109,x110,x111,x112,x113,x114,x115,x116,x117,x118,x119,x120,x121],[]⟩ w:=by
 have HEND:=Lib.hid hend
 clear hend
 conv=>arg 2;whnf
 conv=>arg 4;dsimp only
 have k10:w.cell? ⟨h,10,none⟩=some (.int .i64 r.cls):=HH.out.cell 10
 have k11:w.cell? ⟨h,11,none⟩=some (.int .u32 r.perms):=HH.out.cell 11
 go_wp2_with fail
 exact HEND.out _ _ _ _ _ _ _ _ _ _ _ _ _ _ _ _ _ _ _ _ _ _ (Below.refl _ _)
set_option maxRecDepth 100000 in
set_option maxHeartbeats 4000000 in
theorem r19_b (w:World) (g h:Nat) (c0 c1 c2 c3 c4 c5 c6 c7 c8 c9 c10 c11 c12 c13 c14 c15 c16:Value) (p:APol) (r:ARule) (x0 x2 x3 x4 x5 x7 x9 x11 x12 x13 x14 x15 x16 x17 x18 x19 x20 x21 x22 x23 x24 x25 x26 x27 x28 x29 x30 x31 x32 x33 x34 x35 x36 x37 x38 x39 x40 x41 x42 x43 x44 x45 x46 x47 x48 x49 x50 x51 x52 x53 x54 x55 x56 x57 x58 x59 x60 x61 x62 x63 x64 x65 x66 x67 x68 x69 x70 x71 x72 x73 x74 x75 x76 x77 x78 x79 x80 x81 x82 x83 x84 x85 x86 x87 x88 x89 x90 x91 x92 x93 x94 x95 x96 x97 x98 x99 x100 x101 x102 x103 x104 x105 x106 x107 x108 x109 x110 x111 x112 x113 x114 x115 x116 x117 x118 x119 x120 x121:Value) (_HP:Hid (PolAt w c0 c1 c2 c3 c4 c5 c6 c7 c8 c9 c10 c11 c12 c13 c14 c15 c16 p)) (_HU:Hid (U32 r.perms)) (_HG:Hid (Whole w g 39 #[c0,c1,c2,c3,c4,c5,c6,c7,c8,c9,c10,c11,c12,c13,c14,c15,c16])) (HH:Hid (Whole w h 56 #[.int .i64 r.kind,.int .u64 r.src.a,.int .u64 r.src.b,.int .u64 r.src.c,.int .u64 r.src.d,.int .u64 r.tgt.a,.int .u64 r.tgt.b,.int .u64 r.tgt.c,.int .u64 r.tgt.d,.bool r.self,.int .i64 r.cls,.int .u32 r.perms,.int .i64 r.cond]))
 {Q':Exit→Act→World→Prop} (hend:∀ (v74 v75 v76 v77 v78 v79 v80 v81 v82 v83 v84 v85 v86 v87 v88 v89 v90 v91 v92 v93 v94:Value) (w':World),RowKit.Below w.heap.size w w'→Q' .normal ⟨#[x0,.pointer (some ⟨g,0,none⟩),x2,x3,x4,x5,.pointer (some ⟨h,0,none⟩),x7,.bool true,x9,.bool false,x11,x12,x13,x14,x15,x16,x17,x18,x19,x20,x21,x22,x23,x24,x25,x26,x27,x28,x29,x30,x31,x32,x33,x34,x35,x36,x37,x38,x39,x40,x41,x42,x43,x44,x45,x46,x47,x48,x49,x50,x51,x52,x53,x54,x55,x56,x57,x58,x59,x60,x61,x62,x63,x64,x65,x66,x67,x68,x69,x70,x71,x72,x73,v74,v75,v76,v77,v78,v79,v80,v81,v82,v83,v84,v85,v86,v87,v88,v89,v90,v91,v92,v93,v94,.bool true,x96,x97,x98,x99,x100,x101,x102,x103,x104,x105,x106,x107,x108,x109,x110,x111,x112,x113,x114,x115,x116,x117,x118,x119,x120,x121],[]⟩ w') :
 Code.wp Tryz.prog (findRegion7 19 ((Tryz.f46.body).getD .skip)) Q' ⟨#[x0,.pointer (some ⟨g,0,none⟩),x2,x3,x4,x5,.pointer (some ⟨h,0,none⟩),x7,.bool true,x9,.bool false,x11,x12,x13,x14,x15,x16,x17,x18,x19,x20,x21,x22,x23,x24,x25,x26,x27,x28,x29,x30,x31,x32,x33,x34,x35,x36,x37,x38,x39,x40,x41,x42,x43,x44,x45,x46,x47,x48,x49,x50,x51,x52,x53,x54,x55,x56,x57,x58,x59,x60,x61,x62,x63,x64,x65,x66,x67,x68,x69,x70,x71,x72,x73,x74,x75,x76,x77,x78,x79,x80,x81,x82,x83,x84,x85,x86,x87,x88,x89,x90,x91,x92,x93,x94,x95,x96,x97,x98,x99,x100,x101,x102,x103,x104,x105,x106,x107,x108,x109,x110,x111,x112,x113,x114,x115,x116,x117,x118,x119,x120,x121],[]⟩ w:=by
 have HEND:=Lib.hid hend
 clear hend
 conv=>arg 2;whnf
 conv=>arg 4;dsimp only
 have k10:w.cell? ⟨h,10,none⟩=some (.int .i64 r.cls):=HH.out.cell 10
 have k11:w.cell? ⟨h,11,none⟩=some (.int .u32 r.perms):=HH.out.cell 11
 go_wp2_with fail
 exact HEND.out _ _ _ _ _ _ _ _ _ _ _ _ _ _ _ _ _ _ _ _ _ _ (Below.refl _ _)
set_option maxRecDepth 100000 in
set_option maxHeartbeats 4000000 in
theorem r19_c (w:World) (g h:Nat) (c0 c1 c2 c3 c4 c5 c6 c7 c8 c9 c10 c11 c12 c13 c14 c15 c16:Value) (p:APol) (r:ARule) (x0 x2 x3 x4 x5 x7 x9 x11 x12 x13 x14 x15 x16 x17 x18 x19 x20 x21 x22 x23 x24 x25 x26 x27 x28 x29 x30 x31 x32 x33 x34 x35 x36 x37 x38 x39 x40 x41 x42 x43 x44 x45 x46 x47 x48 x49 x50 x51 x52 x53 x54 x55 x56 x57 x58 x59 x60 x61 x62 x63 x64 x65 x66 x67 x68 x69 x70 x71 x72 x73 x74 x75 x76 x77 x78 x79 x80 x81 x82 x83 x84 x85 x86 x87 x88 x89 x90 x91 x92 x93 x94 x95 x96 x97 x98 x99 x100 x101 x102 x103 x104 x105 x106 x107 x108 x109 x110 x111 x112 x113 x114 x115 x116 x117 x118 x119 x120 x121:Value) (HP:Hid (PolAt w c0 c1 c2 c3 c4 c5 c6 c7 c8 c9 c10 c11 c12 c13 c14 c15 c16 p)) (HU:Hid (U32 r.perms)) (HG:Hid (Whole w g 39 #[c0,c1,c2,c3,c4,c5,c6,c7,c8,c9,c10,c11,c12,c13,c14,c15,c16])) (HH:Hid (Whole w h 56 #[.int .i64 r.kind,.int .u64 r.src.a,.int .u64 r.src.b,.int .u64 r.src.c,.int .u64 r.src.d,.int .u64 r.tgt.a,.int .u64 r.tgt.b,.int .u64 r.tgt.c,.int .u64 r.tgt.d,.bool r.self,.int .i64 r.cls,.int .u32 r.perms,.int .i64 r.cond])) (HVC:Hid (vectorB p.classes r.cls r.perms=false))
 {Q':Exit→Act→World→Prop} (hend:∀ (v74 v75 v76 v77 v78 v79 v80 v81 v82 v83 v84 v85 v86 v87 v88 v89 v90 v91 v92 v93 v94:Value) (w':World),RowKit.Below w.heap.size w w'→Q' .normal ⟨#[x0,.pointer (some ⟨g,0,none⟩),x2,x3,x4,x5,.pointer (some ⟨h,0,none⟩),x7,.bool true,x9,.bool true,x11,x12,x13,x14,x15,x16,x17,x18,x19,x20,x21,x22,x23,x24,x25,x26,x27,x28,x29,x30,x31,x32,x33,x34,x35,x36,x37,x38,x39,x40,x41,x42,x43,x44,x45,x46,x47,x48,x49,x50,x51,x52,x53,x54,x55,x56,x57,x58,x59,x60,x61,x62,x63,x64,x65,x66,x67,x68,x69,x70,x71,x72,x73,v74,v75,v76,v77,v78,v79,v80,v81,v82,v83,v84,v85,v86,v87,v88,v89,v90,v91,v92,v93,v94,.bool true,x96,x97,x98,x99,x100,x101,x102,x103,x104,x105,x106,x107,x108,x109,x110,x111,x112,x113,x114,x115,x116,x117,x118,x119,x120,x121],[]⟩ w') :
 Code.wp Tryz.prog (findRegion7 19 ((Tryz.f46.body).getD .skip)) Q' ⟨#[x0,.pointer (some ⟨g,0,none⟩),x2,x3,x4,x5,.pointer (some ⟨h,0,none⟩),x7,.bool true,x9,.bool true,x11,x12,x13,x14,x15,x16,x17,x18,x19,x20,x21,x22,x23,x24,x25,x26,x27,x28,x29,x30,x31,x32,x33,x34,x35,x36,x37,x38,x39,x40,x41,x42,x43,x44,x45,x46,x47,x48,x49,x50,x51,x52,x53,x54,x55,x56,x57,x58,x59,x60,x61,x62,x63,x64,x65,x66,x67,x68,x69,x70,x71,x72,x73,x74,x75,x76,x77,x78,x79,x80,x81,x82,x83,x84,x85,x86,x87,x88,x89,x90,x91,x92,x93,x94,x95,x96,x97,x98,x99,x100,x101,x102,x103,x104,x105,x106,x107,x108,x109,x110,x111,x112,x113,x114,x115,x116,x117,x118,x119,x120,x121],[]⟩ w:=by
 have HEND:=Lib.hid hend
 clear hend
 conv=>arg 2;whnf
 conv=>arg 4;dsimp only
 have k10:w.cell? ⟨h,10,none⟩=some (.int .i64 r.cls):=HH.out.cell 10
 have k11:w.cell? ⟨h,11,none⟩=some (.int .u32 r.perms):=HH.out.cell 11
 go_wp2_with (first | (refine wpList_load_row_g rfl 39 _ rfl (g) rfl 39 _ (0,0) _ HG.out Tryz.underlying39 rfl size39 ?_) | (have hZ:=HVC;clear hZ;go_at_call 111;go_must (refine(show Calls Tryz.prog 111 _ _ (fun e w'=>e=.returned (.bool false)∧RowKit.Below w.heap.size w w') from by have h:=vector_any w c0 c1 c2 c3 c4 c5 c6 c7 c8 c9 c10 c11 c12 c13 c14 c15 c16 p HP.out r.cls r.perms HU.out;rw[HVC.out] at h;exact h).mono ?_;rintro e w1 ⟨rfl,hb⟩;have HB1:=Lib.hid hb;clear hb HVC;have HG1:=Lib.hid (Whole.under HB1.out HG.out HG.out.lt);have HH1:=Lib.hid (Whole.under HB1.out HH.out HH.out.lt);have k12:w1.cell? ⟨h,12,none⟩=some (.int .i64 r.cond):=HH1.out.cell 12)))
 exact HEND.out _ _ _ _ _ _ _ _ _ _ _ _ _ _ _ _ _ _ _ _ _ _ HB1.out
set_option maxRecDepth 100000 in
set_option maxHeartbeats 4000000 in
theorem r19_d (w:World) (g h:Nat) (c0 c1 c2 c3 c4 c5 c6 c7 c8 c9 c10 c11 c12 c13 c14 c15 c16:Value) (p:APol) (r:ARule) (x0 x2 x3 x4 x5 x7 x9 x11 x12 x13 x14 x15 x16 x17 x18 x19 x20 x21 x22 x23 x24 x25 x26 x27 x28 x29 x30 x31 x32 x33 x34 x35 x36 x37 x38 x39 x40 x41 x42 x43 x44 x45 x46 x47 x48 x49 x50 x51 x52 x53 x54 x55 x56 x57 x58 x59 x60 x61 x62 x63 x64 x65 x66 x67 x68 x69 x70 x71 x72 x73 x74 x75 x76 x77 x78 x79 x80 x81 x82 x83 x84 x85 x86 x87 x88 x89 x90 x91 x92 x93 x94 x95 x96 x97 x98 x99 x100 x101 x102 x103 x104 x105 x106 x107 x108 x109 x110 x111 x112 x113 x114 x115 x116 x117 x118 x119 x120 x121:Value) (HP:Hid (PolAt w c0 c1 c2 c3 c4 c5 c6 c7 c8 c9 c10 c11 c12 c13 c14 c15 c16 p)) (HU:Hid (U32 r.perms)) (HG:Hid (Whole w g 39 #[c0,c1,c2,c3,c4,c5,c6,c7,c8,c9,c10,c11,c12,c13,c14,c15,c16])) (HH:Hid (Whole w h 56 #[.int .i64 r.kind,.int .u64 r.src.a,.int .u64 r.src.b,.int .u64 r.src.c,.int .u64 r.src.d,.int .u64 r.tgt.a,.int .u64 r.tgt.b,.int .u64 r.tgt.c,.int .u64 r.tgt.d,.bool r.self,.int .i64 r.cls,.int .u32 r.perms,.int .i64 r.cond])) (HVC:Hid (vectorB p.classes r.cls r.perms=true)) (HCD:Hid (condB p.conds.length r.cond=false))
 {Q':Exit→Act→World→Prop} (hend:∀ (v74 v75 v76 v77 v78 v79 v80 v81 v82 v83 v84 v85 v86 v87 v88 v89 v90 v91 v92 v93 v94:Value) (w':World),RowKit.Below w.heap.size w w'→Q' .normal ⟨#[x0,.pointer (some ⟨g,0,none⟩),x2,x3,x4,x5,.pointer (some ⟨h,0,none⟩),x7,.bool true,x9,.bool true,x11,x12,x13,x14,x15,x16,x17,x18,x19,x20,x21,x22,x23,x24,x25,x26,x27,x28,x29,x30,x31,x32,x33,x34,x35,x36,x37,x38,x39,x40,x41,x42,x43,x44,x45,x46,x47,x48,x49,x50,x51,x52,x53,x54,x55,x56,x57,x58,x59,x60,x61,x62,x63,x64,x65,x66,x67,x68,x69,x70,x71,x72,x73,v74,v75,v76,v77,v78,v79,v80,v81,v82,v83,v84,v85,v86,v87,v88,v89,v90,v91,v92,v93,v94,.bool true,x96,x97,x98,x99,x100,x101,x102,x103,x104,x105,x106,x107,x108,x109,x110,x111,x112,x113,x114,x115,x116,x117,x118,x119,x120,x121],[]⟩ w') :
 Code.wp Tryz.prog (findRegion7 19 ((Tryz.f46.body).getD .skip)) Q' ⟨#[x0,.pointer (some ⟨g,0,none⟩),x2,x3,x4,x5,.pointer (some ⟨h,0,none⟩),x7,.bool true,x9,.bool true,x11,x12,x13,x14,x15,x16,x17,x18,x19,x20,x21,x22,x23,x24,x25,x26,x27,x28,x29,x30,x31,x32,x33,x34,x35,x36,x37,x38,x39,x40,x41,x42,x43,x44,x45,x46,x47,x48,x49,x50,x51,x52,x53,x54,x55,x56,x57,x58,x59,x60,x61,x62,x63,x64,x65,x66,x67,x68,x69,x70,x71,x72,x73,x74,x75,x76,x77,x78,x79,x80,x81,x82,x83,x84,x85,x86,x87,x88,x89,x90,x91,x92,x93,x94,x95,x96,x97,x98,x99,x100,x101,x102,x103,x104,x105,x106,x107,x108,x109,x110,x111,x112,x113,x114,x115,x116,x117,x118,x119,x120,x121],[]⟩ w:=by
 have HEND:=Lib.hid hend
 clear hend
 conv=>arg 2;whnf
 conv=>arg 4;dsimp only
 have k10:w.cell? ⟨h,10,none⟩=some (.int .i64 r.cls):=HH.out.cell 10
 have k11:w.cell? ⟨h,11,none⟩=some (.int .u32 r.perms):=HH.out.cell 11
 go_wp2_with (first | (refine wpList_load_row_g rfl 39 _ rfl (g) rfl 39 _ (0,0) _ HG.out Tryz.underlying39 rfl size39 ?_) | (have hZ:=HVC;clear hZ;go_at_call 111;go_must (refine(show Calls Tryz.prog 111 _ _ (fun e w'=>e=.returned (.bool true)∧RowKit.Below w.heap.size w w') from by have h:=vector_any w c0 c1 c2 c3 c4 c5 c6 c7 c8 c9 c10 c11 c12 c13 c14 c15 c16 p HP.out r.cls r.perms HU.out;rw[HVC.out] at h;exact h).mono ?_;rintro e w1 ⟨rfl,hb⟩;have HB1:=Lib.hid hb;clear hb HVC;have HG1:=Lib.hid (Whole.under HB1.out HG.out HG.out.lt);have HH1:=Lib.hid (Whole.under HB1.out HH.out HH.out.lt);have k12:w1.cell? ⟨h,12,none⟩=some (.int .i64 r.cond):=HH1.out.cell 12)) | (refine wpList_load_row_g rfl 39 _ rfl (g) rfl 39 _ (0,0) _ HG1.out Tryz.underlying39 rfl size39 ?_) | (have hZ:=HCD;clear hZ;go_at_call 112;go_must (refine(show Calls Tryz.prog 112 _ _ (fun e w'=>e=.returned (.bool false)∧RowKit.Below w1.heap.size w1 w') from by have h:=cond_any w1 c0 c1 c2 c3 c4 c5 c6 c7 c8 c9 c10 c11 c12 c13 c14 c15 c16 p (HP.out.keep HB1.out) r.cond;rw[HCD.out] at h;exact h).mono ?_;rintro e w2 ⟨rfl,hb⟩;have HB2:=Lib.hid hb;clear hb HCD)))
 exact HEND.out _ _ _ _ _ _ _ _ _ _ _ _ _ _ _ _ _ _ _ _ _ _ (HB1.out.trans (HB2.out.mono HB1.out.size))
set_option maxRecDepth 100000 in
set_option maxHeartbeats 4000000 in
theorem r19_e (w:World) (g h:Nat) (c0 c1 c2 c3 c4 c5 c6 c7 c8 c9 c10 c11 c12 c13 c14 c15 c16:Value) (p:APol) (r:ARule) (x0 x2 x3 x4 x5 x7 x9 x11 x12 x13 x14 x15 x16 x17 x18 x19 x20 x21 x22 x23 x24 x25 x26 x27 x28 x29 x30 x31 x32 x33 x34 x35 x36 x37 x38 x39 x40 x41 x42 x43 x44 x45 x46 x47 x48 x49 x50 x51 x52 x53 x54 x55 x56 x57 x58 x59 x60 x61 x62 x63 x64 x65 x66 x67 x68 x69 x70 x71 x72 x73 x74 x75 x76 x77 x78 x79 x80 x81 x82 x83 x84 x85 x86 x87 x88 x89 x90 x91 x92 x93 x94 x95 x96 x97 x98 x99 x100 x101 x102 x103 x104 x105 x106 x107 x108 x109 x110 x111 x112 x113 x114 x115 x116 x117 x118 x119 x120 x121:Value) (HP:Hid (PolAt w c0 c1 c2 c3 c4 c5 c6 c7 c8 c9 c10 c11 c12 c13 c14 c15 c16 p)) (HU:Hid (U32 r.perms)) (HG:Hid (Whole w g 39 #[c0,c1,c2,c3,c4,c5,c6,c7,c8,c9,c10,c11,c12,c13,c14,c15,c16])) (HH:Hid (Whole w h 56 #[.int .i64 r.kind,.int .u64 r.src.a,.int .u64 r.src.b,.int .u64 r.src.c,.int .u64 r.src.d,.int .u64 r.tgt.a,.int .u64 r.tgt.b,.int .u64 r.tgt.c,.int .u64 r.tgt.d,.bool r.self,.int .i64 r.cls,.int .u32 r.perms,.int .i64 r.cond])) (HVC:Hid (vectorB p.classes r.cls r.perms=true)) (HCD:Hid (condB p.conds.length r.cond=true))
 {Q':Exit→Act→World→Prop} (hend:∀ (v74 v75 v76 v77 v78 v79 v80 v81 v82 v83 v84 v85 v86 v87 v88 v89 v90 v91 v92 v93 v94:Value) (w':World),RowKit.Below w.heap.size w w'→Q' .normal ⟨#[x0,.pointer (some ⟨g,0,none⟩),x2,x3,x4,x5,.pointer (some ⟨h,0,none⟩),x7,.bool true,x9,.bool true,x11,x12,x13,x14,x15,x16,x17,x18,x19,x20,x21,x22,x23,x24,x25,x26,x27,x28,x29,x30,x31,x32,x33,x34,x35,x36,x37,x38,x39,x40,x41,x42,x43,x44,x45,x46,x47,x48,x49,x50,x51,x52,x53,x54,x55,x56,x57,x58,x59,x60,x61,x62,x63,x64,x65,x66,x67,x68,x69,x70,x71,x72,x73,v74,v75,v76,v77,v78,v79,v80,v81,v82,v83,v84,v85,v86,v87,v88,v89,v90,v91,v92,v93,v94,.bool false,x96,x97,x98,x99,x100,x101,x102,x103,x104,x105,x106,x107,x108,x109,x110,x111,x112,x113,x114,x115,x116,x117,x118,x119,x120,x121],[]⟩ w') :
 Code.wp Tryz.prog (findRegion7 19 ((Tryz.f46.body).getD .skip)) Q' ⟨#[x0,.pointer (some ⟨g,0,none⟩),x2,x3,x4,x5,.pointer (some ⟨h,0,none⟩),x7,.bool true,x9,.bool true,x11,x12,x13,x14,x15,x16,x17,x18,x19,x20,x21,x22,x23,x24,x25,x26,x27,x28,x29,x30,x31,x32,x33,x34,x35,x36,x37,x38,x39,x40,x41,x42,x43,x44,x45,x46,x47,x48,x49,x50,x51,x52,x53,x54,x55,x56,x57,x58,x59,x60,x61,x62,x63,x64,x65,x66,x67,x68,x69,x70,x71,x72,x73,x74,x75,x76,x77,x78,x79,x80,x81,x82,x83,x84,x85,x86,x87,x88,x89,x90,x91,x92,x93,x94,x95,x96,x97,x98,x99,x100,x101,x102,x103,x104,x105,x106,x107,x108,x109,x110,x111,x112,x113,x114,x115,x116,x117,x118,x119,x120,x121],[]⟩ w:=by
 have HEND:=Lib.hid hend
 clear hend
 conv=>arg 2;whnf
 conv=>arg 4;dsimp only
 have k10:w.cell? ⟨h,10,none⟩=some (.int .i64 r.cls):=HH.out.cell 10
 have k11:w.cell? ⟨h,11,none⟩=some (.int .u32 r.perms):=HH.out.cell 11
 go_wp2_with (first | (refine wpList_load_row_g rfl 39 _ rfl (g) rfl 39 _ (0,0) _ HG.out Tryz.underlying39 rfl size39 ?_) | (have hZ:=HVC;clear hZ;go_at_call 111;go_must (refine(show Calls Tryz.prog 111 _ _ (fun e w'=>e=.returned (.bool true)∧RowKit.Below w.heap.size w w') from by have h:=vector_any w c0 c1 c2 c3 c4 c5 c6 c7 c8 c9 c10 c11 c12 c13 c14 c15 c16 p HP.out r.cls r.perms HU.out;rw[HVC.out] at h;exact h).mono ?_;rintro e w1 ⟨rfl,hb⟩;have HB1:=Lib.hid hb;clear hb HVC;have HG1:=Lib.hid (Whole.under HB1.out HG.out HG.out.lt);have HH1:=Lib.hid (Whole.under HB1.out HH.out HH.out.lt);have k12:w1.cell? ⟨h,12,none⟩=some (.int .i64 r.cond):=HH1.out.cell 12)) | (refine wpList_load_row_g rfl 39 _ rfl (g) rfl 39 _ (0,0) _ HG1.out Tryz.underlying39 rfl size39 ?_) | (have hZ:=HCD;clear hZ;go_at_call 112;go_must (refine(show Calls Tryz.prog 112 _ _ (fun e w'=>e=.returned (.bool true)∧RowKit.Below w1.heap.size w1 w') from by have h:=cond_any w1 c0 c1 c2 c3 c4 c5 c6 c7 c8 c9 c10 c11 c12 c13 c14 c15 c16 p (HP.out.keep HB1.out) r.cond;rw[HCD.out] at h;exact h).mono ?_;rintro e w2 ⟨rfl,hb⟩;have HB2:=Lib.hid hb;clear hb HCD)))
 exact HEND.out _ _ _ _ _ _ _ _ _ _ _ _ _ _ _ _ _ _ _ _ _ _ (HB1.out.trans (HB2.out.mono HB1.out.size))
set_option maxRecDepth 100000 in
set_option maxHeartbeats 4000000 in
theorem r19_any (w:World) (g h:Nat) (c0 c1 c2 c3 c4 c5 c6 c7 c8 c9 c10 c11 c12 c13 c14 c15 c16:Value) (p:APol) (r:ARule) (ok ig q:Bool) (x0 x2 x3 x4 x5 x7 x9 x11 x12 x13 x14 x15 x16 x17 x18 x19 x20 x21 x22 x23 x24 x25 x26 x27 x28 x29 x30 x31 x32 x33 x34 x35 x36 x37 x38 x39 x40 x41 x42 x43 x44 x45 x46 x47 x48 x49 x50 x51 x52 x53 x54 x55 x56 x57 x58 x59 x60 x61 x62 x63 x64 x65 x66 x67 x68 x69 x70 x71 x72 x73 x74 x75 x76 x77 x78 x79 x80 x81 x82 x83 x84 x85 x86 x87 x88 x89 x90 x91 x92 x93 x94 x95 x96 x97 x98 x99 x100 x101 x102 x103 x104 x105 x106 x107 x108 x109 x110 x111 x112 x113 x114 x115 x116 x117 x118 x119 x120 x121:Value) (HP:Hid (PolAt w c0 c1 c2 c3 c4 c5 c6 c7 c8 c9 c10 c11 c12 c13 c14 c15 c16 p)) (HU:Hid (U32 r.perms)) (HG:Hid (Whole w g 39 #[c0,c1,c2,c3,c4,c5,c6,c7,c8,c9,c10,c11,c12,c13,c14,c15,c16])) (HH:Hid (Whole w h 56 #[.int .i64 r.kind,.int .u64 r.src.a,.int .u64 r.src.b,.int .u64 r.src.c,.int .u64 r.src.d,.int .u64 r.tgt.a,.int .u64 r.tgt.b,.int .u64 r.tgt.c,.int .u64 r.tgt.d,.bool r.self,.int .i64 r.cls,.int .u32 r.perms,.int .i64 r.cond])) (hq:q=ruleOut ok ig (vectorB p.classes r.cls r.perms) (condB p.conds.length r.cond))
 {Q':Exit→Act→World→Prop} (hend:∀ (v74 v75 v76 v77 v78 v79 v80 v81 v82 v83 v84 v85 v86 v87 v88 v89 v90 v91 v92 v93 v94:Value) (w':World),RowKit.Below w.heap.size w w'→Q' .normal ⟨#[x0,.pointer (some ⟨g,0,none⟩),x2,x3,x4,x5,.pointer (some ⟨h,0,none⟩),x7,.bool ok,x9,.bool ig,x11,x12,x13,x14,x15,x16,x17,x18,x19,x20,x21,x22,x23,x24,x25,x26,x27,x28,x29,x30,x31,x32,x33,x34,x35,x36,x37,x38,x39,x40,x41,x42,x43,x44,x45,x46,x47,x48,x49,x50,x51,x52,x53,x54,x55,x56,x57,x58,x59,x60,x61,x62,x63,x64,x65,x66,x67,x68,x69,x70,x71,x72,x73,v74,v75,v76,v77,v78,v79,v80,v81,v82,v83,v84,v85,v86,v87,v88,v89,v90,v91,v92,v93,v94,.bool q,x96,x97,x98,x99,x100,x101,x102,x103,x104,x105,x106,x107,x108,x109,x110,x111,x112,x113,x114,x115,x116,x117,x118,x119,x120,x121],[]⟩ w') :
 Code.wp Tryz.prog (findRegion7 19 ((Tryz.f46.body).getD .skip)) Q' ⟨#[x0,.pointer (some ⟨g,0,none⟩),x2,x3,x4,x5,.pointer (some ⟨h,0,none⟩),x7,.bool ok,x9,.bool ig,x11,x12,x13,x14,x15,x16,x17,x18,x19,x20,x21,x22,x23,x24,x25,x26,x27,x28,x29,x30,x31,x32,x33,x34,x35,x36,x37,x38,x39,x40,x41,x42,x43,x44,x45,x46,x47,x48,x49,x50,x51,x52,x53,x54,x55,x56,x57,x58,x59,x60,x61,x62,x63,x64,x65,x66,x67,x68,x69,x70,x71,x72,x73,x74,x75,x76,x77,x78,x79,x80,x81,x82,x83,x84,x85,x86,x87,x88,x89,x90,x91,x92,x93,x94,x95,x96,x97,x98,x99,x100,x101,x102,x103,x104,x105,x106,x107,x108,x109,x110,x111,x112,x113,x114,x115,x116,x117,x118,x119,x120,x121],[]⟩ w:=by
 cases ok with
 | false =>
  rw[show q=true by rw[hq];rfl] at hend
  exact r19_a w g h c0 c1 c2 c3 c4 c5 c6 c7 c8 c9 c10 c11 c12 c13 c14 c15 c16 p r _ _ _ _ _ _ _ _ _ _ _ _ _ _ _ _ _ _ _ _ _ _ _ _ _ _ _ _ _ _ _ _ _ _ _ _ _ _ _ _ _ _ _ _ _ _ _ _ _ _ _ _ _ _ _ _ _ _ _ _ _ _ _ _ _ _ _ _ _ _ _ _ _ _ _ _ _ _ _ _ _ _ _ _ _ _ _ _ _ _ _ _ _ _ _ _ _ _ _ _ _ _ _ _ _ _ _ _ _ _ _ _ _ _ _ _ _ _ _ HP HU HG HH hend
 | true =>
  cases ig with
  | false =>
   rw[show q=true by rw[hq];rfl] at hend
   exact r19_b w g h c0 c1 c2 c3 c4 c5 c6 c7 c8 c9 c10 c11 c12 c13 c14 c15 c16 p r _ _ _ _ _ _ _ _ _ _ _ _ _ _ _ _ _ _ _ _ _ _ _ _ _ _ _ _ _ _ _ _ _ _ _ _ _ _ _ _ _ _ _ _ _ _ _ _ _ _ _ _ _ _ _ _ _ _ _ _ _ _ _ _ _ _ _ _ _ _ _ _ _ _ _ _ _ _ _ _ _ _ _ _ _ _ _ _ _ _ _ _ _ _ _ _ _ _ _ _ _ _ _ _ _ _ _ _ _ _ _ _ _ _ _ _ _ _ HP HU HG HH hend
  | true =>
   cases h1:vectorB p.classes r.cls r.perms with
   | false =>
    rw[show q=true by rw[hq,h1];rfl] at hend
    exact r19_c w g h c0 c1 c2 c3 c4 c5 c6 c7 c8 c9 c10 c11 c12 c13 c14 c15 c16 p r _ _ _ _ _ _ _ _ _ _ _ _ _ _ _ _ _ _ _ _ _ _ _ _ _ _ _ _ _ _ _ _ _ _ _ _ _ _ _ _ _ _ _ _ _ _ _ _ _ _ _ _ _ _ _ _ _ _ _ _ _ _ _ _ _ _ _ _ _ _ _ _ _ _ _ _ _ _ _ _ _ _ _ _ _ _ _ _ _ _ _ _ _ _ _ _ _ _ _ _ _ _ _ _ _ _ _ _ _ _ _ _ _ _ _ _ _ _ HP HU HG HH (Lib.hid h1) hend
   | true =>
    cases h2:condB p.conds.length r.cond with
    | false =>
     rw[show q=true by rw[hq,h1,h2];rfl] at hend
     exact r19_d w g h c0 c1 c2 c3 c4 c5 c6 c7 c8 c9 c10 c11 c12 c13 c14 c15 c16 p r _ _ _ _ _ _ _ _ _ _ _ _ _ _ _ _ _ _ _ _ _ _ _ _ _ _ _ _ _ _ _ _ _ _ _ _ _ _ _ _ _ _ _ _ _ _ _ _ _ _ _ _ _ _ _ _ _ _ _ _ _ _ _ _ _ _ _ _ _ _ _ _ _ _ _ _ _ _ _ _ _ _ _ _ _ _ _ _ _ _ _ _ _ _ _ _ _ _ _ _ _ _ _ _ _ _ _ _ _ _ _ _ _ _ _ _ _ _ HP HU HG HH (Lib.hid h1) (Lib.hid h2) hend
    | true =>
     rw[show q=false by rw[hq,h1,h2];rfl] at hend
     exact r19_e w g h c0 c1 c2 c3 c4 c5 c6 c7 c8 c9 c10 c11 c12 c13 c14 c15 c16 p r _ _ _ _ _ _ _ _ _ _ _ _ _ _ _ _ _ _ _ _ _ _ _ _ _ _ _ _ _ _ _ _ _ _ _ _ _ _ _ _ _ _ _ _ _ _ _ _ _ _ _ _ _ _ _ _ _ _ _ _ _ _ _ _ _ _ _ _ _ _ _ _ _ _ _ _ _ _ _ _ _ _ _ _ _ _ _ _ _ _ _ _ _ _ _ _ _ _ _ _ _ _ _ _ _ _ _ _ _ _ _ _ _ _ _ _ _ _ HP HU HG HH (Lib.hid h1) (Lib.hid h2) hend
set_option maxRecDepth 100000 in
set_option maxHeartbeats 4000000 in
theorem r21_any (w:World) (h:Nat) (r:ARule) (sa sb q:Bool) (x0 x1 x2 x3 x4 x5 x8 x10 x11 x12 x13 x14 x15 x16 x17 x18 x19 x20 x21 x22 x23 x24 x25 x26 x27 x28 x29 x30 x31 x32 x33 x34 x35 x36 x37 x38 x39 x40 x41 x42 x43 x44 x45 x46 x47 x48 x49 x50 x51 x52 x53 x54 x55 x56 x57 x58 x59 x60 x61 x62 x63 x64 x65 x66 x67 x68 x69 x70 x71 x72 x73 x74 x75 x76 x77 x78 x79 x80 x81 x82 x83 x84 x85 x86 x87 x88 x89 x90 x91 x92 x93 x94 x95 x96 x97 x98 x99 x100 x101 x102 x103 x104 x105 x106 x107 x108 x109 x110 x111 x112 x113 x114 x115 x116 x117 x118 x119 x120 x121:Value) (HH:Hid (Whole w h 56 #[.int .i64 r.kind,.int .u64 r.src.a,.int .u64 r.src.b,.int .u64 r.src.c,.int .u64 r.src.d,.int .u64 r.tgt.a,.int .u64 r.tgt.b,.int .u64 r.tgt.c,.int .u64 r.tgt.d,.bool r.self,.int .i64 r.cls,.int .u32 r.perms,.int .i64 r.cond])) (hq:q=ruleArg sa sb r)
 {Q':Exit→Act→World→Prop} (hend:∀ (v96 v97 v98 v99 v100 v101 v102 v103 v104 v105 v106 v107 v108 v109 v110 v111 v112 v113 v114 v115 v116 v117 v118 v119 v120:Value) ,True→Q' .normal ⟨#[x0,x1,x2,x3,x4,x5,.pointer (some ⟨h,0,none⟩),.bool sa,x8,.bool sb,x10,x11,x12,x13,x14,x15,x16,x17,x18,x19,x20,x21,x22,x23,x24,x25,x26,x27,x28,x29,x30,x31,x32,x33,x34,x35,x36,x37,x38,x39,x40,x41,x42,x43,x44,x45,x46,x47,x48,x49,x50,x51,x52,x53,x54,x55,x56,x57,x58,x59,x60,x61,x62,x63,x64,x65,x66,x67,x68,x69,x70,x71,x72,x73,x74,x75,x76,x77,x78,x79,x80,x81,x82,x83,x84,x85,x86,x87,x88,x89,x90,x91,x92,x93,x94,x95,v96,v97,v98,v99,v100,v101,v102,v103,v104,v105,v106,v107,v108,v109,v110,v111,v112,v113,v114,v115,v116,v117,v118,v119,v120,.bool q],[]⟩ w) :
 Code.wp Tryz.prog (findRegion7 21 ((Tryz.f46.body).getD .skip)) Q' ⟨#[x0,x1,x2,x3,x4,x5,.pointer (some ⟨h,0,none⟩),.bool sa,x8,.bool sb,x10,x11,x12,x13,x14,x15,x16,x17,x18,x19,x20,x21,x22,x23,x24,x25,x26,x27,x28,x29,x30,x31,x32,x33,x34,x35,x36,x37,x38,x39,x40,x41,x42,x43,x44,x45,x46,x47,x48,x49,x50,x51,x52,x53,x54,x55,x56,x57,x58,x59,x60,x61,x62,x63,x64,x65,x66,x67,x68,x69,x70,x71,x72,x73,x74,x75,x76,x77,x78,x79,x80,x81,x82,x83,x84,x85,x86,x87,x88,x89,x90,x91,x92,x93,x94,x95,x96,x97,x98,x99,x100,x101,x102,x103,x104,x105,x106,x107,x108,x109,x110,x111,x112,x113,x114,x115,x116,x117,x118,x119,x120,x121],[]⟩ w:=by
 conv=>arg 2;whnf
 conv=>arg 4;dsimp only
 have k0:w.cell? ⟨h,0,none⟩=some (.int .i64 r.kind):=HH.out.cell 0
 have k9:w.cell? ⟨h,9,none⟩=some (.bool r.self):=HH.out.cell 9
 have k11:w.cell? ⟨h,11,none⟩=some (.int .u32 r.perms):=HH.out.cell 11
 have k12:w.cell? ⟨h,12,none⟩=some (.int .i64 r.cond):=HH.out.cell 12
 cases sa with
 | false =>
  have q0:q=true:=by rw[hq];simp[ruleArg]
  rw[q0] at hend
  clear q0 hq
  have HEND:=Lib.hid hend
  clear hend
  go_wp2_with fail
  exact HEND.out _ _ _ _ _ _ _ _ _ _ _ _ _ _ _ _ _ _ _ _ _ _ _ _ _ trivial
 | true =>
  cases sb with
  | true =>
   by_cases hp0:r.perms=0
   ·have d1:(r.perms == 0)=true:=by simp[hp0]
    have HP0:=Lib.hid hp0
    clear hp0
    have q0:q=true:=by rw[hq];simp[ruleArg,HP0.out]
    rw[q0] at hend
    clear q0 hq
    have HEND:=Lib.hid hend
    clear hend
    go_wp2_with fail
    exact HEND.out _ _ _ _ _ _ _ _ _ _ _ _ _ _ _ _ _ _ _ _ _ _ _ _ _ trivial
   ·have d1:(r.perms == 0)=false:=by simp[hp0]
    have HP0:=Lib.hid hp0
    clear hp0
    by_cases hk4:r.kind=4
    ·have d2:(r.kind == 4)=true:=by simp[hk4]
     have HK4:=Lib.hid hk4
     clear hk4
     by_cases hc0:r.cond=0
     ·have d3:(r.cond != 0)=false:=by simp[hc0]
      have HC0:=Lib.hid hc0
      clear hc0
      have q0:q=false:=by rw[hq];simp[ruleArg,HP0.out,HK4.out,HC0.out]
      rw[q0] at hend
      clear q0 hq
      have HEND:=Lib.hid hend
      clear hend
      go_wp2_with fail
      exact HEND.out _ _ _ _ _ _ _ _ _ _ _ _ _ _ _ _ _ _ _ _ _ _ _ _ _ trivial
     ·have d3:(r.cond != 0)=true:=by simp[hc0]
      have HC0:=Lib.hid hc0
      clear hc0
      have q0:q=true:=by rw[hq];simp[ruleArg,HP0.out,HK4.out,HC0.out]
      rw[q0] at hend
      clear q0 hq
      have HEND:=Lib.hid hend
      clear hend
      go_wp2_with fail
      exact HEND.out _ _ _ _ _ _ _ _ _ _ _ _ _ _ _ _ _ _ _ _ _ _ _ _ _ trivial
    ·have d2:(r.kind == 4)=false:=by simp[hk4]
     have HK4:=Lib.hid hk4
     clear hk4
     have q0:q=false:=by rw[hq];simp[ruleArg,HP0.out,HK4.out]
     rw[q0] at hend
     clear q0 hq
     have HEND:=Lib.hid hend
     clear hend
     go_wp2_with fail
     exact HEND.out _ _ _ _ _ _ _ _ _ _ _ _ _ _ _ _ _ _ _ _ _ _ _ _ _ trivial
  | false =>
   cases hs:r.self with
   | false =>
    rw[hs] at k9
    have HS:=Lib.hid hs
    clear hs
    have q0:q=true:=by rw[hq];simp[ruleArg,HS.out]
    rw[q0] at hend
    clear q0 hq
    have HEND:=Lib.hid hend
    clear hend
    go_wp2_with fail
    exact HEND.out _ _ _ _ _ _ _ _ _ _ _ _ _ _ _ _ _ _ _ _ _ _ _ _ _ trivial
   | true =>
    rw[hs] at k9
    have HS:=Lib.hid hs
    clear hs
    by_cases hp0:r.perms=0
    ·have d1:(r.perms == 0)=true:=by simp[hp0]
     have HP0:=Lib.hid hp0
     clear hp0
     have q0:q=true:=by rw[hq];simp[ruleArg,HS.out,HP0.out]
     rw[q0] at hend
     clear q0 hq
     have HEND:=Lib.hid hend
     clear hend
     go_wp2_with fail
     exact HEND.out _ _ _ _ _ _ _ _ _ _ _ _ _ _ _ _ _ _ _ _ _ _ _ _ _ trivial
    ·have d1:(r.perms == 0)=false:=by simp[hp0]
     have HP0:=Lib.hid hp0
     clear hp0
     by_cases hk4:r.kind=4
     ·have d2:(r.kind == 4)=true:=by simp[hk4]
      have HK4:=Lib.hid hk4
      clear hk4
      by_cases hc0:r.cond=0
      ·have d3:(r.cond != 0)=false:=by simp[hc0]
       have HC0:=Lib.hid hc0
       clear hc0
       have q0:q=false:=by rw[hq];simp[ruleArg,HS.out,HP0.out,HK4.out,HC0.out]
       rw[q0] at hend
       clear q0 hq
       have HEND:=Lib.hid hend
       clear hend
       go_wp2_with fail
       exact HEND.out _ _ _ _ _ _ _ _ _ _ _ _ _ _ _ _ _ _ _ _ _ _ _ _ _ trivial
      ·have d3:(r.cond != 0)=true:=by simp[hc0]
       have HC0:=Lib.hid hc0
       clear hc0
       have q0:q=true:=by rw[hq];simp[ruleArg,HS.out,HP0.out,HK4.out,HC0.out]
       rw[q0] at hend
       clear q0 hq
       have HEND:=Lib.hid hend
       clear hend
       go_wp2_with fail
       exact HEND.out _ _ _ _ _ _ _ _ _ _ _ _ _ _ _ _ _ _ _ _ _ _ _ _ _ trivial
     ·have d2:(r.kind == 4)=false:=by simp[hk4]
      have HK4:=Lib.hid hk4
      clear hk4
      have q0:q=false:=by rw[hq];simp[ruleArg,HS.out,HP0.out,HK4.out]
      rw[q0] at hend
      clear q0 hq
      have HEND:=Lib.hid hend
      clear hend
      go_wp2_with fail
      exact HEND.out _ _ _ _ _ _ _ _ _ _ _ _ _ _ _ _ _ _ _ _ _ _ _ _ _ trivial
end Go.Proofs.YtdcofoaihmongaaGreat
namespace Go.Proofs.YtdcofoaihmongaaGreat
open Go Go.RowKit
def condF (p:APol) (i:Nat):Int:=match p.conds[i]? with
 | some e=>conditionM p.bools.length e
 | none=>0
def ruleF (p:APol) (i:Nat):Int:=match p.rules[i]? with
 | some r=>ruleM p.types.length p.conds.length p.classes r
 | none=>0
def rulesM (p:APol):Int:=if 64<p.conds.length then 4 else if firstE (condF p) p.conds.length 0=0 then (if 4096<p.rules.length then 4 else firstE (ruleF p) p.rules.length 0) else firstE (condF p) p.conds.length 0
theorem rulesM_cond {p:APol} (h1:¬ 64<p.conds.length) (h2:¬ firstE (condF p) p.conds.length 0=0):rulesM p=firstE (condF p) p.conds.length 0:=by
 unfold rulesM
 rw[if_neg h1,if_neg h2]
theorem rulesM_long {p:APol} (h1:¬ 64<p.conds.length) (h2:firstE (condF p) p.conds.length 0=0) (h3:4096<p.rules.length):rulesM p=4:=by
 unfold rulesM
 rw[if_neg h1,if_pos h2,if_pos h3]
theorem rulesM_rule {p:APol} (h1:¬ 64<p.conds.length) (h2:firstE (condF p) p.conds.length 0=0) (h3:¬ 4096<p.rules.length):rulesM p=firstE (ruleF p) p.rules.length 0:=by
 unfold rulesM
 rw[if_neg h1,if_pos h2,if_neg h3]
set_option maxRecDepth 100000 in
set_option maxHeartbeats 4000000 in
theorem rules_any (w:World) (c0 c1 c2 c3 c4 c5 c6 c7 c8 c9 c10 c11 c12 c13 c14 c15 c16:Value) (p:APol) (hp:PolAt w c0 c1 c2 c3 c4 c5 c6 c7 c8 c9 c10 c11 c12 c13 c14 c15 c16 p) (hok:p.Ok):Calls Tryz.prog 46 #[.agg #[c0,c1,c2,c3,c4,c5,c6,c7,c8,c9,c10,c11,c12,c13,c14,c15,c16]] w fun e w'=>e=.returned (.int .i64 (rulesM p))∧RowKit.Below w.heap.size w w':=by
 have hn1':p.types.length≤140737488355328:=hok.typesL
 obtain⟨a8',k8',hc8e,-,-,hcell8⟩:=RowsAt.form hp.conds (by decide)
 obtain⟨a9',k9',hc9e,-,-,hcell9⟩:=SliceAt.form hp.rules (by decide)
 obtain⟨a1,k1,rfl,hk1,hm1⟩:=PolAt.f1 hp
 obtain⟨n1,hn1⟩:∃ n,n=p.types.length:=⟨_,rfl⟩
 have N1:=Lib.hid hn1
 rw[← hn1] at hk1 hm1 ⊢
 clear hn1
 obtain⟨a8,k8,rfl,hk8,hm8⟩:=PolAt.f8 hp
 obtain⟨n8,hn8⟩:∃ n,n=p.conds.length:=⟨_,rfl⟩
 have N8:=Lib.hid hn8
 rw[← hn8] at hk8 hm8 ⊢
 clear hn8
 obtain⟨a9,k9,rfl,hk9,hm9⟩:=PolAt.f9 hp
 obtain⟨n9,hn9⟩:∃ n,n=p.rules.length:=⟨_,rfl⟩
 have N9:=Lib.hid hn9
 rw[← hn9] at hk9 hm9 ⊢
 clear hn9
 obtain⟨rfl,-,rfl⟩:a8=a8'∧n8=n8∧k8=k8':=by injection hc8e with e1 e2 e3;exact⟨e1,rfl,e3⟩
 obtain⟨rfl,rfl⟩:a9=a9'∧k9=k9':=by injection hc9e with e1 e2 e3;exact⟨e1,e3⟩
 rw[← N1.out,← N8.out,← N9.out] at hp
 rw[← N1.out] at hn1'
 have HN1:=Lib.hid hn1'
 have HC8:=Lib.hid hcell8
 have HC9:=Lib.hid hcell9
 have HPA:=Lib.hid hp
 have HOK:=Lib.hid hok
 clear hp hok hcell8 hcell9 hc8e hc9e hn1'
 obtain⟨wo,hwo⟩:∃ wo,wo=(w).alloc (.cells #[c0,.slice a1 n1 k1,c2,c3,c4,c5,c6,c7,.slice a8 n8 k8,.slice a9 n9 k9,c10,c11,c12,c13,c14,c15,c16] 39):=⟨_,rfl⟩
 have W0:=Lib.hid (show Whole wo w.heap.size 39 #[c0,.slice a1 n1 k1,c2,c3,c4,c5,c6,c7,.slice a8 n8 k8,.slice a9 n9 k9,c10,c11,c12,c13,c14,c15,c16] by rw[hwo];exact(Whole.new w 39 _))
 have HBO:=Lib.hid (show RowKit.Below w.heap.size w wo by rw[hwo];exact((Below.refl _ w).alloc (Nat.le_refl _) _))
 have kp8:wo.cell? ⟨w.heap.size,8,none⟩=some (.slice a8 n8 k8):=W0.out.cell 8
 by_cases h64:64<n8
 ·have d0:decide ((64:Int)<(n8:Int))=true:=by simp;omega
  go_enter Tryz.func46,Tryz.ntmps46
  go_upto_region 1 with(fail)
  rw[← hwo]
  clear hwo
  go_wp2_with fail
  go_ret
  exact⟨ret_int (by unfold rulesM;rw[if_pos (by rw[← N8.out];exact h64)]),HBO.out⟩
 ·have d0:decide ((64:Int)<(n8:Int))=false:=by simp;omega
  go_enter Tryz.func46,Tryz.ntmps46
  go_upto_region 1 with(fail)
  rw[← hwo]
  clear hwo
  go_wp2_with fail
  clear kp8
  go_loopw [3] (fun i wr=>∃ k:Nat,k≤n8∧i=.int .i64 k∧Hid (firstE (condF p) n8 0=firstE (condF p) (n8-k) k)∧RowKit.Below w.heap.size w wr∧Whole wr w.heap.size 39 #[c0,.slice a1 n1 k1,c2,c3,c4,c5,c6,c7,.slice a8 n8 k8,.slice a9 n9 k9,c10,c11,c12,c13,c14,c15,c16]) (fun i _=>n8-(intOf i).toNat)
  case atStart=>exact⟨0,Nat.zero_le _,rfl,Lib.hid (by rw[Nat.sub_zero]),HBO.out,W0.out⟩
  case round =>
   clear W0 HBO
   obtain⟨k,hk,rfl,hinv,hb,hP0⟩:=hrel
   have HBR:=Lib.hid hb
   have HP0:=Lib.hid hP0
   have kp8:wr.cell? ⟨w.heap.size,8,none⟩=some (.slice a8 n8 k8):=HP0.out.cell 8
   clear hb hP0
   by_cases hlt:k<n8
   ·obtain⟨y,hy⟩:∃ y,p.conds[k]?=some y:=⟨_,List.getElem?_eq_getElem (by rw[← N8.out];exact hlt)⟩
    obtain⟨b,off,cs,rfl,hrow,hlen,hcc⟩:=HC8.out k y hy
    have HKC:=Lib.hid (show ∀ j u,cs[j]?=some u→wr.cell? ⟨b,off+k*10+j,none⟩=some u from fun j u hu=>cell_later HBR.out (hcc j u hu))
    have HKE:=Lib.hid (ExpAt.keep HBR.out hrow)
    have HLEN:=Lib.hid hlen
    have HPL:=Lib.hid (PolAt.keep HPA.out HBR.out)
    obtain⟨x,hx⟩:∃ x,x=conditionM p.bools.length y:=⟨_,rfl⟩
    have HX:=Lib.hid hx
    have HFX:=Lib.hid (show condF p k=x by unfold condF;rw[hy];exact hx.symm)
    clear hy hrow hlen hcc hx
    go_upto_region 6 with fail
    clear kp8
    refine wp_region_goods [some 22,some 23,some 24,some 25,some 26,some 27,some 28] [isW (.agg #[c0,.slice a1 n1 k1,c2,c3,c4,c5,c6,c7,.slice (some ⟨b,off,none⟩) n8 k8,.slice a9 n9 k9,c10,c11,c12,c13,c14,c15,c16]),isW (.pointer (some ⟨w.heap.size,8,none⟩)),isW (.slice (some ⟨b,off,none⟩) n8 k8),isW (.int .i64 (k:Int)),isW (.pointer (some ⟨b,off+k*10,none⟩)),isW (.agg cs.toArray),isW (.int .i64 x)] (fun _ w'=>RowKit.Below wr.heap.size wr w') [] (by kernel_rfl) (by kernel_rfl) (by kernel_rfl) rfl (by decide) rfl rfl ((Below.refl _ _).drew) ⟨lastsW_is _,lastsW_is _,lastsW_is _,lastsW_is _,lastsW_is _,lastsW_is _,lastsW_is _,trivial⟩ ⟨?_,?_,?_,?_,?_,?_,?_,?_⟩
    ·intro L a wy Q' hL hi H F hK
     try dsimp only at hi
     have h1:a.tmps[1]?=some (.pointer (some ⟨w.heap.size,0,none⟩)):=F 1 rfl
     have HI:=Lib.hid hi
     clear H F hi hL
     have HWP:=Lib.hid (Whole.under HI.out HP0.out HP0.out.lt)
     go_wp2_with (refine wpList_load_row rfl 39 _ rfl (w.heap.size) (by simp[Act.eval, *]) 39 _ (0,0) _ HWP.out Tryz.underlying39 rfl size39 ?_)
     exact hK _ _ (Below.refl _ _) HI.out rfl
    ·intro L a wy Q' hL hi H F hK
     try dsimp only at hi
     have h1:a.tmps[1]?=some (.pointer (some ⟨w.heap.size,0,none⟩)):=F 1 rfl
     have HI:=Lib.hid hi
     clear H F hi hL
     go_wp2_with fail
     exact hK _ _ (Below.refl _ _) HI.out rfl
    ·intro L a wy Q' hL hi H F hK
     try dsimp only at hi
     obtain⟨_,h23,rfl⟩:=H 1 ⟨.data,by simp,rfl⟩ _ rfl
     replace h23:=h23 _ rfl
     have HI:=Lib.hid hi
     clear H F hi hL
     have kq0:wy.cell? ⟨w.heap.size,8,none⟩=some (.slice (some ⟨b,off,none⟩) n8 k8):=(Whole.under HI.out HP0.out HP0.out.lt).cell 8
     go_wp2_with fail
     exact hK _ _ (Below.refl _ _) HI.out rfl
    ·intro L a wy Q' hL hi H F hK
     try dsimp only at hi
     have h3:a.tmps[3]?=some (.int .i64 (k:Int)):=F 3 rfl
     have HI:=Lib.hid hi
     clear H F hi hL
     go_wp2_with fail
     exact hK _ _ (Below.refl _ _) HI.out rfl
    ·intro L a wy Q' hL hi H F hK
     try dsimp only at hi
     obtain⟨_,h24,rfl⟩:=H 2 ⟨.data,by simp,rfl⟩ _ rfl
     replace h24:=h24 _ rfl
     obtain⟨_,h25,rfl⟩:=H 3 ⟨.data,by simp,rfl⟩ _ rfl
     replace h25:=h25 _ rfl
     have HI:=Lib.hid hi
     clear H F hi hL
     go_wp2_with fail
     exact hK _ _ (Below.refl _ _) HI.out rfl
    ·intro L a wy Q' hL hi H F hK
     try dsimp only at hi
     obtain⟨_,h26,rfl⟩:=H 4 ⟨.data,by simp,rfl⟩ _ rfl
     replace h26:=h26 _ rfl
     have HI:=Lib.hid hi
     clear H F hi hL
     have HKD:=Lib.hid (show ∀ j u,cs[j]?=some u→wy.cell? ⟨b,off+k*10+j,none⟩=some u from fun j u hu=>cell_later HI.out (HKC.out j u hu))
     go_wp2_with (refine wpList_load_run rfl 89 _ rfl (b) (off+k*10) (by simp[Act.eval, *]) cs _ HKD.out Tryz.underlying89 rfl (by rw[HLEN.out];exact size89) ?_)
     exact hK _ _ (Below.refl _ _) HI.out rfl
    ·intro L a wy Q' hL hi H F hK
     try dsimp only at hi
     obtain⟨_,h22,rfl⟩:=H 0 ⟨.data,by simp,rfl⟩ _ rfl
     replace h22:=h22 _ rfl
     obtain⟨_,h27,rfl⟩:=H 5 ⟨.data,by simp,rfl⟩ _ rfl
     replace h27:=h27 _ rfl
     have HI:=Lib.hid hi
     clear H F hi hL
     have HK:=Lib.hid hK
     clear hK
     go_wp2_with (go_at_call 110;go_must (refine(show Calls Tryz.prog 110 _ _ (fun e w'=>e=.returned (.int .i64 x)∧RowKit.Below wy.heap.size wy w') from by rw[HX.out];exact Condition_any y wy cs _ _ _ _ _ _ _ _ _ _ _ _ _ _ _ _ _ p (PolAt.keep HPL.out HI.out) (ExpAt.keep HI.out HKE.out)).mono ?_;rintro e w1 ⟨rfl,hb1⟩))
     exact HK.out _ _ hb1 (HI.out.trans (hb1.mono HI.out.size)) rfl
    ·intro a wy L hl hi hL Q' hK
     try dsimp only at hi
     have HB:=Lib.hid hi
     clear hi hL
     obtain⟨_,rfl,_,rfl,_,rfl,_,rfl,_,rfl,_,rfl,_,rfl,rfl⟩:=hl
     simp only[List.setIfInBounds_toArray,List.set_cons_zero,List.set_cons_succ]
     have HBB:=Lib.hid (HBR.out.trans (HB.out.mono HBR.out.size))
     by_cases hx0:x=0
     ·have HF:=Lib.hid (firstE_next (f:=condF p) hlt (by rw[HFX.out];exact hx0))
      subst hx0
      go_wp2_with fail
      go_roundw
      case rel=>exact⟨k+1,by omega,by go_num,Lib.hid (hinv.out.trans HF.out),HBB.out,Whole.under HB.out HP0.out HP0.out.lt⟩
      case measure=>simp[intOf];omega
     ·have HF:=Lib.hid (firstE_at (f:=condF p) hlt (by rw[HFX.out];exact hx0))
      have hxx:(x != 0)=true:=by simp[hx0]
      have HX0:=Lib.hid hx0
      go_wp2_with fail
      go_ret
      exact⟨ret_int (by rw[rulesM_cond (by rw[← N8.out];exact h64) (by rw[← N8.out,hinv.out,HF.out,HFX.out];exact HX0.out),← N8.out,hinv.out,HF.out,HFX.out]),HBB.out⟩
   ·obtain rfl:n8=k:=by omega
    have HZC:=Lib.hid (show firstE (condF p) p.conds.length 0=0 by rw[← N8.out,hinv.out,firstE_stop])
    have kp9:wr.cell? ⟨w.heap.size,9,none⟩=some (.slice a9 n9 k9):=HP0.out.cell 9
    clear hinv
    by_cases h40:4096<n9
    ·have d1:decide ((4096:Int)<(n9:Int))=true:=by simp;omega
     go_wp2_with fail
     go_ret
     exact⟨ret_int (rulesM_long (by rw[← N8.out];exact h64) HZC.out (by rw[← N9.out];exact h40)).symm,HBR.out⟩
    ·have d1:decide ((4096:Int)<(n9:Int))=false:=by simp;omega
     have HRM:=Lib.hid (rulesM_rule (p:=p) (by rw[← N8.out];exact h64) HZC.out (by rw[← N9.out];exact h40))
     go_wp2_with fail
     clear kp8 kp9 HZC
     obtain⟨wq,rfl⟩:∃ wq:World,wq=wr:=⟨_,rfl⟩
     go_loopw [5] (fun i wr=>∃ m:Nat,m≤n9∧i=.int .i64 m∧Hid (firstE (ruleF p) n9 0=firstE (ruleF p) (n9-m) m)∧RowKit.Below w.heap.size w wr∧Whole wr w.heap.size 39 #[c0,.slice a1 n1 k1,c2,c3,c4,c5,c6,c7,.slice a8 n8 k8,.slice a9 n9 k9,c10,c11,c12,c13,c14,c15,c16]) (fun i _=>n9-(intOf i).toNat)
     case atStart=>exact⟨0,Nat.zero_le _,rfl,Lib.hid (by rw[Nat.sub_zero]),HBR.out,HP0.out⟩
     case round =>
      clear HP0 HBR
      obtain⟨m,hm,rfl,hinv,hb,hP0⟩:=hrel
      have HBR:=Lib.hid hb
      have HP0:=Lib.hid hP0
      have kp9:wr.cell? ⟨w.heap.size,9,none⟩=some (.slice a9 n9 k9):=HP0.out.cell 9
      clear hb hP0
      by_cases hlm:m<n9
      ·obtain⟨r,hr⟩:∃ r,p.rules[m]?=some r:=⟨_,List.getElem?_eq_getElem (by rw[← N9.out];exact hlm)⟩
       have HRA:=Lib.hid (HOK.out.rules r (List.mem_of_getElem? hr))
       have HRO:=Lib.hid (show r.Ok from⟨HRA.out.src,HRA.out.tgt⟩)
       have HU:=Lib.hid HRA.out.perms
       obtain⟨b,off,rfl,hcc⟩:=HC9.out m (by rw[← N9.out];exact hlm)
       have HKC:=Lib.hid (show ∀ j u,[.int .i64 r.kind,.int .u64 r.src.a,.int .u64 r.src.b,.int .u64 r.src.c,.int .u64 r.src.d,.int .u64 r.tgt.a,.int .u64 r.tgt.b,.int .u64 r.tgt.c,.int .u64 r.tgt.d,.bool r.self,.int .i64 r.cls,.int .u32 r.perms,.int .i64 r.cond][j]?=some u→wr.cell? ⟨b,off+m*13+j,none⟩=some u from fun j u hu=>cell_later HBR.out (hcc j u (by
        have hj:j<13:=(List.getElem?_eq_some_iff.1 hu).1
        rw[flat_at ARule.cells_len hr j hj]
        exact hu)))
       obtain⟨z,hz⟩:∃ z,z=ruleF p m:=⟨_,rfl⟩
       have hze:z=ruleM n1 n8 p.classes r:=by rw[hz,N1.out,N8.out];unfold ruleF;rw[hr]
       have HZF:=Lib.hid hz
       have HZ:=Lib.hid hze
       clear hr hcc hz hze
       go_upto_region 15 with(first | (refine wpList_load_run rfl 56 _ rfl (b) (off+m*13) rfl [.int .i64 r.kind,.int .u64 r.src.a,.int .u64 r.src.b,.int .u64 r.src.c,.int .u64 r.src.d,.int .u64 r.tgt.a,.int .u64 r.tgt.b,.int .u64 r.tgt.c,.int .u64 r.tgt.d,.bool r.self,.int .i64 r.cls,.int .u32 r.perms,.int .i64 r.cond] _ HKC.out Tryz.underlying56 rfl size56 ?_) | (refine wpList_store_blk rfl 56 _ _ rfl wr.heap.size 0 (.agg #[.int .i64 r.kind,.int .u64 r.src.a,.int .u64 r.src.b,.int .u64 r.src.c,.int .u64 r.src.d,.int .u64 r.tgt.a,.int .u64 r.tgt.b,.int .u64 r.tgt.c,.int .u64 r.tgt.d,.bool r.self,.int .i64 r.cls,.int .u32 r.perms,.int .i64 r.cond]) rfl rfl 56 _ (Whole.new wr 56 _) (by simp[Value.cells]) size56 rfl ?_;intro w1 S1 W1;rw[splice_all _ _ (by rfl)] at W1;have HS1:=Lib.hid S1;have HRB:=Lib.hid (show Whole w1 wr.heap.size 56 #[.int .i64 r.kind,.int .u64 r.src.a,.int .u64 r.src.b,.int .u64 r.src.c,.int .u64 r.src.d,.int .u64 r.tgt.a,.int .u64 r.tgt.b,.int .u64 r.tgt.c,.int .u64 r.tgt.d,.bool r.self,.int .i64 r.cls,.int .u32 r.perms,.int .i64 r.cond] from W1);clear S1 W1))
       have HBA:=Lib.hid (show RowKit.Below wr.heap.size wr w1 from((Below.refl _ wr).alloc (Nat.le_refl _) _).trans (HS1.out.below (Nat.le_refl _)))
       have HQ1:=Lib.hid (Whole.under HBA.out HP0.out HP0.out.lt)
       have HB1:=Lib.hid (HBR.out.trans (HBA.out.mono HBR.out.size))
       clear kp9 HKC HS1 HP0 HBA
       have f0:w1.cell? ⟨wr.heap.size,0,none⟩=some (.int .i64 r.kind):=HRB.out.cell 0
       have f1:w1.cell? ⟨wr.heap.size,1,none⟩=some (.int .u64 r.src.a):=HRB.out.cell 1
       have f2:w1.cell? ⟨wr.heap.size,2,none⟩=some (.int .u64 r.src.b):=HRB.out.cell 2
       have f3:w1.cell? ⟨wr.heap.size,3,none⟩=some (.int .u64 r.src.c):=HRB.out.cell 3
       have f4:w1.cell? ⟨wr.heap.size,4,none⟩=some (.int .u64 r.src.d):=HRB.out.cell 4
       have q1:w1.cell? ⟨w.heap.size,1,none⟩=some (.slice a1 n1 k1):=HQ1.out.cell 1
       by_cases hk1:r.kind<1
       ·have HV:=Lib.hid (show z=13 by rw[HZ.out];unfold ruleM;rw[if_pos hk1])
        have d2:decide (r.kind<1)=true:=by simp[hk1]
        go_wp2_with fail
        go_ret
        exact⟨ret_int (by rw[HRM.out,← N9.out,hinv.out,firstE_at hlm (by rw[← HZF.out,HV.out];decide),← HZF.out,HV.out]),HB1.out⟩
       ·have d2:decide (r.kind<1)=false:=by simp;omega
        by_cases hk4:4<r.kind
        ·have HV:=Lib.hid (show z=13 by rw[HZ.out];unfold ruleM;rw[if_neg hk1,if_pos hk4])
         have d3:decide (4<r.kind)=true:=by simp[hk4]
         go_wp2_with fail
         go_ret
         exact⟨ret_int (by rw[HRM.out,← N9.out,hinv.out,firstE_at hlm (by rw[← HZF.out,HV.out];decide),← HZF.out,HV.out]),HB1.out⟩
        ·have d3:decide (4<r.kind)=false:=by simp;omega
         have HZ':=Lib.hid (show z=if ruleOut (r.src.within (ASet.all n1)) (r.tgt.within (ASet.all n1)) (vectorB p.classes r.cls r.perms) (condB n8 r.cond)=true then 3 else if ruleArg (someB r.src) (someB r.tgt) r=true then 2 else 0 by rw[HZ.out];unfold ruleM;rw[if_neg hk1,if_neg hk4])
         go_upto_region 19 with(first | (have hZ:=HQ1;clear hZ;go_at_call 103;go_must (refine(some_any w1 r.src HRO.out.src n1 HN1.out).mono ?_;rintro e w2 ⟨rfl,hb⟩;have HB2:=Lib.hid hb;clear hb;have HQ2:=Lib.hid (Whole.under HB2.out HQ1.out HQ1.out.lt);have HR2:=Lib.hid (Whole.under HB2.out HRB.out HRB.out.lt);clear HQ1 HRB f0 f1 f2 f3 f4 q1;have f5:w2.cell? ⟨wr.heap.size,5,none⟩=some (.int .u64 r.tgt.a):=HR2.out.cell 5;have f6:w2.cell? ⟨wr.heap.size,6,none⟩=some (.int .u64 r.tgt.b):=HR2.out.cell 6;have f7:w2.cell? ⟨wr.heap.size,7,none⟩=some (.int .u64 r.tgt.c):=HR2.out.cell 7;have f8:w2.cell? ⟨wr.heap.size,8,none⟩=some (.int .u64 r.tgt.d):=HR2.out.cell 8;have q1:w2.cell? ⟨w.heap.size,1,none⟩=some (.slice a1 n1 k1):=HQ2.out.cell 1)) | (have hZ:=HQ2;clear hZ;go_at_call 103;go_must (refine(some_any w2 r.tgt HRO.out.tgt n1 HN1.out).mono ?_;rintro e w3 ⟨rfl,hb⟩;have HB3:=Lib.hid hb;clear hb;have HQ3:=Lib.hid (Whole.under HB3.out HQ2.out HQ2.out.lt);have HR3:=Lib.hid (Whole.under HB3.out HR2.out HR2.out.lt);clear HQ2 HR2 f5 f6 f7 f8 q1)))
         have HB3':=Lib.hid ((HB1.out.trans (HB2.out.mono HB1.out.size)).trans (HB3.out.mono (by have:=HB1.out.size;have:=HB2.out.size;omega)))
         obtain⟨q,hq⟩:∃ q,q=ruleOut (r.src.within (ASet.all n1)) (r.tgt.within (ASet.all n1)) (vectorB p.classes r.cls r.perms) (condB p.conds.length r.cond):=⟨_,rfl⟩
         have HQQ:=Lib.hid (show ruleOut (r.src.within (ASet.all n1)) (r.tgt.within (ASet.all n1)) (vectorB p.classes r.cls r.perms) (condB n8 r.cond)=q by rw[hq,N8.out])
         refine r19_any w3 w.heap.size wr.heap.size _ _ _ _ _ _ _ _ _ _ _ _ _ _ _ _ _ p r _ _ q _ _ _ _ _ _ _ _ _ _ _ _ _ _ _ _ _ _ _ _ _ _ _ _ _ _ _ _ _ _ _ _ _ _ _ _ _ _ _ _ _ _ _ _ _ _ _ _ _ _ _ _ _ _ _ _ _ _ _ _ _ _ _ _ _ _ _ _ _ _ _ _ _ _ _ _ _ _ _ _ _ _ _ _ _ _ _ _ _ _ _ _ _ _ _ _ _ _ _ _ _ _ _ _ _ _ _ _ _ _ _ _ _ _ _ _ _ _ (Lib.hid (PolAt.keep HPA.out HB3'.out)) HU HQ3 HR3 hq ?_
         intro _ _ _ _ _ _ _ _ _ _ _ _ _ _ _ _ _ _ _ _ _ w4 hb4
         have HB4:=Lib.hid (HB3'.out.trans (hb4.mono HB3'.out.size))
         have HQ4:=Lib.hid (Whole.under hb4 HQ3.out HQ3.out.lt)
         have HR4:=Lib.hid (Whole.under hb4 HR3.out HR3.out.lt)
         clear hb4 HQ3 HR3 hq HB2 HB3
         cases q with
         | true =>
          have HV:=Lib.hid (show z=3 by rw[HZ'.out,if_pos HQQ.out])
          go_wp2_with fail
          go_ret
          exact⟨ret_int (by rw[HRM.out,← N9.out,hinv.out,firstE_at hlm (by rw[← HZF.out,HV.out];decide),← HZF.out,HV.out]),HB4.out⟩
         | false =>
          have hnq:¬ ruleOut (r.src.within (ASet.all n1)) (r.tgt.within (ASet.all n1)) (vectorB p.classes r.cls r.perms) (condB n8 r.cond)=true:=by rw[HQQ.out];decide
          obtain⟨t,ht⟩:∃ t,t=ruleArg (someB r.src) (someB r.tgt) r:=⟨_,rfl⟩
          have HTT:=Lib.hid ht
          go_upto_region 21 with fail
          refine r21_any w4 wr.heap.size r _ _ t _ _ _ _ _ _ _ _ _ _ _ _ _ _ _ _ _ _ _ _ _ _ _ _ _ _ _ _ _ _ _ _ _ _ _ _ _ _ _ _ _ _ _ _ _ _ _ _ _ _ _ _ _ _ _ _ _ _ _ _ _ _ _ _ _ _ _ _ _ _ _ _ _ _ _ _ _ _ _ _ _ _ _ _ _ _ _ _ _ _ _ _ _ _ _ _ _ _ _ _ _ _ _ _ _ _ _ _ _ _ _ _ _ _ _ _ _ _ _ HR4 ht ?_
          intro _ _ _ _ _ _ _ _ _ _ _ _ _ _ _ _ _ _ _ _ _ _ _ _ _ _
          cases t with
          | true =>
           have HV:=Lib.hid (show z=2 by rw[HZ'.out,if_neg hnq,if_pos HTT.out.symm])
           go_wp2_with fail
           go_ret
           exact⟨ret_int (by rw[HRM.out,← N9.out,hinv.out,firstE_at hlm (by rw[← HZF.out,HV.out];decide),← HZF.out,HV.out]),HB4.out⟩
          | false =>
           have HV:=Lib.hid (show z=0 by rw[HZ'.out,if_neg hnq,if_neg (by rw[← HTT.out];decide)])
           go_wp2_with fail
           go_roundw
           case rel=>exact⟨m+1,by omega,by go_num,Lib.hid (hinv.out.trans (firstE_next hlm (by rw[← HZF.out,HV.out]))),HB4.out,HQ4.out⟩
           case measure=>simp[intOf];omega
      ·obtain rfl:n9=m:=by omega
       go_wp2_with fail
       go_ret
       exact⟨ret_int (by rw[HRM.out,← N9.out,hinv.out,firstE_stop]),HBR.out⟩
end Go.Proofs.YtdcofoaihmongaaGreat
namespace Go.Proofs.YtdcofoaihmongaaGreat
open Go Go.RowKit
theorem info9:infoB (Tryz.prog.info? 9) 1 16=true:=by kernel_rfl
def OwnS (w:World) (base:Nat) (v:Value) (l:List ByteArray):Prop:=w.ownsRow base 9 1 v l.length (l.flatMap strCell)
theorem strs_one (l:List ByteArray):∀ u∈l.flatMap strCell,u.oneCell'=true:=by
 intro u hu
 obtain⟨s,-,hs⟩:=List.mem_flatMap.1 hu
 rw[List.mem_singleton.1 hs]
 rfl
theorem own_strs {w:World} {base:Nat} {v:Value} {l:List ByteArray} (h:OwnS w base v l):StrsAt w v l:=SliceAt.of_own h (strs_one l)
theorem SliceAt.of_whole {w:World} {g:Nat} {t:TypeId} {cs:Array Value} {k n:Nat} (h:Whole w g t cs) (hl:cs.toList.length=n*k) (h1:cs.toList.all (·.oneCell')=true) (hn:n≤maxLen) :
 SliceAt w (.slice (some ⟨g,0,none⟩) n n) k n cs.toList :=
 ⟨hl,hn,fun u hu=>List.all_eq_true.1 h1 u hu,.inr ⟨_,n,rfl,Nat.le_refl _,fun j u hu=>by rw[Addr.add_lit,Nat.zero_add,h.cell];simpa using hu⟩⟩
theorem one_str {w:World} {g:Nat} {t:TypeId} {s:ByteArray} (h:Whole w g t #[.string s]):StrsAt w (.slice (some ⟨g,0,none⟩) 1 1) [s] :=
 SliceAt.of_whole (k:=1) (n:=1) h rfl rfl (by simp[maxLen])
theorem one_ok {s:ByteArray} (h:StrOk s):∀ x∈[s],StrOk x:=fun x hx=>by rw[List.mem_singleton.1 hx];exact h
def assertM (nT:Nat) (before:List ByteArray) (y:AAss):Int :=
 if namesM [y.name] before=0 then
  (if y.kind<1 then 13 else if 3<y.kind then 13
   else if (!(y.src.within (ASet.all nT))||!(y.tgt.within (ASet.all nT)))=true then 3
   else if (!(someB y.src)||!(someB y.tgt))=true then 2 else 0)
 else namesM [y.name] before
def assertF (p:APol) (i:Nat):Int:=match p.asserts[i]? with
 | some y=>assertM p.types.length ((p.asserts.take i).map (·.name)) y
 | none=>0
def assertsM (p:APol):Int:=if 64<p.asserts.length then 4 else firstE (assertF p) p.asserts.length 0
set_option maxRecDepth 100000 in
set_option maxHeartbeats 4000000 in
theorem asserts_any (w:World) (c0 c1 c2 c3 c4 c5 c6 c7 c8 c9 c10 c11 c12 c13 c14 c15 c16:Value) (p:APol) (hp:PolAt w c0 c1 c2 c3 c4 c5 c6 c7 c8 c9 c10 c11 c12 c13 c14 c15 c16 p) (hok:p.Ok):Calls Tryz.prog 51 #[.agg #[c0,c1,c2,c3,c4,c5,c6,c7,c8,c9,c10,c11,c12,c13,c14,c15,c16]] w fun e w'=>e=.returned (.int .i64 (assertsM p))∧RowKit.Below w.heap.size w w':=by
 obtain⟨i0,z0,hi,hz0,hz1,hz2,hzs⟩:=infoOf info9
 have hn1':p.types.length≤140737488355328:=hok.typesL
 obtain⟨a16',k16',hce,-,-,hcell⟩:=SliceAt.form hp.asserts (by decide)
 obtain⟨a1,k1,rfl,hk1,hm1⟩:=PolAt.f1 hp
 obtain⟨n1,hn1⟩:∃ n,n=p.types.length:=⟨_,rfl⟩
 have N1:=Lib.hid hn1
 rw[← hn1] at hk1 hm1 ⊢
 clear hn1
 obtain⟨a16,k16,rfl,hk16,hm16⟩:=PolAt.f16 hp
 obtain⟨n16,hn16⟩:∃ n,n=p.asserts.length:=⟨_,rfl⟩
 have N16:=Lib.hid hn16
 rw[← hn16] at hk16 hm16 ⊢
 clear hn16
 obtain⟨rfl,rfl⟩:a16=a16'∧k16=k16':=by injection hce with e1 e2 e3;exact⟨e1,e3⟩
 rw[← N1.out] at hn1'
 have HN1:=Lib.hid hn1'
 have HC:=Lib.hid hcell
 have HOK:=Lib.hid hok
 clear hp hok hcell hce hn1'
 obtain⟨zz,hzz⟩:∃ z,z=assertsM p:=⟨_,rfl⟩
 have HZZ:=Lib.hid hzz
 rw[← hzz]
 clear hzz
 obtain⟨wo,hwo⟩:∃ wo,wo=(w).alloc (.cells #[c0,.slice a1 n1 k1,c2,c3,c4,c5,c6,c7,c8,c9,c10,c11,c12,c13,c14,c15,.slice a16 n16 k16] 39):=⟨_,rfl⟩
 have W0:=Lib.hid (show Whole wo w.heap.size 39 #[c0,.slice a1 n1 k1,c2,c3,c4,c5,c6,c7,c8,c9,c10,c11,c12,c13,c14,c15,.slice a16 n16 k16] by rw[hwo];exact(Whole.new w 39 _))
 have HBO:=Lib.hid (show RowKit.Below w.heap.size w wo by rw[hwo];exact((Below.refl _ w).alloc (Nat.le_refl _) _))
 have kp16:wo.cell? ⟨w.heap.size,16,none⟩=some (.slice a16 n16 k16):=W0.out.cell 16
 by_cases h64:64<n16
 ·have d0:decide ((64:Int)<(n16:Int))=true:=by simp;omega
  go_enter Tryz.func51,Tryz.ntmps51
  go_upto_region 1 with(fail)
  rw[← hwo]
  clear hwo
  go_wp2_with fail
  go_ret
  exact⟨ret_int (by rw[HZZ.out];unfold assertsM;rw[if_pos (by rw[← N16.out];exact h64)]),HBO.out⟩
 ·have d0:decide ((64:Int)<(n16:Int))=false:=by simp;omega
  have HRM:=Lib.hid (show zz=firstE (assertF p) n16 0 by rw[HZZ.out];unfold assertsM;rw[if_neg (by rw[← N16.out];exact h64),N16.out])
  go_enter Tryz.func51,Tryz.ntmps51
  go_upto_region 1 with(fail)
  rw[← hwo]
  clear hwo
  go_wp2_with fail
  clear kp16
  go_loopw [3,4] (fun v i wr=>∃ m:Nat,m≤n16∧i=.int .i64 m∧OwnS wr w.heap.size v ((p.asserts.take m).map (·.name))∧Hid (firstE (assertF p) n16 0=firstE (assertF p) (n16-m) m)∧RowKit.Below w.heap.size w wr∧Whole wr w.heap.size 39 #[c0,.slice a1 n1 k1,c2,c3,c4,c5,c6,c7,c8,c9,c10,c11,c12,c13,c14,c15,.slice a16 n16 k16]) (fun _ i _=>n16-(intOf i).toNat)
  case atStart=>exact⟨0,Nat.zero_le _,rfl,World.ownsRow_nil _ _ _ _,Lib.hid (by rw[Nat.sub_zero]),HBO.out,W0.out⟩
  case round =>
   clear W0 HBO
   obtain⟨m,hm,rfl,hown,hinv,hb,hP0⟩:=hrel
   have HOW:=Lib.hid hown
   have HBR:=Lib.hid hb
   have HP0:=Lib.hid hP0
   have kp16:wr.cell? ⟨w.heap.size,16,none⟩=some (.slice a16 n16 k16):=HP0.out.cell 16
   clear hb hP0 hown
   by_cases hlm:m<n16
   ·obtain⟨y,hy⟩:∃ y,p.asserts[m]?=some y:=⟨_,List.getElem?_eq_getElem (by rw[← N16.out];exact hlm)⟩
    have HYO:=Lib.hid (HOK.out.asserts y (List.mem_of_getElem? hy))
    obtain⟨b,off,rfl,hcc⟩:=HC.out m (by rw[← N16.out];exact hlm)
    have HKC:=Lib.hid (show ∀ j u,[.string y.name,.int .i64 y.kind,.int .u64 y.src.a,.int .u64 y.src.b,.int .u64 y.src.c,.int .u64 y.src.d,.int .u64 y.tgt.a,.int .u64 y.tgt.b,.int .u64 y.tgt.c,.int .u64 y.tgt.d][j]?=some u→wr.cell? ⟨b,off+m*10+j,none⟩=some u from fun j u hu=>cell_later HBR.out (hcc j u (by
     have hj:j<10:=(List.getElem?_eq_some_iff.1 hu).1
     rw[flat_at AAss.cells_len hy j hj]
     exact hu)))
    obtain⟨l,hl⟩:∃ l,l=(p.asserts.take m).map (·.name):=⟨_,rfl⟩
    have HLL:=Lib.hid hl
    have HTS:=Lib.hid (show(p.asserts.take (m+1)).map (·.name)=l++[y.name] by rw[take_snoc hy,List.map_append,← hl];rfl)
    have HZ:=Lib.hid (show assertF p m=assertM n1 l y by rw[N1.out,hl];unfold assertF;rw[hy])
    rw[← hl] at HOW
    obtain⟨x,hx⟩:∃ x,x=namesM [y.name] l:=⟨_,rfl⟩
    have HX:=Lib.hid hx
    have hll:l.length≤9223372036854775807:=by rw[hl,List.length_map,List.length_take];omega
    have hlm64:l.length≤64:=by rw[hl,List.length_map,List.length_take];omega
    clear hy hcc hl hx
    go_upto_region 8 with(first | (refine wpList_load_run rfl 129 _ rfl (b) (off+m*10) rfl [.string y.name,.int .i64 y.kind,.int .u64 y.src.a,.int .u64 y.src.b,.int .u64 y.src.c,.int .u64 y.src.d,.int .u64 y.tgt.a,.int .u64 y.tgt.b,.int .u64 y.tgt.c,.int .u64 y.tgt.d] _ HKC.out Tryz.underlying129 rfl size129 ?_) | (refine wpList_store_blk rfl 129 _ _ rfl wr.heap.size 0 (.agg #[.string y.name,.int .i64 y.kind,.int .u64 y.src.a,.int .u64 y.src.b,.int .u64 y.src.c,.int .u64 y.src.d,.int .u64 y.tgt.a,.int .u64 y.tgt.b,.int .u64 y.tgt.c,.int .u64 y.tgt.d]) rfl rfl 129 _ (Whole.new wr 129 _) (by simp[Value.cells]) size129 rfl ?_;intro w1 S1 W1;rw[splice_all _ _ (by rfl)] at W1;have HS1:=Lib.hid S1;have HRB:=Lib.hid (show Whole w1 wr.heap.size 129 #[.string y.name,.int .i64 y.kind,.int .u64 y.src.a,.int .u64 y.src.b,.int .u64 y.src.c,.int .u64 y.src.d,.int .u64 y.tgt.a,.int .u64 y.tgt.b,.int .u64 y.tgt.c,.int .u64 y.tgt.d] from W1);clear S1 W1))
    have HBA:=Lib.hid (show RowKit.Below wr.heap.size wr w1 from((Below.refl _ wr).alloc (Nat.le_refl _) _).trans (HS1.out.below (Nat.le_refl _)))
    have HQ1:=Lib.hid (Whole.under HBA.out HP0.out HP0.out.lt)
    have HB1:=Lib.hid (HBR.out.trans (HBA.out.mono HBR.out.size))
    have HOW1:=Lib.hid (show OwnS w1 w.heap.size _ l from own_keep HBA.out HOW.out (Nat.le_refl _))
    clear kp16 HKC HS1 HP0 HOW
    have f0:w1.cell? ⟨wr.heap.size,0,none⟩=some (.string y.name):=HRB.out.cell 0
    by_cases hx0:x=0
    ·subst hx0
     go_wp2_with (first | (have hZ:=HRB;clear hZ;go_at_call 101;go_must (refine(show Calls Tryz.prog 101 _ _ (fun e w'=>e=.returned (.int .i64 0)∧RowKit.Below (w1.alloc (.cells #[.string y.name] 9)).heap.size (w1.alloc (.cells #[.string y.name] 9)) w') from by rw[HX.out];exact names_any (w1.alloc (.cells #[.string y.name] 9)) _ _ [y.name] _ (one_str (Whole.new w1 9 _)) (own_strs (own_alloc HOW1.out _)) (one_ok HYO.out.name)).mono ?_;rintro e w2 ⟨rfl,hb⟩;have HB2:=Lib.hid hb;clear hb;have HB12:=Lib.hid (((Below.refl _ w1).alloc (Nat.le_refl _) _).trans (HB2.out.mono (by simp)));have HQ2:=Lib.hid (Whole.under HB12.out HQ1.out HQ1.out.lt);have HR2:=Lib.hid (Whole.under HB12.out HRB.out HRB.out.lt);have HOW2:=Lib.hid (show OwnS w2 w.heap.size _ l from own_keep HB12.out HOW1.out (Nat.le_refl _));have HBW2:=Lib.hid (HB1.out.trans (HB12.out.mono HB1.out.size));clear HQ1 HRB HOW1 HB2 f0;have f0:w2.cell? ⟨wr.heap.size,0,none⟩=some (.string y.name):=HR2.out.cell 0)) | (have hZ:=HOW2;clear hZ;at_builtin;refine wpList_append_own _ rfl _ _ 28 rfl w.heap.size 9 i0 z0 1 16 Tryz.underlying28 hi hz0 hz1 hz2 hzs (by decide) _ _ _ rfl (own_alloc HOW2.out _) ⟨w2.heap.size,0,none⟩ 1 1 [.string y.name] rfl rfl (cell_one_new _ _ _) ?c2 ?c3 ?c4 ?c5 ?_))
     case c2=>simp[Value.oneCell']
     case c3=>unfold maxLen;omega
     case c4=>omega
     case c5=>have:=HBW2.out.size;simp;omega
     intro v' w3 hown' hgrow hnil
     have HBW3:=Lib.hid (show RowKit.Below w.heap.size w w3 from(HBW2.out.alloc (by have:=HBW2.out.size;omega) _).grown hgrow (by have:=HBW2.out.size;simp;omega) (fun q hq=>by have:=(HOW2.out.lt q hq).1;omega))
     have HQ3:=Lib.hid ((HQ2.out.alloc (.cells #[.string y.name] 9)).grown hgrow (fun e=>own_blk_far HOW2.out HQ2.out (by decide) e.symm))
     have HR3:=Lib.hid ((HR2.out.alloc (.cells #[.string y.name] 9)).grown hgrow (fun e=>own_blk_far HOW2.out HR2.out (by decide) e.symm))
     have HOW3:=Lib.hid (show OwnS w3 w.heap.size v' (l++[y.name]) by unfold OwnS;rw[List.length_append,List.flatMap_append];exact hown')
     clear hgrow hnil hown' f0 HQ2 HR2 HOW2
     have f1:w3.cell? ⟨wr.heap.size,1,none⟩=some (.int .i64 y.kind):=HR3.out.cell 1
     have f2:w3.cell? ⟨wr.heap.size,2,none⟩=some (.int .u64 y.src.a):=HR3.out.cell 2
     have f3:w3.cell? ⟨wr.heap.size,3,none⟩=some (.int .u64 y.src.b):=HR3.out.cell 3
     have f4:w3.cell? ⟨wr.heap.size,4,none⟩=some (.int .u64 y.src.c):=HR3.out.cell 4
     have f5:w3.cell? ⟨wr.heap.size,5,none⟩=some (.int .u64 y.src.d):=HR3.out.cell 5
     have q1:w3.cell? ⟨w.heap.size,1,none⟩=some (.slice a1 n1 k1):=HQ3.out.cell 1
     by_cases hk1:y.kind<1
     ·have HV:=Lib.hid (show assertM n1 l y=13 by unfold assertM;rw[← HX.out,if_pos rfl,if_pos hk1])
      have d2:decide (y.kind<1)=true:=by simp[hk1]
      go_wp2_with fail
      go_ret
      exact⟨ret_int (by rw[HRM.out,hinv.out,firstE_at hlm (by rw[HZ.out,HV.out];decide),HZ.out,HV.out]),HBW3.out⟩
     ·have d2:decide (y.kind<1)=false:=by simp;omega
      by_cases hk4:3<y.kind
      ·have HV:=Lib.hid (show assertM n1 l y=13 by unfold assertM;rw[← HX.out,if_pos rfl,if_neg hk1,if_pos hk4])
       have d3:decide (3<y.kind)=true:=by simp[hk4]
       go_wp2_with fail
       go_ret
       exact⟨ret_int (by rw[HRM.out,hinv.out,firstE_at hlm (by rw[HZ.out,HV.out];decide),HZ.out,HV.out]),HBW3.out⟩
      ·have d3:decide (3<y.kind)=false:=by simp;omega
       have HZ':=Lib.hid (show assertM n1 l y=if (!(y.src.within (ASet.all n1))||!(y.tgt.within (ASet.all n1)))=true then 3 else if (!(someB y.src)||!(someB y.tgt))=true then 2 else 0 by unfold assertM;rw[← HX.out,if_pos rfl,if_neg hk1,if_neg hk4])
       go_upto_region 16 with(first | (have hZ:=HQ3;clear hZ;go_at_call 103;go_must (refine(some_any w3 y.src HYO.out.src n1 HN1.out).mono ?_;rintro e w4 ⟨rfl,hb⟩;have HB4:=Lib.hid hb;clear hb;have HQ4:=Lib.hid (Whole.under HB4.out HQ3.out HQ3.out.lt);have HR4:=Lib.hid (Whole.under HB4.out HR3.out HR3.out.lt);clear HQ3 HR3 f1 f2 f3 f4 f5 q1;have f6:w4.cell? ⟨wr.heap.size,6,none⟩=some (.int .u64 y.tgt.a):=HR4.out.cell 6;have f7:w4.cell? ⟨wr.heap.size,7,none⟩=some (.int .u64 y.tgt.b):=HR4.out.cell 7;have f8:w4.cell? ⟨wr.heap.size,8,none⟩=some (.int .u64 y.tgt.c):=HR4.out.cell 8;have f9:w4.cell? ⟨wr.heap.size,9,none⟩=some (.int .u64 y.tgt.d):=HR4.out.cell 9;have q1:w4.cell? ⟨w.heap.size,1,none⟩=some (.slice a1 n1 k1):=HQ4.out.cell 1)) | (have hZ:=HQ4;clear hZ;go_at_call 103;go_must (refine(some_any w4 y.tgt HYO.out.tgt n1 HN1.out).mono ?_;rintro e w5 ⟨rfl,hb⟩;have HB5:=Lib.hid hb;clear hb;have HQ5:=Lib.hid (Whole.under HB5.out HQ4.out HQ4.out.lt);clear HQ4 HR4 f6 f7 f8 f9 q1)))
       have HBW5:=Lib.hid ((HBW3.out.trans (HB4.out.mono HBW3.out.size)).trans (HB5.out.mono (by have:=HBW3.out.size;have:=HB4.out.size;omega)))
       have HB35:=Lib.hid (HB4.out.trans (HB5.out.mono HB4.out.size))
       clear HB4 HB5 d2 d3
       cases h1:y.src.within (ASet.all n1) with
       | false =>
        have HV:=Lib.hid (show assertM n1 l y=3 by rw[HZ'.out,h1];rfl)
        go_wp2_with fail
        go_ret
        exact⟨ret_int (by rw[HRM.out,hinv.out,firstE_at hlm (by rw[HZ.out,HV.out];decide),HZ.out,HV.out]),HBW5.out⟩
       | true =>
        cases h2:y.tgt.within (ASet.all n1) with
        | false =>
         have HV:=Lib.hid (show assertM n1 l y=3 by rw[HZ'.out,h1,h2];rfl)
         go_wp2_with fail
         go_ret
         exact⟨ret_int (by rw[HRM.out,hinv.out,firstE_at hlm (by rw[HZ.out,HV.out];decide),HZ.out,HV.out]),HBW5.out⟩
        | true =>
         cases h3:someB y.src with
         | false =>
          have HV:=Lib.hid (show assertM n1 l y=2 by rw[HZ'.out,h1,h2,h3];rfl)
          go_wp2_with fail
          go_ret
          exact⟨ret_int (by rw[HRM.out,hinv.out,firstE_at hlm (by rw[HZ.out,HV.out];decide),HZ.out,HV.out]),HBW5.out⟩
         | true =>
          cases h4:someB y.tgt with
          | false =>
           have HV:=Lib.hid (show assertM n1 l y=2 by rw[HZ'.out,h1,h2,h3,h4];rfl)
           go_wp2_with fail
           go_ret
           exact⟨ret_int (by rw[HRM.out,hinv.out,firstE_at hlm (by rw[HZ.out,HV.out];decide),HZ.out,HV.out]),HBW5.out⟩
          | true =>
           have HV:=Lib.hid (show assertM n1 l y=0 by rw[HZ'.out,h1,h2,h3,h4];rfl)
           have HOW5:=Lib.hid (show OwnS w5 w.heap.size v' (l++[y.name]) from own_keep HB35.out HOW3.out (Nat.le_refl _))
           go_wp2_with fail
           go_roundw
           case rel=>exact⟨m+1,by omega,by go_num,by rw[HTS.out];exact HOW5.out,Lib.hid (hinv.out.trans (firstE_next hlm (by rw[HZ.out,HV.out]))),HBW5.out,HQ5.out⟩
           case measure=>simp[intOf];omega
    ·have HV:=Lib.hid (show assertM n1 l y=x by unfold assertM;rw[← HX.out,if_neg hx0])
     have dx:(x != 0)=true:=by simp[hx0]
     have HX0:=Lib.hid hx0
     go_wp2_with (have hZ:=HRB;clear hZ;go_at_call 101;go_must (refine(show Calls Tryz.prog 101 _ _ (fun e w'=>e=.returned (.int .i64 x)∧RowKit.Below (w1.alloc (.cells #[.string y.name] 9)).heap.size (w1.alloc (.cells #[.string y.name] 9)) w') from by rw[HX.out];exact names_any (w1.alloc (.cells #[.string y.name] 9)) _ _ [y.name] _ (one_str (Whole.new w1 9 _)) (own_strs (own_alloc HOW1.out _)) (one_ok HYO.out.name)).mono ?_;rintro e w2 ⟨rfl,hb⟩;have HB2:=Lib.hid hb;clear hb;have HB12:=Lib.hid (((Below.refl _ w1).alloc (Nat.le_refl _) _).trans (HB2.out.mono (by simp)));have HQ2:=Lib.hid (Whole.under HB12.out HQ1.out HQ1.out.lt);have HR2:=Lib.hid (Whole.under HB12.out HRB.out HRB.out.lt);have HOW2:=Lib.hid (show OwnS w2 w.heap.size _ l from own_keep HB12.out HOW1.out (Nat.le_refl _));have HBW2:=Lib.hid (HB1.out.trans (HB12.out.mono HB1.out.size));clear HQ1 HRB HOW1 HB2 f0;have f0:w2.cell? ⟨wr.heap.size,0,none⟩=some (.string y.name):=HR2.out.cell 0))
     go_ret
     exact⟨ret_int (by rw[HRM.out,hinv.out,firstE_at hlm (by rw[HZ.out,HV.out];exact HX0.out),HZ.out,HV.out]),HBW2.out⟩
   ·obtain rfl:n16=m:=by omega
    go_wp2_with fail
    go_ret
    exact⟨ret_int (by rw[HRM.out,hinv.out,firstE_stop]),HBR.out⟩
end Go.Proofs.YtdcofoaihmongaaGreat

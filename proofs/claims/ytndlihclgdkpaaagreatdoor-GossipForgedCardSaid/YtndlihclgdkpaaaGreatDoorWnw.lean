/- The law's newWorld, walked. -/
import Derived.Test.YtndlihclgdkpaaaGreatDoorWst
import Derived.Test.YtndlihclgdkpaaaGreatDoorGsm
set_option linter.unusedVariables false
set_option linter.unusedSimpArgs false
open Go.Lib (hid)
set_option maxHeartbeats 4000000
set_option maxRecDepth 100000
namespace Go.Proofs.YtndlihclgdkpaaaGreatDoor
open Go.RowKit
open Kit (Chg)
open Sha (v)
open Go.Proofs.YtndlihclgdkpaaaGreatDoor.One

theorem Tryz.infoPS:(Tryz.prog.info? 27).map (fun i=>(i.zero,i.size,i.bytes))=some (some (.pointer none),1,8):=by kernel_rfl
theorem Tryz.infoPT:(Tryz.prog.info? 104).map (fun i=>(i.zero,i.size,i.bytes))=some (some (.pointer none),1,8):=by kernel_rfl
theorem ptrV_app (gs:List Nat) (g:Nat):ptrV (gs++[g])=ptrV gs++[.pointer (some ⟨g,0,none⟩)]:=by simp [ptrV]
section
variable {ops:Array Oper} {rest:List Oper} {o:Oper} {a:Act} {Q:Exit→Act→World→Prop} {K:Act→World→Prop}
theorem app_signer {w0:World} (hgd:o.guard=none) (s x:Operand) (ho:o.op= .call { callee:= .builtin .append,args:= #[s,x],argTypes:= #[107, 107] })
    (v:Value) (L:Nat) (gs:List Nat) (hs:a.eval s=v) (hown:w0.ownsRow 0 27 1 v L (ptrV gs)) (hL:L≤1000000)
    (g c:Nat) (hx:a.eval x= .slice (some ⟨w0.heap.size,0,none⟩) 1 c)
    (h: ∀v' w',w'.ownsRow 0 27 1 v' (L+1) (ptrV (gs++[g]))→(w0.alloc (.cells #[.pointer (some ⟨g,0,none⟩)] 27)).grownBy w' v.ownBlock→(v'.ownBlock=v.ownBlock∨v'.ownBlock=some (w0.heap.size+1))→wpList Tryz.prog ops Q rest (a.put o.dst v') w'):wpList Tryz.prog ops Q (o::rest) a (w0.alloc (.cells #[.pointer (some ⟨g,0,none⟩)] 27)):=by
 obtain ⟨i0,hi,hz0,hz1,hz2⟩:=info_parts Tryz.infoPS
 refine wpList_append_own_at _ hgd s x 107 ho 0 27 i0 (.pointer none) 1 8 Tryz.underlying107 hi hz0 hz1 hz2 rfl (by decide) v L (ptrV gs) hs (hown.alloc _) ⟨w0.heap.size,0,none⟩ 1 c [.pointer (some ⟨g,0,none⟩)] hx rfl (cell_one_new _ _ _) (by simp [Value.oneCell']) (by unfold maxLen;omega) (by omega) (Nat.zero_le _) ?_
 intro v' w4 hown4 hgr4 _ hat
 exact h v' w4 (by rw [ptrV_app];exact hown4) hgr4 (by simpa using hat)
theorem app_store {w0:World} (hgd:o.guard=none) (s x:Operand) (ho:o.op= .call { callee:= .builtin .append,args:= #[s,x],argTypes:= #[108, 108] })
    (v:Value) (L:Nat) (gs:List Nat) (hs:a.eval s=v) (hown:w0.ownsRow 0 104 1 v L (ptrV gs)) (hL:L≤1000000)
    (g c:Nat) (hx:a.eval x= .slice (some ⟨w0.heap.size,0,none⟩) 1 c)
    (h: ∀v' w',w'.ownsRow 0 104 1 v' (L+1) (ptrV (gs++[g]))→(w0.alloc (.cells #[.pointer (some ⟨g,0,none⟩)] 104)).grownBy w' v.ownBlock→(v'.ownBlock=v.ownBlock∨v'.ownBlock=some (w0.heap.size+1))→wpList Tryz.prog ops Q rest (a.put o.dst v') w'):wpList Tryz.prog ops Q (o::rest) a (w0.alloc (.cells #[.pointer (some ⟨g,0,none⟩)] 104)):=by
 obtain ⟨i0,hi,hz0,hz1,hz2⟩:=info_parts Tryz.infoPT
 refine wpList_append_own_at _ hgd s x 108 ho 0 104 i0 (.pointer none) 1 8 Tryz.underlying108 hi hz0 hz1 hz2 rfl (by decide) v L (ptrV gs) hs (hown.alloc _) ⟨w0.heap.size,0,none⟩ 1 c [.pointer (some ⟨g,0,none⟩)] hx rfl (cell_one_new _ _ _) (by simp [Value.oneCell']) (by unfold maxLen;omega) (by omega) (Nat.zero_le _) ?_
 intro v' w4 hown4 hgr4 _ hat
 exact h v' w4 (by rw [ptrV_app];exact hown4) hgr4 (by simpa using hat)
end
theorem getD_snoc {α:Type} {k:Nat} (l:List α) (x d:α) (e:l.length=k):(l++[x]).getD k d=x:=by
 rw [lD,List.getElem?_append_right (by omega),e,Nat.sub_self];rfl
theorem grow_row {w w4:World} {G:Nat→Nat} {o:Obj} {T c P j n n':Nat} {v v':Value} {xs xs':List Value} {row:Array Value}
    (hrow:w.heap[P]? =some (.cells row 110 (0,0))) (hP:G P=7) (hT: 110 ≠T)
    (hv:w.ownsRow 0 T 1 v n xs) (htg: ∀q,v.ownBlock=some q→G q=c) (top: ∀q,w.heap.size≤q→G q=0)
    (ho:w4.ownsRow 0 T 1 v' n' xs') (hg:(w.alloc o).grownBy w4 v.ownBlock) (hat:v'.ownBlock=v.ownBlock∨v'.ownBlock=some (w.heap.size+1)):
    w4.heap[P]? =some (.cells row 110 (0,0))∧Step G (tagAt G v' c) (fun t=>t=c∨t=7) w (w4.setCell ⟨P,j,none⟩ v')∧(w4.setCell ⟨P,j,none⟩ v').ownsRow 0 T 1 v' n' xs'∧tagAt G v' c P=7∧(∀q,v'.ownBlock=some q→tagAt G v' c q=c)∧(∀q,(w4.setCell ⟨P,j,none⟩ v').heap.size≤q→tagAt G v' c q=0):=by
 have hpl:P<w.heap.size:=(gS hrow).1
 have hpr:some P≠v.ownBlock:=not_row_of hv hrow hT
 have h4:w4.heap[P]? =some (.cells row 110 (0,0)):=(hg.block P (by simp;omega) hpr).trans ((Below.heap_alloc _ _ _ hpl).trans hrow)
 have hpr':some P≠v'.ownBlock:=by
  rcases hat with e | e
  ·rw [e];exact hpr
  ·rw [e];intro h;cases h;omega
 have hsz:w.heap.size+1≤w4.heap.size:=by have:=hg.size;simpa using this
 have hchg:Chg (fun k _=>G k=c∨G k=7) w w4:=(Chg.alloc1 w o).trans (Chg.of_grown hg (fun k i e=> .inl (htg k e)))
 refine ⟨h4,⟨hchg.setCell _ (.inr hP),fun k hk=>tagAt_old htg hat k (by omega)⟩,ownsRow_keepM ho (Chg.setCell1 (M:=fun k _=>k=P) _ _ _ _ rfl) (fun g hg i e=>hpr' (by rw [← e];exact hg.symm)),?_,fun q hq=>tagAt_own hq,fun q hq=> ?_⟩
 ·rw [tagAt_old htg hat P (by omega)];exact hP
 ·have hq':w4.heap.size≤q:=by simpa [World.setCell] using hq
  unfold tagAt
  rw [if_neg (fun hb=>by have:=(ho.lt q hb).2;omega)]
  exact top q (by omega)
structure Wd1 (w:World) (G:Nat→Nat) (P:Nat) (b t:Nat) (pks sds:List ByteArray) (gs:List Nat) (kp ks:Nat) (vp vs:Value):Prop where
 row:w.heap[P]? =some (.cells (worldRow b t vp vs (.slice none 0 0)) 110 (0,0))
 rtag:G P=7
 pub:w.ownsRow 0 9 1 vp kp (strV (pks.take kp))
 ptag: ∀q,vp.ownBlock=some q→G q=5
 sig:w.ownsRow 0 27 1 vs ks (ptrV gs)
 stag: ∀q,vs.ownBlock=some q→G q=6
 plen:pks.length=ks
 glen:gs.length=ks
 slen:sds.length=ks
 sg: ∀i,i<ks→ ∃B N,SgO w G B N (gs.getD i 0) b t (sds.getD i ByteArray.empty) (pks.getD i ByteArray.empty)
 dis: ∀i j,i<ks→j<i→gs.getD j 0<gs.getD i 0
 seed: ∀i,i<ks→nb (sds.getD i ByteArray.empty)=keyB (48+i)
 glo: ∀i,i<ks→P≤gs.getD i 0
 tags: ∀q,G q=0∨G q=5∨G q=6∨G q=7
 top: ∀q,w.heap.size≤q→G q=0
theorem Wd1.later {w w':World} {G:Nat→Nat} {P b t:Nat} {pks sds:List ByteArray} {gs:List Nat} {kp ks:Nat} {vp vs:Value} (h:Wd1 w G P b t pks sds gs kp ks vp vs) (hb:Below w.heap.size w w'):Wd1 w' G P b t pks sds gs kp ks vp vs:=
 ⟨(hb.block P (gS h.row).1).trans h.row,h.rtag,own_later h.pub hb,h.ptag,own_later h.sig hb,h.stag,h.plen,h.glen,h.slen,fun i hi=>by
  obtain ⟨B,N,hs⟩:=h.sg i hi
  exact ⟨B,N,hs.step (Step.of_below hb G (fun _=>False)) (fun h=>h)⟩,h.dis,h.seed,h.glo,h.tags,fun q hq=>h.top q (Nat.le_trans hb.size hq)⟩
theorem Wd1.signer {w w4:World} {G:Nat→Nat} {o:Obj} {P b t:Nat} {pks sds:List ByteArray} {gs:List Nat} {k:Nat} {vp vs v':Value} {B N g:Nat} {seed pk:ByteArray} (h:Wd1 w G P b t pks sds gs k k vp vs) (hS:SgO w G B N g b t seed pk) (hlt: ∀i,i<k→gs.getD i 0<g) (hsd:nb seed=keyB (48+k)) (hPg:P≤g)
    (ho:w4.ownsRow 0 27 1 v' (k+1) (ptrV (gs++[g]))) (hg:(w.alloc o).grownBy w4 vs.ownBlock) (hat:v'.ownBlock=vs.ownBlock∨v'.ownBlock=some (w.heap.size+1)):
    Wd1 (w4.setCell ⟨P,3,none⟩ v') (tagAt G v' 6) P b t (pks++[pk]) (sds++[seed]) (gs++[g]) k (k+1) vp v'∧Step G (tagAt G v' 6) (fun t=>t=6∨t=7) w (w4.setCell ⟨P,3,none⟩ v'):=by
 obtain ⟨h4,hst,hown,hr,ht,htop⟩:=grow_row (j:=3) h.row h.rtag (by decide) h.sig h.stag h.top ho hg hat
 have gd: ∀{α:Type} (l:List α) (x d:α),l.length=k→(l++[x]).getD k d=x:=fun l x d e=>by
  rw [lD,List.getElem?_append_right (by omega),e,Nat.sub_self];rfl
 have gl: ∀{α:Type} (l:List α) (x d:α) (i:Nat),l.length=k→i<k→(l++[x]).getD i d=l.getD i d:=fun l x d i e hi=>by
  rw [lD,List.getElem?_append_left (by omega),← lD]
 obtain ⟨p1,p2⟩:=own_step h.pub h.ptag hst (by decide)
 refine ⟨⟨heap_setCell_same w4 P 3 _ _ v' h4,hr,?_,p2,hown,ht,by simp [h.plen],by simp [h.glen],by simp [h.slen],fun i hi=> ?_,fun i j hi hj=> ?_,fun i hi=> ?_,fun i hi=> ?_,fun q=> ?_,htop⟩,hst⟩
 ·rw [List.take_append_of_le_length (by have:=h.plen;omega)];exact p1
 ·by_cases e:i=k
  ·subst e
   rw [gd _ _ _ h.glen,gd _ _ _ h.slen,gd _ _ _ h.plen]
   exact ⟨B,N,hS.step hst (by decide)⟩
  ·have hi':i<k:=by omega
   rw [gl _ _ _ _ h.glen hi',gl _ _ _ _ h.slen hi',gl _ _ _ _ h.plen hi']
   obtain ⟨B,N,hs⟩:=h.sg i hi'
   exact ⟨B,N,hs.step hst (by decide)⟩
 ·by_cases e:i=k
  ·subst e
   rw [gd _ _ _ h.glen,gl _ _ _ _ h.glen hj]
   exact hlt j hj
  ·rw [gl _ _ _ _ h.glen (by omega),gl _ _ _ _ h.glen (by omega)]
   exact h.dis i j (by omega) hj
 ·by_cases e:i=k
  ·subst e
   rw [gd _ _ _ h.slen];exact hsd
  ·rw [gl _ _ _ _ h.slen (by omega)]
   exact h.seed i (by omega)
 ·by_cases e:i=k
  ·subst e
   rw [gd _ _ _ h.glen];exact hPg
  ·rw [gl _ _ _ _ h.glen (by omega)]
   exact h.glo i (by omega)
 ·unfold tagAt
  split
  ·exact .inr (.inr (.inl rfl))
  ·exact h.tags q
theorem Wd1.pubRow {w w4:World} {G:Nat→Nat} {o:Obj} {P b t:Nat} {pks sds:List ByteArray} {gs:List Nat} {k:Nat} {vp vs v':Value} (h:Wd1 w G P b t pks sds gs k (k+1) vp vs)
    (ho:w4.ownsRow 0 9 1 v' (k+1) (strV (pks.take k++[pks.getD k ByteArray.empty]))) (hg:(w.alloc o).grownBy w4 vp.ownBlock) (hat:v'.ownBlock=vp.ownBlock∨v'.ownBlock=some (w.heap.size+1)):
    Wd1 (w4.setCell ⟨P,2,none⟩ v') (tagAt G v' 5) P b t pks sds gs (k+1) (k+1) v' vs∧Step G (tagAt G v' 5) (fun t=>t=5∨t=7) w (w4.setCell ⟨P,2,none⟩ v'):=by
 obtain ⟨h4,hst,hown,hr,ht,htop⟩:=grow_row (j:=2) h.row h.rtag (by decide) h.pub h.ptag h.top ho hg hat
 obtain ⟨p1,p2⟩:=own_step h.sig h.stag hst (by decide)
 refine ⟨⟨heap_setCell_same w4 P 2 _ _ v' h4,hr,?_,ht,p1,p2,h.plen,h.glen,h.slen,fun i hi=> ?_,h.dis,h.seed,h.glo,fun q=> ?_,htop⟩,hst⟩
 ·rw [List.take_add_one,lE (by have:=h.plen;omega)]
  have e:pks.getD k ByteArray.empty=pks[k]'(by have:=h.plen;omega):=by rw [lD,lE (by have:=h.plen;omega)];rfl
  rw [e] at hown
  exact hown
 ·obtain ⟨B,N,hs⟩:=h.sg i hi
  exact ⟨B,N,hs.step hst (by decide)⟩
 ·unfold tagAt
  split
  ·exact .inr (.inl rfl)
  ·exact h.tags q
theorem sigPub_len (b t:Nat) (seed:List Nat):(sigPub b seed t).length=32:=by
 unfold sigPub
 exact Mrk.root_len t _ (sigLeaves_len _ _ _) (sigLeaves_32 _ _ _)
structure Wd2 (w:World) (G:Nat→Nat) (N P:Nat) (b t:Nat) (pks sds:List ByteArray) (gs ps:List Nat) (k:Nat) (vp vs vt:Value):Prop where
 row:w.heap[P]? =some (.cells (worldRow b t vp vs vt) 110 (0,0))
 rtag:G P=7
 pub:w.ownsRow 0 9 1 vp 3 (strV pks)
 ptag: ∀q,vp.ownBlock=some q→G q=0
 sig:w.ownsRow 0 27 1 vs 3 (ptrV gs)
 stag: ∀q,vs.ownBlock=some q→G q=0
 sto:w.ownsRow 0 104 1 vt k (ptrV ps)
 ttag: ∀q,vt.ownBlock=some q→G q=7
 plen:pks.length=3
 glen:gs.length=3
 tlen:ps.length=k
 sg: ∀i,i<3→ ∃B M,M≤N∧SgO w G B M (gs.getD i 0) b t (sds.getD i ByteArray.empty) (pks.getD i ByteArray.empty)
 dis: ∀i j,i<3→j<i→gs.getD j 0<gs.getD i 0
 glo: ∀i,i<3→P≤gs.getD i 0
 st: ∀i,i<k→StoreAt w G (8+52*i) (ps.getD i 0) (b:Int) (t:Int) (pks.map lin0)
 own:Own w G N
 lim: ∀q,G q<8+52*k
theorem Wd1.pk32 {w:World} {G:Nat→Nat} {P b t k:Nat} {pks sds:List ByteArray} {gs:List Nat} {vp vs:Value} (h:Wd1 w G P b t pks sds gs k k vp vs): ∀x ∈ pks,x.size=32:=fun x hx=>by
 obtain ⟨i,hi,rfl⟩:=List.getElem_of_mem hx
 obtain ⟨B,N,hs⟩:=h.sg i (by rw [← h.plen];exact hi)
 have h1:=hs.pk
 rw [lD,lE hi] at h1
 rw [← nb_length]
 exact (congrArg List.length h1).trans (sigPub_len _ _ _)
theorem Wd1.done {w:World} {G:Nat→Nat} {P b t:Nat} {pks sds:List ByteArray} {gs:List Nat} {vp vs:Value} (h:Wd1 w G P b t pks sds gs 3 3 vp vs): ∃G',Wd2 w G' w.heap.size P b t pks sds gs [] 0 vp vs (.slice none 0 0)∧ ∀q,G q=0→G' q=0:=by
 have h7: ∀q,(fun q=>if G q=7 then 7 else 0) q=0∨(fun q=>if G q=7 then 7 else 0) q=7:=fun q=>by
  show (if G q=7 then 7 else 0)=0∨(if G q=7 then 7 else 0)=7
  split<;> simp
 have hz: ∀{q t},G q=t→t≠7→(fun q=>if G q=7 then 7 else 0) q=0:=fun e ht=>if_neg (by rw [e];exact ht)
 refine ⟨fun q=>if G q=7 then 7 else 0,⟨h.row,if_pos h.rtag,?_,fun q hq=>hz (h.ptag q hq) (by decide),h.sig,fun q hq=>hz (h.stag q hq) (by decide),World.ownsRow_nil _ _ _ _,fun q hq=>by simp [Value.ownBlock] at hq,h.plen,h.glen,rfl,fun i hi=> ?_,h.dis,h.glo,fun i hi=>by omega,⟨fun q _=>h7 q,fun q hq=>hz (h.top q hq) (by decide),Nat.le_refl _⟩,fun q=> ?_⟩,fun q hq=>hz hq (by decide)⟩
 ·have h1:=h.pub
  rw [List.take_of_length_le (by rw [h.plen];exact Nat.le_refl _)] at h1
  exact h1
 ·obtain ⟨B,N,hs⟩:=h.sg i hi
  exact ⟨B,N,hs.dom,⟨hs.ex,hs.base,hs.lt,hs.dom,hs.pk,hs.bits,hs.size,hs.height,fun q h1 h2=>hz (hs.tag q h1 h2) (by decide)⟩⟩
 ·show (if G q=7 then 7 else 0)<8+52*0
  split<;> decide
theorem Wd2.step {w w':World} {G G':Nat→Nat} {N P b t:Nat} {pks sds:List ByteArray} {gs ps:List Nat} {k:Nat} {vp vs vt:Value} (h:Wd2 w G N P b t pks sds gs ps k vp vs vt) (hs:Step G G' (fun _=>False) w w') (hO:Own w' G' N) (hl: ∀q,G' q<8+52*k+52) (hl':k<3→True):
    w'.heap[P]? =some (.cells (worldRow b t vp vs vt) 110 (0,0))∧G' P=7∧(w'.ownsRow 0 9 1 vp 3 (strV pks)∧ ∀q,vp.ownBlock=some q→G' q=0)∧(w'.ownsRow 0 27 1 vs 3 (ptrV gs)∧ ∀q,vs.ownBlock=some q→G' q=0)∧(w'.ownsRow 0 104 1 vt k (ptrV ps)∧ ∀q,vt.ownBlock=some q→G' q=7)∧(∀i,i<3→ ∃B M,M≤N∧SgO w' G' B M (gs.getD i 0) b t (sds.getD i ByteArray.empty) (pks.getD i ByteArray.empty))∧ ∀i,i<k→StoreAt w' G' (8+52*i) (ps.getD i 0) (b:Int) (t:Int) (pks.map lin0):=by
 have hp:P<w.heap.size:=(gS h.row).1
 refine ⟨(hs.chg.other P hp (fun i hm=>hm)).trans h.row,(hs.tag P hp).trans h.rtag,own_step h.pub h.ptag hs (fun h=>h),own_step h.sig h.stag hs (fun h=>h),own_step h.sto h.ttag hs (fun h=>h),fun i hi=> ?_,fun i hi=>(h.st i hi).step hs (fun h=>h) (fun _ _ h=>h)⟩
 obtain ⟨B,M,hM,hh⟩:=h.sg i hi
 exact ⟨B,M,hM,hh.step hs (fun h=>h)⟩
theorem Wd2.store {w0 w w4:World} {G0 G:Nat→Nat} {o:Obj} {N P b t p:Nat} {pks sds:List ByteArray} {gs ps:List Nat} {k:Nat} {vp vs vt v':Value} (h0:Wd2 w0 G0 N P b t pks sds gs ps k vp vs vt) (hs:Step G0 G (fun _=>False) w0 w) (hO:Own w G N) (hl: ∀q,G q<8+52*(k+1)) (hst:StoreAt w G (8+52*k) p (b:Int) (t:Int) (pks.map lin0))
    (ho:w4.ownsRow 0 104 1 v' (k+1) (ptrV (ps++[p]))) (hg:(w.alloc o).grownBy w4 vt.ownBlock) (hat:v'.ownBlock=vt.ownBlock∨v'.ownBlock=some (w.heap.size+1)):
    Wd2 (w4.setCell ⟨P,4,none⟩ v') (tagAt G v' 7) N P b t pks sds gs (ps++[p]) (k+1) vp vs v'∧Step G (tagAt G v' 7) (fun t=>t=7∨t=7) w (w4.setCell ⟨P,4,none⟩ v')∧w4.heap[P]? =some (.cells (worldRow b t vp vs vt) 110 (0,0)):=by
 obtain ⟨a1,a2,⟨a3,a4⟩,⟨a5,a6⟩,⟨a7,a8⟩,a9,a10⟩:=h0.step hs hO (fun q=>by have:=hl q;omega) (fun _=>trivial)
 obtain ⟨h4,hst4,hown,hr,ht,htop⟩:=grow_row (j:=4) a1 a2 (by decide) a7 a8 hO.hi ho hg hat
 obtain ⟨p1,p2⟩:=own_step a3 a4 hst4 (by decide)
 obtain ⟨p3,p4⟩:=own_step a5 a6 hst4 (by decide)
 have hsz:w.heap.size≤(w4.setCell ⟨P,4,none⟩ v').heap.size:=hst4.chg.size
 refine ⟨⟨heap_setCell_same w4 P 4 _ _ v' h4,hr,p1,p2,p3,p4,hown,ht,h0.plen,h0.glen,by simp [h0.tlen],fun i hi=> ?_,h0.dis,h0.glo,fun i hi=> ?_,⟨fun q hq=> ?_,htop,Nat.le_trans hO.size hsz⟩,fun q=> ?_⟩,hst4,h4⟩
 ·obtain ⟨B,M,hM,hh⟩:=a9 i hi
  exact ⟨B,M,hM,hh.step hst4 (by decide)⟩
 ·by_cases e:i=k
  ·subst e
   rw [getD_snoc _ _ _ h0.tlen]
   exact hst.step hst4 (by decide) (fun j _ h=>by omega)
  ·have hi':i<k:=by omega
   rw [lD,List.getElem?_append_left (by rw [h0.tlen];exact hi'),← lD]
   exact (a10 i hi').step hst4 (by decide) (fun j _ h=>by omega)
 ·unfold tagAt
  split
  ·exact .inr rfl
  ·exact hO.lo q hq
 ·unfold tagAt
  split
  ·omega
  ·exact hl q
structure World3 (w:World) (G:Nat→Nat) (N P:Nat) (b t:Nat) (pks sds:List ByteArray) (gs ps:List Nat) (lss:Nat→List Lin) (nx:Nat→Nat) (vp vs vt:Value):Prop where
 row:w.heap[P]? =some (.cells (worldRow b t vp vs vt) 110 (0,0))
 rtag:G P=0
 pub:w.ownsRow 0 9 1 vp 3 (strV pks)
 ptag: ∀q,vp.ownBlock=some q→G q=0
 sig:w.ownsRow 0 27 1 vs 3 (ptrV gs)
 stag: ∀q,vs.ownBlock=some q→G q=0
 sto:w.ownsRow 0 104 1 vt 3 (ptrV ps)
 ttag: ∀q,vt.ownBlock=some q→G q=0
 plen:pks.length=3
 glen:gs.length=3
 tlen:ps.length=3
 sg: ∀i,i<3→ ∃B,SgIn w N B (gs.getD i 0) b t (sds.getD i ByteArray.empty) (pks.getD i ByteArray.empty) (nx i)
 dis: ∀i j,i<3→j<i→gs.getD j 0<gs.getD i 0
 glo: ∀i,i<3→P≤gs.getD i 0
 gtag: ∀i,i<3→G (gs.getD i 0)=7
 low: ∀k,k<N→G k=0∨ ∃i,i<3∧k=gs.getD i 0
 st: ∀i,i<3→StoreAt w G (8+52*i) (ps.getD i 0) (b:Int) (t:Int) (lss i)
 own:Own w G N
 lim: ∀q,G q<164
theorem StoreAt.retag0 {w:World} {G G':Nat→Nat} {s p:Nat} {B H:Int} {ls:List Lin} (hf: ∀l ∈ ls,l.log=[]∧l.head=Hd.zero∧l.fork=none) (h:StoreAt w G s p B H ls) (hg: ∀k,7<G k→G' k=G k) (hs:7<s):StoreAt w G' s p B H ls:=by
 have eq: ∀{k t:Nat},G k=t→7<t→G' k=t:=fun e ht=>(hg _ (by rw [e];exact ht)).trans e
 obtain ⟨vr,gs,h⟩:=h
 refine ⟨vr,gs,⟨h.row,eq h.tag hs,h.lines,fun b hb=>eq (h.ltag b hb) hs,h.len,fun i hi=> ?_⟩⟩
 obtain ⟨vl,vs,ss,x,f0,f1,f2,f3,f4,f5,f6,f7,f8,f9,f10,f11,f12,f13,f14,hl⟩:=h.line i hi
 obtain ⟨z1,z2,z3⟩:=hf _ (List.getElem_mem hi)
 obtain ⟨xs,k1,k2,k3,k4⟩:=hl.log
 have hx:xs=[]:=by rw [z1] at k1;exact List.map_eq_nil_iff.1 k1
 have hp:x.h.ps=[]:=by rw [hl.head,z2];rfl
 have hq:x.h.qs=[]:=by rw [hl.head,z2];rfl
 refine ⟨vl,vs,ss,x,f0,f1,f2,f3,f4,f5,f6,f7,f8,f9,f10,f11,f12,f13,f14,⟨hl.row,eq hl.tag (by omega),⟨xs,k1,k2,fun b hb=>eq (k3 b hb) (by omega),fun y hy=>by rw [hx] at hy;cases hy⟩,hl.sums,fun b hb=>eq (hl.stag b hb) (by omega),hl.sumE,hl.head,⟨hl.hok.1,hl.hok.2.1,fun hne=>absurd hp hne,fun hne=>absurd hq hne⟩,?_⟩⟩
 have hfk:=hl.fork
 rw [z3] at hfk ⊢
 trivial
theorem Wd2.done {w:World} {G:Nat→Nat} {N P b t:Nat} {pks sds:List ByteArray} {gs ps:List Nat} {vp vs vt:Value} (h:Wd2 w G N P b t pks sds gs ps 3 vp vs vt): ∃G',World3 w G' N P b t pks sds gs ps (fun _=>pks.map lin0) (fun _=>0) vp vs vt:=by
 have hgs: ∀i,i<3→G (gs.getD i 0)=0∧gs.getD i 0<N∧ ∃c,w.heap[gs.getD i 0]? =some (.cells c 144 (0,0)):=fun i hi=>by
  obtain ⟨B,M,hM,hs⟩:=h.sg i hi
  obtain ⟨gt,ls,h1,_⟩:=hs.ex
  exact ⟨hs.tag _ hs.base hs.lt,Nat.lt_of_lt_of_le hs.lt hM,_,h1⟩
 obtain ⟨G',hG'⟩: ∃G':Nat→Nat,∀q,((∃i,i<3∧q=gs.getD i 0)→G' q=7)∧((¬ ∃i,i<3∧q=gs.getD i 0)→G' q=if G q=7 then 0 else G q):=
  ⟨fun q=>if q=gs.getD 0 0∨q=gs.getD 1 0∨q=gs.getD 2 0 then 7 else if G q=7 then 0 else G q,fun q=>⟨fun ⟨i,hi,e⟩=>if_pos (by
   have:i=0∨i=1∨i=2:=by omega
   rcases this with rfl | rfl | rfl
   ·exact .inl e
   ·exact .inr (.inl e)
   ·exact .inr (.inr e)),fun hn=>if_neg (by
   rintro (e | e | e)
   ·exact hn ⟨0,by decide,e⟩
   ·exact hn ⟨1,by decide,e⟩
   ·exact hn ⟨2,by decide,e⟩)⟩⟩
 have hz: ∀q,(G q=0∨G q=7)→(∀i,i<3→q≠gs.getD i 0)→G' q=0:=fun q hq hn=>by
  rw [(hG' q).2 (fun ⟨i,hi,e⟩=>hn i hi e)]
  split
  ·rfl
  ·exact hq.resolve_right (by assumption)
 have hty: ∀{e n:Nat} {v:Value} {xs:List Value},w.ownsRow 0 e 1 v n xs→e≠ 144 → ∀q,v.ownBlock=some q→ ∀i,i<3→q≠gs.getD i 0:=fun hr he q hq i hi e=>by
  obtain ⟨cur,hc⟩:=row_type hr hq
  obtain ⟨c,h1⟩:=(hgs i hi).2.2
  rw [e,h1] at hc
  injection hc with hc
  injection hc with _ hc _
  exact he hc.symm
 have hP: ∀i,i<3→P≠gs.getD i 0:=fun i hi e=>by have h1:=h.rtag;have h2:=(hgs i hi).1;rw [← e,h1] at h2;cases h2
 have hge: ∀q,w.heap.size≤q→ ∀i,i<3→q≠gs.getD i 0:=fun q hq i hi e=>by have:=(hgs i hi).2.1;have:=h.own.size;omega
 have hlo: ∀q,q<N→G' q=0∨ ∃i,i<3∧q=gs.getD i 0:=fun q hq=>by
  by_cases e: ∃i,i<3∧q=gs.getD i 0
  ·exact .inr e
  ·exact .inl (hz q (h.own.lo q hq) (fun i hi h=>e ⟨i,hi,h⟩))
 refine ⟨G',⟨h.row,hz P (.inr h.rtag) hP,h.pub,fun q hq=>hz q (.inl (h.ptag q hq)) (hty h.pub (by decide) q hq),h.sig,fun q hq=>hz q (.inl (h.stag q hq)) (hty h.sig (by decide) q hq),h.sto,fun q hq=>hz q (.inr (h.ttag q hq)) (hty h.sto (by decide) q hq),h.plen,h.glen,h.tlen,fun i hi=> ?_,h.dis,h.glo,fun i hi=>(hG' _).1 ⟨i,hi,rfl⟩,hlo,fun i hi=> ?_,⟨fun q hq=> ?_,fun q hq=>hz q (.inl (h.own.hi q hq)) (hge q hq),h.own.size⟩,fun q=> ?_⟩⟩
 ·obtain ⟨B,M,hM,hs⟩:=h.sg i hi
  exact ⟨B,hs.in hM h.own.size⟩
 ·refine (h.st i hi).retag0 (fun l hl=> ?_) (fun k hk=> ?_) (by omega)
  ·obtain ⟨x,_,rfl⟩:=List.mem_map.1 hl
   exact ⟨rfl,rfl,rfl⟩
  ·rw [(hG' k).2 (fun ⟨j,hj,e⟩=>by have h1:=(hgs j hj).1;rw [← e] at h1;omega),if_neg (by omega)]
 ·rcases hlo q hq with e | ⟨i,hi,e⟩
  ·exact .inl e
  ·exact .inr ((hG' q).1 ⟨i,hi,e⟩)
 ·by_cases e: ∃i,i<3∧q=gs.getD i 0
  ·rw [(hG' q).1 e];decide
  ·rw [(hG' q).2 e]
   split
   ·decide
   ·exact h.lim q
theorem newWorld_bad (B H:Int) (hn: ¬(SV B H∧H≤2)) (w:World):Calls Tryz.prog 53 #[.agg #[.int .i64 B,.int .i64 H]] w fun e w'=>e= .returned (.tuple #[.pointer none,.bool false])∧Below w.heap.size w w':=by
 have HV:=hid (fun w=>refSchemeValid_any B H w)
 by_cases hv:SV B H
 ·rw [decide_eq_true hv] at HV
  have hg:H > 2:=by
   rcases Int.lt_or_le 2 H with h | h
   ·exact h
   ·exact absurd ⟨hv,h⟩ hn
  have hd:decide (H > 2)=true:=decide_eq_true hg
  clear hn hv
  go_enter Tryz.func53,Tryz.ntmps53
  have HB:Hid (Below w.heap.size w (w.alloc (.cells #[.int .i64 B,.int .i64 H] 23))):=hid ((Below.refl _ _).alloc (Nat.le_refl _) _)
  have HC:Hid (∀V,Below (w.heap.size+1) (w.alloc (.cells #[.int .i64 B,.int .i64 H] 23)) V→V.cell? ⟨w.heap.size,0,none⟩=some (.int .i64 B)∧V.cell? ⟨w.heap.size,1,none⟩=some (.int .i64 H)):=hid (fun V h=>row2 ((h.block _ (Nat.lt_succ_self _)).trans (heap_alloc_new _ _)))
  go_wp2_with (first
   | (go_at_call 67
      (refine (HV.o _).mono ?_)
      rintro e w2 ⟨rfl,h2⟩
      have H2:=hid (HB.o.trans (h2.mono HB.o.size))
      obtain ⟨c0,c1⟩:=HC.o w2 (by rw [World.size_alloc] at h2;exact h2)
      clear h2))
  go_ret2
  exact ⟨rfl,H2.o⟩
 ·rw [decide_eq_false hv] at HV
  clear hn hv
  go_enter Tryz.func53,Tryz.ntmps53
  have HB:Hid (Below w.heap.size w (w.alloc (.cells #[.int .i64 B,.int .i64 H] 23))):=hid ((Below.refl _ _).alloc (Nat.le_refl _) _)
  go_wp2_with (first
   | (go_at_call 67
      (refine (HV.o _).mono ?_)
      rintro e w2 ⟨rfl,h2⟩
      have H2:=hid (HB.o.trans (h2.mono HB.o.size))
      clear h2))
  go_ret2
  exact ⟨rfl,H2.o⟩
def NewW (w w':World) (b t P:Nat):Prop:= ∃(G:Nat→Nat) (N:Nat) (pks sds:List ByteArray) (gs ps:List Nat) (vp vs vt:Value),World3 w' G N P b t pks sds gs ps (fun _=>pks.map lin0) (fun _=>0) vp vs vt∧(∀i,i<3→nb (sds.getD i ByteArray.empty)=keyB (48+i))∧w.heap.size<N∧w.heap.size<P∧Below w.heap.size w w'
theorem newWorld_ok (b t:Nat) (hB:Bits b) (hb4:b≤4) (ht:t≤2) (w:World) (hL:Laid w) (h3:3≤w.heap.size):Calls Tryz.prog 53 #[.agg #[.int .i64 (b:Int),.int .i64 (t:Int)]] w fun e w'=> ∃P:Nat,e= .returned (.tuple #[.pointer (some ⟨P,0,none⟩),.bool true])∧NewW w w' b t P:=by
 have HLD:=hid hL
 have hsv:SV (b:Int) (t:Int):=⟨by rcases hB with rfl | rfl | rfl | rfl<;> first | omega | simp,by omega,by omega⟩
 have HSV:=hid hsv
 have HV:=hid (fun w=>refSchemeValid_any (b:Int) (t:Int) w)
 rw [decide_eq_true hsv] at HV
 have HNW:Hid (∀(u:ByteArray) (V:World),u.size=32→Laid V→Calls Tryz.prog 16 #[.agg #[.int .i64 (b:Int),.int .i64 (t:Int)],.string u] V fun e w'=> ∃g pk,e= .returned (.tuple #[.pointer (some ⟨g,0,none⟩),.int .i64 0])∧SignerAt w' V.heap.size g b t u pk 0∧Below V.heap.size V w'):=hid (fun u V hu hL=>signerNew_ok b t hB hb4 (by omega) u hu V hL)
 have hd:decide ((t:Int) > 2)=false:=decide_eq_false (by omega)
 clear hL hsv
 go_enter Tryz.func53,Tryz.ntmps53
 have HB:Hid (Below w.heap.size w (w.alloc (.cells #[.int .i64 (b:Int),.int .i64 (t:Int)] 23))):=hid ((Below.refl _ _).alloc (Nat.le_refl _) _)
 have HC:Hid (∀V,Below (w.heap.size+1) (w.alloc (.cells #[.int .i64 (b:Int),.int .i64 (t:Int)] 23)) V→V.cell? ⟨w.heap.size,0,none⟩=some (.int .i64 (b:Int))∧V.cell? ⟨w.heap.size,1,none⟩=some (.int .i64 (t:Int))):=hid (fun V h=>row2 ((h.block _ (Nat.lt_succ_self _)).trans (heap_alloc_new _ _)))
 go_upto_region 4 with (first
  | (go_at_call 67
     (refine (HV.o _).mono ?_)
     rintro e w2 ⟨rfl,h2⟩
     have H2:=hid (HB.o.trans (h2.mono HB.o.size))
     have H2W:Hid (Below (w.heap.size+1) (w.alloc (.cells #[.int .i64 (b:Int),.int .i64 (t:Int)] 23)) w2):=hid (by rw [World.size_alloc] at h2;exact h2)
     obtain ⟨c0,c1⟩:=HC.o w2 H2W.o
     clear h2))
 refine wp_over (fun V=>Hid (V.heap[w2.heap.size]? =some (.cells (worldRow b t (.slice none 0 0) (.slice none 0 0) (.slice none 0 0)) 110 (0,0)))∧Hid (Below w2.heap.size w2 V)∧Hid (V.heap.size=w2.heap.size+1)) ⟨heap_alloc_new _ _,(Below.refl _ _).alloc (Nat.le_refl _) _,by show _=_;simp⟩ ?_
 rintro W1 ⟨HX1,HB1,HZ1⟩
 obtain ⟨P,hP⟩:=ex_eq w2.heap.size
 rw [hP] at HX1 HB1 HZ1 ⊢
 obtain ⟨N0,hN0⟩:=ex_eq w.heap.size
 have HN0:=hid hN0
 have HNP:Hid (N0<P):=hid (by have:=H2W.o.size;have e:(w.alloc (.cells #[.int .i64 (b:Int),.int .i64 (t:Int)] 23)).heap.size=w.heap.size+1:=World.size_alloc _ _;omega)
 have HBW:Hid (Below N0 w W1):=hid (by rw [← hN0];exact H2.o.trans (HB1.o.mono (by have:=HNP.o;omega)))
 have HC1:Hid (∀V,Below P W1 V→V.cell? ⟨N0,0,none⟩=some (.int .i64 (b:Int))∧V.cell? ⟨N0,1,none⟩=some (.int .i64 (t:Int))):=hid (fun V h=>by
  have h1:=HC.o V (H2W.o.trans ((HB1.o.trans h).mono (by have:=HNP.o;omega)))
  rw [hN0] at h1
  exact h1)
 have HLB:Hid (∀V,Below N0 w V→Laid V):=hid (fun V h=>Laid.low HLD.o h (by omega))
 rw [hN0]
 clear c0 c1 h3 hP hN0 HC HB H2 H2W HV HLD
 have HW1:Hid (∃G,Wd1 W1 G P b t [] [] [] 0 0 (.slice none 0 0) (.slice none 0 0)∧ ∀q,q<P→G q=0):=hid ⟨putTag (fun _=>0) P 7,⟨HX1.o,putTag_same _ _ _,World.ownsRow_nil _ _ _ _,fun q h=>by simp [Value.ownBlock] at h,World.ownsRow_nil _ _ _ _,fun q h=>by simp [Value.ownBlock] at h,rfl,rfl,rfl,fun i hi=>by omega,fun i j hi=>by omega,fun i hi=>by omega,fun i hi=>by omega,fun q=>by unfold putTag;split<;> simp,fun q hq=>by rw [putTag_ne (by have:=HZ1.o;omega)]⟩,fun q hq=>putTag_ne (by omega)⟩
 have HZ0:Hid (P<W1.heap.size):=hid (by have:=HZ1.o;omega)
 clear HX1 HB1 HZ1
 go_upto_region 5 with fail
 go_loopw [5] (fun z wr=> ∃k:Nat,k≤3∧z= .int .i64 (k:Int)∧Hid (∃G pks sds gs vp vs,Wd1 wr G P b t pks sds gs k k vp vs∧ ∀q,q<P→G q=0)∧Hid (Below P W1 wr)) (fun z _=>3 - (intOf z).toNat)
 case atStart=>exact ⟨0,by omega,rfl,hid (by obtain ⟨G,h⟩:=HW1.o;exact ⟨G,[],[],[],_,_,h⟩),hid (Below.refl _ _)⟩
 case round=>
  obtain ⟨k,hk,rfl,HX,HR⟩:=hrel
  by_cases hlt:k<3
  ·have hki:(k:Int)<3:=by omega
   obtain ⟨G,pks,sds,gs,vp,vs,hX,hlo⟩:=HX.o
   have HD:=hid hX
   have HLO:=hid hlo
   clear hX HX hlo
   have hw2:IntKind.u8.wrap (IntKind.i64.wrap (48+(k:Int)))=((48+k:Nat):Int):=by rw [IntKind.wrap_i64,IntKind.wrap_u8];omega
   have hw3:IntKind.i64.wrap ((k:Int)+1)=((k+1:Nat):Int):=by rw [IntKind.wrap_i64];omega
   have HKEY:Hid (∀V,Calls Tryz.prog 138 #[.int .u8 (48+(k:Int))] V fun e w'=> ∃u:ByteArray,e= .returned (.string u)∧nb u=keyB (48+k)∧u.size=32∧Below V.heap.size V w'):=hid (fun V=>by
    rw [show (48+(k:Int))=((48+k:Nat):Int) by omega]
    exact key_any (48+k) (by omega) V)
   go_upto_region 7 with fail
   refine Kit.wp_region_gplan (fun W=>W.cell? ⟨N0,0,none⟩=some (.int .i64 (b:Int))∧W.cell? ⟨N0,1,none⟩=some (.int .i64 (t:Int))) [(true,0),(true,1),(true,2),(true,3),(false,4),(false,5),(true,6),(true,7),(true,8),(true,9),(true,10)] (by kernel_rfl) (by kernel_rfl) (by kernel_rfl) (by kernel_rfl) (HC1.o _ HR.o.drew) ?_
   obtain ⟨x0,x1⟩:=HC1.o _ HR.o.drew
   iterate 4 (refine Kit.ghd (h:= ?_))
   refine Kit.gplan_op (by rfl) (by rfl) fun K hK=> ?_
   go_simp
   go_at_call 138
   with_reducible refine (HKEY.o _).mono ?_
   rintro e w2 ⟨u1,rfl,hu1,hz1,hb2⟩
   have HU1:=hid hu1
   have HUZ1:=hid hz1
   have HB2:Hid (Below wr.heap.size wr w2):=hid ((Below.refl _ wr).drew.trans hb2)
   have HPR:Hid (P≤wr.heap.size):=hid (by have:=HR.o.size;have:=HZ0.o;omega)
   have HR2:Hid (Below P W1 w2):=hid (HR.o.trans (HB2.o.mono HPR.o))
   clear hu1 hz1 hb2 x0 x1 hw2
   refine hK _ _ (HC1.o _ HR2.o) ?_
   clear hK K
   obtain ⟨x0,x1⟩:=HC1.o _ HR2.o
   refine Kit.gplan_op (by rfl) (by rfl) fun K hK=> ?_
   go_simp
   go_at_call 16
   with_reducible refine (HNW.o u1 w2 HUZ1.o (HLB.o _ (HBW.o.trans (HR2.o.mono (by have:=HNP.o;omega))))).mono ?_
   rintro e w3 ⟨g0,pk,rfl,hsg,hb3⟩
   have HB3:Hid (Below w2.heap.size w2 w3):=hid hb3
   have HSG:Hid (SgO w3 G w2.heap.size w3.heap.size g0 b t u1 pk):=hid (SgO.of hsg (fun q hq=>HD.o.top q (Nat.le_trans HB2.o.size hq)))
   have HGL:Hid (∀i,i<k→gs.getD i 0<g0):=hid (fun i hi=>by
    obtain ⟨B,N,hs⟩:=HD.o.sg i hi
    have h1:=hs.lt;have h2:=hs.dom;have h3:=hsg.base;have h4:=HB2.o.size
    omega)
   have HPG:Hid (P≤g0):=hid (by have h3:=hsg.base;have h4:=HB2.o.size;have:=HPR.o;omega)
   have HR3:Hid (Below P W1 w3):=hid (HR2.o.trans (HB3.o.mono (by have:=HPR.o;have:=HB2.o.size;omega)))
   have HD3:Hid (Wd1 w3 G P b t pks sds gs k k vp vs):=hid ((HD.o.later HB2.o).later HB3.o)
   have HU:Hid (nb u1=keyB (48+k)):=HU1
   clear hsg hb3 x0 x1
   refine hK _ _ (HC1.o _ HR3.o) ?_
   clear hK K
   obtain ⟨x0,x1⟩:=HC1.o _ HR3.o
   iterate 5 (refine Kit.ghd (h:= ?_))
   refine Kit.gdn (h:=?_)
   clear x0 x1 HD HB2 HB3 HUZ1 HU1 HR2 HKEY
   obtain ⟨_,_,c2,c3,c4,cf⟩:=world_cells HD3.o.row
   go_upto_region 11 with (first
    | (at_builtin
       refine app_signer rfl _ _ rfl vs k gs (by rfl) HD3.o.sig (by omega) g0 _ (by rfl) ?_
       intro v4 w4 ho4 hg4 hat4
       obtain ⟨bl4,cp4,rfl⟩:=own_some ho4 (Nat.succ_pos _)
       have HG4:=hid (HD3.o.signer HSG.o HGL.o HU.o HPG.o ho4 hg4 hat4)
       have h4:=(grow_row (j:=3) HD3.o.row HD3.o.rtag (by decide) HD3.o.sig HD3.o.stag HD3.o.top ho4 hg4 hat4).1
       clear ho4 hg4 hat4 c2 c3 c4 cf
       obtain ⟨_,_,c2,c3,c4,cf⟩:=world_cells h4
       clear h4))
   obtain ⟨w5,hw5⟩:=ex_eq (w4.setCell ⟨P,3,none⟩ (.slice (some ⟨bl4,0,none⟩) (k+1) cp4))
   obtain ⟨G5,hG5⟩:=ex_eq (tagAt G (.slice (some ⟨bl4,0,none⟩) (k+1) cp4) 6)
   rw [hw5,hG5] at HG4
   rw [hw5]
   have HD5:=hid HG4.o.1
   have HST5:=hid HG4.o.2
   have HSA:Hid (∃B,∀V,Below w5.heap.size w5 V→SignerAt V B g0 b t u1 pk 0):=hid (by
    obtain ⟨B,N,hs⟩:=HD5.o.sg k (Nat.lt_succ_self k)
    rw [getD_snoc _ _ _ HD3.o.glen,getD_snoc _ _ _ HD3.o.slen,getD_snoc _ _ _ HD3.o.plen] at hs
    exact ⟨B,fun V h=>((hs.in hs.dom (Nat.le_refl _)).later h).at⟩)
   have HTK:Hid ((pks++[pk]).take k++[(pks++[pk]).getD k ByteArray.empty]=(pks++[pk]).take k++[pk]):=hid (by rw [getD_snoc _ _ _ HD3.o.plen])
   clear hw5 hG5 HG4 c2 c3 c4 cf HSG HGL HU
   obtain ⟨_,_,c2,c3,c4,cf⟩:=world_cells HD5.o.row
   obtain ⟨VD,hVD⟩:=ex_eq w5.drew
   have HVD:Hid (Below w5.heap.size w5 VD):=hid (by rw [← hVD];exact (Below.refl _ w5).drew)
   have HDD:=hid (HD5.o.later HVD.o)
   have HPC:Hid (∀(V:World) (b t:Nat) (vp vs vt:Value),V.heap[P]? =some (.cells (worldRow b t vp vs vt) 110 (0,0))→V.cell? ⟨P,2,none⟩=some vp∧ ∀i,V.frozen? ⟨P,i,none⟩=false):=hid (fun V b t vp vs vt h=>by
    obtain ⟨_,_,c2,_,_,cf⟩:=world_cells h
    exact ⟨c2,cf⟩)
   refine Kit.wp_region_lplan (fun W=>W.cell? ⟨P,2,none⟩=some vp∧ ∀i,W.frozen? ⟨P,i,none⟩=false) 11 [(true,0),(true,1),(true,2),(true,3),(true,4),(true,5),(false,6),(false,7),(false,8),(false,9),(true,10),(false,11)] (by kernel_rfl) (by kernel_rfl) (by kernel_rfl) (by kernel_rfl) (by rw [hVD];exact HPC.o _ _ _ _ _ _ HDD.o.row) ?_
   rw [hVD]
   clear hVD c2 c3 c4 cf
   iterate 6 (refine Kit.lhd (h:=?_))
   refine Kit.lplan_op (by rfl) (by rfl) (fun K hK=> ?_) (by decide)
   go_simp
   go_at_call 24
   obtain ⟨SB,hSB⟩:=HSA.o
   with_reducible refine (signerPublic_any _ (hSB _ HVD.o)).mono ?_
   rintro e w6 ⟨rfl,rfl⟩
   clear hSB HSA
   refine hK _ _ (HPC.o _ _ _ _ _ _ HDD.o.row) ?_
   clear hK K
   refine Kit.lplan_op (by rfl) (by rfl) (fun K hK=> ?_) (by decide)
   go_simp
   have HVA:Hid (∀o,(VD.alloc o).heap[P]? =some (.cells (worldRow b t vp (.slice (some ⟨bl4,0,none⟩) (k+1) cp4) (.slice none 0 0)) 110 (0,0))):=hid (fun o=>(Below.heap_alloc _ _ _ (gS HDD.o.row).1).trans HDD.o.row)
   refine hK _ _ (HPC.o _ _ _ _ _ _ (HVA.o _)) ?_
   clear hK K
   refine Kit.lplan_op (by rfl) (by rfl) (fun K hK=> ?_) (by decide)
   refine wp_app_strAt (w0:=VD) (.tmp 51) (.tmp 54) (by rfl) 0 vp k ((pks++[pk]).take k) (by rfl) HDD.o.pub (Nat.zero_le _) (by omega) pk 1 (by rfl) ?_
   intro v7 w7 ho7 hg7 hat7
   obtain ⟨bl7,cp7,rfl⟩:=own_some ho7 (Nat.succ_pos _)
   have HG7:=hid (HDD.o.pubRow (by rw [HTK.o];exact ho7) hg7 (by simpa using hat7))
   have HR7:=hid ((grow_row (j:=2) HDD.o.row HDD.o.rtag (by decide) HDD.o.pub HDD.o.ptag HDD.o.top ho7 hg7 (by simpa using hat7)).1)
   clear ho7 hg7 hat7 HVA
   refine hK _ _ (HPC.o _ _ _ _ _ _ HR7.o) ?_
   clear hK K
   refine Kit.lplan_op (by rfl) (by rfl) (fun K hK=> ?_) (by decide)
   go_simp
   refine hK _ _ (HPC.o _ _ _ _ _ _ HR7.o) ?_
   clear hK K
   iterate 1 (refine Kit.lhd (h:=?_))
   obtain ⟨c2,cf⟩:=HPC.o _ _ _ _ _ _ HR7.o
   refine Kit.lplan_last (by rfl) (by rfl) fun K hK=> ?_
   go_simp
   refine hK _ _ ?_
   clear hK K
   refine Kit.ldn (h:=?_)
   obtain ⟨w8,hw8⟩:=ex_eq (w7.setCell ⟨P,2,none⟩ (.slice (some ⟨bl7,0,none⟩) (k+1) cp7))
   obtain ⟨G8,hG8⟩:=ex_eq (tagAt G5 (.slice (some ⟨bl7,0,none⟩) (k+1) cp7) 5)
   rw [hw8,hG8] at HG7
   rw [hw8]
   clear hw8 hG8 c2 cf
   go_wp2_with fail
   go_roundw
   case rel=> 
    have hp3:P≤w3.heap.size:=by have:=HR3.o.size;have:=HZ0.o;omega
    have h1:Below P w3 w5:=HST5.o.chg.below hp3 (fun q i hq hm=>by rw [HLO.o q hq] at hm;rcases hm with h | h<;> cases h)
    have ht5: ∀q,q<P→G5 q=0:=fun q hq=>(HST5.o.tag q (by omega)).trans (HLO.o q hq)
    have hp5:P≤w5.heap.size:=Nat.le_trans hp3 HST5.o.chg.size
    have hpd:P≤VD.heap.size:=Nat.le_trans hp5 HVD.o.size
    have h2:Below P VD w8:=HG7.o.2.chg.below hpd (fun q i hq hm=>by rw [ht5 q hq] at hm;rcases hm with h | h<;> cases h)
    exact ⟨k+1,hlt,by go_num,hid ⟨G8,_,_,_,_,_,HG7.o.1,fun q hq=>(HG7.o.2.tag q (by omega)).trans (ht5 q hq)⟩,hid (HR3.o.trans (h1.trans ((HVD.o.mono hp5).trans h2)))⟩
   case measure=>simp [intOf];omega
  ·have hki: ¬(k:Int)<3:=by omega
   obtain rfl:k=3:=by omega
   go_wp2_with fail
   obtain ⟨G,pks,sds,gs,vp,vs,hX,hlo⟩:=HX.o
   obtain ⟨G1,hX1,hz⟩:=hX.done
   have H32:=hid hX.pk32
   have HSD:Hid (∀i,i<3→nb (sds.getD i ByteArray.empty)=keyB (48+i)):=hid hX.seed
   obtain ⟨a1,cap1,rfl,hpl,_,hps,_,_⟩:=strs_of_own hX1.pub
   have HPL:=hid hpl
   obtain ⟨N1,hN1⟩:=ex_eq wr.heap.size
   rw [hN1] at hX1
   have HN1:Hid (P<N1):=hid (by have:=HR.o.size;have:=HZ0.o;omega)
   have HX2:Hid (∃(G:Nat→Nat) (ps:List Nat) (vt:Value),Wd2 wr G N1 P b t pks sds gs ps 0 (.slice a1 3 cap1) vs vt∧ ∀q,q<P→G q=0):=hid ⟨G1,[],_,hX1,fun q hq=>hz q (hlo q hq)⟩
   have HR0:=HR
   clear HX hX hX1 hz hlo hps hpl hN1 HR hki hlt hk HW1
   go_loopw [8] (fun z wr=> ∃k:Nat,k≤3∧z= .int .i64 (k:Int)∧Hid (∃(G:Nat→Nat) (ps:List Nat) (vt:Value),Wd2 wr G N1 P b t pks sds gs ps k (.slice a1 3 cap1) vs vt∧ ∀q,q<P→G q=0)∧Hid (Below P W1 wr)) (fun z _=>3 - (intOf z).toNat)
   case atStart=>exact ⟨0,by omega,rfl,HX2,HR0⟩
   case round=>
    obtain ⟨k,hk,rfl,HX,HR⟩:=hrel
    by_cases hlt:k<3
    ·have hki:(k:Int)<3:=by omega
     obtain ⟨G,ps,vt,hX,hlo⟩:=HX.o
     have HD:=hid hX
     have HLO:=hid hlo
     obtain ⟨av,capv,rfl,_⟩: ∃a c,vt= .slice a k c∧True:=by
      obtain ⟨_,a,c,h,_⟩:=ptrs_of_own hX.sto
      exact ⟨a,c,h,trivial⟩
     obtain ⟨av2,capv2,hpe,_,_,hps,_,_⟩:=strs_of_own hX.pub
     obtain ⟨rfl,_,rfl⟩:a1=av2∧True∧cap1=capv2:=by
      injection hpe with h1 h2 h3
      exact ⟨h1,trivial,h3⟩
     have HPS:=hid hps
     clear hX HX hlo hpe hps
     have hw3:IntKind.i64.wrap ((k:Int)+1)=((k+1:Nat):Int):=by rw [IntKind.wrap_i64];omega
     go_upto_region 15 with fail
     obtain ⟨WD,hWD⟩:=ex_eq wr.drew
     have HVD:Hid (Below wr.heap.size wr WD):=hid (by rw [← hWD];exact (Below.refl _ wr).drew)
     have HPQ:Hid (P≤wr.heap.size):=hid (by have:=HR.o.size;have:=HZ0.o;omega)
     have HRD:Hid (Below P W1 WD):=hid (HR.o.trans (HVD.o.mono HPQ.o))
     have HDP:Hid (∀V,Below wr.heap.size wr V→V.cell? ⟨P,1+1,none⟩=some (.slice a1 3 cap1)∧V.cell? ⟨N0,0,none⟩=some (.int .i64 (b:Int))∧V.cell? ⟨N0,1,none⟩=some (.int .i64 (t:Int))):=hid (fun V h=>by
      have hb:V.heap[P]? =wr.heap[P]? :=h.block P (gS HD.o.row).1
      obtain ⟨_,_,c2,_⟩:=world_cells (hb.trans HD.o.row)
      obtain ⟨x0,x1⟩:=HC1.o V (HR.o.trans (h.mono HPQ.o))
      exact ⟨c2,x0,x1⟩)
     have HOWD:Hid (Own WD G N1):=hid (HD.o.own.later HVD.o.size)
     have HSN:=hid (storeNew_ok (s:=8+52*k) HSV.o a1 cap1 3 pks HPL.o (by decide) (by decide) H32.o WD (HPS.o.later HVD.o) HOWD.o (by omega) HD.o.lim)
     refine Kit.wp_region_gplan (fun W=>W.cell? ⟨P,1+1,none⟩=some (.slice a1 3 cap1)∧W.cell? ⟨N0,0,none⟩=some (.int .i64 (b:Int))∧W.cell? ⟨N0,1,none⟩=some (.int .i64 (t:Int))) [(true,0),(true,1),(true,2),(true,3),(true,4),(false,5),(true,6),(true,7),(true,8),(true,9),(true,10)] (by kernel_rfl) (by kernel_rfl) (by kernel_rfl) (by kernel_rfl) (by rw [hWD];exact HDP.o _ HVD.o) ?_
     rw [hWD]
     obtain ⟨x2,x0,x1⟩:=HDP.o _ HVD.o
     iterate 5 (refine Kit.ghd (h:= ?_))
     refine Kit.gplan_op (by rfl) (by rfl) fun K hK=> ?_
     go_simp
     go_at_call 57
     with_reducible refine HSN.o.mono ?_
     rintro e w3 ⟨p0,G3,rfl,hst3,ho3,htg3,hlm3,hb3⟩
     have HB3:Hid (Below wr.heap.size wr w3):=hid (HVD.o.trans (hb3.mono HVD.o.size))
     have HS3:Hid (Step G G3 (fun _=>False) wr w3):=hid ⟨Chg.of_below HB3.o,fun q hq=>htg3 q (Nat.lt_of_lt_of_le hq HVD.o.size)⟩
     have HST3:=hid hst3
     have HO3:=hid ho3
     have HL3:Hid (∀q,G3 q<8+52*(k+1)):=hid (fun q=>by have:=hlm3 q;omega)
     clear hst3 ho3 htg3 hlm3 hb3 x0 x1 x2 hWD
     refine hK _ _ (HDP.o _ HB3.o) ?_
     clear hK K
     obtain ⟨x2,x0,x1⟩:=HDP.o _ HB3.o
     iterate 5 (refine Kit.ghd (h:= ?_))
     refine Kit.gdn (h:=?_)
     clear x0 x1 x2 HSN HOWD HVD HRD HDP HPS
     have HH3:=hid (HD.o.step HS3.o HO3.o (fun q=>by have:=HL3.o q;omega) (fun _=>trivial))
     obtain ⟨_,_,c2,c3,c4,cf⟩:=world_cells HH3.o.1
     go_upto_region 14 with (first
      | (at_builtin
         refine app_store rfl _ _ rfl (.slice av k capv) k ps (by rfl) HH3.o.2.2.2.2.1.1 (by omega) p0 _ (by rfl) ?_
         intro v4 w4 ho4 hg4 hat4
         obtain ⟨bl4,cp4,rfl⟩:=own_some ho4 (Nat.succ_pos _)
         have HG4:=hid (HD.o.store HS3.o HO3.o HL3.o HST3.o ho4 hg4 hat4)
         clear ho4 hg4 hat4 c2 c3 c4 cf
         obtain ⟨_,_,c2,c3,c4,cf⟩:=world_cells HG4.o.2.2))
     obtain ⟨w5,hw5⟩:=ex_eq (w4.setCell ⟨P,4,none⟩ (.slice (some ⟨bl4,0,none⟩) (k+1) cp4))
     obtain ⟨G5,hG5⟩:=ex_eq (tagAt G3 (.slice (some ⟨bl4,0,none⟩) (k+1) cp4) 7)
     rw [hw5,hG5] at HG4
     rw [hw5]
     clear hw5 hG5 c2 c3 c4 cf
     go_wp2_with fail
     go_roundw
     case rel=>
      have h3: ∀q,q<P→G3 q=0:=fun q hq=>(HS3.o.tag q (by have:=HPQ.o;omega)).trans (HLO.o q hq)
      have hp3:P≤w3.heap.size:=Nat.le_trans HPQ.o HB3.o.size
      have h1:Below P w3 w5:=HG4.o.2.1.chg.below hp3 (fun q i hq hm=>by rw [h3 q hq] at hm;rcases hm with h | h<;> cases h)
      exact ⟨k+1,hlt,by go_num,hid ⟨G5,_,_,HG4.o.1,fun q hq=>(HG4.o.2.1.tag q (by omega)).trans (h3 q hq)⟩,hid (HR.o.trans ((HB3.o.mono HPQ.o).trans h1))⟩
     case measure=>simp [intOf];omega
    ·have hki: ¬(k:Int)<3:=by omega
     obtain rfl:k=3:=by omega
     obtain ⟨G,ps,vt,hX,hlo⟩:=HX.o
     obtain ⟨G3,hW⟩:=hX.done
     have HW3:=hid hW
     clear hX hlo hW HX
     go_wp2_with fail
     go_ret2
     exact ⟨P,rfl,G3,N1,pks,sds,gs,ps,_,_,_,HW3.o,HSD.o,by have:=HN1.o;have:=HNP.o;have:=HN0.o;omega,by have:=HNP.o;have:=HN0.o;omega,by rw [HN0.o];exact HBW.o.trans (HR.o.mono (by have:=HNP.o;omega))⟩
end Go.Proofs.YtndlihclgdkpaaaGreatDoor

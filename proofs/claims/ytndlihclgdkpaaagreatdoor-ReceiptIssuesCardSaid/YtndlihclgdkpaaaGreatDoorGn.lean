/- Texts Qof, Qca, Qho, Qsi, merged. -/
import Derived.Shelf.SlSortCmp.NoneTotal
import Derived.Test.YtndlihclgdkpaaaGreatDoorQso
import Derived.Test.YtndlihclgdkpaaaGreatDoorGc
import Derived.Test.YtndlihclgdkpaaaGreatDoorGd
import Derived.Test.YtndlihclgdkpaaaGreatDoorGm
/- Book.Of. -/
set_option linter.unusedVariables false
set_option linter.unusedSimpArgs false
open Go.Lib (hid)
set_option maxHeartbeats 4000000
set_option maxRecDepth 100000
namespace Go.Proofs.YtndlihclgdkpaaaGreatDoor
open Go.RowKit
open Go.Maps
open Kit (Chg)
open Sha (v)
open Go.Proofs.YtndlihclgdkpaaaGreatDoor.One
def OwnRc (w:World) (B:Nat) (v:Value) (n:Nat) (ys:List RcV):Prop:=w.ownsRow B 47 14 v n (rcv ys)∧ys.length=n∧ ∀y ∈ ys,y.ok w∧(∀q,y.blk q→B≤q)∧ ∀g,v.ownBlock=some g→ ¬y.blk g
theorem own_lt {w:World} {B n:Nat} {v:Value} {xs:List Value} {T size:Nat} (h:w.ownsRow B T size v n xs) {g:Nat} (hg:v.ownBlock=some g):B≤g∧g<w.heap.size:=by
 rcases h.2 with ⟨e,_⟩ | ⟨g',cap,cur,e,h1,h2,_⟩
 ·rw [e] at hg;cases hg
 ·rw [e] at hg
  have:g'=g:=by injection hg
  subst this
  exact ⟨h1,(gS h2).1⟩
theorem OwnRc.later {w w':World} {B n:Nat} {v:Value} {ys:List RcV} (h:OwnRc w B v n ys) (hb:Below w.heap.size w w'):OwnRc w' B v n ys:=⟨own_later h.1 hb,h.2.1,fun y hy=>⟨(h.2.2 y hy).1.later hb,(h.2.2 y hy).2⟩⟩
theorem OwnRc.nil (w:World) (B:Nat):OwnRc w B (.slice none 0 0) 0 []:=⟨World.ownsRow_nil _ _ _ _,rfl,fun y hy=>by simp at hy⟩
theorem OwnRc.snoc {w w':World} {B n bl cap:Nat} {v:Value} {ys:List RcV} {x:RcV} (h:OwnRc w B v n ys) (hx:x.ok w) (hxb: ∀q,x.blk q→B≤q) (hxv: ∀g,v.ownBlock=some g→ ¬x.blk g) (ho:w'.ownsRow B 47 14 (.slice (some ⟨bl,0,none⟩) (n+1) cap) (n+1) (rcv (ys++[x]))) (hg:w.grownBy w' v.ownBlock) (hbl:some bl=v.ownBlock∨bl=w.heap.size):OwnRc w' B (.slice (some ⟨bl,0,none⟩) (n+1) cap) (n+1) (ys++[x]):=by
 have hc:Chg (fun q _=>v.ownBlock=some q) w w':=Chg.of_grown hg (fun k i e=>e)
 have key: ∀y:RcV,y.ok w→(∀g,v.ownBlock=some g→ ¬y.blk g)→y.ok w'∧ ¬y.blk bl:=fun y hy hn=>⟨hy.keepB hc (fun q hq i e=>hn q e hq),fun hq=>by
  rcases hbl with e | e
  ·exact hn bl e.symm hq
  ·have:=hy.blk_lt hq;omega⟩
 refine ⟨ho,by rw [List.length_append,h.2.1];rfl,fun y hy=> ?_⟩
 have hown:(Value.slice (some ⟨bl,0,none⟩) (n+1) cap).ownBlock=some bl:=rfl
 rcases List.mem_append.1 hy with e | e
 ·obtain ⟨a1,a2,a3⟩:=h.2.2 y e
  obtain ⟨k1,k2⟩:=key y a1 a3
  exact ⟨k1,a2,fun g hg'=>by rw [hown] at hg';injection hg' with hg';subst hg';exact k2⟩
 ·rw [List.mem_singleton] at e
  subst e
  obtain ⟨k1,k2⟩:=key y hx hxv
  exact ⟨k1,hxb,fun g hg'=>by rw [hown] at hg';injection hg' with hg';subst hg';exact k2⟩
end Go.Proofs.YtndlihclgdkpaaaGreatDoor
namespace Go.Proofs.YtndlihclgdkpaaaGreatDoor
open Go.RowKit
open Kit (Chg)
open Sha (v)
open Go.Proofs.YtndlihclgdkpaaaGreatDoor.One

def intV (zs:List Int):List Value:=zs.map fun z=> .int .i64 z
theorem intV_rep (L:Nat):natV (List.replicate L 0)=intV (List.replicate L 0):=by
 unfold natV intV
 rw [List.map_replicate,List.map_replicate]
 rfl
theorem intV_set (zs:List Int) (k:Nat) (v:Int):(intV zs).toArray.setIfInBounds k (.int .i64 v)=(intV (zs.set k v)).toArray:=by
 unfold intV
 rw [List.setIfInBounds_toArray,List.map_set]
theorem intV_cell {w:World} {b k:Nat} {zs:List Int} {f:Nat × Nat} (h:w.heap[b]? =some (.cells (intV zs).toArray 3 f)) (hk:k<zs.length):w.cell? ⟨b,k,none⟩=some (.int .i64 zs[k]):=(cell_of_row _ _ _ _ _ _ h).trans (by
 unfold intV
 simp [hk])
theorem carB_len (m:List Rc) (s:ByteArray) (n:Nat):(carB m s n).length=n:=by simp [carB]
def carV (m:List Rc) (s:ByteArray) (k:Nat):Int:=match curB m ⟨s,(k:Int)⟩ with | some r=>r.hol | none=> -1
theorem carB_succ (m:List Rc) (s:ByteArray) (k:Nat):carB m s (k+1)=carB m s k++[carV m s k]:=by
 unfold carB
 rw [List.range_succ,List.map_append]
 rfl
theorem set_nextI {vs:List Int} {k L:Nat} (z y:Int) (hv:vs.length=k) (hk:k<L):(vs++List.replicate (L - k) z).set k y=(vs++[y])++List.replicate (L - (k+1)) z:=by
 subst hv
 rw [List.set_append_right _ _ (Nat.le_refl _),Nat.sub_self,show L - vs.length=(L - (vs.length+1))+1 by omega,List.replicate_succ,List.set_cons_zero]
 simp
theorem carried_ok (O:Nat→Prop) (bk:Nat) (m:List Rc) (c:Nat) (hc:c≤100000) (s:ByteArray) (hs:s.size≤maxLen) (n:Nat) (hn1:1≤n) (hn:n≤16) (w:World) (hB:BookAt w O bk m c):Calls Tryz.prog 46 #[.pointer (some ⟨bk,0,none⟩),.string s,.int .i64 (n:Int)] w fun e w'=> ∃bo,e= .returned (.tuple #[.slice (some ⟨bo,0,none⟩) n n,.int .i64 0])∧w.heap.size≤bo∧w'.heap[bo]? =some (.cells (intV (carB m s n)).toArray 3 (0,0))∧Below w.heap.size w w':=by
 have HBK:=hid hB
 have HKS:=hid hs
 have hmk:=fun W=>mk_ints n (by omega) W
 have hn3: ¬(n:Int)<1:=by omega
 have hn4: ¬(16:Int)<(n:Int):=by omega
 clear hB hs
 go_enter Tryz.func46,Tryz.ntmps46
 go_upto_region 6 with fail
 clear hmk
 refine wp_over (fun V=>Hid (V.heap[w.heap.size]? =some (.cells (intV (List.replicate n 0)).toArray 3 (0,0)))∧Hid (Below w.heap.size w V)) ⟨by rw [← intV_rep];exact heap_alloc_new _ _,(Below.refl _ _).alloc (Nat.le_refl _) _⟩ ?_
 rintro W ⟨HG,HB⟩
 obtain ⟨bo,hbo⟩:=ex_eq w.heap.size
 have HBO:=hid hbo
 rw [hbo] at HG HB ⊢
 clear hbo
 go_loopw [25] (fun z wr=> ∃k:Nat,k≤n∧z= .int .i64 (k:Int)∧Hid (wr.heap[bo]? =some (.cells (intV (carB m s k++List.replicate (n - k) 0)).toArray 3 (0,0)))∧Hid (Below bo w wr)) (fun z _=>n - (intOf z).toNat)
 case atStart=>exact ⟨0,Nat.zero_le _,rfl,HG,HB⟩
 case round=>
  obtain ⟨k,hk,rfl,HR,HBE⟩:=hrel
  by_cases hlt:k<n
  rotate_left
  ·have hki: ¬(k:Int)<(n:Int):=by omega
   have hke:k=n:=by omega
   have HRE:=HR.o
   rw [hke,Nat.sub_self,List.replicate_zero,List.append_nil] at HRE
   have HRF:=hid HRE
   clear HRE
   go_wp2_with fail
   go_ret2
   exact ⟨bo,rfl,by rw [HBO.o];exact Nat.le_refl _,HRF.o,by rw [HBO.o];exact HBE.o⟩
  have hki:(k:Int)<(n:Int):=by omega
  have HLR:Hid (k<(carB m s k++List.replicate (n - k) (0:Int)).length):=hid (by rw [List.length_append,carB_len,List.length_replicate];omega)
  have c0:=intV_cell HR.o HLR.o
  have f0: ∀i,wr.frozen? ⟨bo,i,none⟩=false:=fun i=>frozen_of_row _ _ _ _ _ HR.o
  go_upto_region 9 with fail
  clear c0 f0
  refine wp_over (fun V=>Hid (V.heap[bo]? =some (.cells (intV ((carB m s k++[-1])++List.replicate (n - (k+1)) 0)).toArray 3 (0,0)))∧Hid (Below bo w V)) ?_ ?_
  ·have h:=heap_setCell_same wr bo k _ 3 (.int .i64 (-1)) HR.o
   rw [intV_set,set_nextI _ _ (carB_len m s k) hlt] at h
   exact ⟨h,HBE.o.setCell (p:=⟨bo,k,none⟩) (Nat.le_refl bo) _⟩
  rintro V ⟨HV,HVB⟩
  have HVW:Hid (Below w.heap.size w V):=hid (by rw [HBO.o];exact HVB.o)
  have HWF:Hid ((Lit.int .i64 (k:Int)).wf=true):=hid (wf64 (by omega) (by omega))
  have HBV:Hid (bo<V.heap.size):=hid (gS HV.o).1
  cases hcu:curB m ⟨s,(k:Int)⟩ with
  | none=>
    have HCV:Hid (carV m s k= -1):=hid (by unfold carV;rw [hcu])
    have HCU:=hid (current_none O bk m c hc s (k:Int) HKS.o HWF.o hcu V (HBK.o.later HVW.o))
    clear hcu
    go_wp2_with (first
     | (go_at_call 137
        (with_reducible refine HCU.o.mono ?_)
        rintro e w2 ⟨rfl,h2⟩
        have H2:=hid h2
        clear h2))
    go_roundw
    case rel=>
     refine ⟨k+1,hlt,by go_num,hid ?_,hid ?_⟩
     ·rw [carB_succ,HCV.o]
      exact (Below.heap_alloc _ _ _ (by have:=H2.o.size;have:=HBV.o;omega)).trans ((H2.o.block bo HBV.o).trans HV.o)
     ·exact (HVB.o.trans (H2.o.mono (by have:=HBV.o;omega))).alloc (by have:=H2.o.size;have:=HBV.o;omega) _
    case measure=>simp [intOf];omega
  | some r=>
    have HCV:Hid (carV m s k=r.hol):=hid (by unfold carV;rw [hcu])
    obtain ⟨hol,vlt,str,ix,sz,day,ser,cnt,pl,root,pa,si,pt,sq⟩:=r
    have HCU:=hid (current_some O bk m c hc s (k:Int) HKS.o HWF.o hol vlt str ix sz day ser cnt pl root si pa pt sq _ _ _ rfl rfl rfl hcu V (HBK.o.later HVW.o))
    clear hcu
    go_upto_region 11 with (first
     | (go_at_call 137
        (with_reducible refine HCU.o.mono ?_)
        rintro e w2 ⟨ap,c1,aq,c2,ar,c3,rfl,_,_,h2⟩
        have H2:=hid h2
        clear h2))
    refine wp_over (fun X=>Hid (X.heap[w2.heap.size]? =some (.cells #[.int .i64 hol,.int .i64 vlt,.string str,.int .i64 ix,.int .i64 sz,.int .i64 day,.int .i64 ser,.int .i64 cnt,.int .i64 pl,.string root,.slice ap pa.length c1,.int .i64 si,.slice aq pt.length c2,.slice ar sq.length c3] 47 (0,0)))∧Hid (Below w2.heap.size w2 X)) ⟨heap_alloc_new _ _,(Below.refl _ _).alloc (Nat.le_refl _) _⟩ ?_
    rintro X ⟨HXG,HXB⟩
    obtain ⟨q0,_⟩:=row14 HXG.o
    obtain ⟨A,hA⟩:=ex_eq w2.heap.size
    have HA:=hid hA
    rw [hA] at HXG q0 ⊢
    clear hA
    have HXV:Hid (X.heap[bo]? =some (.cells (intV ((carB m s k++[-1])++List.replicate (n - (k+1)) 0)).toArray 3 (0,0))):=hid ((HXB.o.block bo (by have:=H2.o.size;have:=HBV.o;omega)).trans ((H2.o.block bo HBV.o).trans HV.o))
    have HLX:Hid (k<((carB m s k++[-1])++List.replicate (n - (k+1)) (0:Int)).length):=hid (by rw [List.length_append,List.length_append,carB_len];simp;omega)
    have c0:=intV_cell HXV.o HLX.o
    have f0: ∀i,X.frozen? ⟨bo,i,none⟩=false:=fun i=>frozen_of_row _ _ _ _ _ HXV.o
    go_wp2_with fail
    go_roundw
    case rel=>
     refine ⟨k+1,hlt,by go_num,hid ?_,hid ?_⟩
     ·have h:=heap_setCell_same X bo k _ 3 (.int .i64 hol) HXV.o
      rw [intV_set] at h
      rw [carB_succ,HCV.o]
      have e:((carB m s k++[-1])++List.replicate (n - (k+1)) (0:Int)).set k hol=(carB m s k++[hol])++List.replicate (n - (k+1)) 0:=by
       rw [List.set_append_left _ _ (by rw [List.length_append,carB_len];simp),List.set_append_right _ _ (by rw [carB_len];exact Nat.le_refl _),carB_len,Nat.sub_self]
       rfl
      rw [e] at h
      exact h
     ·exact (HVB.o.trans ((H2.o.mono (by have:=HBV.o;omega)).trans (HXB.o.mono (by have:=H2.o.size;have:=HBV.o;omega)))).setCell (p:=⟨bo,k,none⟩) (Nat.le_refl bo) _
    case measure=>simp [intOf];omega
end Go.Proofs.YtndlihclgdkpaaaGreatDoor
namespace Go.Proofs.YtndlihclgdkpaaaGreatDoor
open Go.RowKit
open Go.Maps
open Kit (Chg)
open Sha (v)
open Go.Proofs.YtndlihclgdkpaaaGreatDoor.One

theorem OwnRc.base {w:World} {B B' n:Nat} {v:Value} {ys:List RcV} (h:OwnRc w B v n ys) (hb:B'≤B):OwnRc w B' v n ys:=⟨ownsRow_base h.1 hb,h.2.1,fun y hy=>⟨(h.2.2 y hy).1,fun q hq=>Nat.le_trans hb ((h.2.2 y hy).2.1 q hq),(h.2.2 y hy).2.2⟩⟩
theorem sortRc_none (fv:Value) (w:World):Calls Tryz.prog 165 #[.slice none 0 0,fv] w fun e w'=>e= .returned (.tuple #[])∧w'=w:=AnyF.slices_SortFunc_none lay_sortRc none 0 fv w
theorem OwnRc.keepC {w w':World} {B n:Nat} {v:Value} {ys:List RcV} {M:Nat→Nat→Prop} (h:OwnRc w B v n ys) (hc:Chg M w w') (hm: ∀q,B≤q→ ∀i,¬M q i):OwnRc w' B v n ys:=by
 refine ⟨⟨h.1.1,?_⟩,h.2.1,fun y hy=>⟨(h.2.2 y hy).1.keepB hc (fun q hq=>hm q ((h.2.2 y hy).2.1 q hq)),(h.2.2 y hy).2⟩⟩
 rcases h.1.2 with hn | ⟨g,cap,cur,e,h1,h2,h3⟩
 ·exact .inl hn
 ·exact .inr ⟨g,cap,cur,e,h1,(hc.other g (gS h2).1 (hm g h1)).trans h2,h3⟩
theorem seen_end2 {m:List Rc} (hg:GoodB m) {h:Int} {P:Pc→Prop} {L:List Rc} (hs:Seen m h P L) (hP: ∀x ∈ m,¬P x.pc):L.Perm (curs m h):=(List.perm_ext_iff_of_nodup hs.1 (curs_nodup hg h)).2 fun x=>by rw [hs.2];exact ⟨fun h=>h.1,fun h=>⟨h,hP _ (List.mem_filter.1 h).1⟩⟩
theorem seen_len {m:List Rc} {h:Int} {P:Pc→Prop} {L:List Rc} (hs:Seen m h P L):L.length≤m.length:=hs.1.length_le_of_subset (fun x hx=>(List.mem_filter.1 ((hs.2 x).1 hx).1).1)
theorem GoodB.key {m:List Rc} (h:GoodB m) {x:Rc} (hx:x ∈ m): ∃l,keyOf Tryz.prog 42 (pieceV x.str x.ix)=some l:=pieceKey (by have:=(h.v x hx).gd.st;unfold maxLen;omega) (wf64 (by have:=(h.v x hx).gd.i0;omega) (by have:=(h.v x hx).gd.i1;omega))
def toCome (lf:Value→Prop) (p:Pc):Prop:=lf (pieceV p.s p.i)
theorem toCome_step (lf:Value→Prop) (p:Pc):(fun q=>toCome (fun x=>lf x∧x≠pieceV p.s p.i) q)=fun q=>toCome lf q∧q≠p:=by
 funext q
 unfold toCome
 refine propext ⟨fun h=>⟨h.1,fun e=>h.2 (by rw [e])⟩,fun h=>⟨h.1,fun e=>h.2 ?_⟩⟩
 obtain ⟨e1,e2⟩:=pieceV_inj e
 cases q;cases p
 simp only at e1 e2
 rw [e1,e2]
theorem BookR.come {w:World} {O:Nat→Prop} {bk b1 b2:Nat} {R:Pc→Option BRow} {m:List Rc} {c:Nat} (h:BookR w O bk b1 b2 R m c) {x:Rc} (hx:x ∈ m):((listF R) (pieceV x.str x.ix)).isSome=true:=by
 rw [listF_piece]
 cases hR:R ⟨x.str,x.ix⟩ with
 | some r=>rfl
 | none=>
   have h1:=h.no _ hR
   have h2:x ∈ ofB m ⟨x.str,x.ix⟩:=List.mem_filter.2 ⟨hx,decide_eq_true rfl⟩
   rw [h1] at h2
   simp at h2
theorem BookR.cur {w:World} {O:Nat→Prop} {bk b1 b2:Nat} {R:Pc→Option BRow} {m:List Rc} {c:Nat} (h:BookR w O bk b1 b2 R m c) {s:ByteArray} {i:Int} {v:Value} (hv:listF R (pieceV s i)=some v): ∃r,curB m ⟨s,i⟩=some r:=by
 rw [listF_piece] at hv
 cases hR:R ⟨s,i⟩ with
 | none=>rw [hR] at hv;cases hv
 | some r=>
   obtain ⟨_,h2,h3⟩:=h.row _ _ hR
   obtain ⟨k,hk⟩: ∃k,r.xs.length=k+1:=⟨r.xs.length - 1,by have:=List.length_pos_iff.2 h3;omega⟩
   exact ⟨_,curB_rows h2 hk⟩
theorem holder_any (O:Nat→Prop) (bk:Nat) (m:List Rc) (c:Nat) (hc:c≤100000) (h:Int) (w:World) (hB:BookAt w O bk m c):Calls Tryz.prog 75 #[.pointer (some ⟨bk,0,none⟩),.int .i64 h] w fun e w'=> ∃v,e= .returned v∧ ∃n ys,OwnRc w' w.heap.size v n ys∧ys.map RcV.r=holdB m h∧Below w.heap.size w w':=by
 obtain ⟨b1,b2,R,hB⟩:=hB
 have HBK:=hid hB
 obtain ⟨w0,hrun0,⟨cnt0,hr0⟩,hb0,hs0⟩:=hB.m1.range (t:= 195) (e:= 32) pieceKeyed Tryz.underlying195
 have hc0:=hB.cells.1
 have HR0:=hid hr0
 have HB0:=hid hb0
 have HS0:=hid hs0
 clear hr0 hb0 hs0 hB
 go_enter Tryz.func75,Tryz.ntmps75
 go_upto_region 4 with fail
 clear hrun0 hc0
 obtain ⟨rr,hrr⟩:=ex_eq w.heap.size
 have HRR:=hid hrr
 rw [hrr] at HR0 HS0 ⊢
 clear hrr
 have HST:Hid (BookR w0 O bk b1 b2 R m c):=hid (HBK.o.later HB0.o)
 go_loopw [5] (fun v wr=> ∃(lf:Value→Prop) (cnt:Nat),Hid (RangeV Tryz.prog 42 wr b1 rr c (listF R) lf cnt)∧Hid (∃n ys,OwnRc wr (rr+1) v n ys∧Seen m h (toCome lf) (ys.map RcV.r))∧Hid (Below rr w wr)∧Hid (rr+1≤wr.heap.size)) (fun _ wr=>wr.rangeLeft b1 rr)
 case atStart=>exact ⟨_,cnt0,HR0,hid ⟨0,[],OwnRc.nil _ _,seen_start (fun x hx=>HBK.o.come hx)⟩,hid (HB0.o.mono (Nat.le_of_eq HRR.o.symm)),hid (Nat.le_of_eq HS0.o.symm)⟩
 case round=>
  obtain ⟨lf,cnt,HRV,HYS,HBE,HRL⟩:=hrel
  have HWB:Hid (∀V,Below rr w V→Below w.heap.size w V):=hid (fun V h=>by rw [HRR.o];exact h)
  have HBR:=hid (HBK.o.later (HWB.o _ HBE.o))
  rcases HRV.o.next pieceKeyed 0 with ⟨hd,hrun⟩ | ⟨key,kl,v0,w1,cnt1,hk,hlf,hfv,hrun,hr1,hlt,hgr,hsz,hen⟩
  ·obtain ⟨n,ys,hy1,hy2⟩:=HYS.o
   have HY1:=hid hy1
   have HPM:Hid ((ys.map RcV.r).Perm (curs m h)):=hid (seen_end2 HBK.o.good hy2 (fun x hx=>by
    obtain ⟨l,hl⟩:=HBK.o.good.key hx
    exact hd _ l hl))
   have HNC:Hid (n≤c):=hid (by have h1:=seen_len hy2;rw [List.length_map,hy1.2.1] at h1;have:=HBK.o.len;omega)
   clear hy1 hy2 hd
   go_upto_region 9 with fail
   clear hrun
   rcases own_cases HY1.o.1 with ⟨hv,hn⟩ | ⟨bl,cap,hv⟩
   ·have HV:=hid hv
    have hso:=sortRc_none (.func (.func 166) #[] #[]) wr
    subst hv
    go_wp2_with (first
     | (go_at_call 165
        (with_reducible refine hso.mono ?_)
        rintro e w2 ⟨rfl,rfl⟩))
    go_ret
    have hys:ys=[]:=List.eq_nil_of_length_eq_zero (by rw [HY1.o.2.1];exact hn)
    refine ⟨_,rfl,n,ys,HY1.o.base (by have:=HRR.o;omega),holdB_eq HBK.o.good HPM.o (by rw [hys];exact .nil),HWB.o _ HBE.o⟩
   ·have hso:=sortRc_any _ ys HY1.o.2.1 (by have:=HNC.o;omega) (by
       have hp:=curs_pcs HBK.o.good h
       have hq:=(HPM.o.symm.pairwise_iff (fun {a b} (e:a.pc≠b.pc)=>Ne.symm e)).1 hp
       rw [List.pairwise_map] at hq
       exact hq) wr HY1.o.1 ⟨bl,cap,hv⟩
    have HV:=hid hv
    subst hv
    go_wp2_with (first
     | (go_at_call 165
        (with_reducible refine hso.mono ?_)
        rintro e w2 ⟨rfl,zs,hz1,hz2,hz3,hz4⟩
        have HZ1:=hid hz1
        have HZ2:=hid hz2
        have HZ3:=hid hz3
        have HZ4:=hid hz4
        clear hz1 hz2 hz3 hz4 hso))
    go_ret
    have hlow:rr+1≤bl:=(own_lt HY1.o.1 rfl).1
    refine ⟨_,rfl,n,zs,?_,holdB_eq HBK.o.good ((HZ1.o.map RcV.r).trans HPM.o) (by rw [List.pairwise_map];exact HZ2.o),HWB.o _ (HBE.o.trans (HZ4.o.below (by have:=HBE.o.size;have:=HRL.o;omega) (fun q i hq e=>by injection e with e;have e:q=bl:=e;omega)))⟩
    refine OwnRc.base (B:=rr+1) ⟨HZ3.o,by rw [HZ1.o.length_eq];exact HY1.o.2.1,fun y hy=> ?_⟩ (by have:=HRR.o;omega)
    obtain ⟨a1,a2,a3⟩:=HY1.o.2.2 y (HZ1.o.mem_iff.1 hy)
    exact ⟨a1.keepB HZ4.o (fun q hq i e=>a3 q e.symm hq),a2,a3⟩
  obtain ⟨s,i,rfl,hks,hki⟩:=pieceInv hk
  have HKS:=hid hks
  have HKI:=hid hki
  have HLF:=hid hlf
  have HR1:=hid hr1
  have HLT:=hid hlt
  have HC1:Hid (Chg (fun q _=>q=rr) wr w1):=hid (Chg.of_grown hgr (fun k i e=>by injection e with e;exact e.symm))
  have HS1:=hid hsz
  have HBR1:=hid (HBR.o.keep HC1.o (fun q hq i e=>by have:=HBK.o.lt q hq;have:=HRR.o;omega))
  obtain ⟨r,hr⟩:=HBR1.o.cur hfv
  unfold pieceV at hrun hen
  clear hks hki hlf hr1 hlt hgr hsz hk hfv
  have HB1:Hid (Below rr w w1):=hid (HBE.o.trans (HC1.o.below (by have:=HBE.o.size;have:=HRL.o;omega) (fun q i hq e=>by omega)))
  go_upto_region 6 with fail
  clear hrun hen
  refine wp_over (fun V=>Hid (V.heap[w1.heap.size]? =some (.cells #[.string s,.int .i64 i] 42 (0,0)))∧Hid (Below w1.heap.size w1 V)) ⟨heap_alloc_new _ _,(Below.refl _ _).alloc (Nat.le_refl _) _⟩ ?_
  rintro V ⟨HVG,HVB⟩
  obtain ⟨A,hA⟩:=ex_eq w1.heap.size
  have HAA:Hid (w1.heap.size=A∧rr+1≤A):=hid ⟨hA,by have:=HS1.o;have:=HRL.o;omega⟩
  rw [hA] at HVG ⊢
  clear hA
  have p0:V.cell? ⟨A,0,none⟩=some (.string s):=cr HVG.o
  have p1:V.cell? ⟨A,1,none⟩=some (.int .i64 i):=cr HVG.o
  have HBV:=hid (HBR1.o.later HVB.o)
  have HZ8:=hid (curB_sizes HBK.o.good hr)
  have HCR:=hid hr
  obtain ⟨hol,vlt,str,ix,sz,day,ser,cnt',pl,root,pa,si,pt,sq⟩:=r
  obtain ⟨n1,e1⟩:=ex_eq pa.length
  obtain ⟨n2,e2⟩:=ex_eq pt.length
  obtain ⟨n3,e3⟩:=ex_eq sq.length
  have HLN:Hid (pa.length=n1∧pt.length=n2∧sq.length=n3):=hid ⟨e1,e2,e3⟩
  have HZN:Hid (n1≤8∧n2≤300∧n3≤8):=hid (by have h8:pa.length≤8∧pt.length≤300∧sq.length≤8:=HZ8.o;omega)
  have HCU:=hid (current_some O bk m c hc s i HKS.o HKI.o hol vlt str ix sz day ser cnt' pl root si pa pt sq n1 n2 n3 e1 e2 e3 hr V ⟨b1,b2,R,HBV.o⟩)
  clear e1 e2 e3 hr
  go_upto_region 7 with (first
   | (go_at_call 137
      (with_reducible refine HCU.o.mono ?_)
      rintro e w2 ⟨ap,c1,aq,c2,ar,c3,rfl,hok,hbo,h2⟩
      have HOK:=hid hok
      have H2:=hid h2
      clear hok hbo h2 p0 p1))
  refine wp_over (fun X=>Hid (X.heap[w2.heap.size]? =some (.cells #[.int .i64 hol,.int .i64 vlt,.string str,.int .i64 ix,.int .i64 sz,.int .i64 day,.int .i64 ser,.int .i64 cnt',.int .i64 pl,.string root,.slice ap n1 c1,.int .i64 si,.slice aq n2 c2,.slice ar n3 c3] 47 (0,0)))∧Hid (Below w2.heap.size w2 X)) ⟨heap_alloc_new _ _,(Below.refl _ _).alloc (Nat.le_refl _) _⟩ ?_
  rintro X ⟨HXG,HXB⟩
  have HX1:Hid (Below A w1 X):=hid (by
   have h1:=HVB.o
   have h2:Below A w1 w2:=(h1.mono (Nat.le_of_eq HAA.o.1.symm)).trans (H2.o.mono (by have:=h1.size;have:=HAA.o;omega))
   exact h2.trans (HXB.o.mono (by have:=h2.size;have:=HAA.o;omega)))
  have HXO:=hid (HOK.o.later HXB.o)
  obtain ⟨D,hD⟩:=ex_eq w2.heap.size
  rw [hD] at HXG ⊢
  clear hD
  obtain ⟨q0,q1,q2,q3,q4,q5,q6,q7,q8,q9,q10,q11,q12,q13⟩:=row14 HXG.o
  obtain ⟨n,ys,hy1,hy2⟩:=HYS.o
  have HNC:Hid (n≤c):=hid (by have h1:=seen_len hy2;rw [List.length_map,hy1.2.1] at h1;have:=HBK.o.len;omega)
  have HY1:Hid (OwnRc X (rr+1) u5 n ys):=hid ((hy1.keepC HC1.o (fun q hq i e=>by omega)).later (HX1.o.mono (Nat.le_of_eq HAA.o.1)))
  have HY2:=hid hy2
  clear hy1 hy2
  have HRX:Hid (RangeV Tryz.prog 42 X b1 rr c (listF R) (fun x=>lf x∧x≠pieceV s i) cnt1):=hid (HR1.o.later (HX1.o.mono (Nat.le_of_eq HAA.o.1)))
  have HWX:Hid (Below rr w X):=hid (HB1.o.trans (HX1.o.mono (by have:=HAA.o;omega)))
  by_cases hh:hol=h
  rotate_left
  ·have hb:(hol==h)=false:=by rw [beq_eq_false_iff_ne];exact hh
   have HSN:Hid (Seen m h (toCome (fun x=>lf x∧x≠pieceV s i)) (ys.map RcV.r)):=hid (by
    have h1:=seen_miss HBK.o.good HY2.o (p:=⟨s,i⟩) (fun x hx=>by
     rw [HCR.o] at hx
     cases hx
     exact hh)
    rw [← toCome_step] at h1
    exact h1)
   clear hh
   go_wp2_with fail
   go_roundw
   case rel=>exact ⟨_,cnt1,HRX,hid ⟨n,ys,HY1.o,HSN.o⟩,HWX,hid (by have:=HX1.o.size;have:=HAA.o;omega)⟩
   case measure=>rw [HRX.o.left_eq,HRV.o.left_eq];exact HLT.o
  have hb:(hol==h)=true:=by rw [beq_iff_eq];exact hh
  have HSN:Hid (∀x:RcV,x.r=⟨hol,vlt,str,ix,sz,day,ser,cnt',pl,root,pa,si,pt,sq⟩→Seen m h (toCome (fun x=>lf x∧x≠pieceV s i)) ((ys++[x]).map RcV.r)):=hid (fun x hx=>by
   have h1:=seen_hit HBK.o.good HY2.o (p:=⟨s,i⟩) HLF.o HCR.o hh
   rw [← toCome_step] at h1
   rw [List.map_append,List.map_cons,List.map_nil,hx]
   exact h1)
  clear hh
  go_upto_region 8 with fail
  have HCL:=hid (cloneR_any hol vlt str ix sz day ser cnt' pl root ap n1 c1 si aq n2 c2 ar n3 c3 pa pt sq X HLN.o.1 HLN.o.2.1 HLN.o.2.2 (by have:=HZN.o;omega) (by have:=HZN.o;omega) (by have:=HZN.o;omega) HXO.o.s1 HXO.o.s2 HXO.o.s3)
  have HSRC:Hid (∀(a6:Option Addr) (d6:Nat) (a7:Option Addr) (d7:Nat) (a8:Option Addr) (d8:Nat) (q:Nat) (V:World),V.heap[q]? =some (.cells #[.int .i64 hol,.int .i64 vlt,.string str,.int .i64 ix,.int .i64 sz,.int .i64 day,.int .i64 ser,.int .i64 cnt',.int .i64 pl,.string root,.slice a6 n1 d6,.int .i64 si,.slice a7 n2 d7,.slice a8 n3 d8] 47 (0,0))→ ∀j u,(⟨⟨hol,vlt,str,ix,sz,day,ser,cnt',pl,root,pa,si,pt,sq⟩,a6,d6,a7,d7,a8,d8⟩:RcV).cells[j]? =some u→V.cell? ((⟨q,0,none⟩:Addr).add j)=some u):=hid (fun a6 d6 a7 d7 a8 d8 q V hq j u hu=>by
   have l:=HLN.o
   obtain ⟨rfl,rfl,rfl⟩:=l
   rw [add_none,Nat.zero_add]
   exact (cell_of_row _ _ _ _ _ _ hq).trans (by rw [← hu];simp [RcV.cells]))
  go_wp2_with (first
   | (go_at_call 134
      (with_reducible refine HCL.o.mono ?_)
      rintro e w4 ⟨a6,d6,a7,d7,a8,d8,rfl,hb6,hb7,hb8,hg6,hg7,hg8,h4⟩
      have HCK:=hid (clone_ok (hol:=hol) (vlt:=vlt) (str:=str) (ix:=ix) (sz:=sz) (day:=day) (ser:=ser) (cnt:=cnt') (pl:=pl) (root:=root) (si:=si) HLN.o.1 HLN.o.2.1 HLN.o.2.2 (by have:=HZN.o;omega) (by have:=HZN.o;omega) (by have:=HZN.o;omega) (d6:=d6) (d7:=d7) (d8:=d8) hb6 hb7 hb8 hg6 hg7 hg8)
      have H4:=hid h4
      clear hb6 hb7 hb8 hg6 hg7 hg8 h4 q0 q1 q2 q3 q4 q5 q6 q7 q8 q9 q10 q11 q12 q13)
   | (at_builtin
      refine app_rc rfl _ _ rfl (rr+1) u5 n ys (by rfl) (own_later HY1.o.1 (H4.o.alloc H4.o.size _)) (by have:=HX1.o.size;have:=H4.o.size;have:=HAA.o;rw [World.size_alloc];omega) (by have:=HNC.o;omega) (⟨⟨hol,vlt,str,ix,sz,day,ser,cnt',pl,root,pa,si,pt,sq⟩,a6,d6,a7,d7,a8,d8⟩:RcV) ⟨w4.heap.size,0,none⟩ 1 (by rfl) (HSRC.o _ _ _ _ _ _ _ _ (heap_alloc_new _ _)) ?_
      intro bl cap w6 h1 h2 h3
      have H1:=hid h1
      have H2b:=hid h2
      have H3:=hid h3
      clear h1 h2 h3))
  have HA4:Hid (Below w4.heap.size w4 (w4.alloc (.cells #[.int .i64 hol,.int .i64 vlt,.string str,.int .i64 ix,.int .i64 sz,.int .i64 day,.int .i64 ser,.int .i64 cnt',.int .i64 pl,.string root,.slice a6 n1 d6,.int .i64 si,.slice a7 n2 d7,.slice a8 n3 d8] 47))):=hid ((Below.refl _ _).alloc (Nat.le_refl _) _)
  have HO5:=hid ((HY1.o.later H4.o).later HA4.o)
  have HON:=hid (HO5.o.snoc (x:=(⟨⟨hol,vlt,str,ix,sz,day,ser,cnt',pl,root,pa,si,pt,sq⟩,a6,d6,a7,d7,a8,d8⟩:RcV)) (HCK.o.1.later HA4.o) (fun q hq=>by have:=HCK.o.2 q hq;have:=HX1.o.size;have:=HAA.o;omega) (fun g hg hq=>by
   have h1:=own_lt HY1.o.1 hg
   have h2:=HCK.o.2 g hq
   omega) H1.o H2b.o H3.o)
  have HX6:Hid (Below (rr+1) X w6):=hid (by
   have h5:Below (rr+1) X (w4.alloc (.cells #[.int .i64 hol,.int .i64 vlt,.string str,.int .i64 ix,.int .i64 sz,.int .i64 day,.int .i64 ser,.int .i64 cnt',.int .i64 pl,.string root,.slice a6 n1 d6,.int .i64 si,.slice a7 n2 d7,.slice a8 n3 d8] 47)):=(H4.o.mono (by have:=HX1.o.size;have:=HAA.o;omega)).trans (HA4.o.mono (by have:=HX1.o.size;have:=H4.o.size;have:=HAA.o;omega))
   refine h5.trans ((Chg.of_grown (M:=fun q _=>(u5:Value).ownBlock=some q) H2b.o (fun k i e=>e)).below (by have:=h5.size;have:=HX1.o.size;have:=HAA.o;omega) (fun q i hq e=> ?_))
   have:=own_lt HY1.o.1 e
   omega)
  have HRZ:Hid (RangeV Tryz.prog 42 w6 b1 rr c (listF R) (fun x=>lf x∧x≠pieceV s i) cnt1):=hid (HRX.o.keep (HX6.o.block b1 (by have:=HBK.o.lt b1 HBK.o.o1;have:=HRR.o;omega)) (HX6.o.block rr (by omega)))
  go_roundw
  case rel=>exact ⟨_,cnt1,HRZ,hid ⟨n+1,ys++[(⟨⟨hol,vlt,str,ix,sz,day,ser,cnt',pl,root,pa,si,pt,sq⟩,a6,d6,a7,d7,a8,d8⟩:RcV)],HON.o,HSN.o (⟨⟨hol,vlt,str,ix,sz,day,ser,cnt',pl,root,pa,si,pt,sq⟩,a6,d6,a7,d7,a8,d8⟩:RcV) rfl⟩,hid (HWX.o.trans (HX6.o.mono (Nat.le_succ rr))),hid (by have:=HX1.o.size;have:=HX6.o.size;have:=HAA.o;omega)⟩
  case measure=>rw [HRZ.o.left_eq,HRV.o.left_eq];exact HLT.o
end Go.Proofs.YtndlihclgdkpaaaGreatDoor
namespace Go.Proofs.YtndlihclgdkpaaaGreatDoor
open Go.RowKit
open Kit (Chg)
open Sha (v)
open Go.Proofs.YtndlihclgdkpaaaGreatDoor.One

theorem refSameInts_ok (b1 b2 c1 c2 n:Nat) (zs:List Int) (hn:zs.length=n) (hn2:n≤100000) (w:World) (h1: ∀i (h:i<zs.length),w.cell? ⟨b1,i,none⟩=some (.int .i64 zs[i])) (h2: ∀i (h:i<zs.length),w.cell? ⟨b2,i,none⟩=some (.int .i64 zs[i])):
    Calls Tryz.prog 49 #[.slice (some ⟨b1,0,none⟩) n c1,.slice (some ⟨b2,0,none⟩) n c2] w fun e w'=>e= .returned (.bool true)∧Below w.heap.size w w':=by
 have HC1:=hid h1
 have HC2:=hid h2
 have HN:=hid hn
 clear h1 h2 hn
 go_enter Tryz.func49,Tryz.ntmps49
 go_upto_region 4 with fail
 go_loopw [5] (fun z wr=> ∃k:Nat,k≤n∧z= .int .i64 (k:Int)∧Hid (Below w.heap.size w wr)) (fun z _=>n - (intOf z).toNat)
 case atStart=>exact ⟨0,Nat.zero_le _,rfl,hid (Below.refl _ _)⟩
 case round=>
  obtain ⟨k,hk,rfl,HBE⟩:=hrel
  by_cases hlt:k<n
  rotate_left
  ·have hki: ¬(k:Int)<(n:Int):=by omega
   go_wp2_with fail
   go_ret
   exact ⟨rfl,HBE.o⟩
  have hki:(k:Int)<(n:Int):=by omega
  have HK:Hid (k<zs.length):=hid (by rw [HN.o];exact hlt)
  have hc1:=HC1.o k HK.o
  have hc2:=HC2.o k HK.o
  obtain ⟨z,hz⟩:=ex_eq (zs[k]'HK.o)
  rw [hz] at hc1 hc2
  clear hz
  have HS:Hid (∀V,Below w.heap.size w V→V.cell? ⟨b1,k,none⟩=some (.int .i64 z)∧V.cell? ⟨b2,k,none⟩=some (.int .i64 z)):=hid (fun V h=>⟨(h.cell (World.block_lt_of_cell? _ _ hc1)).trans hc1,(h.cell (World.block_lt_of_cell? _ _ hc2)).trans hc2⟩)
  clear hc1 hc2
  have HD:Hid (Below w.heap.size w wr.drew):=hid HBE.o.drew
  go_upto_region 6 with fail
  obtain ⟨VD,hVD⟩:=ex_eq wr.drew
  rw [hVD] at HD
  refine Kit.wp_region_gplan (fun V=>V.cell? ⟨b1,k,none⟩=some (.int .i64 z)∧V.cell? ⟨b2,k,none⟩=some (.int .i64 z)) [(true,0),(true,1),(true,2),(true,3),(true,4),(true,5),(true,6),(true,7),(true,8)] (by kernel_rfl) (by kernel_rfl) (by kernel_rfl) (by kernel_rfl) (by rw [hVD];exact HS.o _ HD.o) ?_
  rw [hVD]
  clear hVD
  iterate 9 (refine Kit.ghd (h:= ?_))
  refine Kit.gdn (h:=?_)
  go_wp2_with fail
  go_roundw
  case rel=>exact ⟨k+1,hlt,by go_num,HD⟩
  case measure=>simp [intOf];omega
end Go.Proofs.YtndlihclgdkpaaaGreatDoor

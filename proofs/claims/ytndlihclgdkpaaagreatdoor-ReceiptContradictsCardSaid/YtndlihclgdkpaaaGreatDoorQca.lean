/- Book.Carried. -/
import Derived.Test.YtndlihclgdkpaaaGreatDoorGd
import Derived.Test.YtndlihclgdkpaaaGreatDoorQcu
set_option linter.unusedVariables false
set_option linter.unusedSimpArgs false
open Go.Lib (hid)
namespace Go.Proofs.YtndlihclgdkpaaaGreatDoor
open Go.RowKit
open Kit (Chg)
open Sha (v)
open Go.Proofs.YtndlihclgdkpaaaGreatDoor.One

def intV (zs:List Int):List Value:=zs.map fun z=> .int .i64 z
theorem intV_rep (L:Nat):natV (List.replicate L 0)=intV (List.replicate L 0):=by
 unfold natV intV
 rw [List.map_replicate,List.map_replicate]
 rfl
theorem intV_set (zs:List Int) (k:Nat) (v:Int):(intV zs).toArray.setIfInBounds k (.int .i64 v)=(intV (zs.set k v)).toArray:=by
 unfold intV
 rw [List.setIfInBounds_toArray,List.map_set]
theorem intV_cell {w:World} {b k:Nat} {zs:List Int} {f:Nat × Nat} (h:w.heap[b]? =some (.cells (intV zs).toArray 3 f)) (hk:k<zs.length):w.cell? ⟨b,k,none⟩=some (.int .i64 zs[k]):=(cell_of_row _ _ _ _ _ _ h).trans (by
 unfold intV
 simp [hk])
theorem carB_len (m:List Rc) (s:ByteArray) (n:Nat):(carB m s n).length=n:=by simp [carB]
def carV (m:List Rc) (s:ByteArray) (k:Nat):Int:=match curB m ⟨s,(k:Int)⟩ with | some r=>r.hol | none=> -1
theorem carB_succ (m:List Rc) (s:ByteArray) (k:Nat):carB m s (k+1)=carB m s k++[carV m s k]:=by
 unfold carB
 rw [List.range_succ,List.map_append]
 rfl
theorem set_nextI {vs:List Int} {k L:Nat} (z y:Int) (hv:vs.length=k) (hk:k<L):(vs++List.replicate (L - k) z).set k y=(vs++[y])++List.replicate (L - (k+1)) z:=by
 subst hv
 rw [List.set_append_right _ _ (Nat.le_refl _),Nat.sub_self,show L - vs.length=(L - (vs.length+1))+1 by omega,List.replicate_succ,List.set_cons_zero]
 simp
set_option maxRecDepth 100000 in
set_option maxHeartbeats 4000000 in
theorem carried_ok (O:Nat→Prop) (bk:Nat) (m:List Rc) (c:Nat) (hc:c≤100000) (s:ByteArray) (hs:s.size≤maxLen) (n:Nat) (hn1:1≤n) (hn:n≤16) (w:World) (hB:BookAt w O bk m c):Calls Tryz.prog 46 #[.pointer (some ⟨bk,0,none⟩),.string s,.int .i64 (n:Int)] w fun e w'=> ∃bo,e= .returned (.tuple #[.slice (some ⟨bo,0,none⟩) n n,.int .i64 0])∧w.heap.size≤bo∧w'.heap[bo]? =some (.cells (intV (carB m s n)).toArray 3 (0,0))∧Below w.heap.size w w':=by
 have HBK:=hid hB
 have HKS:=hid hs
 have hmk:=fun W=>mk_ints n (by omega) W
 have hn3: ¬(n:Int)<1:=by omega
 have hn4: ¬(16:Int)<(n:Int):=by omega
 clear hB hs
 go_enter Tryz.func46,Tryz.ntmps46
 go_upto_region 6 with fail
 clear hmk
 refine wp_over (fun V=>Hid (V.heap[w.heap.size]? =some (.cells (intV (List.replicate n 0)).toArray 3 (0,0)))∧Hid (Below w.heap.size w V)) ⟨by rw [← intV_rep];exact heap_alloc_new _ _,(Below.refl _ _).alloc (Nat.le_refl _) _⟩ ?_
 rintro W ⟨HG,HB⟩
 obtain ⟨bo,hbo⟩:=ex_eq w.heap.size
 have HBO:=hid hbo
 rw [hbo] at HG HB ⊢
 clear hbo
 go_loopw [25] (fun z wr=> ∃k:Nat,k≤n∧z= .int .i64 (k:Int)∧Hid (wr.heap[bo]? =some (.cells (intV (carB m s k++List.replicate (n - k) 0)).toArray 3 (0,0)))∧Hid (Below bo w wr)) (fun z _=>n - (intOf z).toNat)
 case atStart=>exact ⟨0,Nat.zero_le _,rfl,HG,HB⟩
 case round=>
  obtain ⟨k,hk,rfl,HR,HBE⟩:=hrel
  by_cases hlt:k<n
  rotate_left
  ·have hki: ¬(k:Int)<(n:Int):=by omega
   have hke:k=n:=by omega
   have HRE:=HR.o
   rw [hke,Nat.sub_self,List.replicate_zero,List.append_nil] at HRE
   have HRF:=hid HRE
   clear HRE
   go_wp2_with fail
   go_ret2
   exact ⟨bo,rfl,by rw [HBO.o];exact Nat.le_refl _,HRF.o,by rw [HBO.o];exact HBE.o⟩
  have hki:(k:Int)<(n:Int):=by omega
  have HLR:Hid (k<(carB m s k++List.replicate (n - k) (0:Int)).length):=hid (by rw [List.length_append,carB_len,List.length_replicate];omega)
  have c0:=intV_cell HR.o HLR.o
  have f0: ∀i,wr.frozen? ⟨bo,i,none⟩=false:=fun i=>frozen_of_row _ _ _ _ _ HR.o
  go_upto_region 9 with fail
  clear c0 f0
  refine wp_over (fun V=>Hid (V.heap[bo]? =some (.cells (intV ((carB m s k++[-1])++List.replicate (n - (k+1)) 0)).toArray 3 (0,0)))∧Hid (Below bo w V)) ?_ ?_
  ·have h:=heap_setCell_same wr bo k _ 3 (.int .i64 (-1)) HR.o
   rw [intV_set,set_nextI _ _ (carB_len m s k) hlt] at h
   exact ⟨h,HBE.o.setCell (p:=⟨bo,k,none⟩) (Nat.le_refl bo) _⟩
  rintro V ⟨HV,HVB⟩
  have HVW:Hid (Below w.heap.size w V):=hid (by rw [HBO.o];exact HVB.o)
  have HWF:Hid ((Lit.int .i64 (k:Int)).wf=true):=hid (wf64 (by omega) (by omega))
  have HBV:Hid (bo<V.heap.size):=hid (gS HV.o).1
  cases hcu:curB m ⟨s,(k:Int)⟩ with
  | none=>
    have HCV:Hid (carV m s k= -1):=hid (by unfold carV;rw [hcu])
    have HCU:=hid (current_none O bk m c hc s (k:Int) HKS.o HWF.o hcu V (HBK.o.later HVW.o))
    clear hcu
    go_wp2_with (first
     | (go_at_call 137
        (with_reducible refine HCU.o.mono ?_)
        rintro e w2 ⟨rfl,h2⟩
        have H2:=hid h2
        clear h2))
    go_roundw
    case rel=>
     refine ⟨k+1,hlt,by go_num,hid ?_,hid ?_⟩
     ·rw [carB_succ,HCV.o]
      exact (Below.heap_alloc _ _ _ (by have:=H2.o.size;have:=HBV.o;omega)).trans ((H2.o.block bo HBV.o).trans HV.o)
     ·exact (HVB.o.trans (H2.o.mono (by have:=HBV.o;omega))).alloc (by have:=H2.o.size;have:=HBV.o;omega) _
    case measure=>simp [intOf];omega
  | some r=>
    have HCV:Hid (carV m s k=r.hol):=hid (by unfold carV;rw [hcu])
    obtain ⟨hol,vlt,str,ix,sz,day,ser,cnt,pl,root,pa,si,pt,sq⟩:=r
    have HCU:=hid (current_some O bk m c hc s (k:Int) HKS.o HWF.o hol vlt str ix sz day ser cnt pl root si pa pt sq _ _ _ rfl rfl rfl hcu V (HBK.o.later HVW.o))
    clear hcu
    go_upto_region 11 with (first
     | (go_at_call 137
        (with_reducible refine HCU.o.mono ?_)
        rintro e w2 ⟨ap,c1,aq,c2,ar,c3,rfl,_,_,h2⟩
        have H2:=hid h2
        clear h2))
    refine wp_over (fun X=>Hid (X.heap[w2.heap.size]? =some (.cells #[.int .i64 hol,.int .i64 vlt,.string str,.int .i64 ix,.int .i64 sz,.int .i64 day,.int .i64 ser,.int .i64 cnt,.int .i64 pl,.string root,.slice ap pa.length c1,.int .i64 si,.slice aq pt.length c2,.slice ar sq.length c3] 47 (0,0)))∧Hid (Below w2.heap.size w2 X)) ⟨heap_alloc_new _ _,(Below.refl _ _).alloc (Nat.le_refl _) _⟩ ?_
    rintro X ⟨HXG,HXB⟩
    obtain ⟨q0,_⟩:=row14 HXG.o
    obtain ⟨A,hA⟩:=ex_eq w2.heap.size
    have HA:=hid hA
    rw [hA] at HXG q0 ⊢
    clear hA
    have HXV:Hid (X.heap[bo]? =some (.cells (intV ((carB m s k++[-1])++List.replicate (n - (k+1)) 0)).toArray 3 (0,0))):=hid ((HXB.o.block bo (by have:=H2.o.size;have:=HBV.o;omega)).trans ((H2.o.block bo HBV.o).trans HV.o))
    have HLX:Hid (k<((carB m s k++[-1])++List.replicate (n - (k+1)) (0:Int)).length):=hid (by rw [List.length_append,List.length_append,carB_len];simp;omega)
    have c0:=intV_cell HXV.o HLX.o
    have f0: ∀i,X.frozen? ⟨bo,i,none⟩=false:=fun i=>frozen_of_row _ _ _ _ _ HXV.o
    go_wp2_with fail
    go_roundw
    case rel=>
     refine ⟨k+1,hlt,by go_num,hid ?_,hid ?_⟩
     ·have h:=heap_setCell_same X bo k _ 3 (.int .i64 hol) HXV.o
      rw [intV_set] at h
      rw [carB_succ,HCV.o]
      have e:((carB m s k++[-1])++List.replicate (n - (k+1)) (0:Int)).set k hol=(carB m s k++[hol])++List.replicate (n - (k+1)) 0:=by
       rw [List.set_append_left _ _ (by rw [List.length_append,carB_len];simp),List.set_append_right _ _ (by rw [carB_len];exact Nat.le_refl _),carB_len,Nat.sub_self]
       rfl
      rw [e] at h
      exact h
     ·exact (HVB.o.trans ((H2.o.mono (by have:=HBV.o;omega)).trans (HXB.o.mono (by have:=H2.o.size;have:=HBV.o;omega)))).setCell (p:=⟨bo,k,none⟩) (Nat.le_refl bo) _
    case measure=>simp [intOf];omega
end Go.Proofs.YtndlihclgdkpaaaGreatDoor

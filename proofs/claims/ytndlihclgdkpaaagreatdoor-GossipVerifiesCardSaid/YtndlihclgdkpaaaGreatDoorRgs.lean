/- The document's continues and Chain. -/
import Derived.Test.YtndlihclgdkpaaaGreatDoorRgq
set_option linter.unusedVariables false
set_option linter.unusedSimpArgs false
open Go.Lib (hid)
namespace Go.Proofs.YtndlihclgdkpaaaGreatDoor
open Go.RowKit
open Kit (Chg)
open Sha (v)
open Go.Proofs.YtndlihclgdkpaaaGreatDoor.One

theorem lastOf_take (es:List Ent) (d:Int) (k:Nat) (hk:k<es.length) (h:es[k].dev≠d):lastOf (es.take (k+1)) d=lastOf (es.take k) d:=by
 rw [List.take_succ_eq_append_getElem hk,lastOf_snoc,if_neg h]
theorem lastOf_hit (es:List Ent) (d:Int) (k:Nat) (hk:k<es.length) (h:es[k].dev=d):lastOf (es.take (k+1)) d=some es[k]:=by
 rw [List.take_succ_eq_append_getElem hk,lastOf_snoc,if_pos h]
set_option maxRecDepth 100000 in
set_option maxHeartbeats 1000000 in
theorem continues_any (a:Option Addr) (c L:Nat) (es:List Ent) (hLe:es.length=L) (hL:L≤1000000) (hv: ∀q ∈ es,ValidE q) (dv sq kd dy:Int) (ab:Option Addr) (n cb:Nat) (p:ByteArray) (bs:List Nat) (hn:bs.length=n) (w:World) (hE:EntsAt w a es) (hB:BytesAt w ab bs):
    Calls Tryz.prog 273 #[.slice a L c,.agg #[.int .i64 dv,.int .i64 sq,.int .i64 kd,.int .i64 dy,.slice ab n cb,.string p]] w fun e w'=>e= .returned (.bool (contE es ⟨dv,sq,kd,dy,bs,p⟩))∧Below w.heap.size w w':=by
 have HVA:=hid (fun w=>refValidE_any dv sq kd dy ab n cb p bs hn w)
 have HE:=hid hE
 have HBY:=hid hB
 have HLE:=hid hLe
 have HVS:=hid hv
 have HNL:=hid hn
 clear hE hB hLe hv hn
 by_cases hval:validE ⟨dv,sq,kd,dy,bs,p⟩=true
 ·have HC:Hid (contE es ⟨dv,sq,kd,dy,bs,p⟩=(match lastOf es dv with
     | some q=>decide (sq=q.seq+1) && (decide (nb p=sumE q) && decide (q.day≤dy))
     | none=>decide (sq=1))):=hid (by unfold contE;rw [hval,Bool.true_and];rfl)
  have HVE:Hid (ValidE ⟨dv,sq,kd,dy,bs,p⟩):=hid ((validE_iff _).1 hval)
  rw [hval] at HVA
  clear hval
  obtain ⟨CE,hCE⟩:=ex_eq (contE es ⟨dv,sq,kd,dy,bs,p⟩)
  rw [hCE] at HC ⊢
  clear hCE
  go_enter Tryz.func273,Tryz.ntmps273
  go_upto_region 1 with fail
  refine wp_over (fun W=>Hid (W.heap[w.heap.size]? =some (.cells #[.int .i64 dv,.int .i64 sq,.int .i64 kd,.int .i64 dy,.slice ab n cb,.string p] 92 (0,0)))∧Hid (Below w.heap.size w W)∧Hid (W.heap.size=w.heap.size+1)) ⟨heap_alloc_new _ _,(Below.refl _ _).alloc (Nat.le_refl _) _,by show _=_;simp⟩ ?_
  rintro W ⟨HG,HB,HW⟩
  obtain ⟨N,hN⟩:=ex_eq w.heap.size
  rw [hN] at HG HB HW ⊢
  have HN:=hid hN
  clear hN
  obtain ⟨c0,c1,c2,c3,c4,c5⟩:=row6 HG.o
  go_upto_region 4 with (first
   | (go_at_call 305
      (with_reducible refine (HVA.o _).mono ?_)
      rintro e w2 ⟨rfl,h2⟩
      have H2:Hid (Below (N+1) W w2):=hid (h2.mono (by have:=HW.o;omega))
      clear h2 c0 c1 c2 c3 c4 c5))
  have HCC:Hid (∀V,Below (N+1) W V→V.cell? ⟨N,0,none⟩=some (.int .i64 dv)∧V.cell? ⟨N,1,none⟩=some (.int .i64 sq)∧V.cell? ⟨N,2,none⟩=some (.int .i64 kd)∧V.cell? ⟨N,3,none⟩=some (.int .i64 dy)∧V.cell? ⟨N,4,none⟩=some (.slice ab n cb)∧V.cell? ⟨N,5,none⟩=some (.string p)):=hid (fun V h=>row6 ((h.block N (Nat.lt_succ_self _)).trans HG.o))
  have HBE:Hid (∀V,Below (N+1) W V→Below w.heap.size w V):=hid (fun V h=>by rw [HN.o];exact HB.o.trans (h.mono (Nat.le_succ N)))
  have hwr0:IntKind.i64.wrap ((L:Int) - 1)=(L:Int) - 1:=by rw [IntKind.wrap_i64];omega
  go_loopw [5] (fun z wr=> ∃k:Nat,k≤L∧z= .int .i64 ((k:Int) - 1)∧Hid (lastOf es dv=lastOf (es.take k) dv)∧Hid (Below (N+1) W wr)) (fun z _=>(intOf z+1).toNat)
  case atStart=>exact ⟨L,by omega,rfl,hid (by rw [List.take_of_length_le (by rw [HLE.o];exact Nat.le_refl _)]),H2⟩
  case round=>
   obtain ⟨k,hk,rfl,HLO,HR⟩:=hrel
   obtain ⟨c0,c1,c2,c3,c4,c5⟩:=HCC.o _ HR.o
   by_cases hlt:0<k
   ·have hkk:(0:Int)≤(k:Int) - 1:=by omega
    obtain ⟨j,hj⟩: ∃j,k=j+1:=⟨k - 1,by omega⟩
    have hkj:((k:Int) - 1)=(j:Int):=by omega
    rw [hkj] at hkk ⊢
    clear hkj hlt
    subst hj
    have hwr:IntKind.i64.wrap ((j:Int) - 1)=(j:Int) - 1:=by rw [IntKind.wrap_i64];omega
    have hjL:(j:Int)<(L:Int):=by omega
    have HJL:Hid (j<es.length):=hid (by rw [HLE.o];omega)
    obtain ⟨b0,o0,rfl,hes⟩: ∃b o,a=some ⟨b,o,none⟩∧ ∀i,(h:i<es.length)→EntAt wr b (o+i*6) es[i]:=by
     rcases HE.o.later (HBE.o _ HR.o) with h | h
     ·have:=HJL.o;rw [h] at this;simp at this
     ·exact h
    have hek:=hes j HJL.o
    have HVQ:Hid (ValidE (es[j]'HJL.o)):=hid (HVS.o _ (List.getElem_mem HJL.o))
    have HTK:=hid (lastOf_take es dv j HJL.o)
    have HTH:=hid (lastOf_hit es dv j HJL.o)
    obtain ⟨q,hq⟩:=ex_eq (es[j]'HJL.o)
    rw [hq] at hek HVQ HTK HTH
    clear hq hes
    obtain ⟨qd,qs,qk,qy,qb,qp⟩:=q
    obtain ⟨ae,m,cm,hm,hmn,hmB,d0,d1,d2,d3,d4,d5⟩:=hek
    simp only at hm hmB d0 d1 d2 d3 d4 d5
    have HQN:=hid hm
    have HQB:=hid hmB
    clear hm hmB hmn
    go_upto_region 7 with fail
    refine wp_over (fun V=>Hid (V.heap[wr.heap.size]? =some (.cells #[.int .i64 qd,.int .i64 qs,.int .i64 qk,.int .i64 qy,.slice ae m cm,.string qp] 92 (0,0)))∧Hid (V.heap.size=wr.heap.size+1)∧Hid (Below wr.heap.size wr V)) ⟨heap_alloc_new _ _,by show _=_;simp,(Below.refl _ _).alloc (Nat.le_refl _) _⟩ ?_
    rintro W2 ⟨HG2,HZ2,HB2⟩
    clear c0 c1 c2 c3 c4 c5 d0 d1 d2 d3 d4 d5
    obtain ⟨M,hM⟩:=ex_eq wr.heap.size
    have HM:=hid hM
    rw [hM] at HG2 HZ2 HB2 ⊢
    clear hM
    have HR2:Hid (Below (N+1) W W2):=hid (HR.o.trans (HB2.o.mono (by have:=HR.o.size;have:=HW.o;have:=HM.o;omega)))
    have HQ2:=hid (HQB.o.later (by rw [HM.o];exact HB2.o))
    obtain ⟨c0,c1,c2,c3,c4,c5⟩:=HCC.o _ HR2.o
    obtain ⟨d0,d1,d2,d3,d4,d5⟩:=row6 HG2.o
    by_cases hdev:qd=dv
    ·subst hdev
     have HIT:Hid (CE=(decide (sq=qs+1) && (decide (nb p=sumE ⟨qd,qs,qk,qy,qb,qp⟩) && decide (qy≤dy)))):=hid (by
      have h1:=HLO.o
      rw [HTH.o rfl] at h1
      rw [HC.o,h1])
     have hwq:IntKind.i64.wrap (qs+1)=qs+1:=by have h1:=HVQ.o.seq0;have h2:=HVQ.o.seq1;simp only at h1 h2;rw [IntKind.wrap_i64];omega
     have HSQ:Hid (∀w,BytesAt w ae qb→Calls Tryz.prog 232 #[.agg #[.int .i64 qd,.int .i64 qs,.int .i64 qk,.int .i64 qy,.slice ae m cm,.string qp]] w fun e w'=> ∃u:ByteArray,e= .returned (.string u)∧nb u=sumE ⟨qd,qs,qk,qy,qb,qp⟩∧Below w.heap.size w w'):=hid (by
      obtain ⟨h1,h2,h3,h4,h5,h6,h7,h8,h9,h10⟩:=HVQ.o
      simp only at h1 h2 h3 h4 h5 h6 h7 h8 h9 h10
      have hm:=HQN.o
      have hps:qp.size≤32:=by rw [h10];split<;> omega
      intro w hB
      have h:=refSum46_any qd.toNat qs.toNat qk.toNat qy.toNat ae m cm qp qb hm (by omega) (by omega) (by omega) _ rfl w hB
      rw [Int.toNat_of_nonneg h1,Int.toNat_of_nonneg (by omega:0≤qs),Int.toNat_of_nonneg (by omega:0≤qk),Int.toNat_of_nonneg h7] at h
      exact h)
     have HSC:Hid (∀V,Below (M+1) W2 V→((V.cell? ⟨N,1,none⟩=some (.int .i64 sq)∧V.cell? ⟨N,3,none⟩=some (.int .i64 dy)∧V.cell? ⟨N,5,none⟩=some (.string p))∧V.cell? ⟨M,0,none⟩=some (.int .i64 qd)∧V.cell? ⟨M,1,none⟩=some (.int .i64 qs)∧V.cell? ⟨M,2,none⟩=some (.int .i64 qk)∧V.cell? ⟨M,3,none⟩=some (.int .i64 qy)∧V.cell? ⟨M,4,none⟩=some (.slice ae m cm)∧V.cell? ⟨M,5,none⟩=some (.string qp))):=hid (fun V h=>by
      obtain ⟨_,d1,_,d3,_,d5⟩:=HCC.o _ (HR2.o.trans (h.mono (by have:=HR.o.size;have:=HW.o;have:=HM.o;omega)))
      exact ⟨⟨d1,d3,d5⟩,row6 ((h.block M (Nat.lt_succ_self _)).trans HG2.o)⟩)
     go_upto_region 8 with fail
     have H3:Hid (Below (M+1) W2 W2.drew):=hid (Below.refl _ _).drew
     by_cases hsq:sq=qs+1
     ·have hd1:decide (sq=qs+1)=true:=decide_eq_true hsq
      have hb1:(sq==qs+1)=true:=beq_iff_eq.2 hsq
      clear hsq
      clear c0 c1 c2 c3 c4 c5 d0 d1 d2 d3 d4 d5
      refine Kit.wp_region_hplan (fun V=>(V.cell? ⟨N,1,none⟩=some (.int .i64 sq)∧V.cell? ⟨N,3,none⟩=some (.int .i64 dy)∧V.cell? ⟨N,5,none⟩=some (.string p))∧V.cell? ⟨M,0,none⟩=some (.int .i64 qd)∧V.cell? ⟨M,1,none⟩=some (.int .i64 qs)∧V.cell? ⟨M,2,none⟩=some (.int .i64 qk)∧V.cell? ⟨M,3,none⟩=some (.int .i64 qy)∧V.cell? ⟨M,4,none⟩=some (.slice ae m cm)∧V.cell? ⟨M,5,none⟩=some (.string qp)) [(true,0),(true,1),(true,2),(true,3),(true,4),(true,5),(true,6),(true,7),(true,8),(true,9),(false,10),(true,11),(true,12),(true,13),(true,14),(true,15),(true,16),(true,17),(true,18),(true,19),(true,20)] (by kernel_rfl) (by kernel_rfl) (by kernel_rfl) (by kernel_rfl) (HSC.o _ H3.o) ?_
      iterate 10 (refine Kit.hhd (h:= ?_))
      refine Kit.hplan_op (by rfl) (by rfl) fun K hK=> ?_
      go_simp
      go_at_call 232
      with_reducible refine (HSQ.o _ (HQ2.o.later (Below.refl _ _).drew)).mono ?_
      rintro e w3 ⟨u,rfl,hu,h3⟩
      have HU:=hid hu
      have H4:Hid (Below (M+1) W2 w3):=hid (H3.o.trans (h3.mono (by have h:W2.drew.heap.size=W2.heap.size:=rfl;have:=HZ2.o;omega)))
      clear hu h3
      have HEND:Hid (Below w.heap.size w w3):=hid (HBE.o _ (HR2.o.trans (H4.o.mono (by have:=HR.o.size;have:=HW.o;have:=HM.o;omega))))
      refine hK _ _ (HSC.o _ H4.o) ?_
      clear hK K
      by_cases hpu:p=u
      ·have hb2:(p.toList==u.toList)=true:=by rw [hpu];exact beq_self_eq_true _
       have hd2:decide (p=u)=true:=decide_eq_true hpu
       have HP:Hid (decide (nb p=sumE ⟨qd,qs,qk,qy,qb,qp⟩)=true):=hid (by rw [hpu];exact decide_eq_true HU.o)
       clear hpu
       iterate 10 (refine Kit.hhd (h:= ?_))
       refine Kit.hdn (h:=?_)
       go_wp2_with fail
       go_ret
       exact ⟨by rw [HIT.o,hd1,HP.o];rfl,HEND.o⟩
      ·have hb2:(p.toList==u.toList)=false:=beq_eq_false_iff_ne.2 (fun h=>hpu (nb_inj (by unfold nb;rw [← Lib.toList_data,← Lib.toList_data,h])))
       have hd2:decide (p=u)=false:=decide_eq_false hpu
       have HP:Hid (decide (nb p=sumE ⟨qd,qs,qk,qy,qb,qp⟩)=false):=hid (decide_eq_false (fun h=>hpu (nb_inj (h.trans HU.o.symm))))
       clear hpu
       iterate 10 (refine Kit.hhd (h:= ?_))
       refine Kit.hdn (h:=?_)
       go_wp2_with fail
       go_ret
       exact ⟨by rw [HIT.o,hd1,HP.o];rfl,HEND.o⟩
     ·have hd1:decide (sq=qs+1)=false:=decide_eq_false hsq
      have hb1:(sq==qs+1)=false:=beq_eq_false_iff_ne.2 hsq
      clear hsq
      clear c0 c1 c2 c3 c4 c5 d0 d1 d2 d3 d4 d5
      refine Kit.wp_region_hplan (fun V=>(V.cell? ⟨N,1,none⟩=some (.int .i64 sq)∧V.cell? ⟨N,3,none⟩=some (.int .i64 dy)∧V.cell? ⟨N,5,none⟩=some (.string p))∧V.cell? ⟨M,0,none⟩=some (.int .i64 qd)∧V.cell? ⟨M,1,none⟩=some (.int .i64 qs)∧V.cell? ⟨M,2,none⟩=some (.int .i64 qk)∧V.cell? ⟨M,3,none⟩=some (.int .i64 qy)∧V.cell? ⟨M,4,none⟩=some (.slice ae m cm)∧V.cell? ⟨M,5,none⟩=some (.string qp)) [(true,0),(true,1),(true,2),(true,3),(true,4),(true,5),(true,6),(true,7),(true,8),(true,9),(false,10),(true,11),(true,12),(true,13),(true,14),(true,15),(true,16),(true,17),(true,18),(true,19),(true,20)] (by kernel_rfl) (by kernel_rfl) (by kernel_rfl) (by kernel_rfl) (HSC.o _ H3.o) ?_
      iterate 10 (refine Kit.hhd (h:= ?_))
      refine Kit.hsk (h:=?_)
      iterate 10 (refine Kit.hhd (h:= ?_))
      refine Kit.hdn (h:=?_)
      go_wp2_with fail
      go_ret
      exact ⟨by rw [HIT.o,hd1];rfl,HBE.o _ HR2.o.drew⟩
    ·have HLJ:Hid (lastOf es dv=lastOf (es.take j) dv):=hid (HLO.o.trans (HTK.o hdev))
     go_wp2_with fail
     go_roundw
     case rel=>exact ⟨j,by omega,rfl,HLJ.o,HR2.o⟩
     case measure=>simp [intOf]
   ·have hkk: ¬(0:Int)≤(k:Int) - 1:=by omega
    have HK0:Hid (CE=(sq==1)):=hid (by
     have h1:=HLO.o
     rw [show k=0 by omega,List.take_zero,lastOf_nil] at h1
     rw [HC.o,h1]
     show decide (sq=1)=(sq==1)
     rw [Bool.eq_iff_iff]
     simp)
    go_wp2_with fail
    go_ret
    exact ⟨by rw [HK0.o];rfl,HBE.o _ HR.o⟩
 ·have HC:Hid (contE es ⟨dv,sq,kd,dy,bs,p⟩=false):=hid (by unfold contE;rw [Bool.eq_false_iff.2 hval];rfl)
  rw [Bool.eq_false_iff.2 hval] at HVA
  clear hval
  go_enter Tryz.func273,Tryz.ntmps273
  go_upto_region 1 with fail
  refine wp_over (fun W=>Hid (W.heap[w.heap.size]? =some (.cells #[.int .i64 dv,.int .i64 sq,.int .i64 kd,.int .i64 dy,.slice ab n cb,.string p] 92 (0,0)))∧Hid (Below w.heap.size w W)∧Hid (W.heap.size=w.heap.size+1)) ⟨heap_alloc_new _ _,(Below.refl _ _).alloc (Nat.le_refl _) _,by show _=_;simp⟩ ?_
  rintro W ⟨HG,HB,HW⟩
  obtain ⟨N,hN⟩:=ex_eq w.heap.size
  rw [hN] at HG HB HW ⊢
  have HN:=hid hN
  clear hN
  obtain ⟨c0,c1,c2,c3,c4,c5⟩:=row6 HG.o
  go_wp2_with (first
   | (go_at_call 305
      (with_reducible refine (HVA.o _).mono ?_)
      rintro e w2 ⟨rfl,h2⟩
      have H2:Hid (Below N W w2):=hid (h2.mono (by have:=HW.o;omega))
      clear h2 c0 c1 c2 c3 c4 c5))
  go_ret
  exact ⟨by rw [HC.o];rfl,by rw [HN.o];exact HB.o.trans H2.o⟩
end Go.Proofs.YtndlihclgdkpaaaGreatDoor

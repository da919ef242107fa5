/- The document's Digest of a head, and Signed. -/
import Derived.Test.YtndlihclgdkpaaaGreatDoorRgq
import Derived.Test.YtndlihclgdkpaaaGreatDoorRge
import Derived.Test.YtndlihclgdkpaaaGreatDoorVcw
set_option linter.unusedVariables false
set_option linter.unusedSimpArgs false
open Go.Lib (hid)
set_option maxHeartbeats 1000000
set_option maxRecDepth 100000
namespace Go.Proofs.YtndlihclgdkpaaaGreatDoor
open Go.RowKit
open Kit (Chg)
open Sha (v)
open Go.Proofs.YtndlihclgdkpaaaGreatDoor.One

abbrev headS:ByteArray:={ data:= #[104,101,97,100] }
theorem refDigest46_any (d q:Nat) (sm:ByteArray) (hz:sm.size=32) (hd:d≤11) (hq:q≤1099511627776) (ix:Int) (a1:Option Addr) (n1 c1:Nat) (a2:Option Addr) (n2 c2:Nat) (T:List Nat) (hT:headDg d q (nb sm)=T) (w:World):
    Calls Tryz.prog 160 #[.agg #[.int .i64 (d:Int),.int .i64 (q:Int),.string sm,.int .i64 ix,.slice a1 n1 c1,.slice a2 n2 c2]] w fun e w'=> ∃u:ByteArray,e= .returned (.string u)∧nb u=T∧Below w.heap.size w w':=by
 have HDQ:Hid (d≤11∧q≤1099511627776):=hid ⟨hd,hq⟩
 have HHL:=hid (headIn_len hd hq (s:=nb sm) (by rw [nb_length];exact hz))
 have HTT:Hid ([RV.text headS,RV.uint d,RV.uint q,RV.sum sm].flatMap RV.enc=headIn d q (nb sm)):=hid (by
  show (num 4++headB)++(num d++(num q++(nb sm++[])))=_
  unfold headIn
  simp)
 have HOK:Hid (∀x ∈ [RV.text headS,RV.uint d,RV.uint q,RV.sum sm],x.ok):=hid (by
  intro x hx
  simp only [List.mem_cons,List.not_mem_nil,or_false] at hx
  rcases hx with rfl | rfl | rfl | rfl<;> unfold RV.ok<;> simp only<;> first | omega | decide)
 have HSM:Hid (Sha.sum (headIn d q (nb sm))=T):=hid hT
 obtain ⟨E,hE⟩:=ex_eq (headIn d q (nb sm))
 rw [hE] at HHL HTT HSM
 clear hE hT hz
 go_enter Tryz.func160,Tryz.ntmps160
 go_upto_region 1 with fail
 refine wp_over (fun W=>Hid (W.heap[w.heap.size]? =some (.cells #[.int .i64 (d:Int),.int .i64 (q:Int),.string sm,.int .i64 ix,.slice a1 n1 c1,.slice a2 n2 c2] 94 (0,0)))∧Hid (Below w.heap.size w W)∧Hid (W.heap.size=w.heap.size+1)) ⟨heap_alloc_new _ _,(Below.refl _ _).alloc (Nat.le_refl _) _,by show _=_;simp⟩ ?_
 rintro W ⟨HG,HB,HW⟩
 obtain ⟨N,hN⟩:=ex_eq w.heap.size
 rw [hN] at HG HB HW ⊢
 have HN:=hid hN
 clear hN
 have HST:Hid (∀V V',Below (N+1) W V→Below V.heap.size V V'→Below (N+1) W V'):=hid (fun V V' h h'=>h.trans (h'.mono (by have:=h.size;have:=HW.o;omega)))
 have HBE:Hid (∀V,Below (N+1) W V→Below w.heap.size w V):=hid (fun V h=>by rw [HN.o];exact HB.o.trans (h.mono (Nat.le_succ N)))
 have HSS:Hid (∀V,Below (N+1) W V→(V.cell? ⟨N,0,none⟩=some (.int .i64 (d:Int))∧V.cell? ⟨N,1,none⟩=some (.int .i64 (q:Int))∧V.cell? ⟨N,2,none⟩=some (.string sm))):=hid (fun V h=>by
  obtain ⟨c0,c1,c2,c3,c4,c5⟩:=row6 ((h.block N (Nat.lt_succ_self _)).trans HG.o)
  exact ⟨c0,c1,c2⟩)
 have H2:Hid (Below (N+1) W W.drew):=hid (Below.refl _ _).drew
 refine Kit.wp_region_gplan (fun V=>V.cell? ⟨N,0,none⟩=some (.int .i64 (d:Int))∧V.cell? ⟨N,1,none⟩=some (.int .i64 (q:Int))∧V.cell? ⟨N,2,none⟩=some (.string sm)) [(true,0),(true,1),(true,2),(true,4),(true,5),(true,7),(true,8),(true,9),(false,3),(false,6),(false,10),(false,11),(true,12),(true,13),(true,14),(true,15),(true,16)] (by kernel_rfl) (by kernel_rfl) (by kernel_rfl) (by kernel_rfl) (HSS.o _ H2.o) ?_
 iterate 8 (refine Kit.ghd (h:= ?_))
 refine Kit.gplan_op (by rfl) (by rfl) fun K hK=> ?_
 go_simp
 go_at_call 226
 with_reducible refine (refNum46_any d (by have:=HDQ.o;omega) _).mono ?_
 rintro e w3 ⟨rfl,h3⟩
 have H3:Hid (Below (N+1) W w3):=hid (HST.o _ _ H2.o h3)
 clear h3
 refine hK _ _ (HSS.o _ H3.o) ?_
 clear hK K
 refine Kit.gplan_op (by rfl) (by rfl) fun K hK=> ?_
 go_simp
 go_at_call 226
 with_reducible refine (refNum46_any q (by have:=HDQ.o;omega) _).mono ?_
 rintro e w4 ⟨rfl,h4⟩
 have H4:Hid (Below (N+1) W w4):=hid (HST.o _ _ H3.o h4)
 clear h4
 refine hK _ _ (HSS.o _ H4.o) ?_
 clear hK K
 refine Kit.gplan_op (by rfl) (by rfl) fun K hK=> ?_
 go_simp
 have HN6:Hid (N+1≤w4.heap.size):=hid (by have:=H4.o.size;have:=HW.o;omega)
 refine hK _ _ (HSS.o _ (H4.o.alloc HN6.o _)) ?_
 clear hK K
 refine Kit.gplan_op (by rfl) (by rfl) fun K hK=> ?_
 go_simp
 go_at_call 127
 with_reducible refine (refEncode_any (some ⟨w4.heap.size,0,none⟩) 4 4 [RV.text headS,RV.uint d,RV.uint q,RV.sum sm] rfl (by decide) HOK.o E HTT.o (by have:=HHL.o;omega) _ (vs_of_row (heap_alloc_new _ _) (by with_unfolding_all rfl))).mono ?_
 rintro e w8 ⟨ad,L,cap,rfl,hl,hc,hb,hnil,h8⟩
 have HL:=hid hl
 have HC:=hid hc
 have HB8:=hid hb
 have HNI:=hid hnil
 have H8:Hid (Below (N+1) W w8):=hid (HST.o _ _ (H4.o.alloc HN6.o _) h8)
 clear hl hc hb hnil h8
 refine hK _ _ (HSS.o _ H8.o) ?_
 clear hK K
 iterate 5 (refine Kit.ghd (h:= ?_))
 refine Kit.gdn (h:=?_)
 go_wp2_with (first
  | (go_at_call 190
     (with_reducible refine (refSum_l ad cap E L HL.o HNI.o (by have:=HL.o;have:=HHL.o;omega) _ HB8.o).mono ?_)
     rintro e w9 ⟨u,rfl,hu,h9⟩
     have HU:Hid (nb u=T):=hid (by rw [hu,HSM.o])
     have H9:Hid (Below (N+1) W w9):=hid (HST.o _ _ H8.o h9)
     clear hu h9))
 go_ret
 exact ⟨u,rfl,HU.o,HBE.o _ H9.o⟩
theorem refSigned_any (pk:ByteArray) (B H:Int) (x:HV) (hl1:x.h.ps.length<9223372036854775808) (hl2:x.h.qs.length<9223372036854775808) (w:World) (hP:StrsAt w x.a1 x.h.ps) (hQ:StrsAt w x.a2 x.h.qs):
    Calls Tryz.prog 69 #[.string pk,.agg #[.int .i64 B,.int .i64 H],.agg #[.int .i64 x.h.dev,.int .i64 x.h.seq,.string x.h.sum,.int .i64 x.h.idx,.slice x.a1 x.h.ps.length x.c1,.slice x.a2 x.h.qs.length x.c2]] w fun e w'=>e= .returned (.bool (decide (SignedH B H (nb pk) x.h)))∧Below w.heap.size w w':=by
 have HP:=hid hP
 have HQ:=hid hQ
 obtain ⟨⟨hd,hq,sm,ix,ps,qs⟩,a1,c1,a2,c2⟩:=x
 simp only at hl1 hl2 HP HQ ⊢
 have HSH:Hid (SignedH B H (nb pk) ⟨hd,hq,sm,ix,ps,qs⟩↔(0≤hd∧hd≤11∧1≤hq∧hq≤1099511627776∧sm.size=32)∧SigAcc B H (nb pk) (headDg hd.toNat hq.toNat (nb sm)) ix (ps.map nb) (qs.map nb)):=hid Iff.rfl
 obtain ⟨R,hR⟩:=ex_eq (decide (SignedH B H (nb pk) ⟨hd,hq,sm,ix,ps,qs⟩))
 have HR:=hid hR
 rw [hR]
 clear hR hP hQ
 obtain ⟨n1,hn1⟩:=ex_eq ps.length
 obtain ⟨n2,hn2⟩:=ex_eq qs.length
 have HN1:=hid hn1
 have HN2:=hid hn2
 have HLL:=hid (And.intro hl1 hl2)
 rw [hn1,hn2]
 clear hn1 hn2 hl1 hl2
 have HW1:=hid (fun w=>refWithin_any hd 0 11 w)
 have HW2:=hid (fun w=>refWithin_any hq 1 1099511627776 w)
 obtain ⟨D1,hD1⟩:=ex_eq (inB hd 0 11)
 obtain ⟨D2,hD2⟩:=ex_eq (inB hq 1 1099511627776)
 have HD1:=hid hD1
 have HD2:=hid hD2
 rw [hD1] at HW1
 rw [hD2] at HW2
 clear hD1 hD2
 go_enter Tryz.func69,Tryz.ntmps69
 go_upto_region 1 with fail
 refine wp_over (fun V=>Hid (V.heap[w.heap.size]? =some (.cells #[.int .i64 B,.int .i64 H] 23 (0,0)))∧Hid (V.heap[w.heap.size+1]? =some (.cells #[.int .i64 hd,.int .i64 hq,.string sm,.int .i64 ix,.slice a1 n1 c1,.slice a2 n2 c2] 94 (0,0)))∧Hid (Below w.heap.size w V)∧Hid (V.heap.size=w.heap.size+2)) ⟨two_rows1,two_rows2,two_below,two_size⟩ ?_
 rintro W ⟨HRS0,HRF0,HB,HWS⟩
 obtain ⟨N,hN⟩:=ex_eq w.heap.size
 obtain ⟨M,hM⟩:=ex_eq (w.heap.size+1)
 have HN:=hid hN
 have HMN:Hid (M=N+1):=hid (by omega)
 rw [hM] at HRF0 ⊢
 rw [hN] at HRS0 HB HWS ⊢
 have HWZ:Hid (W.heap.size=M+1):=hid (by have:=HWS.o;have:=HMN.o;omega)
 clear hN hM
 have HSS0:Hid (∀V,Below (M+1) W V→(V.cell? ⟨N,0,none⟩=some (.int .i64 B)∧V.cell? ⟨N,1,none⟩=some (.int .i64 H)∧V.cell? ⟨M,0,none⟩=some (.int .i64 hd)∧V.cell? ⟨M,1,none⟩=some (.int .i64 hq)∧V.cell? ⟨M,2,none⟩=some (.string sm)∧V.cell? ⟨M,3,none⟩=some (.int .i64 ix)∧V.cell? ⟨M,4,none⟩=some (.slice a1 n1 c1)∧V.cell? ⟨M,5,none⟩=some (.slice a2 n2 c2))):=hid (fun V h=>by
  have hr:=(h.block N (by have:=HMN.o;omega)).trans HRS0.o
  exact ⟨cr hr,cr hr,row6 ((h.block M (Nat.lt_succ_self _)).trans HRF0.o)⟩)
 have HBE:Hid (∀V,Below (M+1) W V→Below w.heap.size w V):=hid (fun V h=>by rw [HN.o];exact HB.o.trans (h.mono (by have:=HMN.o;omega)))
 have HST:Hid (∀V V',Below (M+1) W V→Below V.heap.size V V'→Below (M+1) W V'):=hid (fun V V' h h'=>h.trans (h'.mono (by have:=h.size;have:=HWZ.o;omega)))
 have HR0:Hid (Below (M+1) W W):=hid (Below.refl _ _)
 obtain ⟨t0,t1,t2,t3,t4,t5,t6,t7⟩:=HSS0.o _ HR0.o
 clear HRS0 HRF0 HB
 cases D1
 ·have HF:Hid (R=false):=hid (by rw [← HR.o];exact decide_eq_false (fun h=>by
     have h1:=HSH.o.1 h
     have h2:=HD1.o
     unfold inB at h2
     rw [decide_eq_true h1.1.1,decide_eq_true h1.1.2.1] at h2
     cases h2))
  go_wp2_with (first
   | (go_at_call 159
      (with_reducible refine (HW1.o _).mono ?_)
      rintro e w2 ⟨rfl,rfl⟩)
   | (go_at_call 159
      (with_reducible refine (HW2.o _).mono ?_)
      rintro e w2 ⟨rfl,rfl⟩))
  go_ret
  exact ⟨by rw [HF.o];rfl,HBE.o _ HR0.o⟩
 cases D2
 ·have HF:Hid (R=false):=hid (by rw [← HR.o];exact decide_eq_false (fun h=>by
     have h1:=HSH.o.1 h
     have h2:=HD2.o
     unfold inB at h2
     rw [decide_eq_true h1.1.2.2.1,decide_eq_true h1.1.2.2.2.1] at h2
     cases h2))
  go_wp2_with (first
   | (go_at_call 159
      (with_reducible refine (HW1.o _).mono ?_)
      rintro e w2 ⟨rfl,rfl⟩)
   | (go_at_call 159
      (with_reducible refine (HW2.o _).mono ?_)
      rintro e w2 ⟨rfl,rfl⟩))
  go_ret
  exact ⟨by rw [HF.o];rfl,HBE.o _ HR0.o⟩
 by_cases hz:sm.size=32
 rotate_left
 ·have HF:Hid (R=false):=hid (by rw [← HR.o];exact decide_eq_false (fun h=>hz (HSH.o.1 h).1.2.2.2.2))
  have hne:((sm.size:Int) != 32)=true:=by rw [bne_iff_ne];omega
  clear hz
  go_wp2_with (first
   | (go_at_call 159
      (with_reducible refine (HW1.o _).mono ?_)
      rintro e w2 ⟨rfl,rfl⟩)
   | (go_at_call 159
      (with_reducible refine (HW2.o _).mono ?_)
      rintro e w2 ⟨rfl,rfl⟩))
  go_ret
  exact ⟨by rw [HF.o];rfl,HBE.o _ HR0.o⟩
 have HZ:=hid hz
 have hne:((sm.size:Int) != 32)=false:=by rw [hz];rfl
 clear hz
 have hin1:0≤hd∧hd≤11:=by
  have h:=HD1.o
  unfold inB at h
  rw [Bool.and_eq_true] at h
  exact ⟨of_decide_eq_true h.1,of_decide_eq_true h.2⟩
 have hin2:1≤hq∧hq≤1099511627776:=by
  have h:=HD2.o
  unfold inB at h
  rw [Bool.and_eq_true] at h
  exact ⟨of_decide_eq_true h.1,of_decide_eq_true h.2⟩
 obtain ⟨d,rfl⟩: ∃d:Nat,hd=(d:Int):=⟨hd.toNat,by omega⟩
 obtain ⟨q,rfl⟩: ∃d:Nat,hq=(d:Int):=⟨hq.toNat,by omega⟩
 have HDQ:Hid (d≤11∧1≤q∧q≤1099511627776):=hid (by omega)
 have HRS:Hid (R=decide (SigAcc B H (nb pk) (headDg d q (nb sm)) ix (ps.map nb) (qs.map nb))):=hid (by
  rw [← HR.o,decide_eq_decide]
  exact ⟨fun h=>(HSH.o.1 h).2,fun h=>HSH.o.2 ⟨⟨hin1.1,hin1.2,hin2.1,hin2.2,HZ.o⟩,h⟩⟩)
 have HDG:=hid (fun w=>refDigest46_any d q sm HZ.o HDQ.o.1 HDQ.o.2.2 ix a1 n1 c1 a2 n2 c2 _ rfl w)
 clear hin1 hin2
 go_upto_region 3 with (first
  | (go_at_call 159
     (with_reducible refine (HW1.o _).mono ?_)
     rintro e w2 ⟨rfl,rfl⟩)
  | (go_at_call 159
     (with_reducible refine (HW2.o _).mono ?_)
     rintro e w2 ⟨rfl,rfl⟩))
 clear t0 t1 t2 t3 t4 t5 t6 t7 hne
 have HSS:=HSS0
 have H2:Hid (Below (M+1) W W.drew):=hid (Below.refl _ _).drew
 refine Kit.wp_region_gplan (fun V=>V.cell? ⟨N,0,none⟩=some (.int .i64 B)∧V.cell? ⟨N,1,none⟩=some (.int .i64 H)∧V.cell? ⟨M,0,none⟩=some (.int .i64 (d:Int))∧V.cell? ⟨M,1,none⟩=some (.int .i64 (q:Int))∧V.cell? ⟨M,2,none⟩=some (.string sm)∧V.cell? ⟨M,3,none⟩=some (.int .i64 ix)∧V.cell? ⟨M,4,none⟩=some (.slice a1 n1 c1)∧V.cell? ⟨M,5,none⟩=some (.slice a2 n2 c2)) [(true,0),(true,1),(true,3),(true,4),(false,2),(false,5),(true,6),(true,7),(true,8),(true,9),(true,10)] (by kernel_rfl) (by kernel_rfl) (by kernel_rfl) (by kernel_rfl) (HSS.o _ H2.o) ?_
 iterate 4 (refine Kit.ghd (h:= ?_))
 refine Kit.gplan_op (by rfl) (by rfl) fun K hK=> ?_
 go_simp
 go_at_call 160
 with_reducible refine (HDG.o _).mono ?_
 rintro e w3 ⟨u,rfl,hu,h3⟩
 have HU:=hid hu
 have H3:Hid (Below (M+1) W w3):=hid (HST.o _ _ H2.o h3)
 clear hu h3
 refine hK _ _ (HSS.o _ H3.o) ?_
 clear hK K
 refine Kit.gplan_op (by rfl) (by rfl) fun K hK=> ?_
 go_simp
 go_at_call 119
 with_reducible refine (refSigRoot_any B H u ix (.agg #[.int .i64 ix,.slice a1 n1 c1,.slice a2 n2 c2]) ps qs HLL.o.1 HLL.o.2 w3 (by unfold SigAt;exact ⟨a1,n1,c1,a2,n2,c2,rfl,HN1.o,HP.o.later (HBE.o _ H3.o),HN2.o,HQ.o.later (HBE.o _ H3.o)⟩)).mono ?_
 rintro e w4 ⟨h4,hor⟩
 have H4:Hid (Below (M+1) W w4):=hid (HST.o _ _ H3.o h4)
 clear h4
 rcases hor with ⟨hfit,r,rfl,hr,hrz⟩ | ⟨hfit,rfl⟩
 ·have HEQ:Hid ((r.toList==pk.toList)=R):=hid (by
     rw [eq_str,HRS.o,decide_eq_decide,hr,HU.o]
     rw [HU.o] at hfit
     exact ⟨fun h=>⟨hfit,h⟩,fun h=>h.2⟩)
  clear hfit hr hrz
  refine hK _ _ (HSS.o _ H4.o) ?_
  clear hK K
  iterate 5 (refine Kit.ghd (h:= ?_))
  refine Kit.gdn (h:=?_)
  go_wp2_with fail
  go_ret
  exact ⟨by rw [HEQ.o];rfl,HBE.o _ H4.o⟩
 ·have HF:Hid (R=false):=hid (by
     rw [HRS.o]
     rw [HU.o] at hfit
     exact decide_eq_false (fun h=>hfit h.1))
  clear hfit
  refine hK _ _ (HSS.o _ H4.o) ?_
  clear hK K
  iterate 5 (refine Kit.ghd (h:= ?_))
  refine Kit.gdn (h:=?_)
  go_wp2_with fail
  go_ret
  exact ⟨by rw [HF.o];rfl,HBE.o _ H4.o⟩
end Go.Proofs.YtndlihclgdkpaaaGreatDoor

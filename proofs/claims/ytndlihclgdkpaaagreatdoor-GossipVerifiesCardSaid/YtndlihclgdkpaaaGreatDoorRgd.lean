/- The document's Fits. -/
import Derived.Test.YtndlihclgdkpaaaGreatDoorGd
import Derived.Test.YtndlihclgdkpaaaGreatDoorGg
import Derived.Test.YtndlihclgdkpaaaGreatDoorRgc
set_option linter.unusedVariables false
set_option linter.unusedSimpArgs false
open Go.Lib (hid)
set_option maxHeartbeats 2000000
set_option maxRecDepth 100000
namespace Go.Proofs.YtndlihclgdkpaaaGreatDoor
open Go.RowKit
open Kit (Chg)
open Sha (v)
open Go.Proofs.YtndlihclgdkpaaaGreatDoor.One

theorem fits_scheme (B H:Int) (dg:ByteArray) (idx:Int) (a1:Option Addr) (n1 k1:Nat) (a2:Option Addr) (n2 k2:Nat) (hn1:n1<9223372036854775808) (hn2:n2<9223372036854775808) (hv: ¬SV B H) (w:World):
    Calls Tryz.prog 210 #[.agg #[.int .i64 (B),.int .i64 (H)],.string dg,.agg #[.int .i64 idx,.slice a1 n1 k1,.slice a2 n2 k2]] w fun e w'=>e= .returned (.bool false)∧Below w.heap.size w w':=by
 have HV:=hid (fun w=>refSchemeValid_any (B) (H) w)
 rw [decide_eq_false hv] at HV
 clear hv
 go_enter Tryz.func210,Tryz.ntmps210
 go_upto_region 1 with fail
 refine wp_over (fun W=>Hid (W.heap[w.heap.size]? =some (.cells #[.int .i64 (B),.int .i64 (H)] 23 (0,0)))∧Hid (W.heap[w.heap.size+1]? =some (.cells #[.int .i64 idx,.slice a1 n1 k1,.slice a2 n2 k2] 45 (0,0)))∧Hid (Below w.heap.size w W)∧Hid (W.heap.size=w.heap.size+2)) ⟨?_,?_,?_,?_⟩ ?_
 ·exact (Below.heap_alloc _ _ _ (by simp)).trans (heap_alloc_new _ _)
 ·have h:=heap_alloc_new (w.alloc (.cells #[.int .i64 (B),.int .i64 (H)] 23)) (.cells #[.int .i64 idx,.slice a1 n1 k1,.slice a2 n2 k2] 45)
  rwa [World.size_alloc] at h
 ·exact ((Below.refl _ _).alloc (Nat.le_refl _) _).alloc (by simp) _
 ·show _=_
  simp
 rintro W ⟨HG1,HG2,HB,HWN⟩
 obtain ⟨N,hN⟩:=ex_eq w.heap.size
 rw [hN] at HG1 HG2 HB HWN ⊢
 have HN:=hid hN
 clear hN
 have HCE:Hid (∀V,Below (N+2) W V→V.cell? ⟨N,0,none⟩=some (.int .i64 (B))∧V.cell? ⟨N,1,none⟩=some (.int .i64 (H))∧V.cell? ⟨N+1,0,none⟩=some (.int .i64 idx)∧V.cell? ⟨N+1,1,none⟩=some (.slice a1 n1 k1)∧V.cell? ⟨N+1,2,none⟩=some (.slice a2 n2 k2)):=hid (fun V h=>by
  have e1:=(h.block N (by omega)).trans HG1.o
  have e2:=(h.block (N+1) (by omega)).trans HG2.o
  exact ⟨cr e1,cr e1,cr e2,cr e2,cr e2⟩)
 have HST:Hid (∀V V',Below (N+2) W V→Below V.heap.size V V'→Below (N+2) W V'):=hid (fun V V' h h'=>h.trans (h'.mono (by have:=h.size;have:=HWN.o;omega)))
 have HEND:Hid (∀V,Below (N+2) W V→Below w.heap.size w V):=hid (fun V h=>by rw [HN.o];exact HB.o.trans (h.mono (by omega)))
 have HR0:Hid (Below (N+2) W W):=hid (Below.refl _ _)
 go_upto_region 1 with fail
 refine Kit.wp_region_hplan (fun V=>V.cell? ⟨N,0,none⟩=some (.int .i64 (B))∧V.cell? ⟨N,1,none⟩=some (.int .i64 (H))∧V.cell? ⟨N+1,0,none⟩=some (.int .i64 idx)∧V.cell? ⟨N+1,1,none⟩=some (.slice a1 n1 k1)∧V.cell? ⟨N+1,2,none⟩=some (.slice a2 n2 k2)) [(true,0),(false,1),(true,2),(true,3),(true,4),(true,5),(true,6),(true,7),(true,8),(true,9),(true,10),(true,11),(true,12),(true,13),(true,14),(true,15),(true,16),(true,17),(true,18),(true,19),(true,20),(true,21),(true,23),(true,24),(false,22),(false,25),(true,26),(true,27),(true,28),(true,29),(true,30),(true,31),(true,32),(true,33),(true,34),(true,35),(true,36),(true,37),(false,38),(true,39),(true,40)] (by kernel_rfl) (by kernel_rfl) (by kernel_rfl) (by kernel_rfl) (HCE.o _ HR0.o.drew) ?_
 iterate 1 (refine Kit.hhd (h:= ?_))
 refine Kit.hplan_op (by rfl) (by rfl) fun K hK=> ?_
 go_simp
 go_at_call 67
 refine (HV.o _).mono ?_
 rintro e w2 ⟨rfl,h2⟩
 have H2:=hid (HST.o _ _ HR0.o.drew h2)
 clear h2
 refine hK _ _ (HCE.o _ H2.o) ?_
 clear hK K
 iterate 22 (refine Kit.hhd (h:= ?_))
 refine Kit.hsk (h:=?_)
 refine Kit.hsk (h:=?_)
 iterate 12 (refine Kit.hhd (h:= ?_))
 refine Kit.hsk (h:=?_)
 iterate 2 (refine Kit.hhd (h:= ?_))
 refine Kit.hdn (h:=?_)
 go_wp2_with fail
 go_ret
 exact ⟨by first | rfl | simp,HEND.o _ H2.o⟩
theorem fits_size (b t:Nat) (hsv:SV (b:Int) (t:Int)) (dg:ByteArray) (idx:Int) (a1:Option Addr) (n1 k1:Nat) (a2:Option Addr) (n2 k2:Nat) (hn1:n1<9223372036854775808) (hn2:n2<9223372036854775808) (hd: ¬dg.size=32) (w:World):
    Calls Tryz.prog 210 #[.agg #[.int .i64 (b:Int),.int .i64 (t:Int)],.string dg,.agg #[.int .i64 idx,.slice a1 n1 k1,.slice a2 n2 k2]] w fun e w'=>e= .returned (.bool false)∧Below w.heap.size w w':=by
 have HV:=hid (fun w=>refSchemeValid_any (b:Int) (t:Int) w)
 rw [decide_eq_true hsv] at HV
 have hdd:(((dg.size:Nat):Int)==32)=false:=by rw [beq_eq_false_iff_ne];omega
 clear hsv
 go_enter Tryz.func210,Tryz.ntmps210
 go_upto_region 1 with fail
 refine wp_over (fun W=>Hid (W.heap[w.heap.size]? =some (.cells #[.int .i64 (b:Int),.int .i64 (t:Int)] 23 (0,0)))∧Hid (W.heap[w.heap.size+1]? =some (.cells #[.int .i64 idx,.slice a1 n1 k1,.slice a2 n2 k2] 45 (0,0)))∧Hid (Below w.heap.size w W)∧Hid (W.heap.size=w.heap.size+2)) ⟨?_,?_,?_,?_⟩ ?_
 ·exact (Below.heap_alloc _ _ _ (by simp)).trans (heap_alloc_new _ _)
 ·have h:=heap_alloc_new (w.alloc (.cells #[.int .i64 (b:Int),.int .i64 (t:Int)] 23)) (.cells #[.int .i64 idx,.slice a1 n1 k1,.slice a2 n2 k2] 45)
  rwa [World.size_alloc] at h
 ·exact ((Below.refl _ _).alloc (Nat.le_refl _) _).alloc (by simp) _
 ·show _=_
  simp
 rintro W ⟨HG1,HG2,HB,HWN⟩
 obtain ⟨N,hN⟩:=ex_eq w.heap.size
 rw [hN] at HG1 HG2 HB HWN ⊢
 have HN:=hid hN
 clear hN
 have HCE:Hid (∀V,Below (N+2) W V→V.cell? ⟨N,0,none⟩=some (.int .i64 (b:Int))∧V.cell? ⟨N,1,none⟩=some (.int .i64 (t:Int))∧V.cell? ⟨N+1,0,none⟩=some (.int .i64 idx)∧V.cell? ⟨N+1,1,none⟩=some (.slice a1 n1 k1)∧V.cell? ⟨N+1,2,none⟩=some (.slice a2 n2 k2)):=hid (fun V h=>by
  have e1:=(h.block N (by omega)).trans HG1.o
  have e2:=(h.block (N+1) (by omega)).trans HG2.o
  exact ⟨cr e1,cr e1,cr e2,cr e2,cr e2⟩)
 have HST:Hid (∀V V',Below (N+2) W V→Below V.heap.size V V'→Below (N+2) W V'):=hid (fun V V' h h'=>h.trans (h'.mono (by have:=h.size;have:=HWN.o;omega)))
 have HEND:Hid (∀V,Below (N+2) W V→Below w.heap.size w V):=hid (fun V h=>by rw [HN.o];exact HB.o.trans (h.mono (by omega)))
 have HR0:Hid (Below (N+2) W W):=hid (Below.refl _ _)
 go_upto_region 1 with fail
 refine Kit.wp_region_hplan (fun V=>V.cell? ⟨N,0,none⟩=some (.int .i64 (b:Int))∧V.cell? ⟨N,1,none⟩=some (.int .i64 (t:Int))∧V.cell? ⟨N+1,0,none⟩=some (.int .i64 idx)∧V.cell? ⟨N+1,1,none⟩=some (.slice a1 n1 k1)∧V.cell? ⟨N+1,2,none⟩=some (.slice a2 n2 k2)) [(true,0),(false,1),(true,2),(true,3),(true,4),(true,5),(true,6),(true,7),(true,8),(true,9),(true,10),(true,11),(true,12),(true,13),(true,14),(true,15),(true,16),(true,17),(true,18),(true,19),(true,20),(true,21),(true,23),(true,24),(false,22),(false,25),(true,26),(true,27),(true,28),(true,29),(true,30),(true,31),(true,32),(true,33),(true,34),(true,35),(true,36),(true,37),(false,38),(true,39),(true,40)] (by kernel_rfl) (by kernel_rfl) (by kernel_rfl) (by kernel_rfl) (HCE.o _ HR0.o.drew) ?_
 iterate 1 (refine Kit.hhd (h:= ?_))
 refine Kit.hplan_op (by rfl) (by rfl) fun K hK=> ?_
 go_simp
 go_at_call 67
 refine (HV.o _).mono ?_
 rintro e w2 ⟨rfl,h2⟩
 have H2:=hid (HST.o _ _ HR0.o.drew h2)
 clear h2
 refine hK _ _ (HCE.o _ H2.o) ?_
 clear hK K
 iterate 22 (refine Kit.hhd (h:= ?_))
 refine Kit.hsk (h:=?_)
 refine Kit.hsk (h:=?_)
 iterate 12 (refine Kit.hhd (h:= ?_))
 refine Kit.hsk (h:=?_)
 iterate 2 (refine Kit.hhd (h:= ?_))
 refine Kit.hdn (h:=?_)
 go_wp2_with fail
 go_ret
 exact ⟨by first | rfl | simp,HEND.o _ H2.o⟩
theorem fits_neg (b t:Nat) (hsv:SV (b:Int) (t:Int)) (dg:ByteArray) (idx:Int) (a1:Option Addr) (n1 k1:Nat) (a2:Option Addr) (n2 k2:Nat) (hn1:n1<9223372036854775808) (hn2:n2<9223372036854775808) (hd:dg.size=32) (h0: ¬0≤idx) (w:World):
    Calls Tryz.prog 210 #[.agg #[.int .i64 (b:Int),.int .i64 (t:Int)],.string dg,.agg #[.int .i64 idx,.slice a1 n1 k1,.slice a2 n2 k2]] w fun e w'=>e= .returned (.bool false)∧Below w.heap.size w w':=by
 have HV:=hid (fun w=>refSchemeValid_any (b:Int) (t:Int) w)
 rw [decide_eq_true hsv] at HV
 have hdd:(((dg.size:Nat):Int)==32)=true:=by rw [hd];rfl
 clear hsv
 go_enter Tryz.func210,Tryz.ntmps210
 go_upto_region 1 with fail
 refine wp_over (fun W=>Hid (W.heap[w.heap.size]? =some (.cells #[.int .i64 (b:Int),.int .i64 (t:Int)] 23 (0,0)))∧Hid (W.heap[w.heap.size+1]? =some (.cells #[.int .i64 idx,.slice a1 n1 k1,.slice a2 n2 k2] 45 (0,0)))∧Hid (Below w.heap.size w W)∧Hid (W.heap.size=w.heap.size+2)) ⟨?_,?_,?_,?_⟩ ?_
 ·exact (Below.heap_alloc _ _ _ (by simp)).trans (heap_alloc_new _ _)
 ·have h:=heap_alloc_new (w.alloc (.cells #[.int .i64 (b:Int),.int .i64 (t:Int)] 23)) (.cells #[.int .i64 idx,.slice a1 n1 k1,.slice a2 n2 k2] 45)
  rwa [World.size_alloc] at h
 ·exact ((Below.refl _ _).alloc (Nat.le_refl _) _).alloc (by simp) _
 ·show _=_
  simp
 rintro W ⟨HG1,HG2,HB,HWN⟩
 obtain ⟨N,hN⟩:=ex_eq w.heap.size
 rw [hN] at HG1 HG2 HB HWN ⊢
 have HN:=hid hN
 clear hN
 have HCE:Hid (∀V,Below (N+2) W V→V.cell? ⟨N,0,none⟩=some (.int .i64 (b:Int))∧V.cell? ⟨N,1,none⟩=some (.int .i64 (t:Int))∧V.cell? ⟨N+1,0,none⟩=some (.int .i64 idx)∧V.cell? ⟨N+1,1,none⟩=some (.slice a1 n1 k1)∧V.cell? ⟨N+1,2,none⟩=some (.slice a2 n2 k2)):=hid (fun V h=>by
  have e1:=(h.block N (by omega)).trans HG1.o
  have e2:=(h.block (N+1) (by omega)).trans HG2.o
  exact ⟨cr e1,cr e1,cr e2,cr e2,cr e2⟩)
 have HST:Hid (∀V V',Below (N+2) W V→Below V.heap.size V V'→Below (N+2) W V'):=hid (fun V V' h h'=>h.trans (h'.mono (by have:=h.size;have:=HWN.o;omega)))
 have HEND:Hid (∀V,Below (N+2) W V→Below w.heap.size w V):=hid (fun V h=>by rw [HN.o];exact HB.o.trans (h.mono (by omega)))
 have HR0:Hid (Below (N+2) W W):=hid (Below.refl _ _)
 go_upto_region 1 with fail
 refine Kit.wp_region_hplan (fun V=>V.cell? ⟨N,0,none⟩=some (.int .i64 (b:Int))∧V.cell? ⟨N,1,none⟩=some (.int .i64 (t:Int))∧V.cell? ⟨N+1,0,none⟩=some (.int .i64 idx)∧V.cell? ⟨N+1,1,none⟩=some (.slice a1 n1 k1)∧V.cell? ⟨N+1,2,none⟩=some (.slice a2 n2 k2)) [(true,0),(false,1),(true,2),(true,3),(true,4),(true,5),(true,6),(true,7),(true,8),(true,9),(true,10),(true,11),(true,12),(true,13),(true,14),(true,15),(true,16),(true,17),(true,18),(true,19),(true,20),(true,21),(true,23),(true,24),(false,22),(false,25),(true,26),(true,27),(true,28),(true,29),(true,30),(true,31),(true,32),(true,33),(true,34),(true,35),(true,36),(true,37),(false,38),(true,39),(true,40)] (by kernel_rfl) (by kernel_rfl) (by kernel_rfl) (by kernel_rfl) (HCE.o _ HR0.o.drew) ?_
 iterate 1 (refine Kit.hhd (h:= ?_))
 refine Kit.hplan_op (by rfl) (by rfl) fun K hK=> ?_
 go_simp
 go_at_call 67
 refine (HV.o _).mono ?_
 rintro e w2 ⟨rfl,h2⟩
 have H2:=hid (HST.o _ _ HR0.o.drew h2)
 clear h2
 refine hK _ _ (HCE.o _ H2.o) ?_
 clear hK K
 iterate 22 (refine Kit.hhd (h:= ?_))
 refine Kit.hsk (h:=?_)
 refine Kit.hsk (h:=?_)
 iterate 12 (refine Kit.hhd (h:= ?_))
 refine Kit.hsk (h:=?_)
 iterate 2 (refine Kit.hhd (h:= ?_))
 refine Kit.hdn (h:=?_)
 go_wp2_with fail
 go_ret
 exact ⟨by first | rfl | simp,HEND.o _ H2.o⟩
theorem fits_over (b t:Nat) (hsv:SV (b:Int) (t:Int)) (dg:ByteArray) (idx:Int) (a1:Option Addr) (n1 k1:Nat) (a2:Option Addr) (n2 k2:Nat) (hn1:n1<9223372036854775808) (hn2:n2<9223372036854775808) (ht:t≤8) (hd:dg.size=32) (h0:0≤idx) (hi:((2 ^ t:Nat):Int)≤idx) (w:World):
    Calls Tryz.prog 210 #[.agg #[.int .i64 (b:Int),.int .i64 (t:Int)],.string dg,.agg #[.int .i64 idx,.slice a1 n1 k1,.slice a2 n2 k2]] w fun e w'=>e= .returned (.bool false)∧Below w.heap.size w w':=by
 have HV:=hid (fun w=>refSchemeValid_any (b:Int) (t:Int) w)
 rw [decide_eq_true hsv] at HV
 have hdd:(((dg.size:Nat):Int)==32)=true:=by rw [hd];rfl
 have h0:0≤idx:=by omega
 obtain ⟨hshl,hP8⟩:=fit_pow (t:=t) ht
 obtain ⟨P,hP⟩:=ex_eq (2 ^ t)
 rw [hP] at hshl hP8 hi
 have hip: ¬idx<(P:Int):=by omega
 clear hi
 clear hsv
 go_enter Tryz.func210,Tryz.ntmps210
 go_upto_region 1 with fail
 refine wp_over (fun W=>Hid (W.heap[w.heap.size]? =some (.cells #[.int .i64 (b:Int),.int .i64 (t:Int)] 23 (0,0)))∧Hid (W.heap[w.heap.size+1]? =some (.cells #[.int .i64 idx,.slice a1 n1 k1,.slice a2 n2 k2] 45 (0,0)))∧Hid (Below w.heap.size w W)∧Hid (W.heap.size=w.heap.size+2)) ⟨?_,?_,?_,?_⟩ ?_
 ·exact (Below.heap_alloc _ _ _ (by simp)).trans (heap_alloc_new _ _)
 ·have h:=heap_alloc_new (w.alloc (.cells #[.int .i64 (b:Int),.int .i64 (t:Int)] 23)) (.cells #[.int .i64 idx,.slice a1 n1 k1,.slice a2 n2 k2] 45)
  rwa [World.size_alloc] at h
 ·exact ((Below.refl _ _).alloc (Nat.le_refl _) _).alloc (by simp) _
 ·show _=_
  simp
 rintro W ⟨HG1,HG2,HB,HWN⟩
 obtain ⟨N,hN⟩:=ex_eq w.heap.size
 rw [hN] at HG1 HG2 HB HWN ⊢
 have HN:=hid hN
 clear hN
 have HCE:Hid (∀V,Below (N+2) W V→V.cell? ⟨N,0,none⟩=some (.int .i64 (b:Int))∧V.cell? ⟨N,1,none⟩=some (.int .i64 (t:Int))∧V.cell? ⟨N+1,0,none⟩=some (.int .i64 idx)∧V.cell? ⟨N+1,1,none⟩=some (.slice a1 n1 k1)∧V.cell? ⟨N+1,2,none⟩=some (.slice a2 n2 k2)):=hid (fun V h=>by
  have e1:=(h.block N (by omega)).trans HG1.o
  have e2:=(h.block (N+1) (by omega)).trans HG2.o
  exact ⟨cr e1,cr e1,cr e2,cr e2,cr e2⟩)
 have HST:Hid (∀V V',Below (N+2) W V→Below V.heap.size V V'→Below (N+2) W V'):=hid (fun V V' h h'=>h.trans (h'.mono (by have:=h.size;have:=HWN.o;omega)))
 have HEND:Hid (∀V,Below (N+2) W V→Below w.heap.size w V):=hid (fun V h=>by rw [HN.o];exact HB.o.trans (h.mono (by omega)))
 have HR0:Hid (Below (N+2) W W):=hid (Below.refl _ _)
 go_upto_region 1 with fail
 refine Kit.wp_region_hplan (fun V=>V.cell? ⟨N,0,none⟩=some (.int .i64 (b:Int))∧V.cell? ⟨N,1,none⟩=some (.int .i64 (t:Int))∧V.cell? ⟨N+1,0,none⟩=some (.int .i64 idx)∧V.cell? ⟨N+1,1,none⟩=some (.slice a1 n1 k1)∧V.cell? ⟨N+1,2,none⟩=some (.slice a2 n2 k2)) [(true,0),(false,1),(true,2),(true,3),(true,4),(true,5),(true,6),(true,7),(true,8),(true,9),(true,10),(true,11),(true,12),(true,13),(true,14),(true,15),(true,16),(true,17),(true,18),(true,19),(true,20),(true,21),(true,23),(true,24),(false,22),(false,25),(true,26),(true,27),(true,28),(true,29),(true,30),(true,31),(true,32),(true,33),(true,34),(true,35),(true,36),(true,37),(false,38),(true,39),(true,40)] (by kernel_rfl) (by kernel_rfl) (by kernel_rfl) (by kernel_rfl) (HCE.o _ HR0.o.drew) ?_
 iterate 1 (refine Kit.hhd (h:= ?_))
 refine Kit.hplan_op (by rfl) (by rfl) fun K hK=> ?_
 go_simp
 go_at_call 67
 refine (HV.o _).mono ?_
 rintro e w2 ⟨rfl,h2⟩
 have H2:=hid (HST.o _ _ HR0.o.drew h2)
 clear h2
 refine hK _ _ (HCE.o _ H2.o) ?_
 clear hK K
 iterate 22 (refine Kit.hhd (h:= ?_))
 refine Kit.hsk (h:=?_)
 refine Kit.hsk (h:=?_)
 iterate 12 (refine Kit.hhd (h:= ?_))
 refine Kit.hsk (h:=?_)
 iterate 2 (refine Kit.hhd (h:= ?_))
 refine Kit.hdn (h:=?_)
 go_wp2_with fail
 go_ret
 exact ⟨by first | rfl | simp,HEND.o _ H2.o⟩
theorem fits_rest (b t:Nat) (hB:Bits b) (hb4:b≤4) (dg:ByteArray) (idx:Int) (a1:Option Addr) (n1 k1:Nat) (a2:Option Addr) (n2 k2:Nat) (hn1:n1<9223372036854775808) (hn2:n2<9223372036854775808) (ht:t≤8) (hd:dg.size=32) (h0:0≤idx) (hi:idx<((2 ^ t:Nat):Int)) (ps qs:List ByteArray) (hps:ps.length=n1) (hqs:qs.length=n2) (w:World) (hS1:StrsAt w a1 ps) (hS2:StrsAt w a2 qs):
    Calls Tryz.prog 210 #[.agg #[.int .i64 (b:Int),.int .i64 (t:Int)],.string dg,.agg #[.int .i64 idx,.slice a1 n1 k1,.slice a2 n2 k2]] w fun e w'=>e= .returned (.bool (decide (n1=count b 32∧ ∀s ∈ ps,s.size=32) && decide (n2=t) && decide (∀s ∈ qs,s.size=32)))∧Below w.heap.size w w':=by
 have hsv:SV (b:Int) (t:Int):=⟨by rcases hB with rfl | rfl | rfl | rfl<;> first | omega | simp,by omega,by omega⟩
 have HPT:=hid (fun w h=>refParts_any b 32 hB (by decide) (by decide) a1 k1 n1 ps hps hn1 w h)
 have HSU:=hid (fun w h=>refSums_any a2 k2 n2 qs hqs hn2 w h)
 have HS:Hid (∀V,Below w.heap.size w V→StrsAt V a1 ps∧StrsAt V a2 qs):=hid (fun V h=>⟨hS1.later h,hS2.later h⟩)
 have HV:=hid (fun w=>refSchemeValid_any (b:Int) (t:Int) w)
 rw [decide_eq_true hsv] at HV
 have hdd:(((dg.size:Nat):Int)==32)=true:=by rw [hd];rfl
 obtain ⟨hshl,hP8⟩:=fit_pow (t:=t) ht
 obtain ⟨P,hP⟩:=ex_eq (2 ^ t)
 rw [hP] at hshl hP8 hi
 have hip:idx<(P:Int):=hi
 have hqt:((n2:Int)==(t:Int))=decide (n2=t):=by
  rw [Bool.eq_iff_iff,beq_iff_eq,decide_eq_true_eq]
  omega
 obtain ⟨D2,hD2⟩:=ex_eq (decide (n1=count b 32∧ ∀s ∈ ps,s.size=32))
 obtain ⟨D3,hD3⟩:=ex_eq (decide (n2=t))
 obtain ⟨D4,hD4⟩:=ex_eq (decide (∀s ∈ qs,s.size=32))
 rw [hD2] at HPT
 rw [hD3] at hqt
 rw [hD4] at HSU
 rw [hD2,hD3,hD4]
 clear hsv hP hi hD2 hD3 hD4 hB hps hqs hS1 hS2 hd hn1 hn2
 go_enter Tryz.func210,Tryz.ntmps210
 go_upto_region 1 with fail
 refine wp_over (fun W=>Hid (W.heap[w.heap.size]? =some (.cells #[.int .i64 (b:Int),.int .i64 (t:Int)] 23 (0,0)))∧Hid (W.heap[w.heap.size+1]? =some (.cells #[.int .i64 idx,.slice a1 n1 k1,.slice a2 n2 k2] 45 (0,0)))∧Hid (Below w.heap.size w W)∧Hid (W.heap.size=w.heap.size+2)) ⟨?_,?_,?_,?_⟩ ?_
 ·exact (Below.heap_alloc _ _ _ (by simp)).trans (heap_alloc_new _ _)
 ·have h:=heap_alloc_new (w.alloc (.cells #[.int .i64 (b:Int),.int .i64 (t:Int)] 23)) (.cells #[.int .i64 idx,.slice a1 n1 k1,.slice a2 n2 k2] 45)
  rwa [World.size_alloc] at h
 ·exact ((Below.refl _ _).alloc (Nat.le_refl _) _).alloc (by simp) _
 ·show _=_
  simp
 rintro W ⟨HG1,HG2,HB,HWN⟩
 obtain ⟨N,hN⟩:=ex_eq w.heap.size
 rw [hN] at HG1 HG2 HB HWN ⊢
 have HN:=hid hN
 clear hN
 have HCE:Hid (∀V,Below (N+2) W V→V.cell? ⟨N,0,none⟩=some (.int .i64 (b:Int))∧V.cell? ⟨N,1,none⟩=some (.int .i64 (t:Int))∧V.cell? ⟨N+1,0,none⟩=some (.int .i64 idx)∧V.cell? ⟨N+1,1,none⟩=some (.slice a1 n1 k1)∧V.cell? ⟨N+1,2,none⟩=some (.slice a2 n2 k2)):=hid (fun V h=>by
  have e1:=(h.block N (by omega)).trans HG1.o
  have e2:=(h.block (N+1) (by omega)).trans HG2.o
  exact ⟨cr e1,cr e1,cr e2,cr e2,cr e2⟩)
 have HST:Hid (∀V V',Below (N+2) W V→Below V.heap.size V V'→Below (N+2) W V'):=hid (fun V V' h h'=>h.trans (h'.mono (by have:=h.size;have:=HWN.o;omega)))
 have HEND:Hid (∀V,Below (N+2) W V→Below w.heap.size w V):=hid (fun V h=>by rw [HN.o];exact HB.o.trans (h.mono (by omega)))
 have HR0:Hid (Below (N+2) W W):=hid (Below.refl _ _)
 cases D2
 ·go_upto_region 1 with fail
  refine Kit.wp_region_hplan (fun V=>V.cell? ⟨N,0,none⟩=some (.int .i64 (b:Int))∧V.cell? ⟨N,1,none⟩=some (.int .i64 (t:Int))∧V.cell? ⟨N+1,0,none⟩=some (.int .i64 idx)∧V.cell? ⟨N+1,1,none⟩=some (.slice a1 n1 k1)∧V.cell? ⟨N+1,2,none⟩=some (.slice a2 n2 k2)) [(true,0),(false,1),(true,2),(true,3),(true,4),(true,5),(true,6),(true,7),(true,8),(true,9),(true,10),(true,11),(true,12),(true,13),(true,14),(true,15),(true,16),(true,17),(true,18),(true,19),(true,20),(true,21),(true,23),(true,24),(false,22),(false,25),(true,26),(true,27),(true,28),(true,29),(true,30),(true,31),(true,32),(true,33),(true,34),(true,35),(true,36),(true,37),(false,38),(true,39),(true,40)] (by kernel_rfl) (by kernel_rfl) (by kernel_rfl) (by kernel_rfl) (HCE.o _ HR0.o.drew) ?_
  iterate 1 (refine Kit.hhd (h:= ?_))
  refine Kit.hplan_op (by rfl) (by rfl) fun K hK=> ?_
  go_simp
  go_at_call 67
  refine (HV.o _).mono ?_
  rintro e w2 ⟨rfl,h2⟩
  have H2:=hid (HST.o _ _ HR0.o.drew h2)
  clear h2
  refine hK _ _ (HCE.o _ H2.o) ?_
  clear hK K
  iterate 22 (refine Kit.hhd (h:= ?_))
  refine Kit.hplan_op (by rfl) (by rfl) fun K hK=> ?_
  go_simp
  go_at_call 195
  refine (refParams_any (b:Int) (t:Int) _).mono ?_
  rintro e w3 ⟨rfl,h3⟩
  have H3:=hid (HST.o _ _ H2.o h3)
  clear h3
  refine hK _ _ (HCE.o _ H3.o) ?_
  clear hK K
  refine Kit.hplan_op (by rfl) (by rfl) fun K hK=> ?_
  go_simp
  go_at_call 265
  refine (HPT.o _ (HS.o _ (HEND.o _ H3.o)).1).mono ?_
  rintro e w4 ⟨rfl,h4⟩
  have H4:=hid (HST.o _ _ H3.o h4)
  clear h4
  refine hK _ _ (HCE.o _ H4.o) ?_
  clear hK K
  iterate 12 (refine Kit.hhd (h:= ?_))
  refine Kit.hsk (h:=?_)
  iterate 2 (refine Kit.hhd (h:= ?_))
  refine Kit.hdn (h:=?_)
  go_wp2_with fail
  go_ret
  exact ⟨by first | rfl | simp,HEND.o _ H4.o⟩
 cases D3
 ·go_upto_region 1 with fail
  refine Kit.wp_region_hplan (fun V=>V.cell? ⟨N,0,none⟩=some (.int .i64 (b:Int))∧V.cell? ⟨N,1,none⟩=some (.int .i64 (t:Int))∧V.cell? ⟨N+1,0,none⟩=some (.int .i64 idx)∧V.cell? ⟨N+1,1,none⟩=some (.slice a1 n1 k1)∧V.cell? ⟨N+1,2,none⟩=some (.slice a2 n2 k2)) [(true,0),(false,1),(true,2),(true,3),(true,4),(true,5),(true,6),(true,7),(true,8),(true,9),(true,10),(true,11),(true,12),(true,13),(true,14),(true,15),(true,16),(true,17),(true,18),(true,19),(true,20),(true,21),(true,23),(true,24),(false,22),(false,25),(true,26),(true,27),(true,28),(true,29),(true,30),(true,31),(true,32),(true,33),(true,34),(true,35),(true,36),(true,37),(false,38),(true,39),(true,40)] (by kernel_rfl) (by kernel_rfl) (by kernel_rfl) (by kernel_rfl) (HCE.o _ HR0.o.drew) ?_
  iterate 1 (refine Kit.hhd (h:= ?_))
  refine Kit.hplan_op (by rfl) (by rfl) fun K hK=> ?_
  go_simp
  go_at_call 67
  refine (HV.o _).mono ?_
  rintro e w2 ⟨rfl,h2⟩
  have H2:=hid (HST.o _ _ HR0.o.drew h2)
  clear h2
  refine hK _ _ (HCE.o _ H2.o) ?_
  clear hK K
  iterate 22 (refine Kit.hhd (h:= ?_))
  refine Kit.hplan_op (by rfl) (by rfl) fun K hK=> ?_
  go_simp
  go_at_call 195
  refine (refParams_any (b:Int) (t:Int) _).mono ?_
  rintro e w3 ⟨rfl,h3⟩
  have H3:=hid (HST.o _ _ H2.o h3)
  clear h3
  refine hK _ _ (HCE.o _ H3.o) ?_
  clear hK K
  refine Kit.hplan_op (by rfl) (by rfl) fun K hK=> ?_
  go_simp
  go_at_call 265
  refine (HPT.o _ (HS.o _ (HEND.o _ H3.o)).1).mono ?_
  rintro e w4 ⟨rfl,h4⟩
  have H4:=hid (HST.o _ _ H3.o h4)
  clear h4
  refine hK _ _ (HCE.o _ H4.o) ?_
  clear hK K
  iterate 12 (refine Kit.hhd (h:= ?_))
  refine Kit.hsk (h:=?_)
  iterate 2 (refine Kit.hhd (h:= ?_))
  refine Kit.hdn (h:=?_)
  go_wp2_with fail
  go_ret
  exact ⟨by first | rfl | simp,HEND.o _ H4.o⟩
 ·go_upto_region 1 with fail
  refine Kit.wp_region_hplan (fun V=>V.cell? ⟨N,0,none⟩=some (.int .i64 (b:Int))∧V.cell? ⟨N,1,none⟩=some (.int .i64 (t:Int))∧V.cell? ⟨N+1,0,none⟩=some (.int .i64 idx)∧V.cell? ⟨N+1,1,none⟩=some (.slice a1 n1 k1)∧V.cell? ⟨N+1,2,none⟩=some (.slice a2 n2 k2)) [(true,0),(false,1),(true,2),(true,3),(true,4),(true,5),(true,6),(true,7),(true,8),(true,9),(true,10),(true,11),(true,12),(true,13),(true,14),(true,15),(true,16),(true,17),(true,18),(true,19),(true,20),(true,21),(true,23),(true,24),(false,22),(false,25),(true,26),(true,27),(true,28),(true,29),(true,30),(true,31),(true,32),(true,33),(true,34),(true,35),(true,36),(true,37),(false,38),(true,39),(true,40)] (by kernel_rfl) (by kernel_rfl) (by kernel_rfl) (by kernel_rfl) (HCE.o _ HR0.o.drew) ?_
  iterate 1 (refine Kit.hhd (h:= ?_))
  refine Kit.hplan_op (by rfl) (by rfl) fun K hK=> ?_
  go_simp
  go_at_call 67
  refine (HV.o _).mono ?_
  rintro e w2 ⟨rfl,h2⟩
  have H2:=hid (HST.o _ _ HR0.o.drew h2)
  clear h2
  refine hK _ _ (HCE.o _ H2.o) ?_
  clear hK K
  iterate 22 (refine Kit.hhd (h:= ?_))
  refine Kit.hplan_op (by rfl) (by rfl) fun K hK=> ?_
  go_simp
  go_at_call 195
  refine (refParams_any (b:Int) (t:Int) _).mono ?_
  rintro e w3 ⟨rfl,h3⟩
  have H3:=hid (HST.o _ _ H2.o h3)
  clear h3
  refine hK _ _ (HCE.o _ H3.o) ?_
  clear hK K
  refine Kit.hplan_op (by rfl) (by rfl) fun K hK=> ?_
  go_simp
  go_at_call 265
  refine (HPT.o _ (HS.o _ (HEND.o _ H3.o)).1).mono ?_
  rintro e w4 ⟨rfl,h4⟩
  have H4:=hid (HST.o _ _ H3.o h4)
  clear h4
  refine hK _ _ (HCE.o _ H4.o) ?_
  clear hK K
  iterate 12 (refine Kit.hhd (h:= ?_))
  refine Kit.hplan_op (by rfl) (by rfl) fun K hK=> ?_
  go_simp
  go_at_call 208
  refine (HSU.o _ (HS.o _ (HEND.o _ H4.o)).2).mono ?_
  rintro e w5 ⟨rfl,h5⟩
  have H5:=hid (HST.o _ _ H4.o h5)
  clear h5
  refine hK _ _ (HCE.o _ H5.o) ?_
  clear hK K
  iterate 2 (refine Kit.hhd (h:= ?_))
  refine Kit.hdn (h:=?_)
  go_wp2_with fail
  go_ret
  exact ⟨by first | rfl | simp,HEND.o _ H5.o⟩
theorem refFits_any (B H:Int) (dg:ByteArray) (idx:Int) (x:Value) (ps qs:List ByteArray) (hl1:ps.length<9223372036854775808) (hl2:qs.length<9223372036854775808) (w:World) (hx:SigAt w x idx ps qs):
    Calls Tryz.prog 210 #[.agg #[.int .i64 B,.int .i64 H],.string dg,x] w fun e w'=>e= .returned (.bool (decide (SigFits B H (nb dg) idx (ps.map nb) (qs.map nb))))∧Below w.heap.size w w':=by
 obtain ⟨a1,n1,k1,a2,n2,k2,rfl,hps,hS1,hqs,hS2⟩:=hx
 have hn1:n1<9223372036854775808:=by omega
 have hn2:n2<9223372036854775808:=by omega
 have bad: ∀(hf: ¬SigFits B H (nb dg) idx (ps.map nb) (qs.map nb)),decide (SigFits B H (nb dg) idx (ps.map nb) (qs.map nb))=false:=fun hf=>decide_eq_false hf
 by_cases hv:SV B H
 ·obtain ⟨b,t,rfl,rfl,hB,hb4,ht⟩:=sv_of hv
  by_cases hd:dg.size=32
  ·by_cases h0:0≤idx
   ·have hpw:(2:Int) ^ ((t:Int)).toNat=((2 ^ t:Nat):Int):=by rw [Int.toNat_natCast];exact (Int.natCast_pow 2 t).symm
    by_cases hi:idx<((2 ^ t:Nat):Int)
    ·refine (fits_rest b t hB hb4 dg idx a1 n1 k1 a2 n2 k2 hn1 hn2 ht hd h0 hi ps qs hps hqs w hS1 hS2).mono ?_
     rintro e w' ⟨he,hb⟩
     refine ⟨he.trans ?_,hb⟩
     congr 2
     rw [Bool.eq_iff_iff,Bool.and_eq_true,Bool.and_eq_true,decide_eq_true_eq,decide_eq_true_eq,decide_eq_true_eq,decide_eq_true_eq]
     constructor
     ·rintro ⟨⟨⟨h1,h2⟩,h3⟩,h4⟩
      obtain ⟨e1,e2,e3⟩:=shape_nb (b:=b) (n1:=n1) ⟨h4,h1,h2⟩ hps
      exact ⟨hv,by rw [nb_length];exact hd,h0,by rw [hpw];exact hi,by rw [List.length_map];omega,e1,by rw [Int.toNat_natCast];exact e2,e3⟩
     ·rintro ⟨_,_,_,_,h1,h2,h3,h4⟩
      rw [Int.toNat_natCast] at h3
      have hs:=nb_shape h2 h3 h4 hps
      rw [List.length_map] at h1
      exact ⟨⟨hs.2,by omega⟩,hs.1⟩
    ·rw [bad (fun h=>hi (by rw [← hpw];exact h.2.2.2.1))]
     exact fits_over b t hv dg idx a1 n1 k1 a2 n2 k2 hn1 hn2 ht hd h0 (by omega) w
   ·rw [bad (fun h=>h0 h.2.2.1)]
    exact fits_neg b t hv dg idx a1 n1 k1 a2 n2 k2 hn1 hn2 hd h0 w
  ·rw [bad (fun h=>hd (by rw [← nb_length];exact h.2.1))]
   exact fits_size b t hv dg idx a1 n1 k1 a2 n2 k2 hn1 hn2 hd w
 ·rw [bad (fun h=>hv h.1)]
  exact fits_scheme B H dg idx a1 n1 k1 a2 n2 k2 hn1 hn2 hv w
end Go.Proofs.YtndlihclgdkpaaaGreatDoor

/- receipt: cloneSignature, clone. -/
import Derived.Test.YtndlihclgdkpaaaGreatDoorGg
import Derived.Test.YtndlihclgdkpaaaGreatDoorQrw
set_option linter.unusedVariables false
set_option linter.unusedSimpArgs false
open Go.Lib (hid)
set_option maxHeartbeats 4000000
set_option maxRecDepth 100000
namespace Go.Proofs.YtndlihclgdkpaaaGreatDoor
open Go.RowKit
open Kit (Chg)
open Sha (v)
open Go.Proofs.YtndlihclgdkpaaaGreatDoor.One

theorem rowS3 {w:World} {N:Nat} {x0 x1 x2:Value} {T:TypeId} {f:Nat × Nat} (hg:w.heap[N]? =some (.cells #[x0,x1,x2] T f)):w.cell? ⟨N,0,none⟩=some x0∧w.cell? ⟨N,1,none⟩=some x1∧w.cell? ⟨N,2,none⟩=some x2:=
 ⟨cr hg,cr hg,cr hg⟩
theorem cloneSig_any (si:Int) (aq:Option Addr) (n2 c2:Nat) (ar:Option Addr) (n3 c3:Nat) (pt sq:List ByteArray) (h2:pt.length=n2) (h3:sq.length=n3) (l2:n2≤100000000) (l3:n3≤100000000) (w:World) (s2:StrsAt w aq pt) (s3:StrsAt w ar sq):Calls Tryz.prog 94 #[.agg #[.int .i64 si,.slice aq n2 c2,.slice ar n3 c3]] w fun e w'=> ∃a7 d7 a8 d8,e= .returned (.agg #[.int .i64 si,.slice a7 n2 d7,.slice a8 n3 d8])∧(a7=none→d7=0)∧(a8=none→d8=0)∧StrsAt w' a7 pt∧StrsAt w' a8 sq∧(∀ad,a7=some ad→w.heap.size≤ad.block)∧(∀ad,a8=some ad→w.heap.size≤ad.block)∧Below w.heap.size w w':=by
 have HPS:=hid s2
 have HQS:=hid s3
 have HN1:=hid h2
 have HN2:=hid h3
 have HL2:=hid l2
 have HL3:=hid l3
 clear s2 s3 h2 h3 l2 l3
 go_enter Tryz.func94,Tryz.ntmps94
 go_upto_region 1 with fail
 refine wp_over (fun W=>Hid (W.heap[w.heap.size]? =some (.cells #[.int .i64 si,.slice aq n2 c2,.slice ar n3 c3] 45 (0,0)))∧Hid (W.heap[w.heap.size+1]? =some (.cells #[.int .i64 0,.slice none 0 0,.slice none 0 0] 45 (0,0)))∧Hid (Below w.heap.size w W)∧Hid (W.heap.size=w.heap.size+2)) ⟨two_rows1,two_rows2,two_below,two_size⟩ ?_
 rintro W ⟨HG,HZ,HB,HW⟩
 obtain ⟨N,hN⟩:=ex_eq w.heap.size
 rw [hN] at HG HZ HB HW ⊢
 have HN:=hid hN
 clear hN
 have HP2:=hid (HPS.o.later (by rw [HN.o];exact HB.o))
 have HQ2:=hid (HQS.o.later (by rw [HN.o];exact HB.o))
 have HSF:Hid (∀V,Below (N+2) W V→(V.cell? ⟨N,0,none⟩=some (.int .i64 si)∧V.cell? ⟨N,1,none⟩=some (.slice aq n2 c2)∧V.cell? ⟨N,2,none⟩=some (.slice ar n3 c3))∧(V.cell? ⟨N+1,0,none⟩=some (.int .i64 0)∧V.cell? ⟨N+1,1,none⟩=some (.slice none 0 0)∧V.cell? ⟨N+1,2,none⟩=some (.slice none 0 0))∧ ∀i,V.frozen? ⟨N+1,i,none⟩=false):=hid (fun V h=>by
  have hg:=(h.block N (by omega)).trans HG.o
  have hz:=(h.block (N+1) (by omega)).trans HZ.o
  exact ⟨rowS3 hg,rowS3 hz,fun i=>frozen_of_row _ _ _ _ _ hz⟩)
 have HST:Hid (∀V V',Below (N+2) W V→Below V.heap.size V V'→Below (N+2) W V'):=hid (fun V V' h h'=>h.trans (h'.mono (by have:=h.size;have:=HW.o;omega)))
 have HDR:Hid (Below (N+2) W W.drew):=hid (Below.refl _ _).drew
 have HDZ:Hid (W.drew.heap.size=W.heap.size):=hid rfl
 obtain ⟨VD,hVD⟩:=ex_eq W.drew
 rw [hVD] at HDR HDZ
 refine Kit.wp_region_lplan (fun V=>(V.cell? ⟨N,0,none⟩=some (.int .i64 si)∧V.cell? ⟨N,1,none⟩=some (.slice aq n2 c2)∧V.cell? ⟨N,2,none⟩=some (.slice ar n3 c3))∧(V.cell? ⟨N+1,0,none⟩=some (.int .i64 0)∧V.cell? ⟨N+1,1,none⟩=some (.slice none 0 0)∧V.cell? ⟨N+1,2,none⟩=some (.slice none 0 0))∧ ∀i,V.frozen? ⟨N+1,i,none⟩=false) 9 [(true,0),(true,1),(true,2),(true,3),(true,5),(true,6),(false,4),(false,7),(true,8),(false,9)] (by kernel_rfl) (by kernel_rfl) (by kernel_rfl) (by kernel_rfl) (by rw [hVD];exact HSF.o _ HDR.o) ?_
 rw [hVD]
 clear hVD
 iterate 6 (refine Kit.lhd (h:=?_))
 refine Kit.lplan_op (by rfl) (by rfl) (fun K hK=> ?_) (by decide)
 go_simp
 go_at_call 189
 refine (cloneStrs_any aq n2 c2 pt HN1.o HL2.o _ (HP2.o.later (HDR.o.mono (by have:=HW.o;omega)))).mono ?_
 rintro e w7 ⟨a7,d7,rfl,hn7,hb7,hg7,h7⟩
 have HN7:=hid hn7
 have HBB7:=hid hb7
 have HG7:Hid (∀ad,a7=some ad→N+2≤ad.block):=hid (fun ad e=>by have:=hg7 ad e;have:=HDZ.o;have:=HW.o;omega)
 have H7:Hid (Below (N+2) W w7):=hid (HST.o _ _ HDR.o h7)
 clear hn7 hb7 hg7 h7
 refine hK _ _ (HSF.o _ H7.o) ?_
 clear hK K
 refine Kit.lplan_op (by rfl) (by rfl) (fun K hK=> ?_) (by decide)
 go_simp
 go_at_call 189
 refine (cloneStrs_any ar n3 c3 sq HN2.o HL3.o _ (HQ2.o.later (H7.o.mono (by have:=HW.o;omega)))).mono ?_
 rintro e w8 ⟨a8,d8,rfl,hn8,hb8,hg8,h8⟩
 have HN8:=hid hn8
 have HBB8:=hid hb8
 have HG8:Hid (∀ad,a8=some ad→N+2≤ad.block):=hid (fun ad e=>by have:=hg8 ad e;have:=H7.o.size;have:=HW.o;omega)
 have H9:Hid (Below (N+2) W w8):=hid (HST.o _ _ H7.o h8)
 have HP9:=hid (HBB7.o.later h8)
 clear hn8 hb8 hg8 h8
 refine hK _ _ (HSF.o _ H9.o) ?_
 clear hK K
 iterate 1 (refine Kit.lhd (h:=?_))
 obtain ⟨⟨c0,c1,c2'⟩,⟨z0,z1,z2⟩,hfr⟩:=HSF.o _ H9.o
 refine Kit.lplan_last (by rfl) (by rfl) fun K hK=> ?_
 go_simp
 refine hK _ _ ?_
 clear hK K
 refine Kit.ldn (h:=?_)
 clear c0 c1 c2' z0 z1 z2 hfr
 obtain ⟨V,hV⟩:=ex_eq (((w8.setCell ⟨N+1,0,none⟩ (.int .i64 si)).setCell ⟨N+1,1,none⟩ (.slice a7 n2 d7)).setCell ⟨N+1,2,none⟩ (.slice a8 n3 d8))
 have HR:Hid (V.heap[N+1]? =some (.cells #[.int .i64 si,.slice a7 n2 d7,.slice a8 n3 d8] 45 (0,0))):=hid (by rw [← hV];exact putL_full (cur:=[.int .i64 0,.slice none 0 0,.slice none 0 0]) (vs:=[.int .i64 si,.slice a7 n2 d7,.slice a8 n3 d8]) ((H9.o.block (N+1) (by omega)).trans HZ.o) rfl)
 have HCH:Hid (Chg (fun q _=>q=N+1) w8 V):=hid (by rw [← hV];exact putL_chg (fun _=>rfl) [.int .i64 si,.slice a7 n2 d7,.slice a8 n3 d8] 0 w8 (Chg.refl _ _))
 have HBL:Hid (Below (N+1) w8 V):=hid (by rw [← hV];exact putL_below (Nat.le_refl _) [.int .i64 si,.slice a7 n2 d7,.slice a8 n3 d8] 0 w8 (Below.refl _ _))
 rw [hV]
 clear hV
 go_wp2_with fail
 refine bodyPost_ret (results_cell_row (p:=2) rfl _ _ (N+1) 45 #[.int .i64 si,.slice a7 n2 d7,.slice a8 n3 d8] (0,0) _ (by rfl) HR.o Tryz.underlying45 rfl (by kernel_rfl)) rfl ?_
 exact ⟨a7,d7,a8,d8,rfl,HN7.o,HN8.o,HP9.o.keep HCH.o (fun ad e _ i h=>by have:=HG7.o ad e;omega),HBB8.o.keep HCH.o (fun ad e _ i h=>by have:=HG8.o ad e;omega),fun ad e=>by have:=HG7.o ad e;have:=HN.o;omega,fun ad e=>by have:=HG8.o ad e;have:=HN.o;omega,by rw [HN.o];exact HB.o.trans ((H9.o.mono (by omega)).trans (HBL.o.mono (by omega)))⟩
theorem cloneR_any (hol vlt:Int) (str:ByteArray) (ix sz day ser cnt pl:Int) (root:ByteArray) (ap:Option Addr) (n1 c1:Nat) (si:Int) (aq:Option Addr) (n2 c2:Nat) (ar:Option Addr) (n3 c3:Nat) (pa pt sq:List ByteArray) (w:World) (h1:pa.length=n1) (h2:pt.length=n2) (h3:sq.length=n3) (l1:n1≤100000000) (l2:n2≤100000000) (l3:n3≤100000000) (s1:StrsAt w ap pa) (s2:StrsAt w aq pt) (s3:StrsAt w ar sq):Calls Tryz.prog 134 #[.agg #[.int .i64 hol,.int .i64 vlt,.string str,.int .i64 ix,.int .i64 sz,.int .i64 day,.int .i64 ser,.int .i64 cnt,.int .i64 pl,.string root,.slice ap n1 c1,.int .i64 si,.slice aq n2 c2,.slice ar n3 c3]] w fun e w'=> ∃a6 d6 a7 d7 a8 d8,e= .returned (.agg #[.int .i64 hol,.int .i64 vlt,.string str,.int .i64 ix,.int .i64 sz,.int .i64 day,.int .i64 ser,.int .i64 cnt,.int .i64 pl,.string root,.slice a6 n1 d6,.int .i64 si,.slice a7 n2 d7,.slice a8 n3 d8])∧StrsAt w' a6 pa∧StrsAt w' a7 pt∧StrsAt w' a8 sq∧(∀ad,a6=some ad→w.heap.size≤ad.block)∧(∀ad,a7=some ad→w.heap.size≤ad.block)∧(∀ad,a8=some ad→w.heap.size≤ad.block)∧Below w.heap.size w w':=by
 have HC1:Hid (∀V,Below w.heap.size w V→Calls Tryz.prog 189 #[.slice ap n1 c1] V fun e w'=> ∃a' c',e= .returned (.slice a' n1 c')∧(a'=none→c'=0)∧StrsAt w' a' pa∧(∀ad,a'=some ad→V.heap.size≤ad.block)∧Below V.heap.size V w'):=hid (fun V h=>cloneStrs_any ap n1 c1 pa h1 l1 V (s1.later h))
 have HC2:Hid (∀V,Below w.heap.size w V→Calls Tryz.prog 94 #[.agg #[.int .i64 si,.slice aq n2 c2,.slice ar n3 c3]] V fun e w'=> ∃a7 d7 a8 d8,e= .returned (.agg #[.int .i64 si,.slice a7 n2 d7,.slice a8 n3 d8])∧(a7=none→d7=0)∧(a8=none→d8=0)∧StrsAt w' a7 pt∧StrsAt w' a8 sq∧(∀ad,a7=some ad→V.heap.size≤ad.block)∧(∀ad,a8=some ad→V.heap.size≤ad.block)∧Below V.heap.size V w'):=hid (fun V h=>cloneSig_any si aq n2 c2 ar n3 c3 pt sq h2 h3 l2 l3 V (s2.later h) (s3.later h))
 clear h1 h2 h3 l1 l2 l3 s1 s2 s3
 go_enter Tryz.func134,Tryz.ntmps134
 go_upto_region 1 with fail
 refine wp_over (fun W=>Hid (W.heap[w.heap.size]? =some (.cells #[.int .i64 hol,.int .i64 vlt,.string str,.int .i64 ix,.int .i64 sz,.int .i64 day,.int .i64 ser,.int .i64 cnt,.int .i64 pl,.string root,.slice ap n1 c1,.int .i64 si,.slice aq n2 c2,.slice ar n3 c3] 47 (0,0)))∧Hid (W.heap[w.heap.size+1]? =some (.cells #[.int .i64 0,.int .i64 0,.string ByteArray.empty,.int .i64 0,.int .i64 0,.int .i64 0,.int .i64 0,.int .i64 0,.int .i64 0,.string ByteArray.empty,.slice none 0 0,.int .i64 0,.slice none 0 0,.slice none 0 0] 47 (0,0)))∧Hid (Below w.heap.size w W)∧Hid (W.heap.size=w.heap.size+2)) ⟨two_rows1,two_rows2,two_below,two_size⟩ ?_
 rintro W ⟨HG,HZ,HB,HW⟩
 obtain ⟨N,hN⟩:=ex_eq w.heap.size
 rw [hN] at HG HZ HB HW ⊢
 have HN:=hid hN
 clear hN
 have HBW:Hid (∀V,Below N W V→Below w.heap.size w V):=hid (fun V h=>by rw [HN.o];exact HB.o.trans h)
 obtain ⟨q0,q1,q2,q3,q4,q5,q6,q7,q8,q9,q10,q11,q12,q13⟩:=row14 HG.o
 go_upto_region 2 with (first
  | (go_at_call 189
     (with_reducible refine (HC1.o _ (HBW.o _ (Below.refl _ _))).mono ?_)
     rintro e w2 ⟨a6,d6,rfl,hn6,hb6,hg6,h6⟩
     have HBB6:=hid hb6
     have HG6:Hid (∀ad,a6=some ad→N+2≤ad.block):=hid (fun ad e=>by have:=hg6 ad e;have:=HW.o;omega)
     have H6:Hid (Below (N+2) W w2):=hid (h6.mono (by have:=HW.o;omega))
     have HR1:=hid ((H6.o.block N (by omega)).trans HG.o)
     have HR2:=hid ((H6.o.block (N+1) (by omega)).trans HZ.o)
     have f10:=frozen_of_row _ N 10 _ _ HR1.o
     clear hn6 hb6 hg6 h6 q0 q1 q2 q3 q4 q5 q6 q7 q8 q9 q10 q11 q12 q13
     obtain ⟨q0,q1,q2,q3,q4,q5,q6,q7,q8,q9,q10,q11,q12,q13⟩:=row14 HR1.o))
 refine wp_over (fun V=>Hid (V.heap[N]? =some (.cells #[.int .i64 hol,.int .i64 vlt,.string str,.int .i64 ix,.int .i64 sz,.int .i64 day,.int .i64 ser,.int .i64 cnt,.int .i64 pl,.string root,.slice a6 n1 d6,.int .i64 si,.slice aq n2 c2,.slice ar n3 c3] 47 (0,0)))∧Hid (V.heap[N+1]? =some (.cells #[.int .i64 0,.int .i64 0,.string ByteArray.empty,.int .i64 0,.int .i64 0,.int .i64 0,.int .i64 0,.int .i64 0,.int .i64 0,.string ByteArray.empty,.slice none 0 0,.int .i64 0,.slice none 0 0,.slice none 0 0] 47 (0,0)))∧Hid (StrsAt V a6 pa)∧Hid (Below N W V)∧Hid (N+2≤V.heap.size)) ?_ ?_
 ·have hbl:Below N W w2:=H6.o.mono (by omega)
  have hsz:N+2≤w2.heap.size:=by have:=H6.o.size;have:=HW.o;omega
  exact ⟨heap_setCell_same _ N 10 _ _ _ HR1.o,(Below.heap_setCell _ _ _ _ (by simp)).trans HR2.o,HBB6.o.keep (Chg.setCell1 (M:=fun q _=>q=N) w2 N 10 _ rfl) (fun ad e _ i h=>by have:=HG6.o ad e;omega),hbl.setCell (p:=⟨N,10,none⟩) (Nat.le_refl N) _,hid (by simpa [World.setCell] using hsz)⟩
 clear f10 q0 q1 q2 q3 q4 q5 q6 q7 q8 q9 q10 q11 q12 q13
 rintro V ⟨HR3,HZ3,HB3,HV,HVS⟩
 obtain ⟨q0,q1,q2,q3,q4,q5,q6,q7,q8,q9,q10,q11,q12,q13⟩:=row14 HR3.o
 go_upto_region 3 with (first
  | (go_at_call 94
     (with_reducible refine (HC2.o _ (HBW.o _ HV.o)).mono ?_)
     rintro e w3 ⟨a7,d7,a8,d8,rfl,_,_,hb7,hb8,hg7,hg8,h7⟩
     have HBB7:=hid hb7
     have HBB8:=hid hb8
     have HG7:Hid (∀ad,a7=some ad→N+2≤ad.block):=hid (fun ad e=>by have:=hg7 ad e;have:=HVS.o;omega)
     have HG8:Hid (∀ad,a8=some ad→N+2≤ad.block):=hid (fun ad e=>by have:=hg8 ad e;have:=HVS.o;omega)
     have H7:Hid (Below (N+2) V w3):=hid (h7.mono HVS.o)
     have HB4:=hid (HB3.o.later h7)
     have HR4:=hid ((H7.o.block N (by omega)).trans HR3.o)
     have HZ4:=hid ((H7.o.block (N+1) (by omega)).trans HZ3.o)
     have fr:=fun i=>frozen_of_row _ N i _ _ HR4.o
     clear hb7 hb8 hg7 hg8 h7 q0 q1 q2 q3 q4 q5 q6 q7 q8 q9 q10 q11 q12 q13
     obtain ⟨q0,q1,q2,q3,q4,q5,q6,q7,q8,q9,q10,q11,q12,q13⟩:=row14 HR4.o))
 refine wp_over (fun U=>Hid (U.heap[N]? =some (.cells #[.int .i64 hol,.int .i64 vlt,.string str,.int .i64 ix,.int .i64 sz,.int .i64 day,.int .i64 ser,.int .i64 cnt,.int .i64 pl,.string root,.slice a6 n1 d6,.int .i64 si,.slice a7 n2 d7,.slice a8 n3 d8] 47 (0,0)))∧Hid (U.heap[N+1]? =some (.cells #[.int .i64 0,.int .i64 0,.string ByteArray.empty,.int .i64 0,.int .i64 0,.int .i64 0,.int .i64 0,.int .i64 0,.int .i64 0,.string ByteArray.empty,.slice none 0 0,.int .i64 0,.slice none 0 0,.slice none 0 0] 47 (0,0)))∧Hid (Chg (fun q _=>q=N) w3 U)∧Hid (Below N V U)) ?_ ?_
 ·refine ⟨heap_setCell_same _ N 13 _ _ _ (heap_setCell_same _ N 12 _ _ _ (heap_setCell_same _ N 11 _ _ _ HR4.o)),?_,putL_chg (fun _=>rfl) [.int .i64 si,.slice a7 n2 d7,.slice a8 n3 d8] 11 w3 (Chg.refl _ _),putL_below (Nat.le_refl N) [.int .i64 si,.slice a7 n2 d7,.slice a8 n3 d8] 11 w3 (H7.o.mono (by omega))⟩
  iterate 3 rw [Below.heap_setCell _ _ _ (N+1) (by simp)]
  exact HZ4.o
 clear fr q0 q1 q2 q3 q4 q5 q6 q7 q8 q9 q10 q11 q12 q13
 rintro U ⟨HR5,HZ5,HCH,HU⟩
 obtain ⟨q0,q1,q2,q3,q4,q5,q6,q7,q8,q9,q10,q11,q12,q13⟩:=row14 HR5.o
 obtain ⟨z0,z1,z2,z3,z4,z5,z6,z7,z8,z9,z10,z11,z12,z13⟩:=row14 HZ5.o
 have fz: ∀i,U.frozen? ⟨N+1,i,none⟩=false:=fun i=>frozen_of_row _ _ _ _ _ HZ5.o
 go_wp2_with fail
 refine bodyPost_ret (results_cell_row (p:=2) rfl _ _ (N+1) 47 #[.int .i64 hol,.int .i64 vlt,.string str,.int .i64 ix,.int .i64 sz,.int .i64 day,.int .i64 ser,.int .i64 cnt,.int .i64 pl,.string root,.slice a6 n1 d6,.int .i64 si,.slice a7 n2 d7,.slice a8 n3 d8] (0,0) _ (by rfl) (putL_full (cur:=[.int .i64 0,.int .i64 0,.string ByteArray.empty,.int .i64 0,.int .i64 0,.int .i64 0,.int .i64 0,.int .i64 0,.int .i64 0,.string ByteArray.empty,.slice none 0 0,.int .i64 0,.slice none 0 0,.slice none 0 0]) (vs:=[.int .i64 hol,.int .i64 vlt,.string str,.int .i64 ix,.int .i64 sz,.int .i64 day,.int .i64 ser,.int .i64 cnt,.int .i64 pl,.string root,.slice a6 n1 d6,.int .i64 si,.slice a7 n2 d7,.slice a8 n3 d8]) HZ5.o rfl) Tryz.underlying47 rfl (by kernel_rfl)) rfl ?_
 have hch:Chg (fun q _=>q=N+1) U (putL (N+1) 0 [.int .i64 hol,.int .i64 vlt,.string str,.int .i64 ix,.int .i64 sz,.int .i64 day,.int .i64 ser,.int .i64 cnt,.int .i64 pl,.string root,.slice a6 n1 d6,.int .i64 si,.slice a7 n2 d7,.slice a8 n3 d8] U):=putL_chg (fun _=>rfl) _ 0 U (Chg.refl _ _)
 exact ⟨a6,d6,a7,d7,a8,d8,rfl,(HB4.o.keep HCH.o (fun ad e _ i h=>by have:=HG6.o ad e;omega)).keep hch (fun ad e _ i h=>by have:=HG6.o ad e;omega),(HBB7.o.keep HCH.o (fun ad e _ i h=>by have:=HG7.o ad e;omega)).keep hch (fun ad e _ i h=>by have:=HG7.o ad e;omega),(HBB8.o.keep HCH.o (fun ad e _ i h=>by have:=HG8.o ad e;omega)).keep hch (fun ad e _ i h=>by have:=HG8.o ad e;omega),fun ad e=>by have:=HG6.o ad e;have:=HN.o;omega,fun ad e=>by have:=HG7.o ad e;have:=HN.o;omega,fun ad e=>by have:=HG8.o ad e;have:=HN.o;omega,HBW.o _ (putL_below (Nat.le_succ N) [.int .i64 hol,.int .i64 vlt,.string str,.int .i64 ix,.int .i64 sz,.int .i64 day,.int .i64 ser,.int .i64 cnt,.int .i64 pl,.string root,.slice a6 n1 d6,.int .i64 si,.slice a7 n2 d7,.slice a8 n3 d8] 0 U (HV.o.trans HU.o))⟩
end Go.Proofs.YtndlihclgdkpaaaGreatDoor

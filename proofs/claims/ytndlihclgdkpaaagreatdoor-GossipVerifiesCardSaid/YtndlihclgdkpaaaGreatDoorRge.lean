/- The document's Root of a signature. -/
import Derived.Test.YtndlihclgdkpaaaGreatDoorRgd
set_option linter.unusedVariables false
set_option linter.unusedSimpArgs false
open Go.Lib (hid)
set_option maxHeartbeats 2000000
set_option maxRecDepth 100000
namespace Go.Proofs.YtndlihclgdkpaaaGreatDoor
open Go.RowKit
open Kit (Chg)
open Sha (v)
open Go.Proofs.YtndlihclgdkpaaaGreatDoor.One

theorem shape_nb2 {ps qs:List ByteArray} (h1: ∀q ∈ qs.map nb,q.length=32) (h3: ∀p ∈ ps.map nb,p.length=32):(∀q ∈ qs,q.size=32)∧(∀p ∈ ps,p.size=32):=
 ⟨fun q hq=>by rw [← nb_length];exact h1 _ (List.mem_map_of_mem hq),fun p hp=>by rw [← nb_length];exact h3 _ (List.mem_map_of_mem hp)⟩
theorem refSigRoot_bad (B H:Int) (dg:ByteArray) (idx:Int) (a1:Option Addr) (n1 k1:Nat) (a2:Option Addr) (n2 k2:Nat) (ps qs:List ByteArray) (hl1:ps.length<9223372036854775808) (hl2:qs.length<9223372036854775808) (hf: ¬SigFits B H (nb dg) idx (ps.map nb) (qs.map nb)) (w:World) (hx:SigAt w (.agg #[.int .i64 idx,.slice a1 n1 k1,.slice a2 n2 k2]) idx ps qs):
    Calls Tryz.prog 119 #[.agg #[.int .i64 B,.int .i64 H],.string dg,.agg #[.int .i64 idx,.slice a1 n1 k1,.slice a2 n2 k2]] w fun e w'=>e= .returned (.tuple #[.string ByteArray.empty,.int .i64 1])∧Below w.heap.size w w':=by
 have HFT:=hid (fun w hx=>refFits_any B H dg idx (.agg #[.int .i64 idx,.slice a1 n1 k1,.slice a2 n2 k2]) ps qs hl1 hl2 w hx)
 rw [decide_eq_false hf] at HFT
 have HX:Hid (∀V,Below w.heap.size w V→SigAt V (.agg #[.int .i64 idx,.slice a1 n1 k1,.slice a2 n2 k2]) idx ps qs):=hid (fun V h=>hx.later h)
 clear hf hx
 go_enter Tryz.func119,Tryz.ntmps119
 go_upto_region 1 with fail
 refine wp_over (fun W=>Hid (W.heap[w.heap.size]? =some (.cells #[.int .i64 (B),.int .i64 (H)] 23 (0,0)))∧Hid (W.heap[w.heap.size+1]? =some (.cells #[.int .i64 idx,.slice a1 n1 k1,.slice a2 n2 k2] 45 (0,0)))∧Hid (Below w.heap.size w W)∧Hid (W.heap.size=w.heap.size+2)) ⟨?_,?_,?_,?_⟩ ?_
 ·exact (Below.heap_alloc _ _ _ (by simp)).trans (heap_alloc_new _ _)
 ·have h:=heap_alloc_new (w.alloc (.cells #[.int .i64 (B),.int .i64 (H)] 23)) (.cells #[.int .i64 idx,.slice a1 n1 k1,.slice a2 n2 k2] 45)
  rwa [World.size_alloc] at h
 ·exact ((Below.refl _ _).alloc (Nat.le_refl _) _).alloc (by simp) _
 ·show _=_
  simp
 rintro W ⟨HG1,HG2,HB,HWN⟩
 obtain ⟨N,hN⟩:=ex_eq w.heap.size
 rw [hN] at HG1 HG2 HB HWN ⊢
 have HN:=hid hN
 clear hN
 have HCE:Hid (∀V,Below (N+2) W V→V.cell? ⟨N,0,none⟩=some (.int .i64 (B))∧V.cell? ⟨N,1,none⟩=some (.int .i64 (H))∧V.cell? ⟨N+1,0,none⟩=some (.int .i64 idx)∧V.cell? ⟨N+1,1,none⟩=some (.slice a1 n1 k1)∧V.cell? ⟨N+1,2,none⟩=some (.slice a2 n2 k2)):=hid (fun V h=>by
  have e1:=(h.block N (by omega)).trans HG1.o
  have e2:=(h.block (N+1) (by omega)).trans HG2.o
  exact ⟨cr e1,cr e1,cr e2,cr e2,cr e2⟩)
 have HST:Hid (∀V V',Below (N+2) W V→Below V.heap.size V V'→Below (N+2) W V'):=hid (fun V V' h h'=>h.trans (h'.mono (by have:=h.size;have:=HWN.o;omega)))
 have HEND:Hid (∀V,Below (N+2) W V→Below w.heap.size w V):=hid (fun V h=>by rw [HN.o];exact HB.o.trans (h.mono (by omega)))
 have HR0:Hid (Below (N+2) W W):=hid (Below.refl _ _)
 obtain ⟨f0,f1,f2,f3,f4⟩:=HCE.o _ HR0.o
 go_upto_region 2 with (first
  | (go_at_call 210
     (refine (HFT.o _ (HX.o _ (HEND.o _ HR0.o))).mono ?_)
     rintro e w2 ⟨rfl,h2⟩
     have H2:=hid (HST.o _ _ HR0.o h2)
     clear h2))
 go_wp2_with fail
 go_ret2
 exact ⟨by first | rfl | simp,HEND.o _ H2.o⟩
theorem refSigRoot_ok (b t i:Nat) (hB:Bits b) (hb4:b≤4) (ht:t≤8) (dg:ByteArray) (a1:Option Addr) (n1 k1:Nat) (a2:Option Addr) (n2 k2:Nat) (ps qs:List ByteArray) (hl1:ps.length<9223372036854775808) (hl2:qs.length<9223372036854775808) (hf:SigFits (b:Int) (t:Int) (nb dg) (i:Int) (ps.map nb) (qs.map nb)) (hps:ps.length=n1) (hqs:qs.length=n2) (w:World) (hS1:StrsAt w a1 ps) (hS2:StrsAt w a2 qs):
    Calls Tryz.prog 119 #[.agg #[.int .i64 (b:Int),.int .i64 (t:Int)],.string dg,.agg #[.int .i64 (i:Int),.slice a1 n1 k1,.slice a2 n2 k2]] w fun e w'=> ∃u:ByteArray,e= .returned (.tuple #[.string u,.int .i64 0])∧nb u=sigRoot b (nb dg) i (ps.map nb) (qs.map nb)∧u.size=32∧Below w.heap.size w w':=by
 have HFT:=hid (fun w hx=>refFits_any (b:Int) (t:Int) dg (i:Int) (.agg #[.int .i64 (i:Int),.slice a1 n1 k1,.slice a2 n2 k2]) ps qs hl1 hl2 w hx)
 rw [decide_eq_true hf] at HFT
 obtain ⟨_,hd,_,hi,hqn,hq32,hpn,hp32⟩:=hf
 have hd:dg.size=32:=by rw [← nb_length];exact hd
 have hP8:2 ^ t≤256:=Nat.pow_le_pow_right (n:=2) (by decide) ht
 have hi9:i≤1000:=by
  rw [Int.toNat_natCast,show (2:Int) ^ t=((2 ^ t:Nat):Int) from (Int.natCast_pow 2 t).symm] at hi
  omega
 have hn2:n2<1000:=by rw [List.length_map] at hqn;omega
 rw [Int.toNat_natCast,List.length_map] at hpn
 have hS:=shape_nb2 hq32 hp32
 have HRC:=hid (fun w hS1=>by
  have h:=refRecover_ok b dg hB (by rw [hd];decide) (by rw [hd];decide) a1 k1 n1 ps hps (by rw [hd,← hps];exact hpn) hS.2 w hS1
  rw [hd] at h
  exact h)
 have HCB:=hid (fun (l:ByteArray) hl w h=>refClimb_ok l hl i hi9 a2 k2 n2 qs hqs hn2 hS.1 w h (Mrk.climb (nb l) i (qs.map nb)) rfl)
 have HX:Hid (∀V,Below w.heap.size w V→SigAt V (.agg #[.int .i64 (i:Int),.slice a1 n1 k1,.slice a2 n2 k2]) (i:Int) ps qs):=hid (fun V h=>⟨a1,n1,k1,a2,n2,k2,rfl,hps,hS1.later h,hqs,hS2.later h⟩)
 have HSS:Hid (∀V,Below w.heap.size w V→StrsAt V a1 ps∧StrsAt V a2 qs):=hid (fun V h=>⟨hS1.later h,hS2.later h⟩)
 clear hd hP8 hi hqn hq32 hpn hp32 hS hS1 hS2 hps hqs hi9 hn2 hB
 go_enter Tryz.func119,Tryz.ntmps119
 go_upto_region 1 with fail
 refine wp_over (fun W=>Hid (W.heap[w.heap.size]? =some (.cells #[.int .i64 (b:Int),.int .i64 (t:Int)] 23 (0,0)))∧Hid (W.heap[w.heap.size+1]? =some (.cells #[.int .i64 (i:Int),.slice a1 n1 k1,.slice a2 n2 k2] 45 (0,0)))∧Hid (Below w.heap.size w W)∧Hid (W.heap.size=w.heap.size+2)) ⟨?_,?_,?_,?_⟩ ?_
 ·exact (Below.heap_alloc _ _ _ (by simp)).trans (heap_alloc_new _ _)
 ·have h:=heap_alloc_new (w.alloc (.cells #[.int .i64 (b:Int),.int .i64 (t:Int)] 23)) (.cells #[.int .i64 (i:Int),.slice a1 n1 k1,.slice a2 n2 k2] 45)
  rwa [World.size_alloc] at h
 ·exact ((Below.refl _ _).alloc (Nat.le_refl _) _).alloc (by simp) _
 ·show _=_
  simp
 rintro W ⟨HG1,HG2,HB,HWN⟩
 obtain ⟨N,hN⟩:=ex_eq w.heap.size
 rw [hN] at HG1 HG2 HB HWN ⊢
 have HN:=hid hN
 clear hN
 have HCE:Hid (∀V,Below (N+2) W V→V.cell? ⟨N,0,none⟩=some (.int .i64 (b:Int))∧V.cell? ⟨N,1,none⟩=some (.int .i64 (t:Int))∧V.cell? ⟨N+1,0,none⟩=some (.int .i64 (i:Int))∧V.cell? ⟨N+1,1,none⟩=some (.slice a1 n1 k1)∧V.cell? ⟨N+1,2,none⟩=some (.slice a2 n2 k2)):=hid (fun V h=>by
  have e1:=(h.block N (by omega)).trans HG1.o
  have e2:=(h.block (N+1) (by omega)).trans HG2.o
  exact ⟨cr e1,cr e1,cr e2,cr e2,cr e2⟩)
 have HST:Hid (∀V V',Below (N+2) W V→Below V.heap.size V V'→Below (N+2) W V'):=hid (fun V V' h h'=>h.trans (h'.mono (by have:=h.size;have:=HWN.o;omega)))
 have HEND:Hid (∀V,Below (N+2) W V→Below w.heap.size w V):=hid (fun V h=>by rw [HN.o];exact HB.o.trans (h.mono (by omega)))
 have HR0:Hid (Below (N+2) W W):=hid (Below.refl _ _)
 obtain ⟨f0,f1,f2,f3,f4⟩:=HCE.o _ HR0.o
 go_upto_region 3 with (first
  | (go_at_call 210
     (refine (HFT.o _ (HX.o _ (HEND.o _ HR0.o))).mono ?_)
     rintro e w2 ⟨rfl,h2⟩
     have H2:=hid (HST.o _ _ HR0.o h2)
     clear h2))
 clear f0 f1 f2 f3 f4
 refine Kit.wp_region_hplan (fun V=>V.cell? ⟨N,0,none⟩=some (.int .i64 (b:Int))∧V.cell? ⟨N,1,none⟩=some (.int .i64 (t:Int))∧V.cell? ⟨N+1,0,none⟩=some (.int .i64 (i:Int))∧V.cell? ⟨N+1,1,none⟩=some (.slice a1 n1 k1)∧V.cell? ⟨N+1,2,none⟩=some (.slice a2 n2 k2)) [(true,0),(true,2),(true,3),(true,4),(true,8),(true,9),(true,10),(true,11),(false,1),(false,5),(false,6),(false,7),(false,12),(true,13),(true,14)] (by kernel_rfl) (by kernel_rfl) (by kernel_rfl) (by kernel_rfl) (HCE.o _ H2.o.drew) ?_
 iterate 8 (refine Kit.hhd (h:= ?_))
 refine Kit.hplan_op (by rfl) (by rfl) fun K hK=> ?_
 go_simp
 go_at_call 195
 refine (refParams_any (b:Int) (t:Int) _).mono ?_
 rintro e w3 ⟨rfl,h3⟩
 have H3:=hid (HST.o _ _ H2.o.drew h3)
 clear h3
 refine hK _ _ (HCE.o _ H3.o) ?_
 clear hK K
 refine Kit.hplan_op (by rfl) (by rfl) fun K hK=> ?_
 go_simp
 go_at_call 212
 refine (HRC.o _ (HSS.o _ (HEND.o _ H3.o)).1).mono ?_
 rintro e w4 ⟨u4,rfl,hu4,h4⟩
 have HU4:=hid hu4
 have H4:=hid (HST.o _ _ H3.o h4)
 clear hu4 h4
 refine hK _ _ (HCE.o _ H4.o) ?_
 clear hK K
 have hz4:u4.size=32:=by rw [← nb_length,HU4.o];exact Sha.sum_length _
 obtain ⟨cp5,w5,hcv5,hle5,hB5,h5⟩:=str_at w4 u4 (by rw [hz4];decide) hz4
 have HB5:=hid hB5
 have HZ4:=hid hz4
 have H5:=hid (HST.o _ _ H4.o h5)
 clear hB5 h5 hle5 hz4
 refine Kit.hplan_op (by rfl) (by rfl) fun K hK=> ?_
 go_simp
 refine hK _ _ (HCE.o _ H5.o) ?_
 clear hK K hcv5
 refine Kit.hplan_op (by rfl) (by rfl) fun K hK=> ?_
 go_simp
 go_at_call 116
 refine (refLeaf_l (some ⟨w4.heap.size,0,none⟩) cp5 (nb u4) 32 (by rw [nb_length];exact HZ4.o) (fun e=>by cases e) (by omega) w5 HB5.o (Mrk.leaf (recover b (One.digits b (nb dg)) (ps.map nb))) (by rw [HU4.o])).mono ?_
 rintro e w6 ⟨u6,rfl,hu6,hz6,h6⟩
 have HU6:=hid hu6
 have HZ6:=hid hz6
 have H6:=hid (HST.o _ _ H5.o h6)
 clear hu6 hz6 h6
 refine hK _ _ (HCE.o _ H6.o) ?_
 clear hK K
 refine Kit.hplan_op (by rfl) (by rfl) fun K hK=> ?_
 go_simp
 go_at_call 211
 refine (HCB.o u6 HZ6.o _ (HSS.o _ (HEND.o _ H6.o)).2).mono ?_
 rintro e w7 ⟨u7,rfl,hu7,hz7,h7⟩
 have HU7:=hid hu7
 have HZ7:=hid hz7
 have H7:=hid (HST.o _ _ H6.o h7)
 clear hu7 hz7 h7
 refine hK _ _ (HCE.o _ H7.o) ?_
 clear hK K
 iterate 2 (refine Kit.hhd (h:= ?_))
 refine Kit.hdn (h:=?_)
 go_wp2_with fail
 go_ret2
 exact ⟨u7,rfl,by rw [HU7.o,HU6.o];rfl,HZ7.o,HEND.o _ H7.o⟩
theorem refSigRoot_any (B S:Int) (dg:ByteArray) (idx:Int) (x:Value) (ps qs:List ByteArray) (hl1:ps.length<9223372036854775808) (hl2:qs.length<9223372036854775808) (w:World) (hx:SigAt w x idx ps qs):
    Calls Tryz.prog 119 #[.agg #[.int .i64 B,.int .i64 S],.string dg,x] w fun e w'=>Below w.heap.size w w'∧
     ((SigFits B S (nb dg) idx (ps.map nb) (qs.map nb)∧ ∃u:ByteArray,e= .returned (.tuple #[.string u,.int .i64 0])∧nb u=sigRoot B.toNat (nb dg) idx.toNat (ps.map nb) (qs.map nb)∧u.size=32)∨
      (¬SigFits B S (nb dg) idx (ps.map nb) (qs.map nb)∧e= .returned (.tuple #[.string ByteArray.empty,.int .i64 1]))):=by
 have hx0:=hx
 obtain ⟨a1,n1,k1,a2,n2,k2,rfl,hps,hS1,hqs,hS2⟩:=hx
 by_cases hf:SigFits B S (nb dg) idx (ps.map nb) (qs.map nb)
 ·obtain ⟨b,t,rfl,rfl,hB,hb4,ht⟩:=sv_of hf.1
  obtain ⟨i,rfl⟩: ∃i:Nat,idx=(i:Int):=⟨idx.toNat,by have:=hf.2.2.1;omega⟩
  refine (refSigRoot_ok b t i hB hb4 ht dg a1 n1 k1 a2 n2 k2 ps qs hl1 hl2 hf hps hqs w hS1 hS2).mono ?_
  rintro e w' ⟨u,he,hu,hz,hb⟩
  exact ⟨hb,.inl ⟨hf,u,he,by rw [Int.toNat_natCast,Int.toNat_natCast];exact hu,hz⟩⟩
 ·refine (refSigRoot_bad B S dg idx a1 n1 k1 a2 n2 k2 ps qs hl1 hl2 hf w hx0).mono ?_
  rintro e w' ⟨he,hb⟩
  exact ⟨hb,.inr ⟨hf,he⟩⟩
end Go.Proofs.YtndlihclgdkpaaaGreatDoor

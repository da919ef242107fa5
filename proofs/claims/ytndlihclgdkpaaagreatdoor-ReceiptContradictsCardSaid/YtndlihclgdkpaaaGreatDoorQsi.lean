/- The document's SameInts, where the lists are equal. -/
import Derived.Test.YtndlihclgdkpaaaGreatDoorGc
import Derived.Test.YtndlihclgdkpaaaGreatDoorQca
set_option linter.unusedVariables false
set_option linter.unusedSimpArgs false
open Go.Lib (hid)
namespace Go.Proofs.YtndlihclgdkpaaaGreatDoor
open Go.RowKit
open Kit (Chg)
open Sha (v)
open Go.Proofs.YtndlihclgdkpaaaGreatDoor.One

set_option maxRecDepth 100000 in
set_option maxHeartbeats 4000000 in
theorem refSameInts_ok (b1 b2 c1 c2 n:Nat) (zs:List Int) (hn:zs.length=n) (hn2:n≤100000) (w:World) (h1: ∀i (h:i<zs.length),w.cell? ⟨b1,i,none⟩=some (.int .i64 zs[i])) (h2: ∀i (h:i<zs.length),w.cell? ⟨b2,i,none⟩=some (.int .i64 zs[i])):
    Calls Tryz.prog 49 #[.slice (some ⟨b1,0,none⟩) n c1,.slice (some ⟨b2,0,none⟩) n c2] w fun e w'=>e= .returned (.bool true)∧Below w.heap.size w w':=by
 have HC1:=hid h1
 have HC2:=hid h2
 have HN:=hid hn
 clear h1 h2 hn
 go_enter Tryz.func49,Tryz.ntmps49
 go_upto_region 4 with fail
 go_loopw [5] (fun z wr=> ∃k:Nat,k≤n∧z= .int .i64 (k:Int)∧Hid (Below w.heap.size w wr)) (fun z _=>n - (intOf z).toNat)
 case atStart=>exact ⟨0,Nat.zero_le _,rfl,hid (Below.refl _ _)⟩
 case round=>
  obtain ⟨k,hk,rfl,HBE⟩:=hrel
  by_cases hlt:k<n
  rotate_left
  ·have hki: ¬(k:Int)<(n:Int):=by omega
   go_wp2_with fail
   go_ret
   exact ⟨rfl,HBE.o⟩
  have hki:(k:Int)<(n:Int):=by omega
  have HK:Hid (k<zs.length):=hid (by rw [HN.o];exact hlt)
  have hc1:=HC1.o k HK.o
  have hc2:=HC2.o k HK.o
  obtain ⟨z,hz⟩:=ex_eq (zs[k]'HK.o)
  rw [hz] at hc1 hc2
  clear hz
  have HS:Hid (∀V,Below w.heap.size w V→V.cell? ⟨b1,k,none⟩=some (.int .i64 z)∧V.cell? ⟨b2,k,none⟩=some (.int .i64 z)):=hid (fun V h=>⟨(h.cell (World.block_lt_of_cell? _ _ hc1)).trans hc1,(h.cell (World.block_lt_of_cell? _ _ hc2)).trans hc2⟩)
  clear hc1 hc2
  have HD:Hid (Below w.heap.size w wr.drew):=hid HBE.o.drew
  go_upto_region 6 with fail
  obtain ⟨VD,hVD⟩:=ex_eq wr.drew
  rw [hVD] at HD
  refine Kit.wp_region_gplan (fun V=>V.cell? ⟨b1,k,none⟩=some (.int .i64 z)∧V.cell? ⟨b2,k,none⟩=some (.int .i64 z)) [(true,0),(true,1),(true,2),(true,3),(true,4),(true,5),(true,6),(true,7),(true,8)] (by kernel_rfl) (by kernel_rfl) (by kernel_rfl) (by kernel_rfl) (by rw [hVD];exact HS.o _ HD.o) ?_
  rw [hVD]
  clear hVD
  iterate 9 (refine Kit.ghd (h:= ?_))
  refine Kit.gdn (h:=?_)
  go_wp2_with fail
  go_roundw
  case rel=>exact ⟨k+1,hlt,by go_num,HD⟩
  case measure=>simp [intOf];omega
end Go.Proofs.YtndlihclgdkpaaaGreatDoor

/- The law ReceiptChanged. -/
import Derived.Test.YtndlihclgdkpaaaGreatDoorGf
import Derived.Test.YtndlihclgdkpaaaGreatDoorGi
import Derived.Test.YtndlihclgdkpaaaGreatDoorGk
import Derived.Test.YtndlihclgdkpaaaGreatDoorGp
import Derived.Test.YtndlihclgdkpaaaGreatDoorQaw
set_option linter.unusedVariables false
set_option linter.unusedSimpArgs false
open Go.Lib (hid)
namespace Go.Proofs.YtndlihclgdkpaaaGreatDoor
open Go.RowKit
open Kit (Chg)
open Sha (v)
open Go.Proofs.YtndlihclgdkpaaaGreatDoor.One
theorem issue_new {b t:Nat} (hb:Bits b) (hb4:b≤4) (ht:t≤8) {Bs g:Nat} {seed pk:ByteArray} (hol day ser:Int) (a:Option Addr) (c L:Nat) (ps:List Pr) (hLe:ps.length=L) (hL9:L≤1000) (hg3:3≤g) (w:World) (hS:SignerAt w Bs g b t seed pk 0) (hLd:Laid w) (hP:PrsAt w a ps) (hok:issOk hol day ser L ps=true):
    Calls Tryz.prog 18 #[.pointer (some ⟨g,0,none⟩),.int .i64 hol,.int .i64 day,.int .i64 ser,.slice a L c] w fun e w'=> ∃bo xs,e= .returned (.tuple #[.slice (some ⟨bo,0,none⟩) L L,.int .i64 0])∧w.heap.size≤bo∧xs.map RcV.r=(List.range L).map (outP b t (nb seed) 0 hol.toNat day.toNat ser.toNat ps)∧(∀x ∈ xs,x.ok w'∧x.off bo)∧RowN RcV.cells 14 47 w' bo L xs∧SignerAt w' Bs g b t seed pk 1∧Chg (fun q i=>q=g∧i=6) w w':=by
 obtain ⟨⟨p1,p2⟩,⟨p3,p4⟩,p5,⟨hL1,hL9'⟩,p7,hg⟩:=issOk_iff hok
 have h:=issue_ok hol.toNat day.toNat ser.toNat a c L ps hLe hL1 hL9' (by omega) (by omega) (by omega) hg (Nat.pos_of_ne_zero (by simp)) hg3 w hS hLd hP
 rw [Int.toNat_of_nonneg p1,Int.toNat_of_nonneg p3,Int.toNat_of_nonneg p5] at h
 refine h.mono ?_
 rintro e w' ⟨bo,xs,h1,h2,h3,h4⟩
 rw [batchP_out,hLe] at h3
 exact ⟨bo,xs,h1,h2,h3,h4⟩
end Go.Proofs.YtndlihclgdkpaaaGreatDoor

/- gossip: covers, walked. -/
import Derived.Test.YtndlihclgdkpaaaGreatDoorGg
import Derived.Test.YtndlihclgdkpaaaGreatDoorGh
import Derived.Test.YtndlihclgdkpaaaGreatDoorSud
set_option linter.unusedVariables false
set_option linter.unusedSimpArgs false
open Go.Lib (hid)
namespace Go.Proofs.YtndlihclgdkpaaaGreatDoor
open Go.RowKit
open Kit (Chg)
open Sha (v)
open Go.Proofs.YtndlihclgdkpaaaGreatDoor.One
theorem two_rows1 {w:World} {r1 r2:Array Value} {T1 T2:TypeId}:((w.alloc (.cells r1 T1)).alloc (.cells r2 T2)).heap[w.heap.size]? =some (.cells r1 T1 (0,0)):=(Below.heap_alloc _ _ _ (by simp)).trans (heap_alloc_new _ _)
theorem two_rows2 {w:World} {r1 r2:Array Value} {T1 T2:TypeId}:((w.alloc (.cells r1 T1)).alloc (.cells r2 T2)).heap[w.heap.size+1]? =some (.cells r2 T2 (0,0)):=by
 have:=heap_alloc_new (w.alloc (.cells r1 T1)) (.cells r2 T2)
 rwa [World.size_alloc] at this
theorem two_below {w:World} {o1 o2:Obj}:Below w.heap.size w ((w.alloc o1).alloc o2):=((Below.refl _ _).alloc (Nat.le_refl _) _).alloc (by simp) _
theorem two_size {w:World} {o1 o2:Obj}:((w.alloc o1).alloc o2).heap.size=w.heap.size+2:=by simp
end Go.Proofs.YtndlihclgdkpaaaGreatDoor

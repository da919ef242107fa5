/- The helper summed: the strings whose sums are computed. -/
import Derived.Test.YtndlihclgdkpaaaGreatDoorGc
import Derived.Test.YtndlihclgdkpaaaGreatDoorGd
set_option linter.unusedVariables false
set_option linter.unusedSimpArgs false
open Go.Lib (hid)
namespace Go.Proofs.YtndlihclgdkpaaaGreatDoor
open Go.RowKit
open Kit (Chg)
open Sha (v)
open Go.Proofs.YtndlihclgdkpaaaGreatDoor.One
theorem conv_new (W:World) (bs:List Nat) (hb: ∀x ∈ bs,x<256) (n:Nat) (hn:bs.length=n) (hl:n≤100) (R:Array Value) (hR:(bvals bs).toArray=R) (cb:ByteArray) (hc:strB bs=cb):
    (convert 52 9 (.slice (some ⟨W.heap.size,0,none⟩) n n)).run Tryz.prog (W.alloc (.cells R 5))= .ok (.string cb) (W.alloc (.cells R 5)):=
 conv_l (row_bytes0 (t:=5) (heap_alloc_new W _) hR hb (by rw [hn];unfold maxLen;omega)) hn n hc
theorem strB_one {x:Nat} (h:x<256):nb (strB [x])=[x]∧(strB [x]).size=1:=by
 have hb: ∀y ∈ [x],y<256:=fun y hy=>by have:=List.mem_singleton.1 hy;omega
 exact ⟨nb_strB hb,by rw [strB_size _ hb];rfl⟩
section
variable {ops:Array Oper} {rest:List Oper} {o:Oper} {a:Act} {Q:Exit→Act→World→Prop}
end
end Go.Proofs.YtndlihclgdkpaaaGreatDoor

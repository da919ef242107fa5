/- The key and the scheme of the examples of layer 43. -/
import Derived.Test.YtndlihclgdkpaaaGreatDoorGg
import Derived.Test.YtndlihclgdkpaaaGreatDoorGh
import Derived.Test.YtndlihclgdkpaaaGreatDoorSud
set_option linter.unusedVariables false
set_option linter.unusedSimpArgs false
open Go.Lib (hid)
namespace Go.Proofs.YtndlihclgdkpaaaGreatDoor
open Go.RowKit
open Kit (Chg)
open Sha (v)
open Go.Proofs.YtndlihclgdkpaaaGreatDoor.One

def keyC (c:Nat):List Nat:=c::[49,50,51,52,53,54,55,56,57,97,98,99,100,101,102,48,49,50,51,52,53,54,55,56,57,97,98,99,100,101,102]
set_option maxRecDepth 100000 in
theorem key43_any (c:Nat) (hc:c<256) (w:World):Calls Tryz.prog 73 #[.int .u8 (c:Int)] w fun e w'=> ∃u:ByteArray,e= .returned (.string u)∧nb u=keyC c∧u.size=32∧Below w.heap.size w w':=by
 obtain ⟨cb,hcb⟩:=ex_eq (strB [c])
 have hcv:=conv_new w [c] (by simpa using hc) 1 rfl (by decide) #[.int .u8 (c:Int)] rfl cb hcb
 have HCB:=hid hcb
 have HB1:Hid (Below w.heap.size w (w.alloc (.cells #[.int .u8 (c:Int)] 5))):=hid ((Below.refl _ _).alloc (Nat.le_refl _) _)
 clear hcb
 go_enter Tryz.func73,Tryz.ntmps73
 have hsz:ByteArray.size (cb++{ data:= #[49,50,51,52,53,54,55,56,57,97,98,99,100,101,102,48,49,50,51,52,53,54,55,56,57,97,98,99,100,101,102] })=32:=by
  rw [ByteArray.size_append,← HCB.o,(strB_one hc).2]
  rfl
 have hnb:nb (cb++{ data:= #[49,50,51,52,53,54,55,56,57,97,98,99,100,101,102,48,49,50,51,52,53,54,55,56,57,97,98,99,100,101,102] })=keyC c:=by
  rw [nb_app,← HCB.o,(strB_one hc).1]
  rfl
 have HSZ:=hid hsz
 have HNB:=hid hnb
 have hlt: ¬9223372036854775807<cb.size+31:=by rw [← HCB.o,(strB_one hc).2];decide
 clear hsz hnb
 go_wp2_with fail
 go_ret
 exact ⟨_,rfl,HNB.o,HSZ.o,HB1.o⟩
theorem scheme43_any (w:World):Calls Tryz.prog 72 #[] w fun e w'=>e= .returned (.agg #[.int .i64 4,.int .i64 0])∧Below w.heap.size w w':=by
 go_enter Tryz.func72,Tryz.ntmps72
 go_wp2_with fail
 refine bodyPost_ret (results_cell_row (p:=0) rfl _ _ w.heap.size 23 #[.int .i64 4,.int .i64 0] (0,0) _ (by rfl) (heap_alloc_new _ _) Tryz.underlying23 rfl (by kernel_rfl)) rfl ?_
 exact ⟨rfl,(Below.refl _ _).alloc (Nat.le_refl _) _⟩
end Go.Proofs.YtndlihclgdkpaaaGreatDoor

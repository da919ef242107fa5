/- Texts Rft, Rfc, Rfg, merged. -/
import Derived.Great.BuildSlice
import Derived.ArgAppend
import Derived.Test.YtndlihclgdkpaaaGreatDoorGc
/- The document's HMAC: pad, Tag. -/
set_option linter.unusedVariables false
set_option linter.unusedSimpArgs false
open Go.Lib (hid)
namespace Go.Proofs.YtndlihclgdkpaaaGreatDoor
open Go.RowKit
open Kit (Chg)
open Sha (v)
open Go.Proofs.YtndlihclgdkpaaaGreatDoor.One

theorem conv_str_ex (W:World) (s:ByteArray) (hs:s.size≤maxLen): ∃cp W2,(convert 9 52 (.string s)).run Tryz.prog W= .ok (.slice (some ⟨W.heap.size,0,none⟩) s.size cp) W2∧s.size≤cp∧BytesAt W2 (some ⟨W.heap.size,0,none⟩) (nb s)∧Below W.heap.size W W2:=
 ⟨_,_,conv_str W s,grownCap_ge _ _ _ _,bytesWorld_bytes W s hs,bytesWorld_below W s⟩
theorem str_at (W:World) (s:ByteArray) (hs:s.size≤maxLen) {L:Nat} (hL:s.size=L): ∃cp W2,(convert 9 52 (.string s)).run Tryz.prog W= .ok (.slice (some ⟨W.heap.size,0,none⟩) L cp) W2∧L≤cp∧BytesAt W2 (some ⟨W.heap.size,0,none⟩) (nb s)∧Below W.heap.size W W2:=by
 subst hL
 exact conv_str_ex W s hs
section
variable {ops:Array Oper} {rest:List Oper} {o:Oper} {a:Act} {Q:Exit→Act→World→Prop}
end
theorem conv_l {w:World} {a:Option Addr} {bs:List Nat} (h:BytesAt w a bs) {n:Nat} (hl:bs.length=n) (cap:Nat) {s:ByteArray} (hs:strB bs=s):(convert 52 9 (.slice a n cap)).run Tryz.prog w= .ok (.string s) w:=by
 subst hl hs
 exact conv_bytes h cap
theorem mk_ints (L:Nat) (hL:L≤100000) (W:World):(Instr.makeSlice 81 (.int .i64 (L:Int)) (.int .i64 (L:Int))).run Tryz.prog W= .ok (.slice (some ⟨W.heap.size,0,none⟩) L L) (W.alloc (.cells (natV (List.replicate L 0)).toArray 3)):=by
 obtain ⟨i0,hi0,hz0,hz1,hz2⟩:=info_parts Tryz.info3
 have h:=run_makeSlice (P:= Tryz.prog) (w:=W) 81 3 i0 _ Tryz.underlying81 hi0 hz0 .i64 .i64 (L:Int) (L:Int) (by omega) (by omega) (by rw [hz1];omega) (by rw [hz2];omega) (by omega)
 rw [h,hz1]
 simp only [Int.toNat_natCast,Nat.mul_one]
 have e:madeCells (Value.int .i64 0).cells L=(natV (List.replicate L 0)).toArray:=by
  unfold madeCells natV
  simp [Value.cells]
  apply Array.ext
  ·simp
  ·intro i h1 h2
   simp [Nat.mod_one]
 rw [e]
theorem ints_of_row {w:World} {g:Nat} {zs:List Nat} {t:TypeId} {fr:Nat × Nat} (h:w.heap[g]? =some (.cells (natV zs).toArray t fr)):IntsAt w (some ⟨g,0,none⟩) zs:=by
 refine .inr ⟨g,0,rfl,fun i hi=> ?_⟩
 rw [Nat.zero_add,cell_of_row _ _ _ _ _ _ h,List.getElem?_toArray]
 exact natV_get zs i hi
end Go.Proofs.YtndlihclgdkpaaaGreatDoor

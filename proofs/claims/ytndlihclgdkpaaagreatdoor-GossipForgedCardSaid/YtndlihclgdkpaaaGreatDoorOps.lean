/- The opening of a signature that came in. -/
import Derived.Test.YtndlihclgdkpaaaGreatDoorGf
import Derived.Test.YtndlihclgdkpaaaGreatDoorOpn
set_option linter.unusedVariables false
set_option linter.unusedSimpArgs false
open Go.Lib (hid)
namespace Go.Proofs.YtndlihclgdkpaaaGreatDoor
open Go.ChangeShapes Go.WideShapes Go.ChangeAt Go.RowKit

theorem cellsSig: Tryz.prog.cellsOf 45 =3:=by kernel_rfl
theorem cellsStrs: Tryz.prog.cellsOf 43 =1:=by kernel_rfl
theorem Tryz.fieldsSig:(match Tryz.prog.underlying 45 with | some (.struct fields)=>fields.toList.map (fun f=>(f.type,f.offset)) | _=>[])=[(3,0),(43,1),(43,2)]:=by kernel_rfl
theorem open_strs2 {H:Type} {enc:TypeId × Value→H} {W:World} {fuel:Nat} {cs:List Value} {x:DataW H × List MemPlace}
    (hf:DataW.trod enc Tryz.prog W 0 (fun _=>true) true fuel 43 cs=some x):
    ∃(a:Option Addr) (len cap:Nat) (ss:List ByteArray),cs=[.slice a len cap]∧ss.length=len∧len≤9223372036854775807∧StrsAt W a ss:=by
 rcases open_strings Tryz.underlying43 Tryz.underlying9 cellsStr hf with ⟨hcs,_⟩ | ⟨ad,l,c,zs,hcs,_⟩
 ·subst hcs
  obtain ⟨ss,h1,h2,h3⟩:=open_strs hf
  exact ⟨_,_,_,ss,rfl,h1,h2,h3⟩
 ·subst hcs
  obtain ⟨ss,h1,h2,h3⟩:=open_strs hf
  exact ⟨_,_,_,ss,rfl,h1,h2,h3⟩
end Go.Proofs.YtndlihclgdkpaaaGreatDoor

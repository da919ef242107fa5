/- The opening of an entry and of a head by value that came in. -/
import Derived.Test.YtndlihclgdkpaaaGreatDoorOpf
import Derived.Test.YtndlihclgdkpaaaGreatDoorOpg
set_option linter.unusedVariables false
set_option linter.unusedSimpArgs false
open Go.Lib (hid)
set_option maxRecDepth 100000
namespace Go.Proofs.YtndlihclgdkpaaaGreatDoor
open Go.ChangeShapes Go.WideShapes Go.ChangeAt Go.RowKit
open Go.Proofs.YtndlihclgdkpaaaGreatDoor.One

theorem open_entV {H:Type} {enc:TypeId × Value→H} {W:World} {r:Reach} {b0:Nat} {v:Value} {d:DataW H} {p:List MemPlace} (hv:Value.okWide Tryz.prog W r b0 92 v) (h:DataW.Trod enc Tryz.prog W 0 (fun _=>true) true 92 v d p):
    ∃(e:Ent) (a:Option Addr) (n c:Nat),v= .agg #[.int .i64 e.dev,.int .i64 e.seq,.int .i64 e.kind,.int .i64 e.day,.slice a n c,.string e.prev]∧e.body.length=n∧(a=none→c=0)∧BytesAt W a e.body:=by
 have hF:= Tryz.fieldsEnt
 cases hu: Tryz.prog.underlying 92 with
 | none=>rw [hu] at hF;simp at hF
 | some td=>
   rw [hu] at hF
   cases td with
   | struct fields=>
     obtain ⟨cs,rfl,hsz⟩:=okWide_struct hu hv
     obtain ⟨fuel,hf⟩:=h
     obtain ⟨cl⟩:=cs
     have hl:cl.length=6:=hsz.trans cellsEnt
     obtain ⟨e,a,n,c,h1,h2,h3,h4⟩:=open_ent fuel cl _ hf hl
     exact ⟨e,a,n,c,by rw [h4],h1,h2,h3⟩
   | _=>simp at hF
theorem open_headV {H:Type} {enc:TypeId × Value→H} {W:World} {r:Reach} {b0:Nat} {v:Value} {d:DataW H} {p:List MemPlace} (hv:Value.okWide Tryz.prog W r b0 94 v) (h:DataW.Trod enc Tryz.prog W 0 (fun _=>true) true 94 v d p):
    ∃y:HV,v= .agg y.cells.toArray∧HeadIn W y:=by
 have hF:= Tryz.fieldsHead
 cases hu: Tryz.prog.underlying 94 with
 | none=>rw [hu] at hF;simp at hF
 | some td=>
   rw [hu] at hF
   cases td with
   | struct fields=>
     obtain ⟨cs,rfl,hsz⟩:=okWide_struct hu hv
     obtain ⟨fuel,hf⟩:=h
     obtain ⟨cl⟩:=cs
     obtain ⟨y,h1,h2,h3,h4,h5⟩:=open_headRow hf
     have h6:cl=y.cells:=h1
     exact ⟨y,by rw [h6],h2,h3,h4,h5⟩
   | _=>simp at hF
end Go.Proofs.YtndlihclgdkpaaaGreatDoor

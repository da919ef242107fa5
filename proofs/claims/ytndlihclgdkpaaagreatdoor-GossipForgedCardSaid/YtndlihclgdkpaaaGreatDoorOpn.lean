/- The opening of a scheme that came in. -/
import Derived.Test.YtndlihclgdkpaaaGreatDoorGb
set_option linter.unusedVariables false
set_option linter.unusedSimpArgs false
open Go.Lib (hid)
namespace Go.Proofs.YtndlihclgdkpaaaGreatDoor
open Go.ChangeShapes Go.WideShapes Go.ChangeAt Go.RowKit

theorem cellsSch: Tryz.prog.cellsOf 23 =2:=by kernel_rfl
theorem Tryz.fieldsSch:(match Tryz.prog.underlying 23 with | some (.struct fields)=>fields.toList.map (fun f=>(f.type,f.offset)) | _=>[])=[(3,0),(3,1)]:=by kernel_rfl
set_option maxRecDepth 100000 in
theorem open_scheme {H:Type} {enc:TypeId × Value→H} {W:World} {base:Nat} {spare:Nat→Bool} {held:Bool} {r:Reach} {b0:Nat} {v:Value} {d:DataW H} {p:List MemPlace} (hv:Value.okWide Tryz.prog W r b0 23 v) (h:DataW.Trod enc Tryz.prog W base spare held 23 v d p):
    ∃(B S:Int),v= .agg #[.int .i64 B,.int .i64 S]:=by
 have hF:= Tryz.fieldsSch
 cases hu: Tryz.prog.underlying 23 with
 | none=>rw [hu] at hF;simp at hF
 | some td=>
   rw [hu] at hF
   cases td with
   | struct fields=>
     obtain ⟨cs,rfl,hsz⟩:=okWide_struct hu hv
     obtain ⟨c0,c1,rfl⟩:=array2 (hsz.trans cellsSch)
     obtain ⟨fuel,hf⟩:=h
     obtain ⟨xs,n,_,_,hl,hlen,hf⟩:=DataW.trod_struct hu hf
     obtain ⟨fl⟩:=fields
     match fl,hF with
     | [f0,f1],hF=>
       simp only [List.map_cons,List.map_nil,List.cons.injEq,Prod.mk.injEq,and_true] at hF
       obtain ⟨⟨t0,o0⟩,⟨t1,o1⟩⟩:=hF
       match xs,hlen with
       | [y0,y1],_=>
         have h0:=hf 0 f0 rfl
         have h1:=hf 1 f1 rfl
         rw [t0,o0,cellsInt] at h0
         rw [t1,o1,cellsInt] at h1
         obtain ⟨n0,e0,_,w0⟩:=DataW.trod_int Tryz.underlying3 h0
         obtain ⟨n1,e1,_,w1⟩:=DataW.trod_int Tryz.underlying3 h1
         simp [Value.cells] at e0 e1
         exact ⟨n0,n1,by rw [e0,e1]⟩
   | _=>simp at hF
end Go.Proofs.YtndlihclgdkpaaaGreatDoor

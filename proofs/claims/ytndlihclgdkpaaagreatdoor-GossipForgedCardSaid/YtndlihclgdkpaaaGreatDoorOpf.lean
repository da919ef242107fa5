/- The opening of a head and of a fork that came in. -/
import Derived.OpenShut
import Derived.Test.YtndlihclgdkpaaaGreatDoorOpg
import Derived.Test.YtndlihclgdkpaaaGreatDoorOps
import Derived.Test.YtndlihclgdkpaaaGreatDoorVcw
set_option linter.unusedVariables false
set_option linter.unusedSimpArgs false
open Go.Lib (hid)
set_option maxRecDepth 100000
namespace Go.Proofs.YtndlihclgdkpaaaGreatDoor
open Go.ChangeShapes Go.WideShapes Go.ChangeAt Go.RowKit

theorem cellsHead: Tryz.prog.cellsOf 94 =6:=by kernel_rfl
theorem Tryz.fieldsHead:(match Tryz.prog.underlying 94 with | some (.struct fields)=>fields.toList.map (fun f=>(f.type,f.offset)) | _=>[])=[(3,0),(3,1),(9,2),(45,3)]:=by kernel_rfl
def HeadRow (W:World) (cs:List Value) (x:HV):Prop:=cs=x.cells∧x.h.ps.length<9223372036854775808∧x.h.qs.length<9223372036854775808∧StrsAt W x.a1 x.h.ps∧StrsAt W x.a2 x.h.qs
theorem open_sigRow {H:Type} {enc:TypeId × Value→H} {W:World} {n:Nat} {cs:List Value} {x:DataW H × List MemPlace} (h:DataW.trod enc Tryz.prog W 0 (fun _=>true) true n 45 cs=some x):
    ∃(idx:Int) (ps qs:List ByteArray) (a1:Option Addr) (c1:Nat) (a2:Option Addr) (c2:Nat),cs=[.int .i64 idx,.slice a1 ps.length c1,.slice a2 qs.length c2]∧ps.length<9223372036854775808∧qs.length<9223372036854775808∧StrsAt W a1 ps∧StrsAt W a2 qs:=by
 have hF:= Tryz.fieldsSig
 cases hu: Tryz.prog.underlying 45 with
 | none=>rw [hu] at hF;simp at hF
 | some td=>
   rw [hu] at hF
   cases td with
   | struct fields=>
     obtain ⟨xs,n,_,_,hl,hlen,hf⟩:=DataW.trod_struct hu h
     rw [cellsSig] at hl
     obtain ⟨c0,c1,c2,rfl⟩: ∃c0 c1 c2,cs=[c0,c1,c2]:=by
      match cs,hl with
      | [c0,c1,c2],_=>exact ⟨c0,c1,c2,rfl⟩
     obtain ⟨fl⟩:=fields
     match fl,hF with
     | [f0,f1,f2],hF=>
       simp only [List.map_cons,List.map_nil,List.cons.injEq,Prod.mk.injEq,and_true] at hF
       obtain ⟨⟨t0,o0⟩,⟨t1,o1⟩,⟨t2,o2⟩⟩:=hF
       match xs,hlen with
       | [y0,y1,y2],_=>
         have h0:=hf 0 f0 rfl
         have h1:=hf 1 f1 rfl
         have h2:=hf 2 f2 rfl
         rw [t0,o0,cellsInt] at h0
         rw [t1,o1,cellsStrs] at h1
         rw [t2,o2,cellsStrs] at h2
         obtain ⟨n0,e0,_,w0⟩:=DataW.trod_int Tryz.underlying3 h0
         obtain ⟨a1,n1,k1,ps,e1,l1,m1,s1⟩:=open_strs2 h1
         obtain ⟨a2,n2,k2,qs,e2,l2,m2,s2⟩:=open_strs2 h2
         simp at e0 e1 e2
         exact ⟨n0,ps,qs,a1,k1,a2,k2,by rw [e0,e1,e2,l1,l2],by omega,by omega,s1,s2⟩
   | _=>simp at hF
theorem open_headRow {H:Type} {enc:TypeId × Value→H} {W:World} {n:Nat} {cs:List Value} {x:DataW H × List MemPlace} (h:DataW.trod enc Tryz.prog W 0 (fun _=>true) true n 94 cs=some x): ∃y:HV,HeadRow W cs y:=by
 have hF:= Tryz.fieldsHead
 cases hu: Tryz.prog.underlying 94 with
 | none=>rw [hu] at hF;simp at hF
 | some td=>
   rw [hu] at hF
   cases td with
   | struct fields=>
     obtain ⟨xs,n,_,_,hl,hlen,hf⟩:=DataW.trod_struct hu h
     rw [cellsHead] at hl
     obtain ⟨c0,c1,c2,c3,c4,c5,rfl⟩:=array_of_len6 hl
     obtain ⟨fl⟩:=fields
     match fl,hF with
     | [f0,f1,f2,f3],hF=>
       simp only [List.map_cons,List.map_nil,List.cons.injEq,Prod.mk.injEq,and_true] at hF
       obtain ⟨⟨t0,o0⟩,⟨t1,o1⟩,⟨t2,o2⟩,⟨t3,o3⟩⟩:=hF
       match xs,hlen with
       | [y0,y1,y2,y3],_=>
         have h0:=hf 0 f0 rfl
         have h1:=hf 1 f1 rfl
         have h2:=hf 2 f2 rfl
         have h3:=hf 3 f3 rfl
         rw [t0,o0,cellsInt] at h0
         rw [t1,o1,cellsInt] at h1
         rw [t2,o2,cellsStr] at h2
         rw [t3,o3,cellsSig] at h3
         obtain ⟨n0,e0,_,_⟩:=DataW.trod_int Tryz.underlying3 h0
         obtain ⟨n1,e1,_,_⟩:=DataW.trod_int Tryz.underlying3 h1
         obtain ⟨s2,e2,_,_⟩:=DataW.trod_string Tryz.underlying9 h2
         obtain ⟨ix,ps,qs,a1,k1,a2,k2,e3,l1,l2,s1,s3⟩:=open_sigRow h3
         simp at e0 e1 e2 e3
         obtain ⟨e3,e4,e5⟩:=e3
         exact ⟨⟨⟨n0,n1,s2,ix,ps,qs⟩,a1,k1,a2,k2⟩,by rw [e0,e1,e2,e3,e4,e5];rfl,l1,l2,s1,s3⟩
   | _=>simp at hF
end Go.Proofs.YtndlihclgdkpaaaGreatDoor

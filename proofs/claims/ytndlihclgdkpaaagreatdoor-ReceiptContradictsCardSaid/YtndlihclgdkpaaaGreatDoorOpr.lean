/- The openings of a receipt, a piece, promises and operations of layer 43 that came in. -/
import Derived.OpenShut
import Derived.Test.YtndlihclgdkpaaaGreatDoorGb
import Derived.Test.YtndlihclgdkpaaaGreatDoorGc
import Derived.Test.YtndlihclgdkpaaaGreatDoorOps
import Derived.Test.YtndlihclgdkpaaaGreatDoorQpm
import Derived.Test.YtndlihclgdkpaaaGreatDoorQrw
set_option linter.unusedVariables false
set_option linter.unusedSimpArgs false
open Go.Lib (hid)
set_option maxHeartbeats 1000000
set_option maxRecDepth 100000
namespace Go.Proofs.YtndlihclgdkpaaaGreatDoor
open Go.ChangeShapes Go.WideShapes Go.ChangeAt Go.RowKit
theorem open_strsC {H:Type} {enc:TypeId × Value→H} {W:World} {fuel:Nat} {cs:List Value} {x:DataW H × List MemPlace}
    (hf:DataW.trod enc Tryz.prog W 0 (fun _=>true) true fuel 43 cs=some x):
    ∃(a:Option Addr) (cap:Nat) (ss:List ByteArray),cs=[.slice a ss.length cap]∧ss.length≤cap∧ss.length<9223372036854775808∧StrsAt W a ss:=by
 rcases open_strings Tryz.underlying43 Tryz.underlying9 cellsStr hf with ⟨hcs,_⟩ | ⟨ad,l,c,zs,hcs,_,hlc,_⟩
 ·subst hcs
  obtain ⟨ss,h1,h2,h3⟩:=open_strs hf
  exact ⟨_,_,ss,by rw [h1],by omega,by omega,h3⟩
 ·subst hcs
  obtain ⟨ss,h1,h2,h3⟩:=open_strs hf
  exact ⟨_,_,ss,by rw [h1],by omega,by omega,h3⟩
theorem cellsSigC: Tryz.prog.cellsOf 45 =3:=by kernel_rfl
theorem Tryz.fieldsSigC:(match Tryz.prog.underlying 45 with | some (.struct fields)=>fields.toList.map (fun f=>(f.type,f.offset)) | _=>[])=[(3,0),(43,1),(43,2)]:=by kernel_rfl
theorem open_sigC {H:Type} {enc:TypeId × Value→H} {W:World} {n:Nat} {cs:List Value} {x:DataW H × List MemPlace} (h:DataW.trod enc Tryz.prog W 0 (fun _=>true) true n 45 cs=some x): ∃(idx:Int) (a1:Option Addr) (c1:Nat) (ps:List ByteArray) (a2:Option Addr) (c2:Nat) (qs:List ByteArray),cs=[.int .i64 idx,.slice a1 ps.length c1,.slice a2 qs.length c2]∧ps.length<9223372036854775808∧StrsAt W a1 ps∧qs.length<9223372036854775808∧StrsAt W a2 qs:=by
 have hF:= Tryz.fieldsSigC
 cases hu: Tryz.prog.underlying 45 with
 | none=>rw [hu] at hF;simp at hF
 | some td=>
   rw [hu] at hF
   cases td with
   | struct fields=>
     obtain ⟨xs,n,_,_,hl,hlen,hf⟩:=DataW.trod_struct hu h
     rw [cellsSigC] at hl
     obtain ⟨c0,c1,c2,rfl⟩: ∃c0 c1 c2,cs=[c0,c1,c2]:=by
      match cs,hl with
      | [c0,c1,c2],_=>exact ⟨c0,c1,c2,rfl⟩
     obtain ⟨fl⟩:=fields
     match fl,hF with
     | [f0,f1,f2],hF=>
       simp only [List.map_cons,List.map_nil,List.cons.injEq,Prod.mk.injEq,and_true] at hF
       obtain ⟨⟨t0,o0⟩,⟨t1,o1⟩,⟨t2,o2⟩⟩:=hF
       match xs,hlen with
       | [y0,y1,y2],_=>
         have h0:=hf 0 f0 rfl
         rw [t0,o0,cellsInt] at h0
         have h1:=hf 1 f1 rfl
         rw [t1,o1,cellsStrs] at h1
         have h2:=hf 2 f2 rfl
         rw [t2,o2,cellsStrs] at h2
         obtain ⟨n0,e0,_,_⟩:=DataW.trod_int Tryz.underlying3 h0
         obtain ⟨a1,k1,n1,e1,l1,m1,s1⟩:=open_strsC h1
         obtain ⟨a2,k2,n2,e2,l2,m2,s2⟩:=open_strsC h2
         simp [RcV.cells] at e0 e1 e2
         exact ⟨n0,a1,k1,n1,a2,k2,n2,by rw [e0,e1,e2],m1,s1,m2,s2⟩
   | _=>simp at hF
theorem cellsPc: Tryz.prog.cellsOf 42 =2:=by kernel_rfl
theorem Tryz.fieldsPc:(match Tryz.prog.underlying 42 with | some (.struct fields)=>fields.toList.map (fun f=>(f.type,f.offset)) | _=>[])=[(9,0),(3,1)]:=by kernel_rfl
theorem open_pcRow {H:Type} {enc:TypeId × Value→H} {W:World} {n:Nat} {cs:List Value} {x:DataW H × List MemPlace} (h:DataW.trod enc Tryz.prog W 0 (fun _=>true) true n 42 cs=some x): ∃(s:ByteArray) (i:Int),cs=[.string s,.int .i64 i]:=by
 have hF:= Tryz.fieldsPc
 cases hu: Tryz.prog.underlying 42 with
 | none=>rw [hu] at hF;simp at hF
 | some td=>
   rw [hu] at hF
   cases td with
   | struct fields=>
     obtain ⟨xs,n,_,_,hl,hlen,hf⟩:=DataW.trod_struct hu h
     rw [cellsPc] at hl
     obtain ⟨c0,c1,rfl⟩: ∃c0 c1,cs=[c0,c1]:=by
      match cs,hl with
      | [c0,c1],_=>exact ⟨c0,c1,rfl⟩
     obtain ⟨fl⟩:=fields
     match fl,hF with
     | [f0,f1],hF=>
       simp only [List.map_cons,List.map_nil,List.cons.injEq,Prod.mk.injEq,and_true] at hF
       obtain ⟨⟨t0,o0⟩,⟨t1,o1⟩⟩:=hF
       match xs,hlen with
       | [y0,y1],_=>
         have h0:=hf 0 f0 rfl
         rw [t0,o0,cellsStr] at h0
         have h1:=hf 1 f1 rfl
         rw [t1,o1,cellsInt] at h1
         obtain ⟨n0,e0,_,_⟩:=DataW.trod_string Tryz.underlying9 h0
         obtain ⟨n1,e1,_,_⟩:=DataW.trod_int Tryz.underlying3 h1
         simp [RcV.cells] at e0 e1
         exact ⟨n0,n1,by rw [e0,e1]⟩
   | _=>simp at hF
theorem cellsRc: Tryz.prog.cellsOf 47 =14:=by kernel_rfl
theorem Tryz.fieldsRc:(match Tryz.prog.underlying 47 with | some (.struct fields)=>fields.toList.map (fun f=>(f.type,f.offset)) | _=>[])=[(3,0),(3,1),(42,2),(3,4),(3,5),(3,6),(3,7),(3,8),(9,9),(43,10),(45,11)]:=by kernel_rfl
theorem open_rcRow {H:Type} {enc:TypeId × Value→H} {W:World} {n:Nat} {cs:List Value} {x:DataW H × List MemPlace} (h:DataW.trod enc Tryz.prog W 0 (fun _=>true) true n 47 cs=some x): ∃y:RcV,cs=y.cells∧y.ok W∧y.r.path.length≤y.c1:=by
 have hF:= Tryz.fieldsRc
 cases hu: Tryz.prog.underlying 47 with
 | none=>rw [hu] at hF;simp at hF
 | some td=>
   rw [hu] at hF
   cases td with
   | struct fields=>
     obtain ⟨xs,n,_,_,hl,hlen,hf⟩:=DataW.trod_struct hu h
     rw [cellsRc] at hl
     obtain ⟨c0,c1,c2,c3,c4,c5,c6,c7,c8,c9,c10,c11,c12,c13,rfl⟩: ∃c0 c1 c2 c3 c4 c5 c6 c7 c8 c9 c10 c11 c12 c13,cs=[c0,c1,c2,c3,c4,c5,c6,c7,c8,c9,c10,c11,c12,c13]:=by
      match cs,hl with
      | [c0,c1,c2,c3,c4,c5,c6,c7,c8,c9,c10,c11,c12,c13],_=>exact ⟨c0,c1,c2,c3,c4,c5,c6,c7,c8,c9,c10,c11,c12,c13,rfl⟩
     obtain ⟨fl⟩:=fields
     match fl,hF with
     | [f0,f1,f2,f3,f4,f5,f6,f7,f8,f9,f10],hF=>
       simp only [List.map_cons,List.map_nil,List.cons.injEq,Prod.mk.injEq,and_true] at hF
       obtain ⟨⟨t0,o0⟩,⟨t1,o1⟩,⟨t2,o2⟩,⟨t3,o3⟩,⟨t4,o4⟩,⟨t5,o5⟩,⟨t6,o6⟩,⟨t7,o7⟩,⟨t8,o8⟩,⟨t9,o9⟩,⟨t10,o10⟩⟩:=hF
       match xs,hlen with
       | [y0,y1,y2,y3,y4,y5,y6,y7,y8,y9,y10],_=>
         have h0:=hf 0 f0 rfl
         rw [t0,o0,cellsInt] at h0
         have h1:=hf 1 f1 rfl
         rw [t1,o1,cellsInt] at h1
         have h2:=hf 2 f2 rfl
         rw [t2,o2,cellsPc] at h2
         have h3:=hf 3 f3 rfl
         rw [t3,o3,cellsInt] at h3
         have h4:=hf 4 f4 rfl
         rw [t4,o4,cellsInt] at h4
         have h5:=hf 5 f5 rfl
         rw [t5,o5,cellsInt] at h5
         have h6:=hf 6 f6 rfl
         rw [t6,o6,cellsInt] at h6
         have h7:=hf 7 f7 rfl
         rw [t7,o7,cellsInt] at h7
         have h8:=hf 8 f8 rfl
         rw [t8,o8,cellsStr] at h8
         have h9:=hf 9 f9 rfl
         rw [t9,o9,cellsStrs] at h9
         have h10:=hf 10 f10 rfl
         rw [t10,o10,cellsSigC] at h10
         obtain ⟨n0,e0,_,_⟩:=DataW.trod_int Tryz.underlying3 h0
         obtain ⟨n1,e1,_,_⟩:=DataW.trod_int Tryz.underlying3 h1
         obtain ⟨s2,i2,e2⟩:=open_pcRow h2
         obtain ⟨n3,e3,_,_⟩:=DataW.trod_int Tryz.underlying3 h3
         obtain ⟨n4,e4,_,_⟩:=DataW.trod_int Tryz.underlying3 h4
         obtain ⟨n5,e5,_,_⟩:=DataW.trod_int Tryz.underlying3 h5
         obtain ⟨n6,e6,_,_⟩:=DataW.trod_int Tryz.underlying3 h6
         obtain ⟨n7,e7,_,_⟩:=DataW.trod_int Tryz.underlying3 h7
         obtain ⟨n8,e8,_,_⟩:=DataW.trod_string Tryz.underlying9 h8
         obtain ⟨a9,k9,n9,e9,l9,m9,s9⟩:=open_strsC h9
         obtain ⟨i10,b10,d10,p10,bb10,dd10,q10,e10,g10,u10,gg10,uu10⟩:=open_sigC h10
         simp [RcV.cells] at e0 e1 e2 e3 e4 e5 e6 e7 e8 e9 e10
         obtain ⟨e2_0,e2_1⟩:=e2
         obtain ⟨e10_0,e10_1,e10_2⟩:=e10
         exact ⟨⟨⟨n0,n1,s2,i2,n3,n4,n5,n6,n7,n8,n9,i10,p10,q10⟩,a9,k9,b10,d10,bb10,dd10⟩,by rw [e0,e1,e2_0,e2_1,e3,e4,e5,e6,e7,e8,e9,e10_0,e10_1,e10_2];rfl,⟨m9,g10,gg10,s9,u10,uu10⟩,l9⟩
   | _=>simp at hF
theorem open_rc {H:Type} {enc:TypeId × Value→H} {W:World} {r:Reach} {b0:Nat} {v:Value} {d:DataW H} {p:List MemPlace} (hv:Value.okWide Tryz.prog W r b0 47 v) (h:DataW.Trod enc Tryz.prog W 0 (fun _=>true) true 47 v d p):
    ∃y:RcV,v= .agg y.cells.toArray∧y.ok W∧y.r.path.length≤y.c1:=by
 have hF:= Tryz.fieldsRc
 cases hu: Tryz.prog.underlying 47 with
 | none=>rw [hu] at hF;simp at hF
 | some td=>
   rw [hu] at hF
   cases td with
   | struct fields=>
     obtain ⟨cs,rfl,hsz⟩:=okWide_struct hu hv
     obtain ⟨fuel,hf⟩:=h
     obtain ⟨cl⟩:=cs
     obtain ⟨y,h1,h2,h3⟩:=open_rcRow hf
     have h1:cl=y.cells:=h1
     exact ⟨y,by rw [h1],h2,h3⟩
   | _=>simp at hF
end Go.Proofs.YtndlihclgdkpaaaGreatDoor

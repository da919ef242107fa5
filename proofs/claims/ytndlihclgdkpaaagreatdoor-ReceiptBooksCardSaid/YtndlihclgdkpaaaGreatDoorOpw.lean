/- The openings of operations and of a piece of layer 43, with the bounds of their strings. -/
import Derived.Test.YtndlihclgdkpaaaGreatDoorGp
set_option linter.unusedVariables false
set_option linter.unusedSimpArgs false
open Go.Lib (hid)
set_option maxHeartbeats 1000000
set_option maxRecDepth 100000
namespace Go.Proofs.YtndlihclgdkpaaaGreatDoor
open Go.ChangeShapes Go.WideShapes Go.ChangeAt Go.RowKit
theorem cellsPcW: Tryz.prog.cellsOf 42 =2:=by kernel_rfl
theorem Tryz.fieldsPcW:(match Tryz.prog.underlying 42 with | some (.struct fields)=>fields.toList.map (fun f=>(f.type,f.offset)) | _=>[])=[(9,0),(3,1)]:=by kernel_rfl
theorem open_pcRowW {H:Type} {enc:TypeId × Value→H} {W:World} {n:Nat} {cs:List Value} {x:DataW H × List MemPlace} (h:DataW.trod enc Tryz.prog W 0 (fun _=>true) true n 42 cs=some x): ∃(s:ByteArray) (i:Int),cs=[.string s,.int .i64 i]∧s.size≤maxLen∧(Lit.int .i64 i).wf=true:=by
 have hF:= Tryz.fieldsPcW
 cases hu: Tryz.prog.underlying 42 with
 | none=>rw [hu] at hF;simp at hF
 | some td=>
   rw [hu] at hF
   cases td with
   | struct fields=>
     obtain ⟨xs,n,_,_,hl,hlen,hf⟩:=DataW.trod_struct hu h
     rw [cellsPcW] at hl
     obtain ⟨c0,c1,rfl⟩: ∃c0 c1,cs=[c0,c1]:=by
      match cs,hl with
      | [c0,c1],_=>exact ⟨c0,c1,rfl⟩
     obtain ⟨fl⟩:=fields
     match fl,hF with
     | [f0,f1],hF=>
       simp only [List.map_cons,List.map_nil,List.cons.injEq,Prod.mk.injEq,and_true] at hF
       obtain ⟨⟨t0,o0⟩,⟨t1,o1⟩⟩:=hF
       match xs,hlen with
       | [y0,y1],_=>
         have h0:=hf 0 f0 rfl
         rw [t0,o0,cellsStr] at h0
         have h1:=hf 1 f1 rfl
         rw [t1,o1,cellsInt] at h1
         obtain ⟨n0,e0,_,w0⟩:=DataW.trod_string Tryz.underlying9 h0
         obtain ⟨n1,e1,_,w1⟩:=DataW.trod_int Tryz.underlying3 h1
         simp [RcV.cells] at e0 e1
         exact ⟨n0,n1,by rw [e0,e1],w0,w1⟩
   | _=>simp at hF
theorem open_pcW {H:Type} {enc:TypeId × Value→H} {W:World} {r:Reach} {b0:Nat} {v:Value} {d:DataW H} {p:List MemPlace} (hv:Value.okWide Tryz.prog W r b0 42 v) (h:DataW.Trod enc Tryz.prog W 0 (fun _=>true) true 42 v d p):
    ∃(s:ByteArray) (i:Int),v= .agg #[.string s,.int .i64 i]∧s.size≤maxLen∧(Lit.int .i64 i).wf=true:=by
 have hF:= Tryz.fieldsPcW
 cases hu: Tryz.prog.underlying 42 with
 | none=>rw [hu] at hF;simp at hF
 | some td=>
   rw [hu] at hF
   cases td with
   | struct fields=>
     obtain ⟨cs,rfl,hsz⟩:=okWide_struct hu hv
     obtain ⟨fuel,hf⟩:=h
     obtain ⟨cl⟩:=cs
     obtain ⟨s,i,h1,h2,h3⟩:=open_pcRowW hf
     have h1:cl=[.string s,.int .i64 i]:=h1
     exact ⟨s,i,by rw [h1],h2,h3⟩
   | _=>simp at hF
theorem cellsRcW: Tryz.prog.cellsOf 47 =14:=by kernel_rfl
theorem Tryz.fieldsRcW:(match Tryz.prog.underlying 47 with | some (.struct fields)=>fields.toList.map (fun f=>(f.type,f.offset)) | _=>[])=[(3,0),(3,1),(42,2),(3,4),(3,5),(3,6),(3,7),(3,8),(9,9),(43,10),(45,11)]:=by kernel_rfl
theorem open_rcRowW {H:Type} {enc:TypeId × Value→H} {W:World} {n:Nat} {cs:List Value} {x:DataW H × List MemPlace} (h:DataW.trod enc Tryz.prog W 0 (fun _=>true) true n 47 cs=some x): ∃y:RcV,cs=y.cells∧y.ok W∧y.r.path.length≤y.c1∧y.r.str.size≤maxLen:=by
 have hF:= Tryz.fieldsRcW
 cases hu: Tryz.prog.underlying 47 with
 | none=>rw [hu] at hF;simp at hF
 | some td=>
   rw [hu] at hF
   cases td with
   | struct fields=>
     obtain ⟨xs,n,_,_,hl,hlen,hf⟩:=DataW.trod_struct hu h
     rw [cellsRcW] at hl
     obtain ⟨c0,c1,c2,c3,c4,c5,c6,c7,c8,c9,c10,c11,c12,c13,rfl⟩: ∃c0 c1 c2 c3 c4 c5 c6 c7 c8 c9 c10 c11 c12 c13,cs=[c0,c1,c2,c3,c4,c5,c6,c7,c8,c9,c10,c11,c12,c13]:=by
      match cs,hl with
      | [c0,c1,c2,c3,c4,c5,c6,c7,c8,c9,c10,c11,c12,c13],_=>exact ⟨c0,c1,c2,c3,c4,c5,c6,c7,c8,c9,c10,c11,c12,c13,rfl⟩
     obtain ⟨fl⟩:=fields
     match fl,hF with
     | [f0,f1,f2,f3,f4,f5,f6,f7,f8,f9,f10],hF=>
       simp only [List.map_cons,List.map_nil,List.cons.injEq,Prod.mk.injEq,and_true] at hF
       obtain ⟨⟨t0,o0⟩,⟨t1,o1⟩,⟨t2,o2⟩,⟨t3,o3⟩,⟨t4,o4⟩,⟨t5,o5⟩,⟨t6,o6⟩,⟨t7,o7⟩,⟨t8,o8⟩,⟨t9,o9⟩,⟨t10,o10⟩⟩:=hF
       match xs,hlen with
       | [y0,y1,y2,y3,y4,y5,y6,y7,y8,y9,y10],_=>
         have h0:=hf 0 f0 rfl
         rw [t0,o0,cellsInt] at h0
         have h1:=hf 1 f1 rfl
         rw [t1,o1,cellsInt] at h1
         have h2:=hf 2 f2 rfl
         rw [t2,o2,cellsPc] at h2
         have h3:=hf 3 f3 rfl
         rw [t3,o3,cellsInt] at h3
         have h4:=hf 4 f4 rfl
         rw [t4,o4,cellsInt] at h4
         have h5:=hf 5 f5 rfl
         rw [t5,o5,cellsInt] at h5
         have h6:=hf 6 f6 rfl
         rw [t6,o6,cellsInt] at h6
         have h7:=hf 7 f7 rfl
         rw [t7,o7,cellsInt] at h7
         have h8:=hf 8 f8 rfl
         rw [t8,o8,cellsStr] at h8
         have h9:=hf 9 f9 rfl
         rw [t9,o9,cellsStrs] at h9
         have h10:=hf 10 f10 rfl
         rw [t10,o10,cellsSigC] at h10
         obtain ⟨n0,e0,_,w0⟩:=DataW.trod_int Tryz.underlying3 h0
         obtain ⟨n1,e1,_,w1⟩:=DataW.trod_int Tryz.underlying3 h1
         obtain ⟨s2,i2,e2,ws2,wi2⟩:=open_pcRowW h2
         obtain ⟨n3,e3,_,w3⟩:=DataW.trod_int Tryz.underlying3 h3
         obtain ⟨n4,e4,_,w4⟩:=DataW.trod_int Tryz.underlying3 h4
         obtain ⟨n5,e5,_,w5⟩:=DataW.trod_int Tryz.underlying3 h5
         obtain ⟨n6,e6,_,w6⟩:=DataW.trod_int Tryz.underlying3 h6
         obtain ⟨n7,e7,_,w7⟩:=DataW.trod_int Tryz.underlying3 h7
         obtain ⟨n8,e8,_,w8⟩:=DataW.trod_string Tryz.underlying9 h8
         obtain ⟨a9,k9,n9,e9,l9,m9,s9⟩:=open_strsC h9
         obtain ⟨i10,b10,d10,p10,bb10,dd10,q10,e10,g10,u10,gg10,uu10⟩:=open_sigC h10
         simp [RcV.cells] at e0 e1 e2 e3 e4 e5 e6 e7 e8 e9 e10
         obtain ⟨e2_0,e2_1⟩:=e2
         obtain ⟨e10_0,e10_1,e10_2⟩:=e10
         exact ⟨⟨⟨n0,n1,s2,i2,n3,n4,n5,n6,n7,n8,n9,i10,p10,q10⟩,a9,k9,b10,d10,bb10,dd10⟩,by rw [e0,e1,e2_0,e2_1,e3,e4,e5,e6,e7,e8,e9,e10_0,e10_1,e10_2];rfl,⟨m9,g10,gg10,s9,u10,uu10⟩,l9,ws2⟩
   | _=>simp at hF
theorem cellsOp43W: Tryz.prog.cellsOf 73 =15:=by kernel_rfl
theorem Tryz.fieldsOp43W:(match Tryz.prog.underlying 73 with | some (.struct fields)=>fields.toList.map (fun f=>(f.type,f.offset)) | _=>[])=[(47,0),(4,14)]:=by kernel_rfl
theorem open_opRowW {H:Type} {enc:TypeId × Value→H} {W:World} {n:Nat} {cs:List Value} {x:DataW H × List MemPlace} (h:DataW.trod enc Tryz.prog W 0 (fun _=>true) true n 73 cs=some x): ∃y:OpB,cs=y.cells∧y.x.ok W∧y.x.r.path.length≤y.x.c1∧y.x.r.str.size≤maxLen:=by
 have hF:= Tryz.fieldsOp43W
 cases hu: Tryz.prog.underlying 73 with
 | none=>rw [hu] at hF;simp at hF
 | some td=>
   rw [hu] at hF
   cases td with
   | struct fields=>
     obtain ⟨xs,n,_,_,hl,hlen,hf⟩:=DataW.trod_struct hu h
     rw [cellsOp43W] at hl
     obtain ⟨c0,c1,c2,c3,c4,c5,c6,c7,c8,c9,c10,c11,c12,c13,c14,rfl⟩: ∃c0 c1 c2 c3 c4 c5 c6 c7 c8 c9 c10 c11 c12 c13 c14,cs=[c0,c1,c2,c3,c4,c5,c6,c7,c8,c9,c10,c11,c12,c13,c14]:=by
      match cs,hl with
      | [c0,c1,c2,c3,c4,c5,c6,c7,c8,c9,c10,c11,c12,c13,c14],_=>exact ⟨c0,c1,c2,c3,c4,c5,c6,c7,c8,c9,c10,c11,c12,c13,c14,rfl⟩
     obtain ⟨fl⟩:=fields
     match fl,hF with
     | [f0,f1],hF=>
       simp only [List.map_cons,List.map_nil,List.cons.injEq,Prod.mk.injEq,and_true] at hF
       obtain ⟨⟨t0,o0⟩,⟨t1,o1⟩⟩:=hF
       match xs,hlen with
       | [y0,y1],_=>
         have h0:=hf 0 f0 rfl
         rw [t0,o0,cellsRc] at h0
         have h1:=hf 1 f1 rfl
         rw [t1,o1,cellsBoo] at h1
         obtain ⟨y0,e0,k0,l0,z0⟩:=open_rcRowW h0
         obtain ⟨n1,e1,_⟩:=DataW.trod_bool Tryz.underlying4 h1
         simp [RcV.cells] at e0 e1
         obtain ⟨e0_0,e0_1,e0_2,e0_3,e0_4,e0_5,e0_6,e0_7,e0_8,e0_9,e0_10,e0_11,e0_12,e0_13⟩:=e0
         exact ⟨⟨y0,n1⟩,by rw [e0_0,e0_1,e0_2,e0_3,e0_4,e0_5,e0_6,e0_7,e0_8,e0_9,e0_10,e0_11,e0_12,e0_13,e1];rfl,k0,l0,z0⟩
   | _=>simp at hF
theorem open_opsW {H:Type} {enc:TypeId × Value→H} {W:World} {a:Option Addr} {len cap fuel:Nat} {x:DataW H × List MemPlace}
    (hf:DataW.trod enc Tryz.prog W 0 (fun _=>true) true fuel 67 [.slice a len cap]=some x): ∃ys:List OpB,ys.length=len∧len≤9223372036854775807∧OpsB W a ys∧ ∀y ∈ ys,y.x.r.str.size≤maxLen:=by
 obtain ⟨ys,rs,h1,h2,h3,h4,h5,h6⟩:=open_rows Tryz.underlying67 cellsOp43W (by decide) (fun cs (y:OpB)=>cs=y.cells∧y.x.ok W∧y.x.r.path.length≤y.x.c1∧y.x.r.str.size≤maxLen) (fun n cs x h=>open_opRowW h) hf
 refine ⟨ys,h1,h3,⟨?_,fun y hy=> ?_⟩,fun y hy=> ?_⟩
 ·rcases h5 with h | ⟨b,o,e,hc⟩
  ·left
   subst h
   exact List.eq_nil_of_length_eq_zero (by rw [h1,← h2];rfl)
  ·refine .inr ⟨b,o,e,fun k hk j hj=> ?_⟩
   rw [hc k j (by omega) hj,(h6 k hk).1]
 ·obtain ⟨i,hi,rfl⟩:=List.mem_iff_getElem.1 hy
  exact ⟨(h6 i hi).2.1,(h6 i hi).2.2.1⟩
 ·obtain ⟨i,hi,rfl⟩:=List.mem_iff_getElem.1 hy
  exact (h6 i hi).2.2.2
end Go.Proofs.YtndlihclgdkpaaaGreatDoor

/- The opening of a head and of a fork that came in. -/
import Derived.OpenShut
import Derived.Test.YtndlihclgdkpaaaGreatDoorOpg
import Derived.Test.YtndlihclgdkpaaaGreatDoorOps
import Derived.Test.YtndlihclgdkpaaaGreatDoorVcw
set_option linter.unusedVariables false
set_option linter.unusedSimpArgs false
open Go.Lib (hid)
set_option maxRecDepth 100000
namespace Go.Proofs.YtndlihclgdkpaaaGreatDoor
open Go.ChangeShapes Go.WideShapes Go.ChangeAt Go.RowKit

theorem cellsHead: Tryz.prog.cellsOf 94 =6:=by kernel_rfl
theorem cellsEntsT: Tryz.prog.cellsOf 111 =1:=by kernel_rfl
theorem Tryz.fieldsHead:(match Tryz.prog.underlying 94 with | some (.struct fields)=>fields.toList.map (fun f=>(f.type,f.offset)) | _=>[])=[(3,0),(3,1),(9,2),(45,3)]:=by kernel_rfl
def HeadRow (W:World) (cs:List Value) (x:HV):Prop:=cs=x.cells∧x.h.ps.length<9223372036854775808∧x.h.qs.length<9223372036854775808∧StrsAt W x.a1 x.h.ps∧StrsAt W x.a2 x.h.qs
theorem open_sigRow {H:Type} {enc:TypeId × Value→H} {W:World} {n:Nat} {cs:List Value} {x:DataW H × List MemPlace} (h:DataW.trod enc Tryz.prog W 0 (fun _=>true) true n 45 cs=some x):
    ∃(idx:Int) (ps qs:List ByteArray) (a1:Option Addr) (c1:Nat) (a2:Option Addr) (c2:Nat),cs=[.int .i64 idx,.slice a1 ps.length c1,.slice a2 qs.length c2]∧ps.length<9223372036854775808∧qs.length<9223372036854775808∧StrsAt W a1 ps∧StrsAt W a2 qs:=by
 have hF:= Tryz.fieldsSig
 cases hu: Tryz.prog.underlying 45 with
 | none=>rw [hu] at hF;simp at hF
 | some td=>
   rw [hu] at hF
   cases td with
   | struct fields=>
     obtain ⟨xs,n,_,_,hl,hlen,hf⟩:=DataW.trod_struct hu h
     rw [cellsSig] at hl
     obtain ⟨c0,c1,c2,rfl⟩: ∃c0 c1 c2,cs=[c0,c1,c2]:=by
      match cs,hl with
      | [c0,c1,c2],_=>exact ⟨c0,c1,c2,rfl⟩
     obtain ⟨fl⟩:=fields
     match fl,hF with
     | [f0,f1,f2],hF=>
       simp only [List.map_cons,List.map_nil,List.cons.injEq,Prod.mk.injEq,and_true] at hF
       obtain ⟨⟨t0,o0⟩,⟨t1,o1⟩,⟨t2,o2⟩⟩:=hF
       match xs,hlen with
       | [y0,y1,y2],_=>
         have h0:=hf 0 f0 rfl
         have h1:=hf 1 f1 rfl
         have h2:=hf 2 f2 rfl
         rw [t0,o0,cellsInt] at h0
         rw [t1,o1,cellsStrs] at h1
         rw [t2,o2,cellsStrs] at h2
         obtain ⟨n0,e0,_,w0⟩:=DataW.trod_int Tryz.underlying3 h0
         obtain ⟨a1,n1,k1,ps,e1,l1,m1,s1⟩:=open_strs2 h1
         obtain ⟨a2,n2,k2,qs,e2,l2,m2,s2⟩:=open_strs2 h2
         simp at e0 e1 e2
         exact ⟨n0,ps,qs,a1,k1,a2,k2,by rw [e0,e1,e2,l1,l2],by omega,by omega,s1,s2⟩
   | _=>simp at hF
theorem open_headRow {H:Type} {enc:TypeId × Value→H} {W:World} {n:Nat} {cs:List Value} {x:DataW H × List MemPlace} (h:DataW.trod enc Tryz.prog W 0 (fun _=>true) true n 94 cs=some x): ∃y:HV,HeadRow W cs y:=by
 have hF:= Tryz.fieldsHead
 cases hu: Tryz.prog.underlying 94 with
 | none=>rw [hu] at hF;simp at hF
 | some td=>
   rw [hu] at hF
   cases td with
   | struct fields=>
     obtain ⟨xs,n,_,_,hl,hlen,hf⟩:=DataW.trod_struct hu h
     rw [cellsHead] at hl
     obtain ⟨c0,c1,c2,c3,c4,c5,rfl⟩:=array_of_len6 hl
     obtain ⟨fl⟩:=fields
     match fl,hF with
     | [f0,f1,f2,f3],hF=>
       simp only [List.map_cons,List.map_nil,List.cons.injEq,Prod.mk.injEq,and_true] at hF
       obtain ⟨⟨t0,o0⟩,⟨t1,o1⟩,⟨t2,o2⟩,⟨t3,o3⟩⟩:=hF
       match xs,hlen with
       | [y0,y1,y2,y3],_=>
         have h0:=hf 0 f0 rfl
         have h1:=hf 1 f1 rfl
         have h2:=hf 2 f2 rfl
         have h3:=hf 3 f3 rfl
         rw [t0,o0,cellsInt] at h0
         rw [t1,o1,cellsInt] at h1
         rw [t2,o2,cellsStr] at h2
         rw [t3,o3,cellsSig] at h3
         obtain ⟨n0,e0,_,_⟩:=DataW.trod_int Tryz.underlying3 h0
         obtain ⟨n1,e1,_,_⟩:=DataW.trod_int Tryz.underlying3 h1
         obtain ⟨s2,e2,_,_⟩:=DataW.trod_string Tryz.underlying9 h2
         obtain ⟨ix,ps,qs,a1,k1,a2,k2,e3,l1,l2,s1,s3⟩:=open_sigRow h3
         simp at e0 e1 e2 e3
         obtain ⟨e3,e4,e5⟩:=e3
         exact ⟨⟨⟨n0,n1,s2,ix,ps,qs⟩,a1,k1,a2,k2⟩,by rw [e0,e1,e2,e3,e4,e5];rfl,l1,l2,s1,s3⟩
   | _=>simp at hF
theorem open_logRow {H:Type} {enc:TypeId × Value→H} {W:World} {n:Nat} {cs:List Value} {x:DataW H × List MemPlace} (h:DataW.trod enc Tryz.prog W 0 (fun _=>true) true n 111 cs=some x):
    ∃(a:Option Addr) (c:Nat) (es:List Ent),cs=[.slice a es.length c]∧es.length≤c∧es.length≤9223372036854775807∧EntsAt W a es:=by
 have h6:=h
 rcases DataW.trod_slice Tryz.underlying111 h with ⟨e4,_⟩ | ⟨ad,l,c,_,_,_,_,e4,_⟩
 ·rw [e4] at h6
  obtain ⟨es,h1,h2,h3,h4⟩:=open_ents h6
  exact ⟨none,0,es,by rw [e4,h1],by omega,by omega,h4⟩
 ·rw [e4] at h6
  obtain ⟨es,h1,h2,h3,h4⟩:=open_ents h6
  exact ⟨some ad,c,es,by rw [e4,h1],by omega,by omega,h4⟩
theorem cellsLogs2: Tryz.prog.cellsOf 125 =2:=by kernel_rfl
theorem cellsHeads2: Tryz.prog.cellsOf 126 =12:=by kernel_rfl
theorem cellsFork: Tryz.prog.cellsOf 128 =15:=by kernel_rfl
theorem Tryz.fieldsFork:(match Tryz.prog.underlying 128 with | some (.struct fields)=>fields.toList.map (fun f=>(f.type,f.offset)) | _=>[])=[(3,0),(125,1),(126,3)]:=by kernel_rfl
theorem Tryz.arrLogs:(match Tryz.prog.underlying 125 with | some (.array n e)=>(n,e) | _=>(0,0))=(2, 111):=by kernel_rfl
theorem Tryz.arrHeads:(match Tryz.prog.underlying 126 with | some (.array n e)=>(n,e) | _=>(0,0))=(2, 94):=by kernel_rfl
theorem array_of_len15 {cs:List Value} (h:cs.length=15): ∃c0 c1 c2 c3 c4 c5 c6 c7 c8 c9 c10 c11 c12 c13 c14,cs=[c0,c1,c2,c3,c4,c5,c6,c7,c8,c9,c10,c11,c12,c13,c14]:=by
 match cs,h with
 | [c0,c1,c2,c3,c4,c5,c6,c7,c8,c9,c10,c11,c12,c13,c14],_=>exact ⟨c0,c1,c2,c3,c4,c5,c6,c7,c8,c9,c10,c11,c12,c13,c14,rfl⟩
theorem open_fork {H:Type} {enc:TypeId × Value→H} {W:World} {r:Reach} {b0:Nat} {v:Value} {d:DataW H} {p:List MemPlace} (hv:Value.okWide Tryz.prog W r b0 128 v) (h:DataW.Trod enc Tryz.prog W 0 (fun _=>true) true 128 v d p):
    ∃(dv:Int) (a0:Option Addr) (c0:Nat) (es0:List Ent) (a1:Option Addr) (c1:Nat) (es1:List Ent) (x0 x1:HV),v=forkVal dv a0 es0.length c0 a1 es1.length c1 x0 x1∧es0.length≤c0∧es0.length≤9223372036854775807∧EntsAt W a0 es0∧es1.length≤c1∧es1.length≤9223372036854775807∧EntsAt W a1 es1∧HeadIn W x0∧HeadIn W x1:=by
 have hF:= Tryz.fieldsFork
 cases hu: Tryz.prog.underlying 128 with
 | none=>rw [hu] at hF;simp at hF
 | some td=>
   rw [hu] at hF
   cases td with
   | struct fields=>
     obtain ⟨cs,rfl,hsz⟩:=okWide_struct hu hv
     obtain ⟨cs⟩:=cs
     obtain ⟨c0,c1,c2,c3,c4,c5,c6,c7,c8,c9,c10,c11,c12,c13,c14,rfl⟩:=array_of_len15 (show cs.length=15 from hsz.trans cellsFork)
     obtain ⟨fuel,hf⟩:=h
     obtain ⟨xs,n,_,_,hl,hlen,hf⟩:=DataW.trod_struct hu hf
     obtain ⟨fl⟩:=fields
     match fl,hF with
     | [f0,f1,f2],hF=>
       simp only [List.map_cons,List.map_nil,List.cons.injEq,Prod.mk.injEq,and_true] at hF
       obtain ⟨⟨t0,o0⟩,⟨t1,o1⟩,⟨t2,o2⟩⟩:=hF
       match xs,hlen with
       | [y0,y1,y2],_=>
         have h0:=hf 0 f0 rfl
         have h1:=hf 1 f1 rfl
         have h2:=hf 2 f2 rfl
         rw [t0,o0,cellsInt] at h0
         rw [t1,o1,cellsLogs2] at h1
         rw [t2,o2,cellsHeads2] at h2
         obtain ⟨n0,e0,_,_⟩:=DataW.trod_int Tryz.underlying3 h0
         have hA:= Tryz.arrLogs
         cases hu1: Tryz.prog.underlying 125 with
         | none=>rw [hu1] at hA;simp at hA
         | some td1=>
           rw [hu1] at hA
           cases td1 with
           | array m e=>
             simp only [Prod.mk.injEq] at hA
             obtain ⟨rfl,rfl⟩:=hA
             have hB:= Tryz.arrHeads
             cases hu2: Tryz.prog.underlying 126 with
             | none=>rw [hu2] at hB;simp at hB
             | some td2=>
               rw [hu2] at hB
               cases td2 with
               | array m2 e2=>
                 simp only [Prod.mk.injEq] at hB
                 obtain ⟨rfl,rfl⟩:=hB
                 obtain ⟨ys,m3,_,_,_,hyl,hy⟩:=DataW.trod_array hu1 h1
                 obtain ⟨zs,m4,_,_,_,hzl,hz⟩:=DataW.trod_array hu2 h2
                 match ys,hyl with
                 | [u0,u1],_=>
                   match zs,hzl with
                   | [q0,q1],_=>
                     have g0:=hy 0 (by decide)
                     have g1:=hy 1 (by decide)
                     have g2:=hz 0 (by decide)
                     have g3:=hz 1 (by decide)
                     rw [cellsEntsT] at g0 g1
                     rw [cellsHead] at g2 g3
                     simp [Value.cells] at e0 g0 g1 g2 g3
                     obtain ⟨a0,k0,es0,ea0,l0,m0,s0⟩:=open_logRow g0
                     obtain ⟨a1,k1,es1,ea1,l1,m1,s1⟩:=open_logRow g1
                     obtain ⟨x0,r0,p0,q0,w0,v0⟩:=open_headRow g2
                     obtain ⟨x1,r1,p1,q1,w1,v1⟩:=open_headRow g3
                     simp [HV.cells] at ea0 ea1 r0 r1
                     obtain ⟨r00,r01,r02,r03,r04,r05⟩:=r0
                     obtain ⟨r10,r11,r12,r13,r14,r15⟩:=r1
                     exact ⟨n0,a0,k0,es0,a1,k1,es1,x0,x1,by rw [e0,ea0,ea1,r00,r01,r02,r03,r04,r05,r10,r11,r12,r13,r14,r15];rfl,l0,m0,s0,l1,m1,s1,⟨p0,q0,w0,v0⟩,p1,q1,w1,v1⟩
               | _=>simp at hB
           | _=>simp at hA
   | _=>simp at hF
end Go.Proofs.YtndlihclgdkpaaaGreatDoor

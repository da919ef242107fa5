/- The opening of a slice of operations that came in. -/
import Derived.OpenShut
import Derived.Test.YtndlihclgdkpaaaGreatDoorOpg
import Derived.Test.YtndlihclgdkpaaaGreatDoorWfs
set_option linter.unusedVariables false
set_option linter.unusedSimpArgs false
open Go.Lib (hid)
namespace Go.Proofs.YtndlihclgdkpaaaGreatDoor
open Go.ChangeShapes Go.WideShapes Go.ChangeAt Go.RowKit

theorem array_of_len9 {cs:List Value} (h:cs.length=9): ∃c0 c1 c2 c3 c4 c5 c6 c7 c8,cs=[c0,c1,c2,c3,c4,c5,c6,c7,c8]:=by
 match cs,h with
 | [c0,c1,c2,c3,c4,c5,c6,c7,c8],_=>exact ⟨c0,c1,c2,c3,c4,c5,c6,c7,c8,rfl⟩
theorem cellsOp46: Tryz.prog.cellsOf 101 =9:=by kernel_rfl
theorem cellsInt2: Tryz.prog.cellsOf 99 =2:=by kernel_rfl
theorem Tryz.arrInt2:(match Tryz.prog.underlying 99 with | some (.array n e)=>(n,e) | _=>(0,0))=(2,3):=by kernel_rfl
theorem Tryz.fieldsOp46:(match Tryz.prog.underlying 101 with | some (.struct fields)=>fields.toList.map (fun f=>(f.type,f.offset)) | _=>[])=[(3,0),(3,1),(3,2),(3,3),(3,4),(3,5),(52,6),(99,7)]:=by kernel_rfl
def OpRow (W:World) (cs:List Value) (y:OpV):Prop:=(y.a=none→y.c=0)∧BytesAt W y.a y.body∧cs=y.cells
set_option maxRecDepth 100000 in
set_option maxHeartbeats 1000000 in
theorem open_op46 {H:Type} {enc:TypeId × Value→H} {W:World} (n:Nat) (cs:List Value) (x:DataW H × List MemPlace) (hf:DataW.trod enc Tryz.prog W 0 (fun _=>true) true n 101 cs=some x) (hl:cs.length=9): ∃y:OpV,OpRow W cs y:=by
 have hF:= Tryz.fieldsOp46
 obtain ⟨c0,c1,c2,c3,c4,c5,c6,c7,c8,rfl⟩:=array_of_len9 hl
 cases hu: Tryz.prog.underlying 101 with
 | none=>rw [hu] at hF;simp at hF
 | some td=>
   rw [hu] at hF
   cases td with
   | struct fields=>
     obtain ⟨xs,n,_,_,hl,hlen,hf⟩:=DataW.trod_struct hu hf
     obtain ⟨fl⟩:=fields
     match fl,hF with
     | [f0,f1,f2,f3,f4,f5,f6,f7],hF=>
       simp only [List.map_cons,List.map_nil,List.cons.injEq,Prod.mk.injEq,and_true] at hF
       obtain ⟨⟨t0,o0⟩,⟨t1,o1⟩,⟨t2,o2⟩,⟨t3,o3⟩,⟨t4,o4⟩,⟨t5,o5⟩,⟨t6,o6⟩,⟨t7,o7⟩⟩:=hF
       match xs,hlen with
       | [y0,y1,y2,y3,y4,y5,y6,y7],_=>
         have h0:=hf 0 f0 rfl
         have h1:=hf 1 f1 rfl
         have h2:=hf 2 f2 rfl
         have h3:=hf 3 f3 rfl
         have h4:=hf 4 f4 rfl
         have h5:=hf 5 f5 rfl
         have h6:=hf 6 f6 rfl
         have h7:=hf 7 f7 rfl
         rw [t0,o0,cellsInt] at h0
         rw [t1,o1,cellsInt] at h1
         rw [t2,o2,cellsInt] at h2
         rw [t3,o3,cellsInt] at h3
         rw [t4,o4,cellsInt] at h4
         rw [t5,o5,cellsInt] at h5
         rw [t6,o6,cellsByt] at h6
         rw [t7,o7,cellsInt2] at h7
         obtain ⟨n0,e0,_,_⟩:=DataW.trod_int Tryz.underlying3 h0
         obtain ⟨n1,e1,_,_⟩:=DataW.trod_int Tryz.underlying3 h1
         obtain ⟨n2,e2,_,_⟩:=DataW.trod_int Tryz.underlying3 h2
         obtain ⟨n3,e3,_,_⟩:=DataW.trod_int Tryz.underlying3 h3
         obtain ⟨n4,e4,_,_⟩:=DataW.trod_int Tryz.underlying3 h4
         obtain ⟨n5,e5,_,_⟩:=DataW.trod_int Tryz.underlying3 h5
         have hA:= Tryz.arrInt2
         cases hu1: Tryz.prog.underlying 99 with
         | none=>rw [hu1] at hA;simp at hA
         | some td1=>
           rw [hu1] at hA
           cases td1 with
           | array m e=>
             simp only [Prod.mk.injEq] at hA
             obtain ⟨rfl,rfl⟩:=hA
             obtain ⟨zs,m4,_,_,_,hzl,hz⟩:=DataW.trod_array hu1 h7
             match zs,hzl with
             | [q0,q1],_=>
               have g0:=hz 0 (by decide)
               have g1:=hz 1 (by decide)
               rw [cellsInt] at g0 g1
               obtain ⟨n7,e7,_,_⟩:=DataW.trod_int Tryz.underlying3 g0
               obtain ⟨n8,e8,_,_⟩:=DataW.trod_int Tryz.underlying3 g1
               simp at e0 e1 e2 e3 e4 e5 e7 e8
               have k6:=h6
               rcases DataW.trod_slice Tryz.underlying52 h6 with ⟨e6,_⟩ | ⟨ad,l,c,_,_,_,_,e6,_⟩
               ·rw [e6] at k6
                obtain ⟨bs,hb,hB⟩:=open_bytes k6
                simp at e6
                exact ⟨⟨n0,n1,n2,n3,n4,n5,none,0,bs,n7,n8⟩,fun _=>rfl,hB,by rw [e0,e1,e2,e3,e4,e5,e6,e7,e8,hb];rfl⟩
               ·rw [e6] at k6
                obtain ⟨bs,hb,hB⟩:=open_bytes k6
                simp at e6
                exact ⟨⟨n0,n1,n2,n3,n4,n5,some ad,c,bs,n7,n8⟩,fun h=>absurd h (by simp),hB,by rw [e0,e1,e2,e3,e4,e5,e6,e7,e8,hb];rfl⟩
           | _=>simp at hA
   | _=>simp at hF
theorem open_gops {H:Type} {enc:TypeId × Value→H} {W:World} {a:Option Addr} {len cap fuel:Nat} {x:DataW H × List MemPlace}
    (hf:DataW.trod enc Tryz.prog W 0 (fun _=>true) true fuel 90 [.slice a len cap]=some x):
    ∃ys:List OpV,ys.length=len∧OpsAt W a ys:=by
 obtain ⟨ys,rs,h1,h2,h7,h3,h4,h5,h6⟩:=open_rows Tryz.underlying90 cellsOp46 (by decide) (fun cs y=>cs.length=9→OpRow W cs y) (fun n cs x h=>by
  by_cases hl:cs.length=9
  ·obtain ⟨y,hy⟩:=open_op46 n cs x h hl
   exact ⟨y,fun _=>hy⟩
  ·exact ⟨⟨0,0,0,0,0,0,none,0,[],0,0⟩,fun h=>absurd h hl⟩) hf
 refine ⟨ys,h1,?_⟩
 rcases h5 with h | ⟨b,o,e,hc⟩
 ·left
  exact List.eq_nil_of_length_eq_zero (by rw [h1,← h2,h];rfl)
 ·refine .inr ⟨b,o,e,fun i hi=> ?_⟩
  obtain ⟨hnil,hB,hr⟩:=h6 i hi (h4 _ (getD_mem rs i [] (by omega)))
  refine ⟨hnil,hB,fun j hj=> ?_⟩
  rw [hc i j (by omega) hj,hr]
end Go.Proofs.YtndlihclgdkpaaaGreatDoor

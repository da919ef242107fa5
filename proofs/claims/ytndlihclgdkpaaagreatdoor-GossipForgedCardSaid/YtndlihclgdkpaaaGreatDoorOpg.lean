/- The opening of a slice of entries that came in. -/
import Derived.Test.YtndlihclgdkpaaaGreatDoorGc
import Derived.Test.YtndlihclgdkpaaaGreatDoorGg
import Derived.Test.YtndlihclgdkpaaaGreatDoorOpb
set_option linter.unusedVariables false
set_option linter.unusedSimpArgs false
open Go.Lib (hid)
namespace Go.Proofs.YtndlihclgdkpaaaGreatDoor
open Go.ChangeShapes Go.WideShapes Go.ChangeAt Go.RowKit

def StructsAt (w:World) (a:Option Addr) (k:Nat) (rs:List (List Value)):Prop:=rs=[]∨ ∃b o,a=some ⟨b,o,none⟩∧ ∀i j,i<rs.length→j<k→w.cell? ⟨b,o+i*k+j,none⟩=(rs.getD i [])[j]?
theorem open_rows {H:Type} {enc:TypeId × Value→H} {P:Program} {W:World} {t e:TypeId} {k:Nat} (ht:P.underlying t=some (.slice e)) (hc:P.cellsOf e=k) (hk:0<k) {α:Type} (R:List Value→α→Prop)
    (hR: ∀n cs x,DataW.trod enc P W 0 (fun _=>true) true n e cs=some x→ ∃y,R cs y) {a:Option Addr} {len cap fuel:Nat} {x:DataW H × List MemPlace}
    (hf:DataW.trod enc P W 0 (fun _=>true) true fuel t [.slice a len cap]=some x):
    ∃(ys:List α) (rs:List (List Value)),ys.length=len∧rs.length=len∧len≤cap∧len≤9223372036854775807∧(∀r ∈ rs,r.length=k)∧StructsAt W a k rs∧ ∀i (h:i<ys.length),R (rs.getD i []) ys[i]:=by
 rcases DataW.trod_slice ht hf with ⟨hcs,_⟩ | ⟨ad,l,c,elems,rest,n,_,hcs,_,_,hl,hm,hlen,hel,_,_⟩
 ·simp at hcs
  obtain ⟨rfl,rfl,rfl⟩:=hcs
  exact ⟨[],[],rfl,rfl,Nat.le_refl _,by omega,by simp,.inl rfl,fun i h=>absurd h (by simp)⟩
 ·simp at hcs
  obtain ⟨rfl,rfl,rfl⟩:=hcs
  have each: ∀i:Fin len,∃p:List Value × α,W.cells? 0 (ad.add (i.1*k)) k=some p.1∧R p.1 p.2:=by
   intro i
   have h1:=hel i.1 i.2
   rw [lE (by rw [hlen];exact i.2),hc,Option.bind_eq_some_iff] at h1
   obtain ⟨cs,h2,h3⟩:=h1
   obtain ⟨y,h4⟩:=hR _ _ _ h3
   exact ⟨(cs,y),h2,h4⟩
  obtain ⟨f,hf2⟩:=Classical.axiomOfChoice each
  have hrs: ∀i (h:i<len),(List.ofFn fun j=>(f j).1).getD i []=(f ⟨i,h⟩).1:=fun i h=>by
   rw [lD,lE (by simpa using h),List.getElem_ofFn]
   rfl
  refine ⟨List.ofFn fun j=>(f j).2,List.ofFn fun j=>(f j).1,by simp,by simp,hl,Nat.le_trans hl hm,?_,?_,?_⟩
  ·intro r hr
   rw [List.mem_ofFn] at hr
   obtain ⟨j,rfl⟩:=hr
   exact (World.cells?_some (hf2 j).1).2.1
  ·by_cases h0:len=0
   ·subst h0
    exact .inl (by simp)
   ·right
    obtain ⟨b,off,spot⟩:=ad
    have hspot:spot=none:=by
     have h1:=(World.cells?_some (hf2 ⟨0,by omega⟩).1)
     have h2:=h1.2.2 0 hk
     rw [lE (by omega)] at h2
     simpa [Addr.add] using World.cell?_spot h2
    subst hspot
    refine ⟨b,off,rfl,fun i j hi hj=> ?_⟩
    have hi':i<len:=by simpa using hi
    rw [hrs i hi']
    have h2:=(World.cells?_some (hf2 ⟨i,hi'⟩).1).2.2 j hj
    rw [← h2,add_none,add_none]
  ·intro i h
   have hi:i<len:=by simpa using h
   rw [hrs i hi,List.getElem_ofFn]
   exact (hf2 ⟨i,hi⟩).2
theorem array_of_len6 {cs:List Value} (h:cs.length=6): ∃c0 c1 c2 c3 c4 c5,cs=[c0,c1,c2,c3,c4,c5]:=by
 match cs,h with
 | [c0,c1,c2,c3,c4,c5],_=>exact ⟨c0,c1,c2,c3,c4,c5,rfl⟩
theorem cellsEnt: Tryz.prog.cellsOf 92 =6:=by kernel_rfl
theorem cellsByt: Tryz.prog.cellsOf 52 =1:=by kernel_rfl
theorem Tryz.fieldsEnt:(match Tryz.prog.underlying 92 with | some (.struct fields)=>fields.toList.map (fun f=>(f.type,f.offset)) | _=>[])=[(3,0),(3,1),(3,2),(3,3),(52,4),(9,5)]:=by kernel_rfl
def EntRow (W:World) (cs:List Value) (e:Ent):Prop:= ∃a n c,e.body.length=n∧(a=none→c=0)∧BytesAt W a e.body∧cs=[.int .i64 e.dev,.int .i64 e.seq,.int .i64 e.kind,.int .i64 e.day,.slice a n c,.string e.prev]
set_option maxRecDepth 100000 in
theorem open_ent {H:Type} {enc:TypeId × Value→H} {W:World} (n:Nat) (cs:List Value) (x:DataW H × List MemPlace) (hf:DataW.trod enc Tryz.prog W 0 (fun _=>true) true n 92 cs=some x) (hl:cs.length=6): ∃e:Ent,EntRow W cs e:=by
 have hF:= Tryz.fieldsEnt
 obtain ⟨c0,c1,c2,c3,c4,c5,rfl⟩:=array_of_len6 hl
 cases hu: Tryz.prog.underlying 92 with
 | none=>rw [hu] at hF;simp at hF
 | some td=>
   rw [hu] at hF
   cases td with
   | struct fields=>
     obtain ⟨xs,n,_,_,hl,hlen,hf⟩:=DataW.trod_struct hu hf
     obtain ⟨fl⟩:=fields
     match fl,hF with
     | [f0,f1,f2,f3,f4,f5],hF=>
       simp only [List.map_cons,List.map_nil,List.cons.injEq,Prod.mk.injEq,and_true] at hF
       obtain ⟨⟨t0,o0⟩,⟨t1,o1⟩,⟨t2,o2⟩,⟨t3,o3⟩,⟨t4,o4⟩,⟨t5,o5⟩⟩:=hF
       match xs,hlen with
       | [y0,y1,y2,y3,y4,y5],_=>
         have h0:=hf 0 f0 rfl
         have h1:=hf 1 f1 rfl
         have h2:=hf 2 f2 rfl
         have h3:=hf 3 f3 rfl
         have h4:=hf 4 f4 rfl
         have h5:=hf 5 f5 rfl
         rw [t0,o0,cellsInt] at h0
         rw [t1,o1,cellsInt] at h1
         rw [t2,o2,cellsInt] at h2
         rw [t3,o3,cellsInt] at h3
         rw [t4,o4,cellsByt] at h4
         rw [t5,o5,cellsStr] at h5
         obtain ⟨n0,e0,_,_⟩:=DataW.trod_int Tryz.underlying3 h0
         obtain ⟨n1,e1,_,_⟩:=DataW.trod_int Tryz.underlying3 h1
         obtain ⟨n2,e2,_,_⟩:=DataW.trod_int Tryz.underlying3 h2
         obtain ⟨n3,e3,_,_⟩:=DataW.trod_int Tryz.underlying3 h3
         obtain ⟨s5,e5,_,_⟩:=DataW.trod_string Tryz.underlying9 h5
         simp at e0 e1 e2 e3 e5
         have h6:=h4
         rcases DataW.trod_slice Tryz.underlying52 h4 with ⟨e4,_⟩ | ⟨ad,l,c,_,_,_,_,e4,_⟩
         ·rw [e4] at h6
          obtain ⟨bs,hb,hB⟩:=open_bytes h6
          simp at e4
          exact ⟨⟨n0,n1,n2,n3,bs,s5⟩,none,0,0,hb.symm,fun _=>rfl,hB,by rw [e0,e1,e2,e3,e4,e5]⟩
         ·rw [e4] at h6
          obtain ⟨bs,hb,hB⟩:=open_bytes h6
          simp at e4
          exact ⟨⟨n0,n1,n2,n3,bs,s5⟩,some ad,l,c,hb.symm,fun h=>absurd h (by simp),hB,by rw [e0,e1,e2,e3,e4,e5]⟩
   | _=>simp at hF
end Go.Proofs.YtndlihclgdkpaaaGreatDoor

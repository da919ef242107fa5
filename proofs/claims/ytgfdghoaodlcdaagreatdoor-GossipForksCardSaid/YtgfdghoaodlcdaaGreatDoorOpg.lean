/- The opening of a slice of entries that came in. -/
import Derived.Test.YtgfdghoaodlcdaaGreatDoorGc
import Derived.Test.YtgfdghoaodlcdaaGreatDoorGg
import Derived.Test.YtgfdghoaodlcdaaGreatDoorOpb
set_option linter.unusedVariables false
set_option linter.unusedSimpArgs false
open Go.Lib (hid)
namespace Go.Proofs.YtgfdghoaodlcdaaGreatDoor
open Go.ChangeShapes Go.WideShapes Go.ChangeAt Go.RowKit

def StructsAt (w:World) (a:Option Addr) (k:Nat) (rs:List (List Value)):Prop:=rs=[]∨ ∃b o,a=some ⟨b,o,none⟩∧ ∀i j,i<rs.length→j<k→w.cell? ⟨b,o+i*k+j,none⟩=(rs.getD i [])[j]?
theorem open_rows {H:Type} {enc:TypeId × Value→H} {P:Program} {W:World} {t e:TypeId} {k:Nat} (ht:P.underlying t=some (.slice e)) (hc:P.cellsOf e=k) (hk:0<k) {α:Type} (R:List Value→α→Prop)
    (hR: ∀n cs x,DataW.trod enc P W 0 (fun _=>true) true n e cs=some x→ ∃y,R cs y) {a:Option Addr} {len cap fuel:Nat} {x:DataW H × List MemPlace}
    (hf:DataW.trod enc P W 0 (fun _=>true) true fuel t [.slice a len cap]=some x):
    ∃(ys:List α) (rs:List (List Value)),ys.length=len∧rs.length=len∧len≤cap∧len≤9223372036854775807∧(∀r ∈ rs,r.length=k)∧StructsAt W a k rs∧ ∀i (h:i<ys.length),R (rs.getD i []) ys[i]:=by
 rcases DataW.trod_slice ht hf with ⟨hcs,_⟩ | ⟨ad,l,c,elems,rest,n,_,hcs,_,_,hl,hm,hlen,hel,_,_⟩
 ·simp at hcs
  obtain ⟨rfl,rfl,rfl⟩:=hcs
  exact ⟨[],[],rfl,rfl,Nat.le_refl _,by omega,by simp,.inl rfl,fun i h=>absurd h (by simp)⟩
 ·simp at hcs
  obtain ⟨rfl,rfl,rfl⟩:=hcs
  have each: ∀i:Fin len,∃p:List Value × α,W.cells? 0 (ad.add (i.1*k)) k=some p.1∧R p.1 p.2:=by
   intro i
   have h1:=hel i.1 i.2
   rw [lE (by rw [hlen];exact i.2),hc,Option.bind_eq_some_iff] at h1
   obtain ⟨cs,h2,h3⟩:=h1
   obtain ⟨y,h4⟩:=hR _ _ _ h3
   exact ⟨(cs,y),h2,h4⟩
  obtain ⟨f,hf2⟩:=Classical.axiomOfChoice each
  have hrs: ∀i (h:i<len),(List.ofFn fun j=>(f j).1).getD i []=(f ⟨i,h⟩).1:=fun i h=>by
   rw [lD,lE (by simpa using h),List.getElem_ofFn]
   rfl
  refine ⟨List.ofFn fun j=>(f j).2,List.ofFn fun j=>(f j).1,by simp,by simp,hl,Nat.le_trans hl hm,?_,?_,?_⟩
  ·intro r hr
   rw [List.mem_ofFn] at hr
   obtain ⟨j,rfl⟩:=hr
   exact (World.cells?_some (hf2 j).1).2.1
  ·by_cases h0:len=0
   ·subst h0
    exact .inl (by simp)
   ·right
    obtain ⟨b,off,spot⟩:=ad
    have hspot:spot=none:=by
     have h1:=(World.cells?_some (hf2 ⟨0,by omega⟩).1)
     have h2:=h1.2.2 0 hk
     rw [lE (by omega)] at h2
     simpa [Addr.add] using World.cell?_spot h2
    subst hspot
    refine ⟨b,off,rfl,fun i j hi hj=> ?_⟩
    have hi':i<len:=by simpa using hi
    rw [hrs i hi']
    have h2:=(World.cells?_some (hf2 ⟨i,hi'⟩).1).2.2 j hj
    rw [← h2,add_none,add_none]
  ·intro i h
   have hi:i<len:=by simpa using h
   rw [hrs i hi,List.getElem_ofFn]
   exact (hf2 ⟨i,hi⟩).2
theorem cellsByt: Tryz.prog.cellsOf 52 =1:=by kernel_rfl
end Go.Proofs.YtgfdghoaodlcdaaGreatDoor

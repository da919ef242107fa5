/- Forks in a row: fifteen cells each. -/
import Derived.Test.YtndlihclgdkpaaaGreatDoorGh
import Derived.Test.YtndlihclgdkpaaaGreatDoorWup
import Derived.Test.YtndlihclgdkpaaaGreatDoorGsm
import Derived.Test.YtndlihclgdkpaaaGreatDoorVfk
set_option linter.unusedVariables false
set_option linter.unusedSimpArgs false
open Go.Lib (hid)
namespace Go.Proofs.YtndlihclgdkpaaaGreatDoor
open Go.RowKit
open Kit (Chg)
open Sha (v)
open Go.Proofs.YtndlihclgdkpaaaGreatDoor.One

structure FV where
 dev:Int
 l0:List Ent
 l1:List Ent
 a0:Option Addr
 c0:Nat
 a1:Option Addr
 c1:Nat
 x0:HV
 x1:HV
def FV.cells (x:FV):List Value:=[.int .i64 x.dev,.slice x.a0 x.l0.length x.c0,.slice x.a1 x.l1.length x.c1,.int .i64 x.x0.h.dev,.int .i64 x.x0.h.seq,.string x.x0.h.sum,.int .i64 x.x0.h.idx,.slice x.x0.a1 x.x0.h.ps.length x.x0.c1,.slice x.x0.a2 x.x0.h.qs.length x.x0.c2,.int .i64 x.x1.h.dev,.int .i64 x.x1.h.seq,.string x.x1.h.sum,.int .i64 x.x1.h.idx,.slice x.x1.a1 x.x1.h.ps.length x.x1.c1,.slice x.x1.a2 x.x1.h.qs.length x.x1.c2]
def FV.f (x:FV):Frk:=⟨x.dev,x.l0,x.l1,x.x0.h,x.x1.h⟩
theorem FV.one (x:FV): ∀v ∈ x.cells,v.oneCell'=true:=fun v h=>by
 simp only [FV.cells,List.mem_cons,List.not_mem_nil,or_false] at h
 rcases h with rfl | rfl | rfl | rfl | rfl | rfl | rfl | rfl | rfl | rfl | rfl | rfl | rfl | rfl | rfl<;> rfl
def FV.ok (w:World) (x:FV):Prop:=EntsAt w x.a0 x.l0∧EntsAt w x.a1 x.l1∧HeadIn w x.x0∧HeadIn w x.x1
def fvs (l:List FV):List Value:=sixes FV.cells l
theorem rows_len {α:Type} {f:α→List Value} {n:Nat} (hf: ∀x,(f x).length=n): ∀l:List α,(sixes f l).length=l.length*n
 | []=>by simp [sixes]
 | x::l=>by
   rw [sixes,List.length_append,rows_len hf l,List.length_cons,hf,Nat.add_mul]
   omega
theorem fvs_len (l:List FV):(fvs l).length=l.length*15:=rows_len (f:=FV.cells) (n:=15) (fun _=>rfl) l
theorem fvs_app (l m:List FV):fvs (l++m)=fvs l++fvs m:=sixes_app l m
theorem fvs_one (l:List FV): ∀v ∈ fvs l,v.oneCell'=true:=sixes_one FV.one l
theorem rows_get {α:Type} {f:α→List Value} {n:Nat} (hf: ∀x,(f x).length=n): ∀(l:List α) (i:Nat) (hi:i<l.length) (j:Nat),j<n→(sixes f l)[i*n+j]? =(f l[i])[j]?
 | [],i,hi,j,hj=>by simp at hi
 | x::l,0,hi,j,hj=>by
   rw [sixes,List.getElem?_append_left (by rw [hf];omega),Nat.zero_mul,Nat.zero_add]
   rfl
 | x::l,i+1,hi,j,hj=>by
   rw [sixes,List.getElem?_append_right (by rw [hf,Nat.add_mul];omega),hf,show (i+1)*n+j - n=i*n+j by rw [Nat.add_mul];omega]
   exact rows_get hf l i (by simpa using hi) j hj
theorem fvs_cells {w:World} {base n:Nat} {T:TypeId} {v:Value} {xs:List FV} (h:w.ownsRow base T 15 v n (fvs xs)):n=xs.length∧ ∃a cap,v= .slice a n cap∧ ∀(i:Nat) (hi:i<xs.length),∃b,a=some ⟨b,0,none⟩∧base≤b∧ ∀j,j<15→w.cell? ⟨b,i*15+j,none⟩=(xs[i].cells)[j]? :=by
 obtain ⟨hl,hv⟩:=h
 have hn:n=xs.length:=by rw [fvs_len] at hl;omega
 refine ⟨hn,?_⟩
 rcases hv with ⟨rfl,h0⟩ | ⟨g,cap,cur,rfl,hbg,hg,hnc,hcm,hcs,htake⟩
 ·exact ⟨none,0,by rw [h0],fun i hi=>by omega⟩
 ·refine ⟨some ⟨g,0,none⟩,cap,rfl,fun i hi=>⟨g,rfl,hbg,fun j hj=> ?_⟩⟩
  rw [cell_of_row _ _ _ _ _ _ hg,← rows_get (f:=FV.cells) (n:=15) (fun _=>rfl) xs i hi j hj]
  show _=(fvs xs)[i*15+j]?
  rw [← htake,List.getElem?_take_of_lt (by omega)]
  simp
theorem Tryz.infoFork:(Tryz.prog.info? 130).map (fun i=>(i.zero,i.size,i.bytes))=some (some (.agg #[.int .i64 0,.slice none 0 0,.slice none 0 0,.int .i64 0,.int .i64 0,.string ByteArray.empty,.int .i64 0,.slice none 0 0,.slice none 0 0,.int .i64 0,.int .i64 0,.string ByteArray.empty,.int .i64 0,.slice none 0 0,.slice none 0 0]),15,232):=by kernel_rfl
section
variable {ops:Array Oper} {rest:List Oper} {o:Oper} {a:Act} {Q:Exit→Act→World→Prop}
theorem app_fork {w0:World} (hgd:o.guard=none) (s x:Operand) (ho:o.op= .call { callee:= .builtin .append,args:= #[s,x],argTypes:= #[122, 122] })
    (base:Nat) (v:Value) (L:Nat) (xs:List FV) (hs:a.eval s=v) (hown:w0.ownsRow base 130 15 v L (fvs xs)) (hb:base≤w0.heap.size) (hL:L≤1000000)
    (y:FV) (c:Nat) (hx:a.eval x= .slice (some ⟨w0.heap.size,0,none⟩) 1 c)
    (h: ∀bl cap w',w'.ownsRow base 130 15 (.slice (some ⟨bl,0,none⟩) (L+1) cap) (L+1) (fvs (xs++[y]))→(w0.alloc (.cells y.cells.toArray 130)).grownBy w' v.ownBlock→(some bl=v.ownBlock∨bl=w0.heap.size+1)→wpList Tryz.prog ops Q rest (a.put o.dst (.slice (some ⟨bl,0,none⟩) (L+1) cap)) w'):wpList Tryz.prog ops Q (o::rest) a (w0.alloc (.cells y.cells.toArray 130)):=by
 obtain ⟨i0,hi,hz0,hz1,hz2⟩:=info_parts Tryz.infoFork
 have hy1:fvs [y]=y.cells:=by unfold fvs sixes sixes;rw [List.append_nil]
 refine wpList_append_own_at _ hgd s x 122 ho base 130 i0 _ 15 232 Tryz.underlying122 hi hz0 hz1 hz2 rfl (by decide) v L (fvs xs) hs (hown.alloc _) ⟨w0.heap.size,0,none⟩ 1 c (fvs [y]) hx (fvs_len _) (fun j u hu=>by rw [add_none];rw [hy1] at hu;exact cells_new_at _ _ _ j u hu) (fvs_one _) (by unfold maxLen;omega) (by omega) (by simp;omega) ?_
 intro v' w4 hown4 hgr4 _ hat
 obtain ⟨bl,cap,rfl⟩:=own_some hown4 (Nat.succ_pos _)
 refine h bl cap w4 (by rw [fvs_app];exact hown4) hgr4 ?_
 rcases hat with h | h
 ·exact .inl h
 ·injection h with h
  exact .inr (by simpa using h)
end
end Go.Proofs.YtndlihclgdkpaaaGreatDoor

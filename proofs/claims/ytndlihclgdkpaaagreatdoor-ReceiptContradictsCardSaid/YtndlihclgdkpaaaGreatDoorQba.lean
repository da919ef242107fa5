/- Receipts in rows: appended, copied. -/
import Derived.Laws.CopyOwn
import Derived.Test.YtndlihclgdkpaaaGreatDoorGc
import Derived.Test.YtndlihclgdkpaaaGreatDoorQrf
import Derived.Test.YtndlihclgdkpaaaGreatDoorQrw
set_option linter.unusedVariables false
set_option linter.unusedSimpArgs false
open Go.Lib (hid)
namespace Go.Proofs.YtndlihclgdkpaaaGreatDoor
open Go.RowKit
open Kit (Chg)
open Go.Proofs.YtndlihclgdkpaaaGreatDoor.One

def rcv (xs:List RcV):List Value:=xs.flatMap RcV.cells
theorem rcv_len (xs:List RcV):(rcv xs).length=xs.length*14:=rw_len RcV.len xs
theorem rcv_app (xs ys:List RcV):rcv (xs++ys)=rcv xs++rcv ys:=List.flatMap_append
theorem rcv_one (xs:List RcV): ∀v ∈ rcv xs,v.oneCell'=true:=fun v h=>by
 obtain ⟨x,_,hx⟩:=List.mem_flatMap.1 h
 exact x.one v hx
theorem rcv_single (x:RcV):rcv [x]=x.cells:=List.append_nil _
section
variable {ops:Array Oper} {rest:List Oper} {o:Oper} {a:Act} {Q:Exit→Act→World→Prop}
theorem app_rc {w0:World} (hgd:o.guard=none) (s x:Operand) (ho:o.op= .call { callee:= .builtin .append,args:= #[s,x],argTypes:= #[32, 32] })
    (base:Nat) (v:Value) (L:Nat) (xs:List RcV) (hs:a.eval s=v) (hown:w0.ownsRow base 47 14 v L (rcv xs)) (hb:base≤w0.heap.size) (hL:L≤1000000)
    (y:RcV) (ad:Addr) (c:Nat) (hx:a.eval x= .slice (some ad) 1 c) (hsrc: ∀j u,y.cells[j]? =some u→w0.cell? (ad.add j)=some u)
    (h: ∀bl cap w',w'.ownsRow base 47 14 (.slice (some ⟨bl,0,none⟩) (L+1) cap) (L+1) (rcv (xs++[y]))→w0.grownBy w' v.ownBlock→(some bl=v.ownBlock∨bl=w0.heap.size)→wpList Tryz.prog ops Q rest (a.put o.dst (.slice (some ⟨bl,0,none⟩) (L+1) cap)) w'):wpList Tryz.prog ops Q (o::rest) a w0:=by
 obtain ⟨i0,hi,hz0,hz1,hz2⟩:=info_parts Tryz.infoRc
 refine wpList_append_own_at _ hgd s x 32 ho base 47 i0 _ 14 176 Tryz.underlying32 hi hz0 hz1 hz2 rfl (by decide) v L (rcv xs) hs hown ad 1 c (rcv [y]) hx (rcv_len _) (fun j u hu=>hsrc j u (by rw [← rcv_single];exact hu)) (rcv_one _) (by unfold maxLen;omega) (by omega) hb ?_
 intro v' w4 hown4 hgr4 _ hat
 obtain ⟨bl,cap,rfl⟩:=own_some hown4 (Nat.succ_pos _)
 refine h bl cap w4 (by rw [rcv_app];exact hown4) hgr4 ?_
 rcases hat with h | h
 ·exact .inl h
 ·injection h with h
  exact .inr h
end
theorem run_copy_rowN {P:Program} (w:World) (dT sT ty elem:TypeId) (g o dLen dCap:Nat) (a:Addr) (sLen sCap size n:Nat) (cur:Array Value) (t:TypeId) (cs:List Value)
    (hu:P.underlying dT=some (.slice elem)) (hs:(P.info? elem).map (·.size)=some size)
    (hg:w.heap[g]? =some (.cells cur t (0,0))) (hmin:Nat.min sLen dLen=n) (hn:cs.length=n*size)
    (hsrc: ∀j v,cs[j]? =some v→w.cell? (a.add j)=some v) (hfit:o+cs.length≤cur.size) (h1: ∀v ∈ cs,v.oneCell'=true):
    (Builtin.copy_ #[dT,sT] ty #[.slice (some ⟨g,o,none⟩) dLen dCap,.slice (some a) sLen sCap]).run P w=
      .ok (goInt n) (w.setRow g (cur.toList.take o++cs++cur.toList.drop (o+cs.length)).toArray):=by
 have hl:=run_loadCells_list (P:=P) w a cs hsrc
 have hst:=run_storeCells_at P g o t cs 0 cur w hg (by simpa using hfit) h1
 cases hq:P.info? elem with
 | none=>simp [hq] at hs
 | some i=>
   have hi:i.size=size:=by simpa [hq] using hs
   simp [Builtin.copy_,run_underlying hu,Builtin.lenOf,Builtin.firstCells,sizeOf,typeInfo,hq,hi,hmin,← hn,hl,hst]
end Go.Proofs.YtndlihclgdkpaaaGreatDoor

/- receipt: the signed fields of a receipt; comparing them. -/
import Derived.Test.YtndlihclgdkpaaaGreatDoorGg
import Derived.Test.YtndlihclgdkpaaaGreatDoorQva
set_option linter.unusedVariables false
set_option linter.unusedSimpArgs false
open Go.Lib (hid)
namespace Go.Proofs.YtndlihclgdkpaaaGreatDoor
open Go.RowKit
open Kit (Chg)
open Sha (v)
open Go.Proofs.YtndlihclgdkpaaaGreatDoor.One

theorem str_tol (s t:ByteArray):(s.toList==t.toList)=decide (s=t):=by
 rw [eq_str]
 exact decide_eq_decide.2 ⟨nb_inj,congrArg nb⟩
theorem tol_iff (s t:ByteArray):s.toList=t.toList↔s=t:=by
 have h:=str_tol s t
 rw [Bool.eq_iff_iff,beq_iff_eq,decide_eq_true_eq] at h
 exact h
theorem int_beq (i j:Int):(i==j)=decide (i=j):=by rw [Bool.eq_iff_iff,beq_iff_eq,decide_eq_true_eq]
theorem Tryz.eqIn_piece (d:Nat) (s t:ByteArray) (i j:Int) (w:World):(Op.equalIn (d+1+1) 42 (.agg #[.string s,.int .i64 i]) (.agg #[.string t,.int .i64 j])).run Tryz.prog w= .ok (decide (s=t) && decide (i=j)) w:=by
 have u3:= Tryz.underlying3
 have a3:= Tryz.isAgg3
 have z3:= Tryz.sizeOf3
 have u9:= Tryz.underlying9
 have a9:= Tryz.isAgg9
 have z9:= Tryz.sizeOf9
 have hS: Tryz.prog.underlying 42 =some (.struct (Tryz.prog.fieldsOf 42)):=by kernel_rfl
 have hp: Tryz.prog.stoodInHeld 42 =false:=by kernel_rfl
 rw [run_equalIn_agg w (d+1) 42 _ _ hS hp]
 simp only [Program.fieldsOf,Tryz.underlying42]
 go_simp
 (try simp only [str_tol,int_beq])
 by_cases h1:s=t<;> by_cases h2:i=j<;> simp [h1,h2,tol_iff]
theorem eq_piece (s t:ByteArray) (i j:Int) (w:World):(binOp .eql 42 (.agg #[.string s,.int .i64 i]) (.agg #[.string t,.int .i64 j])).run Tryz.prog w= .ok (.bool (decide (s=t) && decide (i=j))) w:=by
 rw [run_eql_struct,show (10000:Nat)=9998+1+1 from rfl,Tryz.eqIn_piece]
 rfl
theorem neq_signed (h v z d e:Int) (s:ByteArray) (i:Int) (h' v' z' d' e':Int) (s':ByteArray) (i':Int) (w:World):(binOp .neq 193 (.agg #[.int .i64 h,.int .i64 v,.int .i64 z,.int .i64 d,.int .i64 e,.string s,.int .i64 i]) (.agg #[.int .i64 h',.int .i64 v',.int .i64 z',.int .i64 d',.int .i64 e',.string s',.int .i64 i'])).run Tryz.prog w= .ok (.bool (!decide ((⟨h,v,z,d,e,s,i⟩:Sg)=⟨h',v',z',d',e',s',i'⟩))) w:=by
 have u3:= Tryz.underlying3
 have a3:= Tryz.isAgg3
 have z3:= Tryz.sizeOf3
 have u9:= Tryz.underlying9
 have a9:= Tryz.isAgg9
 have z9:= Tryz.sizeOf9
 have hq: Tryz.prog.underlying 42 =some (.struct (Tryz.prog.fieldsOf 42)):=by kernel_rfl
 have hqp: Tryz.prog.stoodInHeld 42 =false:=by kernel_rfl
 have aq:= Tryz.isAgg42
 have zq:= Tryz.sizeOf42
 have hS: Tryz.prog.underlying 193 =some (.struct (Tryz.prog.fieldsOf 193)):=by kernel_rfl
 have hp: Tryz.prog.stoodInHeld 193 =false:=by kernel_rfl
 have hpc:=fun s t i j w=> Tryz.eqIn_piece 9997 s t i j w
 rw [run_neq_struct,show (10000:Nat)=9997+1+1+1 from rfl,run_equalIn_agg w (9997+1+1) 193 _ _ hS hp]
 simp only [Program.fieldsOf,Tryz.underlying193]
 go_simp
 (try simp only [Sg.mk.injEq])
 by_cases h1:h=h'<;> by_cases h2:v=v'<;> by_cases h3:z=z'<;> by_cases h4:d=d'<;> by_cases h5:e=e'<;> by_cases h6:s=s'<;> by_cases h7:i=i'<;> simp [h1,h2,h3,h4,h5,h6,h7,tol_iff]
def putL (N:Nat):Nat→List Value→World→World
 | _,[],w=>w
 | i,v::vs,w=>putL N (i+1) vs (w.setCell ⟨N,i,none⟩ v)
theorem putL_below {w0:World} {B N:Nat} (hN:B≤N): ∀(vs:List Value) (i:Nat) (w:World),Below B w0 w→Below B w0 (putL N i vs w)
 | [],_,_,h=>h
 | v::vs,i,w,h=>putL_below hN vs (i+1) _ (h.setCell (p:=⟨N,i,none⟩) hN v)
theorem putL_chg {M:Nat→Nat→Prop} {w0:World} {N:Nat} (hM: ∀i,M N i): ∀(vs:List Value) (i:Nat) (w:World),Chg M w0 w→Chg M w0 (putL N i vs w)
 | [],_,_,h=>h
 | v::vs,i,w,h=>putL_chg hM vs (i+1) _ (h.setCell v (hM i))
theorem putL_heap {N:Nat} {T:TypeId}: ∀(vs:List Value) (pre cur:List Value) (w:World),w.heap[N]? =some (.cells (pre++cur).toArray T (0,0))→cur.length=vs.length→(putL N pre.length vs w).heap[N]? =some (.cells (pre++vs).toArray T (0,0))
 | [],pre,cur,w,h,hl=>by
   have:cur=[]:=List.eq_nil_of_length_eq_zero hl
   subst this
   exact h
 | v::vs,pre,c::cur,w,h,hl=>by
   have h1:=heap_setCell_same w N pre.length _ T v h
   have h2:((pre++c::cur).toArray.setIfInBounds pre.length v)=((pre++[v])++cur).toArray:=by
    simp [List.set_append_right]
   rw [h2] at h1
   have h3:=putL_heap vs (pre++[v]) cur (w.setCell ⟨N,pre.length,none⟩ v) h1 (by simpa using hl)
   rw [List.length_append,List.append_assoc] at h3
   exact h3
 | v::vs,pre,[],w,h,hl=>by simp at hl
theorem putL_full {N:Nat} {T:TypeId} {cur vs:List Value} {w:World} (h:w.heap[N]? =some (.cells cur.toArray T (0,0))) (hl:cur.length=vs.length):(putL N 0 vs w).heap[N]? =some (.cells vs.toArray T (0,0)):=putL_heap vs [] cur w h hl
end Go.Proofs.YtndlihclgdkpaaaGreatDoor

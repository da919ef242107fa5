/- The document's Book: slices and appends of receipts; insertion. -/
import Derived.Laws.AppendOwnNone
import Derived.Test.YtndlihclgdkpaaaGreatDoorGg
import Derived.Test.YtndlihclgdkpaaaGreatDoorQfb
set_option linter.unusedVariables false
set_option linter.unusedSimpArgs false
open Go.Lib (hid)
namespace Go.Proofs.YtndlihclgdkpaaaGreatDoor
open Go.RowKit
open Kit (Chg)
open Sha (v)
open Go.Proofs.YtndlihclgdkpaaaGreatDoor.One

theorem Tryz.elemBk: Tryz.prog.elem 71 = 47 :=by kernel_rfl
theorem Tryz.elemRs: Tryz.prog.elem 32 = 47 :=by kernel_rfl
theorem Tryz.sizeOfRs (W:World):(Go.sizeOf 47).run Tryz.prog W= .ok 14 W:=by kernel_rfl
def sub14 (a:Option Addr) (l cap:Nat):Option Addr:=if cap=l then a else a.map (·.add (l*14))
theorem sliceBk_h (a:Option Addr) (n cap h:Nat) (hh:h≤cap) (W:World):(Instr.slice 71 (.slice a n cap) none (some (.int .i64 (h:Int))) none).run Tryz.prog W= .ok (.slice (sub14 a 0 cap) h cap) W:=by
 rw [run_slice_h W 71 _ _ _ (by rw [Tryz.elemBk];exact Tryz.underlying71) .i64 _ (by omega) (by omega),Tryz.elemBk,Tryz.sizeOfRs]
 simp [Result.andThen,sliced,sub14]
theorem sliceBk_l (a:Option Addr) (n cap l:Nat) (hl:l≤n) (W:World):(Instr.slice 71 (.slice a n cap) (some (.int .i64 (l:Int))) none none).run Tryz.prog W= .ok (.slice (sub14 a l cap) (n - l) (cap - l)) W:=by
 rw [run_slice_l W 71 _ _ _ (by rw [Tryz.elemBk];exact Tryz.underlying71) .i64 _ (by omega) (by omega),Tryz.elemBk,Tryz.sizeOfRs]
 simp [Result.andThen,sliced,sub14]
theorem sliceRs_h (a:Option Addr) (n cap h:Nat) (hh:h≤cap) (W:World):(Instr.slice 32 (.slice a n cap) none (some (.int .i64 (h:Int))) none).run Tryz.prog W= .ok (.slice (sub14 a 0 cap) h cap) W:=by
 rw [run_slice_h W 32 _ _ _ (by rw [Tryz.elemRs];exact Tryz.underlying32) .i64 _ (by omega) (by omega),Tryz.elemRs,Tryz.sizeOfRs]
 simp [Result.andThen,sliced,sub14]
theorem sliceRs_l (a:Option Addr) (n cap l:Nat) (hl:l≤n) (W:World):(Instr.slice 32 (.slice a n cap) (some (.int .i64 (l:Int))) none none).run Tryz.prog W= .ok (.slice (sub14 a l cap) (n - l) (cap - l)) W:=by
 rw [run_slice_l W 32 _ _ _ (by rw [Tryz.elemRs];exact Tryz.underlying32) .i64 _ (by omega) (by omega),Tryz.elemRs,Tryz.sizeOfRs]
 simp [Result.andThen,sliced,sub14]
theorem RcsAt.part {w:World} {a:Option Addr} {xs:List RcV} {cap:Nat} (h:RcsAt w a xs) (hc:xs.length≤cap) (hnil:a=none→cap=0) (l m:Nat) (hlm:l+m≤xs.length):SrcAt w (sub14 a l cap) m (cap - l) 14 (rcv ((xs.drop l).take m)):=by
 have hlen:((xs.drop l).take m).length=m:=by rw [List.length_take,List.length_drop];omega
 cases a with
 | none=>
   have h0:=hnil rfl
   have hm0:m=0:=by omega
   subst hm0
   refine .inl ⟨?_,rfl,by omega,by rw [List.take_zero];rfl⟩
   unfold sub14
   split<;> rfl
 | some ad=>
   refine .inr ⟨by rw [rcv_len,hlen],?_⟩
   by_cases hcl:cap=l
   ·have hm0:m=0:=by omega
    subst hm0
    refine ⟨ad,by unfold sub14;rw [if_pos hcl],fun j u hu=> ?_⟩
    rw [List.take_zero] at hu
    simp [rcv] at hu
   ·refine ⟨ad.add (l*14),by unfold sub14;rw [if_neg hcl];rfl,fun j u hu=> ?_⟩
    obtain ⟨k,hk,hj,hu2⟩:=rcv_get _ hu
    rw [hlen] at hk
    rcases h.1 with e | ⟨b,o,e,hcell⟩
    ·rw [e] at hlm;simp at hlm;omega
    ·injection e with e
     subst e
     have h1:=hcell (l+k) (by omega) (j % 14) (by omega)
     have e2:((xs.drop l).take m)[k]'(by rw [hlen];exact hk)=xs[l+k]'(by omega):=by simp
     rw [e2] at hu2
     rw [hu2] at h1
     rw [add_none,add_none,← h1]
     congr 2
     omega
section
variable {a:Act} {Q:Exit→Act→World→Prop} {K:Act→World→Prop} {o:Oper}
theorem wp_app_rs (T:TypeId) (hT: Tryz.prog.underlying T=some (.slice 47)) {w0:World} (s x:Operand) (ho:o.op= .call { callee:= .builtin .append,args:= #[s,x],argTypes:= #[T,T] })
    (base:Nat) (v:Value) (L:Nat) (xs:List RcV) (hs:a.eval s=v) (hown:w0.ownsRow base 47 14 v L (rcv xs)) (hb:base≤w0.heap.size) (hL:L≤1000000)
    (ao:Option Addr) (m c:Nat) (ys:List RcV) (hx:a.eval x= .slice ao m c) (hsrc:SrcAt w0 ao m c 14 (rcv ys)) (hm:m≤1000000)
    (h: ∀v' w',w'.ownsRow base 47 14 v' (L+m) (rcv (xs++ys))→Below base w0 w'→w0.grownBy w' v.ownBlock→K (a.put o.dst v') w'):o.wp Tryz.prog a w0 K Q:=by
 obtain ⟨i0,hi,hz0,hz1,hz2⟩:=info_parts Tryz.infoRc
 rcases hsrc with ⟨rfl,rfl,rfl,hnil⟩ | ⟨hl,ad,rfl,hn⟩
 ·have hrun:=run_append_owned_none (P:= Tryz.prog) (w:=w0) base T o.type 47 i0 14 hT hi v L (rcv xs) hown
  unfold Oper.wp execOp
  simp only [ho,resolve,invoke,builtin,Sem.run_bind,Sem.run_pure,Result.andThen_ok,List.map_toArray,List.map_cons,List.map_nil,hs,hx,hrun]
  refine h v w0 ?_ (Below.refl _ _) ⟨rfl,rfl,rfl,Nat.le_refl _,fun _ _ _=>rfl⟩
  rw [rcv_app,hnil,List.append_nil,Nat.add_zero]
  exact hown
 ·obtain ⟨v',w',hr,h2,h3,_⟩:=run_append_own (P:= Tryz.prog) w0 base T o.type 47 i0 (.agg zeroRV.cells.toArray) 14 176 hT hi hz0 hz1 hz2 rfl (by decide) v L (rcv xs) hown ad m c (rcv ys) hl hn (rcv_one _) (by unfold maxLen;omega) (by omega) hb
  unfold Oper.wp execOp
  simp only [ho,resolve,invoke,builtin,Sem.run_bind,Sem.run_pure,Result.andThen_ok,List.map_toArray,List.map_cons,List.map_nil,hs,hx,hr]
  exact h v' w' (by rw [rcv_app];exact h2) ((Chg.of_grown h3 (fun q _ e=>(hown.lt q e).1):Chg (fun q _=>base≤q) w0 w').below hb (fun q i hq h=>by omega)) h3
end
theorem joinI {P:Program} {id:Nat} {ops:Array Oper} {Q:Exit→Act→World→Prop} {a:Act} {w:World} (act:Nat→Value→Nat→Value→Value→Act) (F:Nat→Value→Nat→Value→Value→World→Prop)
    (main:(∀n v m u x V,F n v m u x V→Q .normal (act n v m u x) V)→(Code.region id ops true).wp P Q a w)
    (rest: ∀n v m u x V,F n v m u x V→Q .normal (act n v m u x) V):(Code.region id ops true).wp P Q a w:=main rest
end Go.Proofs.YtndlihclgdkpaaaGreatDoor

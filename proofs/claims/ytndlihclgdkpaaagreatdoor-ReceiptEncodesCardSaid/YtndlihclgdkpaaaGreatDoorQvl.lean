/- Rows of values of the document; its Encode of a receipt. -/
import Derived.Great.BuildSlice
import Derived.Test.YtndlihclgdkpaaaGreatDoorGc
import Derived.Test.YtndlihclgdkpaaaGreatDoorGj
import Derived.Test.YtndlihclgdkpaaaGreatDoorGk
import Derived.Test.YtndlihclgdkpaaaGreatDoorGl
set_option linter.unusedVariables false
set_option linter.unusedSimpArgs false
open Go.Lib (hid)
namespace Go.Proofs.YtndlihclgdkpaaaGreatDoor
open Go.RowKit
open Kit (Chg)
open Sha (v)
open Go.Proofs.YtndlihclgdkpaaaGreatDoor.One

def rvs (l:List RV):List Value:=l.flatMap RV.cells
theorem rvs_len (l:List RV):(rvs l).length=l.length*6:=rw_len RV.len6 l
theorem rvs_app (l m:List RV):rvs (l++m)=rvs l++rvs m:=List.flatMap_append
theorem RV.one (x:RV): ∀v ∈ x.cells,v.oneCell'=true:=fun v h=>by
 cases x<;> (simp only [RV.cells,List.mem_cons,List.not_mem_nil,or_false] at h;rcases h with rfl | rfl | rfl | rfl | rfl | rfl<;> rfl)
theorem rvs_one (l:List RV): ∀v ∈ rvs l,v.oneCell'=true:=fun v h=>by
 obtain ⟨x,_,hx⟩:=List.mem_flatMap.1 h
 exact x.one v hx
theorem rvs_get (xs:List RV) {j:Nat} {u:Value} (h:(rvs xs)[j]? =some u): ∃(k:Nat) (hk:k<xs.length),j=k*6+j % 6∧xs[k].cells[j % 6]? =some u:=by
 have hj:j<xs.length*6:=by rw [← rvs_len];exact (List.getElem?_eq_some_iff.1 h).1
 have hk:j/6<xs.length:=by omega
 refine ⟨j/6,hk,by omega,?_⟩
 have h1:=rw_get RV.len6 xs (j/6) hk (j % 6) (by omega)
 rw [show j/6*6+j % 6=j by omega] at h1
 rw [← h1]
 exact h
theorem Tryz.infoVal:(Tryz.prog.info? 187).map (fun i=>(i.zero,i.size,i.bytes))=some (some (.agg #[.int .i64 0,.int .u64 0,.int .i64 0,.bool false,.string ByteArray.empty,.int .i64 0]),6,56):=by kernel_rfl
theorem VsAt.src {w:World} {ad:Addr} {xs:List RV} (h:VsAt w (some ad) xs) (c:Nat):SrcAt w (some ad) xs.length c 6 (rvs xs):=by
 refine .inr ⟨rvs_len xs,ad,rfl,fun j u hu=> ?_⟩
 obtain ⟨k,hk,hj,hu2⟩:=rvs_get xs hu
 rcases h with e | ⟨b,o,e,hcell⟩
 ·rw [e] at hk;simp at hk
 ·injection e with e
  subst e
  rw [add_none,← hcell k hk (j % 6) u hu2]
  congr 2
  omega
theorem own_vs {w:World} {B n:Nat} {v:Value} {l:List RV} (h:w.ownsRow B 187 6 v n (rvs l)): ∃a cap,v= .slice a n cap∧VsAt w a l∧l.length=n:=by
 obtain ⟨h1,h2⟩:=h
 rw [rvs_len] at h1
 have hln:l.length=n:=by omega
 rcases h2 with ⟨rfl,rfl⟩ | ⟨g,cap,cur,rfl,hb,hg,hcap,hmax,hsz,htake⟩
 ·exact ⟨none,0,rfl,.inl (List.eq_nil_of_length_eq_zero hln),hln⟩
 ·refine ⟨some ⟨g,0,none⟩,cap,rfl,.inr ⟨g,0,rfl,fun k hk j u hu=> ?_⟩,hln⟩
  have hj6:j<6:=by have:=(List.getElem?_eq_some_iff.1 hu).1;rw [RV.len6] at this;exact this
  have e1:=rw_get RV.len6 l k hk j hj6
  rw [← hu,← e1,show l.flatMap RV.cells=rvs l from rfl,← htake,List.getElem?_take_of_lt (by omega),Array.getElem?_toList,show 0+k*6+j=k*6+j by omega]
  exact cell_of_row _ _ _ _ _ _ hg
theorem own_new {w0 w:World} {B g:Nat} {l:List RV} (hg:w.heap[g]? =some (.cells (rvs l).toArray 187 (0,0))) (hb:B≤g) (hl:l.length≤100000):w.ownsRow B 187 6 (.slice (some ⟨g,0,none⟩) l.length l.length) l.length (rvs l):=by
 refine ⟨rvs_len l,.inr ⟨g,l.length,_,rfl,hb,hg,Nat.le_refl _,by unfold maxLen;omega,by simpa using rvs_len l,?_⟩⟩
 rw [List.take_of_length_le (by simpa using Nat.le_of_eq (rvs_len l))]
section
variable {ops:Array Oper} {rest:List Oper} {o:Oper} {a:Act} {Q:Exit→Act→World→Prop} {K:Act→World→Prop}
theorem app_vs {w0:World} (hgd:o.guard=none) (s x:Operand) (ho:o.op= .call { callee:= .builtin .append,args:= #[s,x],argTypes:= #[184, 184] })
    (base:Nat) (v:Value) (L:Nat) (xs:List RV) (hs:a.eval s=v) (hown:w0.ownsRow base 187 6 v L (rvs xs)) (hb:base≤w0.heap.size) (hL:L≤1000000)
    (ad:Addr) (m c:Nat) (ys:List RV) (hx:a.eval x= .slice (some ad) m c) (hV:VsAt w0 (some ad) ys) (hy:ys.length=m) (hm:m≤1000000)
    (h: ∀v' w',w'.ownsRow base 187 6 v' (L+m) (rvs (xs++ys))→Below base w0 w'→wpList Tryz.prog ops Q rest (a.put o.dst v') w'):wpList Tryz.prog ops Q (o::rest) a w0:=by
 obtain ⟨i0,hi,hz0,hz1,hz2⟩:=info_parts Tryz.infoVal
 subst hy
 refine wpList_append_src hgd s x 184 ho base 187 i0 _ 6 56 Tryz.underlying184 hi hz0 hz1 hz2 rfl (by decide) v L (rvs xs) hs hown (some ad) ys.length c (rvs ys) hx (hV.src c) (rvs_one ys) (by unfold maxLen;omega) (by omega) hb ?_
 intro v' w' h1 h2
 refine h v' w' (by rw [rvs_app];exact h1) ?_
 exact (Chg.of_grown h2 (fun q _ e=>(hown.lt q e).1):Chg (fun q _=>base≤q) w0 w').below hb (fun q i hq h=>by omega)
theorem wp_app_vs {w0:World} (s x:Operand) (ho:o.op= .call { callee:= .builtin .append,args:= #[s,x],argTypes:= #[184, 184] })
    (base:Nat) (v:Value) (L:Nat) (xs:List RV) (hs:a.eval s=v) (hown:w0.ownsRow base 187 6 v L (rvs xs)) (hb:base≤w0.heap.size) (hL:L≤1000000)
    (ad:Addr) (m c:Nat) (ys:List RV) (hx:a.eval x= .slice (some ad) m c) (hV:VsAt w0 (some ad) ys) (hy:ys.length=m) (hm:m≤1000000)
    (h: ∀v' w',w'.ownsRow base 187 6 v' (L+m) (rvs (xs++ys))→Below base w0 w'→K (a.put o.dst v') w'):o.wp Tryz.prog a w0 K Q:=by
 obtain ⟨i0,hi,hz0,hz1,hz2⟩:=info_parts Tryz.infoVal
 subst hy
 have hsrc: ∀j u,(rvs ys)[j]? =some u→w0.cell? (ad.add j)=some u:=by
  rcases hV.src c with ⟨h1,_⟩ | ⟨_,ad',h1,h2⟩
  ·cases h1
  ·injection h1 with h1
   subst h1
   exact h2
 obtain ⟨v',w',hr,h2,h3,_,_⟩:=run_append_own_at (P:= Tryz.prog) w0 base 184 o.type 187 i0 (.agg #[.int .i64 0,.int .u64 0,.int .i64 0,.bool false,.string ByteArray.empty,.int .i64 0]) 6 56 Tryz.underlying184 hi hz0 hz1 hz2 rfl (by decide) v L (rvs xs) hown ad ys.length c (rvs ys) (rvs_len ys) hsrc (rvs_one _) (by unfold maxLen;omega) (by omega) hb
 unfold Oper.wp execOp
 simp only [ho,resolve,invoke,builtin,Sem.run_bind,Sem.run_pure,Result.andThen_ok,List.map_toArray,List.map_cons,List.map_nil,hs,hx,hr]
 exact h v' w' (by rw [rvs_app];exact h2) ((Chg.of_grown h3 (fun q _ e=>(hown.lt q e).1):Chg (fun q _=>base≤q) w0 w').below hb (fun q i hq h=>by omega))
end
def lstV (ss:List ByteArray) (k:Nat):List RV:=RV.count ss.length::(ss.take k).map RV.sum
theorem lstV_enc (ss:List ByteArray):(lstV ss ss.length).flatMap RV.enc=encL ss:=by
 unfold lstV encL
 rw [List.take_length,List.flatMap_cons,List.flatMap_map]
 rfl
set_option maxRecDepth 100000 in
set_option maxHeartbeats 4000000 in
theorem list43_any (a:Option Addr) (c L:Nat) (ss:List ByteArray) (hLe:ss.length=L) (hL:L≤100000) (w:World) (hS:StrsAt w a ss):
    Calls Tryz.prog 125 #[.slice a L c] w fun e w'=> ∃v,e= .returned v∧w'.ownsRow w.heap.size 187 6 v (L+1) (rvs (lstV ss L))∧Below w.heap.size w w':=by
 have HLE:=hid hLe
 have HS:=hid hS
 obtain ⟨N,hN⟩:=ex_eq w.heap.size
 have HN:=hid hN
 clear hLe hS hN
 go_enter Tryz.func125,Tryz.ntmps125
 go_upto_region 3 with fail
 have HO0:Hid ((w.alloc (.cells #[.int .i64 7,.int .u64 0,.int .i64 (L:Int),.bool false,.string { data:= #[] },.int .i64 0] 187)).ownsRow N 187 6 (.slice (some ⟨w.heap.size,0,none⟩) 1 1) (0+1) (rvs (lstV ss 0))):=hid (by
  have h:=own_new (w0:=w) (l:=[RV.count L]) (w:=w.alloc (.cells #[.int .i64 7,.int .u64 0,.int .i64 (L:Int),.bool false,.string { data:= #[] },.int .i64 0] 187)) (B:=N) (heap_alloc_new _ _) (by have:=HN.o;omega) (by simp)
  have e:lstV ss 0=[RV.count L]:=by unfold lstV;rw [List.take_zero,HLE.o];rfl
  rw [e]
  exact h)
 have HB0:Hid (Below N w (w.alloc (.cells #[.int .i64 7,.int .u64 0,.int .i64 (L:Int),.bool false,.string { data:= #[] },.int .i64 0] 187))):=hid ((Below.refl _ _).alloc (by have:=HN.o;omega) _)
 go_loopw [3,4] (fun v z wr=> ∃k:Nat,k≤L∧z= .int .i64 (k:Int)∧Hid (wr.ownsRow N 187 6 v (k+1) (rvs (lstV ss k)))∧Hid (Below N w wr)) (fun _ z _=>L - (intOf z).toNat)
 case atStart=>exact ⟨0,Nat.zero_le _,rfl,HO0,HB0⟩
 case round=>
  obtain ⟨k,hk,rfl,HO,HB⟩:=hrel
  by_cases hlt:k<L
  rotate_left
  ·have hki: ¬(k:Int)<(L:Int):=by omega
   have hke:k=L:=by omega
   subst hke
   go_wp2_with fail
   go_ret
   exact ⟨_,rfl,by rw [HN.o];exact HO.o,by rw [HN.o];exact HB.o⟩
  have hki:(k:Int)<(L:Int):=by omega
  obtain ⟨b1,o1,rfl,hcs⟩: ∃b o,a=some ⟨b,o,none⟩∧ ∀i,i<ss.length→wr.cell? ⟨b,o+i,none⟩=some (.string (ss.getD i ByteArray.empty)):=by
   rcases HS.o.later (by rw [HN.o];exact HB.o) with h | h
   ·have:=HLE.o;rw [h] at this;simp at this;omega
   ·exact h
  have hc:=hcs k (by rw [HLE.o];exact hlt)
  have HSN:Hid (lstV ss (k+1)=lstV ss k++[RV.sum (ss.getD k ByteArray.empty)]):=hid (by
   unfold lstV
   rw [List.take_add_one,lE (by rw [HLE.o];exact hlt),List.map_append,lD,lE (by rw [HLE.o];exact hlt)]
   rfl)
  obtain ⟨s,hse⟩:=ex_eq (ss.getD k ByteArray.empty)
  rw [hse] at hc HSN
  clear hcs hse
  go_wp2_with (first
   | (go_at_call 126
      (with_reducible refine (sum43_any s _).mono ?_)
      rintro e w2 ⟨rfl,h2⟩
      have H2:Hid (Below N w w2):=hid (HB.o.trans (h2.mono (by have:=HB.o.size;have:=HN.o;omega)))
      have HO2:Hid ((w2.alloc (.cells #[.int .i64 6,.int .u64 0,.int .i64 0,.bool false,.string s,.int .i64 0] 187)).ownsRow N 187 6 u3 (k+1) (rvs (lstV ss k))):=hid (own_later HO.o (h2.trans ((Below.refl _ _).alloc h2.size _)))
      have H3:Hid (Below N w (w2.alloc (.cells #[.int .i64 6,.int .u64 0,.int .i64 0,.bool false,.string s,.int .i64 0] 187))):=hid (H2.o.alloc (by have:=H2.o.size;have:=HN.o;omega) _)
      have HV2:Hid (VsAt (w2.alloc (.cells #[.int .i64 6,.int .u64 0,.int .i64 0,.bool false,.string s,.int .i64 0] 187)) (some ⟨w2.heap.size,0,none⟩) [RV.sum s]):=hid (vs_of_row (heap_alloc_new _ _) rfl)
      clear h2 hc)
   | (at_builtin
      refine app_vs rfl _ _ rfl N u3 (k+1) (lstV ss k) (by rfl) HO2.o (by have:=H3.o.size;have:=HN.o;omega) (by omega) ⟨w2.heap.size,0,none⟩ 1 1 [RV.sum s] (by rfl) HV2.o rfl (by decide) ?_
      intro v3 w3 ho3 hb3
      have HO3:=hid ho3
      have HB3:Hid (Below N w w3):=hid (H3.o.trans hb3)
      clear ho3 hb3))
  go_roundw
  case rel=>exact ⟨k+1,hlt,by go_num,hid (by rw [HSN.o];exact HO3.o),HB3⟩
  case measure=>simp [intOf];omega
end Go.Proofs.YtndlihclgdkpaaaGreatDoor

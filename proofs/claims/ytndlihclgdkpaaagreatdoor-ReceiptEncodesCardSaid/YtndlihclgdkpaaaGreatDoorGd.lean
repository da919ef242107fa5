/- Texts Rfn, Rft, Rfc, Rfg, merged. -/
import Derived.Great.BuildSlice
import Derived.ArgAppend
import Derived.Test.YtndlihclgdkpaaaGreatDoorGc
/- The document's encoding of a number. -/
set_option linter.unusedVariables false
set_option linter.unusedSimpArgs false
open Go.Lib (hid)
namespace Go.Proofs.YtndlihclgdkpaaaGreatDoor
open Go.RowKit
open Kit (Chg)
open Sha (v)
open Go.Proofs.YtndlihclgdkpaaaGreatDoor.One
set_option maxRecDepth 100000 in
set_option maxHeartbeats 1000000 in
theorem refNumber_any (n:Nat) (hn:n<18446744073709551616) (w:World):
    Calls Tryz.prog 213 #[.int .u64 (n:Int)] w fun e w'=> ∃v' c,e= .returned v'∧c=(num n).length∧w'.ownsRow w.heap.size 5 1 v' c (bvals (num n))∧Below w.heap.size w w':=by
 have HN10:=hid (num_len10 hn)
 obtain ⟨i0,hi,hz0,hz1,hz2⟩:=info_parts Tryz.info5
 have FI:=hid hi
 have FZ0:=hid hz0
 have FZ1:=hid hz1
 have FZ2:=hid hz2
 clear hi hz0 hz1 hz2
 go_enter Tryz.func213,Tryz.ntmps213
 go_upto_region 2 with fail
 refine wp_over (fun W=>Hid (W.ownsRow w.heap.size 5 1 (.slice (some ⟨w.heap.size,0,none⟩) 0 0) 0 (bvals []))∧Hid (Below w.heap.size w W)) ⟨own_empty (Nat.le_refl _),(Below.refl _ _).alloc (Nat.le_refl _) _⟩ ?_
 rintro W ⟨HOW0,HB0⟩
 obtain ⟨N,hN⟩:=ex_eq w.heap.size
 rw [hN] at HOW0 HB0 ⊢
 have HN:=hid hN
 clear hN
 go_loopw [0,3] (fun x y wr=> ∃(k:Nat) (cur:List Nat),x= .int .u64 (k:Int)∧k<18446744073709551616∧Hid (cur++num k=num n)∧Hid (wr.ownsRow N 5 1 y cur.length (bvals cur))∧Hid (Below N w wr)) (fun x _ _=>(intOf x).toNat)
 case atStart=>exact ⟨n,[],rfl,hn,rfl,HOW0.o,HB0.o⟩
 case round=>
  obtain ⟨k,cur,rfl,hk,HE,HOW,HBE⟩:=hrel
  have HCL:Hid (cur.length≤10):=hid (by have:=congrArg List.length HE.o;rw [List.length_append] at this;have:=HN10.o;omega)
  have HBS:Hid (N≤wr.heap.size):=hid (by have:=HBE.o.size;have:=HN.o;omega)
  by_cases h128:127<k
  ·have hi128:(127:Int)<(k:Int):=by omega
   have hrem:(k:Int).tmod 128=((k % 128:Nat):Int):=by rw [Int.tmod_eq_emod_of_nonneg (by omega)];omega
   have hquo:(k:Int).tdiv 128=((k/128:Nat):Int):=by rw [Int.tdiv_eq_ediv_of_nonneg (by omega)];omega
   have hkm:k % 128<128:=Nat.mod_lt _ (by decide)
   have HNE:Hid (cur++[k % 128+128]++num (k/128)=num n):=hid (by rw [← HE.o,num_big h128];simp)
   obtain ⟨r,hr⟩:=ex_eq (k % 128)
   rw [hr] at hrem hkm HNE
   have HBV:Hid (bvals cur++[.int .u8 ((r:Int)+128)]=bvals (cur++[r+128])):=hid (by rw [bvals_snoc,Int.natCast_add];rfl)
   have hk2:k/128<k:=by omega
   obtain ⟨q,hq⟩:=ex_eq (k/128)
   rw [hq] at hquo HNE hk2
   clear hr hq
   go_upto_region 4 with (first
    | (at_builtin
       refine wpList_append_own _ rfl _ _ 52 rfl N 5 i0 (.int .u8 0) 1 1 Tryz.underlying52 FI.o FZ0.o FZ1.o FZ2.o rfl (by decide) _ _ _ rfl (HOW.o.alloc _) ⟨wr.heap.size,0,none⟩ 1 1 [.int .u8 ((r:Int)+128)] rfl rfl (cell_one_new _ _ _) (by simp [Value.oneCell']) (by have:=HCL.o;unfold maxLen;omega) (by have:=HCL.o;omega) (by have:=HBS.o;simp;omega) ?_
       intro v' w4 hown4 hgr4 _
       have HO4:Hid (w4.ownsRow N 5 1 v' (cur.length+1) (bvals (cur++[r+128]))):=by rw [← HBV.o];exact hown4
       have HC4:Hid (Chg (fun q _=>N≤q) wr w4):=(Chg.alloc1 wr _).trans (Chg.of_grown hgr4 (fun q _ e=>(HOW.o.lt q e).1))
       clear hown4 hgr4))
   go_wp2_with fail
   go_roundw
   case rel=>exact ⟨q,cur++[r+128],by go_num,by omega,HNE.o,by rw [List.length_append];exact HO4.o,HBE.o.trans (HC4.o.below HBS.o (fun q i hq h=>by omega))⟩
   case measure=>simp [intOf];omega
  ·have hi128: ¬(127:Int)<(k:Int):=by omega
   have HBV:Hid (bvals cur++[.int .u8 (k:Int)]=bvals (cur++[k])):=hid (by rw [bvals_snoc])
   have HNE:Hid (cur++[k]=num n):=hid (by rw [← HE.o,num_small (by omega)])
   go_wp2_with (first
    | (at_builtin
       refine wpList_append_own _ rfl _ _ 52 rfl N 5 i0 (.int .u8 0) 1 1 Tryz.underlying52 FI.o FZ0.o FZ1.o FZ2.o rfl (by decide) _ _ _ rfl (HOW.o.alloc _) ⟨wr.heap.size,0,none⟩ 1 1 [.int .u8 (k:Int)] rfl rfl (cell_one_new _ _ _) (by simp [Value.oneCell']) (by have:=HCL.o;unfold maxLen;omega) (by have:=HCL.o;omega) (by have:=HBS.o;simp;omega) ?_
       intro v' w4 hown4 hgr4 _
       have HO4:Hid (w4.ownsRow N 5 1 v' (cur.length+1) (bvals (cur++[k]))):=by rw [← HBV.o];exact hown4
       have HC4:Hid (Chg (fun q _=>N≤q) wr w4):=(Chg.alloc1 wr _).trans (Chg.of_grown hgr4 (fun q _ e=>(HOW.o.lt q e).1))
       clear hown4 hgr4))
   go_ret
   have HLE:Hid (cur.length+1=(num n).length):=hid (by rw [← HNE.o,List.length_append];rfl)
   exact ⟨_,rfl,by have h:=HO4.o;rw [HNE.o,HLE.o] at h;rw [HN.o];exact h,by rw [HN.o];exact HBE.o.trans (HC4.o.below HBS.o (fun q i hq h=>by omega))⟩
theorem conv_str_ex (W:World) (s:ByteArray) (hs:s.size≤maxLen): ∃cp W2,(convert 9 52 (.string s)).run Tryz.prog W= .ok (.slice (some ⟨W.heap.size,0,none⟩) s.size cp) W2∧s.size≤cp∧BytesAt W2 (some ⟨W.heap.size,0,none⟩) (nb s)∧Below W.heap.size W W2:=
 ⟨_,_,conv_str W s,grownCap_ge _ _ _ _,bytesWorld_bytes W s hs,bytesWorld_below W s⟩
theorem str_at (W:World) (s:ByteArray) (hs:s.size≤maxLen) {L:Nat} (hL:s.size=L): ∃cp W2,(convert 9 52 (.string s)).run Tryz.prog W= .ok (.slice (some ⟨W.heap.size,0,none⟩) L cp) W2∧L≤cp∧BytesAt W2 (some ⟨W.heap.size,0,none⟩) (nb s)∧Below W.heap.size W W2:=by
 subst hL
 exact conv_str_ex W s hs
section
variable {ops:Array Oper} {rest:List Oper} {o:Oper} {a:Act} {Q:Exit→Act→World→Prop}
end
theorem conv_l {w:World} {a:Option Addr} {bs:List Nat} (h:BytesAt w a bs) {n:Nat} (hl:bs.length=n) (cap:Nat) {s:ByteArray} (hs:strB bs=s):(convert 52 9 (.slice a n cap)).run Tryz.prog w= .ok (.string s) w:=by
 subst hl hs
 exact conv_bytes h cap
theorem num_pos (n:Nat):0<(num n).length:=by
 by_cases h:n<128
 ·rw [num_small h];exact Nat.zero_lt_one
 ·rw [num_big (by omega)];exact Nat.succ_pos _
theorem mk_ints (L:Nat) (hL:L≤100000) (W:World):(Instr.makeSlice 81 (.int .i64 (L:Int)) (.int .i64 (L:Int))).run Tryz.prog W= .ok (.slice (some ⟨W.heap.size,0,none⟩) L L) (W.alloc (.cells (natV (List.replicate L 0)).toArray 3)):=by
 obtain ⟨i0,hi0,hz0,hz1,hz2⟩:=info_parts Tryz.info3
 have h:=run_makeSlice (P:= Tryz.prog) (w:=W) 81 3 i0 _ Tryz.underlying81 hi0 hz0 .i64 .i64 (L:Int) (L:Int) (by omega) (by omega) (by rw [hz1];omega) (by rw [hz2];omega) (by omega)
 rw [h,hz1]
 simp only [Int.toNat_natCast,Nat.mul_one]
 have e:madeCells (Value.int .i64 0).cells L=(natV (List.replicate L 0)).toArray:=by
  unfold madeCells natV
  simp [Value.cells]
  apply Array.ext
  ·simp
  ·intro i h1 h2
   simp [Nat.mod_one]
 rw [e]
theorem ints_of_row {w:World} {g:Nat} {zs:List Nat} {t:TypeId} {fr:Nat × Nat} (h:w.heap[g]? =some (.cells (natV zs).toArray t fr)):IntsAt w (some ⟨g,0,none⟩) zs:=by
 refine .inr ⟨g,0,rfl,fun i hi=> ?_⟩
 rw [Nat.zero_add,cell_of_row _ _ _ _ _ _ h,List.getElem?_toArray]
 exact natV_get zs i hi
end Go.Proofs.YtndlihclgdkpaaaGreatDoor

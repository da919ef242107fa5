/- The document's SameAll, agree and covers. -/
import Derived.Lib.MinMax
import Derived.Test.YtndlihclgdkpaaaGreatDoorVrf
import Derived.Test.YtndlihclgdkpaaaGreatDoorRgt
set_option linter.unusedVariables false
set_option linter.unusedSimpArgs false
open Go.Lib (hid)
set_option maxHeartbeats 1000000
set_option maxRecDepth 100000
namespace Go.Proofs.YtndlihclgdkpaaaGreatDoor
open Go.RowKit
open Kit (Chg)
open Sha (v)
open Go.Proofs.YtndlihclgdkpaaaGreatDoor.One

theorem EntsAt.some {w:World} {a:Option Addr} {es:List Ent} (h:EntsAt w a es) (k:Nat) (hk:k<es.length): ∃b o,a=Option.some ⟨b,o,none⟩∧ ∀i,(h:i<es.length)→EntAt w b (o+i*6) es[i]:=by
 rcases h with h | h
 ·rw [h] at hk;simp at hk
 ·exact h
theorem sameAll_any (a:Option Addr) (c L:Nat) (es:List Ent) (hLe:es.length=L) (a':Option Addr) (c' L':Nat) (fs:List Ent) (hLf:fs.length=L') (hL:L≤1000000) (w:World) (hE:EntsAt w a es) (hF:EntsAt w a' fs):
    Calls Tryz.prog 233 #[.slice a L c,.slice a' L' c'] w fun e w'=>e= .returned (.bool (sameAllE es fs))∧Below w.heap.size w w':=by
 have HE:=hid hE
 have HLE:=hid hLe
 have HF:=hid hF
 have HLF:=hid hLf
 have HSA:Hid (sameAllE es fs=(decide (L=L') && agreeE es fs)):=hid (by unfold sameAllE;rw [hLe,hLf])
 obtain ⟨R,hR⟩:=ex_eq (sameAllE es fs)
 rw [hR] at HSA ⊢
 clear hE hLe hF hLf hR
 by_cases hll:L=L'
 rotate_left
 ·have hne:((L:Int) != (L':Int))=true:=by rw [bne_iff_ne];omega
  have HX:Hid (R=false):=hid (by rw [HSA.o,decide_eq_false hll];rfl)
  clear hll
  go_enter Tryz.func233,Tryz.ntmps233
  go_wp2_with fail
  go_ret
  exact ⟨by rw [HX.o];rfl,Below.refl _ _⟩
 subst hll
 have hne:((L:Int) != (L:Int))=false:=by simp
 have HSB:Hid (R=agreeE es fs):=hid (by rw [HSA.o,decide_eq_true rfl];rfl)
 obtain ⟨M,hM⟩:=ex_eq w.heap.size
 have HM:=hid hM
 clear hM
 go_enter Tryz.func233,Tryz.ntmps233
 go_upto_region 4 with fail
 go_loopw [5] (fun z wr=> ∃k:Nat,k≤L∧z= .int .i64 (k:Int)∧Hid (∀i,(hi:i<es.length)→(hj:i<fs.length)→i<k→sameE es[i] fs[i]=true)∧Hid (Below M w wr)) (fun z _=>L - (intOf z).toNat)
 case atStart=>exact ⟨0,by omega,rfl,hid (fun i hi hj h=>by omega),hid (Below.refl _ _)⟩
 case round=>
  obtain ⟨k,hk,rfl,HCR,HR⟩:=hrel
  by_cases hlt:k<L
  ·have hki:(k:Int)<(L:Int):=by omega
   have HK1:Hid (k<es.length):=hid (by rw [HLE.o];exact hlt)
   have HK2:Hid (k<fs.length):=hid (by rw [HLF.o];exact hlt)
   obtain ⟨b1,o1,rfl,hes⟩:=(HE.o.later (by rw [HM.o];exact HR.o)).some k HK1.o
   obtain ⟨b2,o2,rfl,hfs⟩:=(HF.o.later (by rw [HM.o];exact HR.o)).some k HK2.o
   have h1:=hes k HK1.o
   have h2:=hfs k HK2.o
   obtain ⟨q1,hq1⟩:=ex_eq (es[k]'HK1.o)
   obtain ⟨q2,hq2⟩:=ex_eq (fs[k]'HK2.o)
   have HQ1:=hid hq1
   have HQ2:=hid hq2
   rw [hq1] at h1
   rw [hq2] at h2
   clear hq1 hq2 hes hfs
   obtain ⟨d1,q1,k1,y1,z1,p1⟩:=q1
   obtain ⟨d2,q2,k2,y2,z2,p2⟩:=q2
   obtain ⟨x1,m1,c1,hm1,_,hB1,g0,g1,g2,g3,g4,g5⟩:=h1
   obtain ⟨x2,m2,c2,hm2,_,hB2,e0,e1,e2,e3,e4,e5⟩:=h2
   simp only at hm1 hB1 g0 g1 g2 g3 g4 g5 hm2 hB2 e0 e1 e2 e3 e4 e5
   have HB1:=hid hB1
   have HB2:=hid hB2
   have HSM:=hid (fun w h1 h2=>same46_any d1 q1 k1 y1 x1 m1 c1 p1 z1 hm1 d2 q2 k2 y2 x2 m2 c2 p2 z2 hm2 w h1 h2)
   obtain ⟨B,hB⟩:=ex_eq (sameE ⟨d1,q1,k1,y1,z1,p1⟩ ⟨d2,q2,k2,y2,z2,p2⟩)
   have HBQ:Hid (sameE (es[k]'HK1.o) (fs[k]'HK2.o)=B):=hid (by rw [HQ1.o,HQ2.o];exact hB)
   rw [hB] at HSM
   have HSS:Hid (∀V,Below wr.heap.size wr V→(V.cell? ⟨b1,o1+k*6,none⟩=some (.int .i64 d1)∧V.cell? ⟨b1,o1+k*6+1,none⟩=some (.int .i64 q1)∧V.cell? ⟨b1,o1+k*6+2,none⟩=some (.int .i64 k1)∧V.cell? ⟨b1,o1+k*6+3,none⟩=some (.int .i64 y1)∧V.cell? ⟨b1,o1+k*6+4,none⟩=some (.slice x1 m1 c1)∧V.cell? ⟨b1,o1+k*6+5,none⟩=some (.string p1)∧V.cell? ⟨b2,o2+k*6,none⟩=some (.int .i64 d2)∧V.cell? ⟨b2,o2+k*6+1,none⟩=some (.int .i64 q2)∧V.cell? ⟨b2,o2+k*6+2,none⟩=some (.int .i64 k2)∧V.cell? ⟨b2,o2+k*6+3,none⟩=some (.int .i64 y2)∧V.cell? ⟨b2,o2+k*6+4,none⟩=some (.slice x2 m2 c2)∧V.cell? ⟨b2,o2+k*6+5,none⟩=some (.string p2))):=hid (fun V h=>by
    have t: ∀{b j:Nat} {x:Value},wr.cell? ⟨b,j,none⟩=Option.some x→V.cell? ⟨b,j,none⟩=Option.some x:=fun h0=>(h.cell (World.block_lt_of_cell? wr _ h0)).trans h0
    exact ⟨t g0,t g1,t g2,t g3,t g4,t g5,t e0,t e1,t e2,t e3,t e4,t e5⟩)
   have hwr:IntKind.i64.wrap ((k:Int)+1)=(k:Int)+1:=by rw [IntKind.wrap_i64];omega
   clear hB hB1 hB2 hm1 hm2 g0 g1 g2 g3 g4 g5 e0 e1 e2 e3 e4 e5
   go_upto_region 6 with fail
   refine Kit.wp_region_gplan (fun V=>V.cell? ⟨b1,o1+k*6,none⟩=some (.int .i64 d1)∧V.cell? ⟨b1,o1+k*6+1,none⟩=some (.int .i64 q1)∧V.cell? ⟨b1,o1+k*6+2,none⟩=some (.int .i64 k1)∧V.cell? ⟨b1,o1+k*6+3,none⟩=some (.int .i64 y1)∧V.cell? ⟨b1,o1+k*6+4,none⟩=some (.slice x1 m1 c1)∧V.cell? ⟨b1,o1+k*6+5,none⟩=some (.string p1)∧V.cell? ⟨b2,o2+k*6,none⟩=some (.int .i64 d2)∧V.cell? ⟨b2,o2+k*6+1,none⟩=some (.int .i64 q2)∧V.cell? ⟨b2,o2+k*6+2,none⟩=some (.int .i64 k2)∧V.cell? ⟨b2,o2+k*6+3,none⟩=some (.int .i64 y2)∧V.cell? ⟨b2,o2+k*6+4,none⟩=some (.slice x2 m2 c2)∧V.cell? ⟨b2,o2+k*6+5,none⟩=some (.string p2)) [(true,0),(true,1),(true,2),(true,3),(true,4),(true,5),(true,6),(true,7),(false,8),(true,9)] (by kernel_rfl) (by kernel_rfl) (by kernel_rfl) (by kernel_rfl) (HSS.o _ (Below.refl _ _).drew) ?_
   iterate 8 (refine Kit.ghd (h:= ?_))
   refine Kit.gplan_op (by rfl) (by rfl) fun K hK=> ?_
   go_simp
   go_at_call 60
   with_reducible refine (HSM.o _ (HB1.o.later (Below.refl _ _).drew) (HB2.o.later (Below.refl _ _).drew)).mono ?_
   rintro e w3 ⟨rfl,h3⟩
   have H3:Hid (Below wr.heap.size wr w3):=hid ((Below.refl _ wr).drew.trans h3)
   have H4:Hid (Below M w w3):=hid (HR.o.trans (H3.o.mono (by have:=HR.o.size;have:=HM.o;omega)))
   clear h3
   refine hK _ _ (HSS.o _ H3.o) ?_
   clear hK K
   iterate 1 (refine Kit.ghd (h:= ?_))
   refine Kit.gdn (h:=?_)
   cases B
   ·have HX:Hid (R=false):=hid (by rw [HSB.o];exact agreeE_bad k HK1.o HK2.o HBQ.o)
    go_wp2_with fail
    go_ret
    exact ⟨by rw [HX.o];rfl,by rw [HM.o];exact H4.o⟩
   ·have HC2:Hid (∀i,(hi:i<es.length)→(hj:i<fs.length)→i<k+1→sameE es[i] fs[i]=true):=hid (fun i hi hj h=>by
       by_cases e:i=k
       ·subst e;exact HBQ.o
       ·exact HCR.o i hi hj (by omega))
    go_wp2_with fail
    go_roundw
    case rel=>exact ⟨k+1,hlt,by go_num,HC2.o,H4.o⟩
    case measure=>simp [intOf];omega
  ·have hki: ¬(k:Int)<(L:Int):=by omega
   have HX:Hid (R=true):=hid (by rw [HSB.o];exact agreeE_good (fun i hi hj=>HCR.o i hi hj (by have:=HLE.o;omega)))
   go_wp2_with fail
   go_ret
   exact ⟨by rw [HX.o];rfl,by rw [HM.o];exact HR.o⟩
theorem agree_any (a:Option Addr) (c L:Nat) (es:List Ent) (hLe:es.length=L) (hLc:L≤c) (a':Option Addr) (c' L':Nat) (fs:List Ent) (hLf:fs.length=L') (hLc':L'≤c') (hL:L≤1000000) (w:World) (hE:EntsAt w a es) (hF:EntsAt w a' fs):
    Calls Tryz.prog 164 #[.slice a L c,.slice a' L' c'] w fun e w'=>e= .returned (.bool (agreeE es fs))∧Below w.heap.size w w':=by
 obtain ⟨n,hn⟩:=ex_eq (min L L')
 have hnL:n≤L:=by omega
 have hnL':n≤L':=by omega
 have hmin:min (L:Int) (L':Int)=(n:Int):=by omega
 obtain ⟨s1,hs1⟩:=ex_eq (sub6 a 0 c)
 obtain ⟨s2,hs2⟩:=ex_eq (sub6 a' 0 c')
 have hsl1: ∀W,(Instr.slice 111 (.slice a L c) none (some (.int .i64 (n:Int))) none).run Tryz.prog W= .ok (.slice s1 n c) W:=fun W=>by rw [← hs1];exact sliceE_h a L c n (by omega) W
 have hsl2: ∀W,(Instr.slice 111 (.slice a' L' c') none (some (.int .i64 (n:Int))) none).run Tryz.prog W= .ok (.slice s2 n c') W:=fun W=>by rw [← hs2];exact sliceE_h a' L' c' n (by omega) W
 have HAG:Hid (agreeE es fs=sameAllE (es.take n) (fs.take n)):=hid (by
  unfold sameAllE
  have h:=agreeE_take es fs
  rw [hLe,hLf,hn] at h
  rw [h,decide_eq_true (by rw [List.length_take,List.length_take,hLe,hLf];omega),Bool.true_and])
 have HT1:Hid (EntsAt w.drew s1 (es.take n)):=hid (by
  have h:=ents_sub (cap:=c) hE (by omega) 0 n
  rw [hs1,List.drop_zero] at h
  exact h.later (Below.refl _ _).drew)
 have HT2:Hid (EntsAt w.drew s2 (fs.take n)):=hid (by
  have h:=ents_sub (cap:=c') hF (by omega) 0 n
  rw [hs2,List.drop_zero] at h
  exact h.later (Below.refl _ _).drew)
 have HSM:=hid (fun w h1 h2=>sameAll_any s1 c n (es.take n) (by rw [List.length_take,hLe];omega) s2 c' n (fs.take n) (by rw [List.length_take,hLf];omega) (by omega) w h1 h2)
 rw [← HAG.o] at HSM
 obtain ⟨R,hR⟩:=ex_eq (agreeE es fs)
 rw [hR] at HSM ⊢
 clear hE hF hLe hLf hs1 hs2 hn hR
 go_enter Tryz.func164,Tryz.ntmps164
 go_upto_region 2 with fail
 refine Kit.wp_region_gplan (fun V=>True) [(true,0),(true,1),(true,2),(true,3),(true,4),(true,5),(false,6),(true,7)] (by kernel_rfl) (by kernel_rfl) (by kernel_rfl) (by kernel_rfl) trivial ?_
 iterate 6 (refine Kit.ghd (h:= ?_))
 refine Kit.gplan_op (by rfl) (by rfl) fun K hK=> ?_
 go_simp
 go_at_call 233
 with_reducible refine (HSM.o _ HT1.o HT2.o).mono ?_
 rintro e w3 ⟨rfl,h3⟩
 have H3:Hid (Below w.heap.size w w3):=hid ((Below.refl _ w).drew.trans h3)
 clear h3
 refine hK _ _ trivial ?_
 clear hK K
 iterate 1 (refine Kit.ghd (h:= ?_))
 refine Kit.gdn (h:=?_)
 go_wp2_with fail
 go_ret
 exact ⟨rfl,H3.o⟩
end Go.Proofs.YtndlihclgdkpaaaGreatDoor

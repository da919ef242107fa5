/- cmp.Compare, cmp.Or; receipt.compare; the tests of Add and Holder. -/
import Derived.Sort.Grow
import Derived.Sort.Walk0
import Derived.Test.YtndlihclgdkpaaaGreatDoorGc
import Derived.Test.YtndlihclgdkpaaaGreatDoorGk
import Derived.Test.YtndlihclgdkpaaaGreatDoorGm
set_option linter.unusedVariables false
set_option linter.unusedSimpArgs false
open Go.Lib (hid)
set_option maxHeartbeats 4000000
set_option maxRecDepth 100000
namespace Go.Proofs.YtndlihclgdkpaaaGreatDoor
open Go.RowKit
open Kit (Chg)
open Sha (v)
open Go.Proofs.YtndlihclgdkpaaaGreatDoor.One

def cmpN (x y:Int):Int:=if x<y then -1 else if y<x then 1 else 0
def cmpS (x y:ByteArray):Int:=if ltS x y=true then -1 else if ltS y x=true then 1 else 0
def orI (zs:List Int):Int:=(zs.find? fun z=> !decide (z=0)).getD 0
theorem bytes_ltS (x y:ByteArray):Go.Op.bytesLess x.toList y.toList=ltS x y:=bytesLess_eq _ _
theorem isNaNI_any (x:Int) (w:World):Calls Tryz.prog 222 #[.int .i64 x] w fun e w'=>e= .returned (.bool false)∧w'=w:=by
 go_enter Tryz.func222,Tryz.ntmps222
 go_wp2_with fail
 go_ret
 exact ⟨by simp,rfl⟩
theorem isNaNS_any (x:ByteArray) (w:World):Calls Tryz.prog 236 #[.string x] w fun e w'=>e= .returned (.bool false)∧w'=w:=by
 go_enter Tryz.func236,Tryz.ntmps236
 go_wp2_with fail
 go_ret
 exact ⟨by simp,rfl⟩
theorem cmpN_any (x y:Int) (w:World):Calls Tryz.prog 153 #[.int .i64 x,.int .i64 y] w fun e w'=>e= .returned (.int .i64 (cmpN x y))∧w'=w:=by
 have h1:=fun w=>isNaNI_any x w
 have h2:=fun w=>isNaNI_any y w
 go_enter Tryz.func153,Tryz.ntmps153
 unfold cmpN
 by_cases ha:x<y
 ·rw [if_pos ha]
  go_wp2_with (first
   | (go_at_call 222
      (with_reducible refine (h1 _).mono ?_)
      rintro e w2 ⟨rfl,rfl⟩)
   | (go_at_call 222
      (with_reducible refine (h2 _).mono ?_)
      rintro e w2 ⟨rfl,rfl⟩))
  go_ret
  exact ⟨rfl,rfl⟩
 ·rw [if_neg ha]
  by_cases hb:y<x
  ·rw [if_pos hb]
   go_wp2_with (first
    | (go_at_call 222
       (with_reducible refine (h1 _).mono ?_)
       rintro e w2 ⟨rfl,rfl⟩)
    | (go_at_call 222
       (with_reducible refine (h2 _).mono ?_)
       rintro e w2 ⟨rfl,rfl⟩))
   go_ret
   exact ⟨rfl,rfl⟩
  ·rw [if_neg hb]
   go_wp2_with (first
    | (go_at_call 222
       (with_reducible refine (h1 _).mono ?_)
       rintro e w2 ⟨rfl,rfl⟩)
    | (go_at_call 222
       (with_reducible refine (h2 _).mono ?_)
       rintro e w2 ⟨rfl,rfl⟩))
   go_ret
   exact ⟨rfl,rfl⟩
theorem cmpS_any (x y:ByteArray) (w:World):Calls Tryz.prog 167 #[.string x,.string y] w fun e w'=>e= .returned (.int .i64 (cmpS x y))∧w'=w:=by
 have h1:=fun w=>isNaNS_any x w
 have h2:=fun w=>isNaNS_any y w
 have hl1:=bytes_ltS x y
 have hl2:(Go.Op.bytesLess x.toList y.toList || x.toList==y.toList)= !ltS y x:=by
  rw [hl1,str_tol]
  cases ha:ltS x y with
  | true=>rw [Bool.true_or];cases hb:ltS y x with | false=>rfl | true=>have:=ltS_trans ha hb;rw [ltS_irrefl] at this;cases this
  | false=>
    by_cases he:x=y
    ·subst he;simp [ha]
    ·rw [decide_eq_false he]
     rcases ltS_total he with h | h
     ·rw [ha] at h;cases h
     ·rw [h];rfl
 have hl3:(x.toList==y.toList)= !(ltS x y || ltS y x):=by
  rw [hl1] at hl2
  cases ha:ltS x y with
  | true=>
    have:x≠y:=fun e=>by rw [e,ltS_irrefl] at ha;cases ha
    rw [str_tol,decide_eq_false this]
    rfl
  | false=>rw [ha,Bool.false_or] at hl2;rw [hl2];rfl
 clear hl2
 unfold cmpS
 cases ha:ltS x y
 ·cases hb:ltS y x
  ·rw [ha] at hl1
   rw [ha,hb] at hl3
   go_enter Tryz.func167,Tryz.ntmps167
   go_wp2_with (first
    | (go_at_call 236
       (with_reducible refine (h1 _).mono ?_)
       rintro e w2 ⟨rfl,rfl⟩)
    | (go_at_call 236
       (with_reducible refine (h2 _).mono ?_)
       rintro e w2 ⟨rfl,rfl⟩))
   go_ret
   exact ⟨rfl,rfl⟩
  ·rw [ha] at hl1
   rw [ha,hb] at hl3
   go_enter Tryz.func167,Tryz.ntmps167
   go_wp2_with (first
    | (go_at_call 236
       (with_reducible refine (h1 _).mono ?_)
       rintro e w2 ⟨rfl,rfl⟩)
    | (go_at_call 236
       (with_reducible refine (h2 _).mono ?_)
       rintro e w2 ⟨rfl,rfl⟩))
   go_ret
   exact ⟨rfl,rfl⟩
 ·rw [ha] at hl1
  clear hl3
  go_enter Tryz.func167,Tryz.ntmps167
  go_wp2_with (first
   | (go_at_call 236
      (with_reducible refine (h1 _).mono ?_)
      rintro e w2 ⟨rfl,rfl⟩)
   | (go_at_call 236
      (with_reducible refine (h2 _).mono ?_)
      rintro e w2 ⟨rfl,rfl⟩))
  go_ret
  exact ⟨rfl,rfl⟩
theorem orI_hit {zs:List Int} {k:Nat} (hk:k<zs.length) (h0: ∀i (h:i<zs.length),i<k→zs[i]=0) (h1:zs[k]≠0):orI zs=zs[k]:=by
 unfold orI
 have:zs.find? (fun z=> !decide (z=0))=some zs[k]:=by
  rw [List.find?_eq_some_iff_getElem]
  exact ⟨by simp [h1],k,hk,rfl,fun j hj=>by simp [h0 j (by omega) hj]⟩
 rw [this]
 rfl
theorem orI_none {zs:List Int} (h0: ∀i (h:i<zs.length),zs[i]=0):orI zs=0:=by
 unfold orI
 have:zs.find? (fun z=> !decide (z=0))=none:=by
  rw [List.find?_eq_none]
  intro x hx
  obtain ⟨i,hi,rfl⟩:=List.mem_iff_getElem.1 hx
  simp [h0 i hi]
 rw [this]
 rfl
theorem orI_any (b c:Nat) (zs:List Int) (n:Nat) (hn:zs.length=n) (hn2:n≤1000) (w:World) (hc: ∀i (h:i<zs.length),w.cell? ⟨b,i,none⟩=some (.int .i64 zs[i])):
    Calls Tryz.prog 152 #[.slice (some ⟨b,0,none⟩) n c] w fun e w'=>e= .returned (.int .i64 (orI zs))∧w'=w:=by
 have HC:=hid hc
 have HN:=hid hn
 clear hc hn
 go_enter Tryz.func152,Tryz.ntmps152
 go_upto_region 3 with fail
 go_loopw [8] (fun z wr=> ∃k:Nat,k≤n∧z= .int .i64 (k:Int)∧Hid (∀i (h:i<zs.length),i<k→zs[i]=0)∧wr=w) (fun z _=>n - (intOf z).toNat)
 case atStart=>exact ⟨0,Nat.zero_le _,rfl,hid (fun i h h0=>by omega),rfl⟩
 case round=>
  obtain ⟨k,hk,rfl,HZ,rfl⟩:=hrel
  by_cases hlt:k<n
  ·have hki:(k:Int)<(n:Int):=by omega
   have HK:Hid (k<zs.length):=hid (by rw [HN.o];exact hlt)
   have c0:=HC.o k HK.o
   obtain ⟨z,hz⟩:=ex_eq (zs[k]'HK.o)
   have HZE:Hid (zs[k]'HK.o=z):=hid hz
   rw [hz] at c0
   clear hz
   by_cases h0:z=0
   ·have HZ2:Hid (∀i (h:i<zs.length),i<k+1→zs[i]=0):=hid (fun i h hi=>by
       by_cases e:i=k
       ·subst e;rw [HZE.o];exact h0
       ·exact HZ.o i h (by omega))
    have hb:(z != 0)=false:=by rw [bne_eq_false_iff_eq];exact h0
    clear h0
    go_wp2_with fail
    go_roundw
    case rel=>exact ⟨k+1,hlt,by go_num,HZ2,trivial⟩
    case measure=>simp [intOf];omega
   ·have hb:(z != 0)=true:=by rw [bne_iff_ne];exact h0
    have HO:Hid (orI zs=z):=hid (by rw [← HZE.o];exact orI_hit HK.o HZ.o (by rw [HZE.o];exact h0))
    clear h0
    go_wp2_with fail
    go_ret
    exact ⟨by rw [HO.o];rfl,rfl⟩
  ·have hki: ¬(k:Int)<(n:Int):=by omega
   have HO:Hid (orI zs=0):=hid (orI_none (fun i h=>HZ.o i h (by have:=HN.o;omega)))
   go_wp2_with fail
   go_ret
   exact ⟨by rw [HO.o];rfl,rfl⟩
theorem compareRc_any (hol vlt:Int) (str:ByteArray) (ix sz day ser cnt pl:Int) (root:ByteArray) (ap:Option Addr) (n1 c1:Nat) (si:Int) (aq:Option Addr) (n2 c2:Nat) (ar:Option Addr) (n3 c3:Nat) (holB vltB:Int) (strB:ByteArray) (ixB szB dayB serB cntB plB:Int) (rootB:ByteArray) (apB:Option Addr) (n1B c1B:Nat) (siB:Int) (aqB:Option Addr) (n2B c2B:Nat) (arB:Option Addr) (n3B c3B:Nat) (w:World):Calls Tryz.prog 132 #[.agg #[.int .i64 hol,.int .i64 vlt,.string str,.int .i64 ix,.int .i64 sz,.int .i64 day,.int .i64 ser,.int .i64 cnt,.int .i64 pl,.string root,.slice ap n1 c1,.int .i64 si,.slice aq n2 c2,.slice ar n3 c3],.agg #[.int .i64 holB,.int .i64 vltB,.string strB,.int .i64 ixB,.int .i64 szB,.int .i64 dayB,.int .i64 serB,.int .i64 cntB,.int .i64 plB,.string rootB,.slice apB n1B c1B,.int .i64 siB,.slice aqB n2B c2B,.slice arB n3B c3B]] w fun e w'=>e= .returned (.int .i64 (orI [cmpN day dayB,cmpN hol holB,cmpN ser serB]))∧ ∃q os,w'=Sort.grow (w.drewN q) os:=by
 have HD:=hid (fun w=>cmpN_any day dayB w)
 have HH:=hid (fun w=>cmpN_any hol holB w)
 have HS:=hid (fun w=>cmpN_any ser serB w)
 have HOR:=hid (fun b w h=>orI_any b 3 [cmpN day dayB,cmpN hol holB,cmpN ser serB] 3 rfl (by decide) w h)
 obtain ⟨F,hF⟩:=ex_eq (orI [cmpN day dayB,cmpN hol holB,cmpN ser serB])
 obtain ⟨d1,hd1⟩:=ex_eq (cmpN day dayB)
 obtain ⟨d2,hd2⟩:=ex_eq (cmpN hol holB)
 obtain ⟨d3,hd3⟩:=ex_eq (cmpN ser serB)
 rw [hF] at HOR ⊢
 rw [hd1,hd2,hd3] at HOR
 rw [hd1] at HD
 rw [hd2] at HH
 rw [hd3] at HS
 clear hF hd1 hd2 hd3
 go_enter Tryz.func132,Tryz.ntmps132
 go_upto_region 1 with fail
 refine wp_over (fun W=>Hid (W.heap[w.heap.size]? =some (.cells #[.int .i64 hol,.int .i64 vlt,.string str,.int .i64 ix,.int .i64 sz,.int .i64 day,.int .i64 ser,.int .i64 cnt,.int .i64 pl,.string root,.slice ap n1 c1,.int .i64 si,.slice aq n2 c2,.slice ar n3 c3] 47 (0,0)))∧Hid (W.heap[w.heap.size+1]? =some (.cells #[.int .i64 holB,.int .i64 vltB,.string strB,.int .i64 ixB,.int .i64 szB,.int .i64 dayB,.int .i64 serB,.int .i64 cntB,.int .i64 plB,.string rootB,.slice apB n1B c1B,.int .i64 siB,.slice aqB n2B c2B,.slice arB n3B c3B] 47 (0,0)))∧Hid (W.heap.size=w.heap.size+2)∧Hid (∃os,W=Sort.grow w os)) ⟨two_rows1,two_rows2,two_size,_,by rw [Sort.alloc_eq_grow,Sort.alloc_eq_grow,Sort.grow_grow]⟩ ?_
 rintro W ⟨HG,HG2,HWS,HGR⟩
 obtain ⟨N,hN⟩:=ex_eq w.heap.size
 obtain ⟨N1,hN1⟩:=ex_eq (w.heap.size+1)
 have HNN:Hid (N1=N+1):=hid (by omega)
 have HWS:Hid (W.heap.size=N1+1):=hid (by have:=HWS.o;omega)
 rw [hN1] at HG2 ⊢
 rw [hN] at HG ⊢
 clear hN hN1
 obtain ⟨VD,hVD⟩:=ex_eq W.drew
 have HVD:=hid hVD
 have HCC:Hid (∀V,Below VD.heap.size VD V→(V.cell? ⟨N,0,none⟩=some (.int .i64 hol)∧V.cell? ⟨N,1,none⟩=some (.int .i64 vlt)∧V.cell? ⟨N,2,none⟩=some (.string str)∧V.cell? ⟨N,3,none⟩=some (.int .i64 ix)∧V.cell? ⟨N,4,none⟩=some (.int .i64 sz)∧V.cell? ⟨N,5,none⟩=some (.int .i64 day)∧V.cell? ⟨N,6,none⟩=some (.int .i64 ser)∧V.cell? ⟨N,7,none⟩=some (.int .i64 cnt)∧V.cell? ⟨N,8,none⟩=some (.int .i64 pl)∧V.cell? ⟨N,9,none⟩=some (.string root)∧V.cell? ⟨N,10,none⟩=some (.slice ap n1 c1)∧V.cell? ⟨N,11,none⟩=some (.int .i64 si)∧V.cell? ⟨N,12,none⟩=some (.slice aq n2 c2)∧V.cell? ⟨N,13,none⟩=some (.slice ar n3 c3))∧V.cell? ⟨N1,0,none⟩=some (.int .i64 holB)∧V.cell? ⟨N1,1,none⟩=some (.int .i64 vltB)∧V.cell? ⟨N1,2,none⟩=some (.string strB)∧V.cell? ⟨N1,3,none⟩=some (.int .i64 ixB)∧V.cell? ⟨N1,4,none⟩=some (.int .i64 szB)∧V.cell? ⟨N1,5,none⟩=some (.int .i64 dayB)∧V.cell? ⟨N1,6,none⟩=some (.int .i64 serB)∧V.cell? ⟨N1,7,none⟩=some (.int .i64 cntB)∧V.cell? ⟨N1,8,none⟩=some (.int .i64 plB)∧V.cell? ⟨N1,9,none⟩=some (.string rootB)∧V.cell? ⟨N1,10,none⟩=some (.slice apB n1B c1B)∧V.cell? ⟨N1,11,none⟩=some (.int .i64 siB)∧V.cell? ⟨N1,12,none⟩=some (.slice aqB n2B c2B)∧V.cell? ⟨N1,13,none⟩=some (.slice arB n3B c3B)):=hid (fun V h=>by
  have h0:VD.heap.size=W.heap.size:=by rw [← hVD];rfl
  exact ⟨row14 ((h.block N (by have:=HNN.o;have:=HWS.o;omega)).trans (by rw [← hVD];exact HG.o)),row14 ((h.block N1 (by have:=HWS.o;omega)).trans (by rw [← hVD];exact HG2.o))⟩)
 refine Kit.wp_region_gplan (fun V=>(V.cell? ⟨N,0,none⟩=some (.int .i64 hol)∧V.cell? ⟨N,1,none⟩=some (.int .i64 vlt)∧V.cell? ⟨N,2,none⟩=some (.string str)∧V.cell? ⟨N,3,none⟩=some (.int .i64 ix)∧V.cell? ⟨N,4,none⟩=some (.int .i64 sz)∧V.cell? ⟨N,5,none⟩=some (.int .i64 day)∧V.cell? ⟨N,6,none⟩=some (.int .i64 ser)∧V.cell? ⟨N,7,none⟩=some (.int .i64 cnt)∧V.cell? ⟨N,8,none⟩=some (.int .i64 pl)∧V.cell? ⟨N,9,none⟩=some (.string root)∧V.cell? ⟨N,10,none⟩=some (.slice ap n1 c1)∧V.cell? ⟨N,11,none⟩=some (.int .i64 si)∧V.cell? ⟨N,12,none⟩=some (.slice aq n2 c2)∧V.cell? ⟨N,13,none⟩=some (.slice ar n3 c3))∧V.cell? ⟨N1,0,none⟩=some (.int .i64 holB)∧V.cell? ⟨N1,1,none⟩=some (.int .i64 vltB)∧V.cell? ⟨N1,2,none⟩=some (.string strB)∧V.cell? ⟨N1,3,none⟩=some (.int .i64 ixB)∧V.cell? ⟨N1,4,none⟩=some (.int .i64 szB)∧V.cell? ⟨N1,5,none⟩=some (.int .i64 dayB)∧V.cell? ⟨N1,6,none⟩=some (.int .i64 serB)∧V.cell? ⟨N1,7,none⟩=some (.int .i64 cntB)∧V.cell? ⟨N1,8,none⟩=some (.int .i64 plB)∧V.cell? ⟨N1,9,none⟩=some (.string rootB)∧V.cell? ⟨N1,10,none⟩=some (.slice apB n1B c1B)∧V.cell? ⟨N1,11,none⟩=some (.int .i64 siB)∧V.cell? ⟨N1,12,none⟩=some (.slice aqB n2B c2B)∧V.cell? ⟨N1,13,none⟩=some (.slice arB n3B c3B)) [(true,0),(true,1),(true,2),(true,3),(true,5),(true,6),(true,7),(true,8),(true,10),(true,11),(true,12),(true,13),(false,4),(false,9),(false,14),(false,15),(false,16),(true,17)] (by kernel_rfl) (by kernel_rfl) (by kernel_rfl) (by kernel_rfl) (by rw [hVD];exact HCC.o _ (Below.refl _ _)) ?_
 rw [hVD]
 clear hVD HG HG2
 iterate 12 (refine Kit.ghd (h:= ?_))
 refine Kit.gplan_op (by rfl) (by rfl) fun K hK=> ?_
 go_simp
 go_at_call 153
 with_reducible refine (HD.o _).mono ?_
 rintro e w2 ⟨rfl,rfl⟩
 refine hK _ _ (HCC.o _ (Below.refl _ _)) ?_
 clear hK K
 refine Kit.gplan_op (by rfl) (by rfl) fun K hK=> ?_
 go_simp
 go_at_call 153
 with_reducible refine (HH.o _).mono ?_
 rintro e w2 ⟨rfl,rfl⟩
 refine hK _ _ (HCC.o _ (Below.refl _ _)) ?_
 clear hK K
 refine Kit.gplan_op (by rfl) (by rfl) fun K hK=> ?_
 go_simp
 go_at_call 153
 with_reducible refine (HS.o _).mono ?_
 rintro e w2 ⟨rfl,rfl⟩
 refine hK _ _ (HCC.o _ (Below.refl _ _)) ?_
 clear hK K
 refine Kit.gplan_op (by rfl) (by rfl) fun K hK=> ?_
 go_simp
 refine hK _ _ (HCC.o _ ((Below.refl _ _).alloc (Nat.le_refl _) _)) ?_
 clear hK K
 refine Kit.gplan_op (by rfl) (by rfl) fun K hK=> ?_
 go_simp
 go_at_call 152
 refine (HOR.o _ _ ?_).mono ?_
 ·intro i hi
  match i,hi with
  | 0,_=>exact (cell_of_row _ _ _ _ _ _ (heap_alloc_new _ _)).trans rfl
  | 1,_=>exact (cell_of_row _ _ _ _ _ _ (heap_alloc_new _ _)).trans rfl
  | 2,_=>exact (cell_of_row _ _ _ _ _ _ (heap_alloc_new _ _)).trans rfl
 rintro e w2 ⟨rfl,rfl⟩
 refine hK _ _ (HCC.o _ ((Below.refl _ _).alloc (Nat.le_refl _) _)) ?_
 clear hK K
 iterate 1 (refine Kit.ghd (h:= ?_))
 refine Kit.gdn (h:=?_)
 (try go_wp2_with fail)
 go_ret
 refine ⟨rfl,?_⟩
 obtain ⟨os,hos⟩:=HGR.o
 refine ⟨1,os++ #[.cells #[.int .i64 d1,.int .i64 d2,.int .i64 d3] 3 (0,0)],?_⟩
 rw [← HVD.o,hos,Sort.alloc_eq_grow,← Sort.grow_grow]
 rfl
theorem grow_below (w:World) (q:Nat) (os:Array Obj):Below w.heap.size w (Sort.grow (w.drewN q) os):=
 ⟨rfl,rfl,rfl,by show w.heap.size≤(w.heap++os).size;simp,fun i hi=>by
  show (w.heap++os)[i]? =_
  rw [Array.getElem?_append_left hi]⟩
theorem addTest_any (pl pr g n cap i:Nat) (hol vlt:Int) (str:ByteArray) (ix sz day ser cnt plc:Int) (root:ByteArray) (ap:Option Addr) (n1 c1:Nat) (si:Int) (aq:Option Addr) (n2 c2:Nat) (ar:Option Addr) (n3 c3:Nat) (holB vltB:Int) (strB:ByteArray) (ixB szB dayB serB cntB plB:Int) (rootB:ByteArray) (apB:Option Addr) (n1B c1B:Nat) (siB:Int) (aqB:Option Addr) (n2B c2B:Nat) (arB:Option Addr) (n3B c3B:Nat) (hi:i<n) (hn:n≤1000000) (w:World) (hS:w.cell? ⟨pl,0,none⟩=some (.slice (some ⟨g,0,none⟩) n cap)∧(w.cell? ⟨pr,0,none⟩=some (.int .i64 hol)∧w.cell? ⟨pr,1,none⟩=some (.int .i64 vlt)∧w.cell? ⟨pr,2,none⟩=some (.string str)∧w.cell? ⟨pr,3,none⟩=some (.int .i64 ix)∧w.cell? ⟨pr,4,none⟩=some (.int .i64 sz)∧w.cell? ⟨pr,5,none⟩=some (.int .i64 day)∧w.cell? ⟨pr,6,none⟩=some (.int .i64 ser)∧w.cell? ⟨pr,7,none⟩=some (.int .i64 cnt)∧w.cell? ⟨pr,8,none⟩=some (.int .i64 plc)∧w.cell? ⟨pr,9,none⟩=some (.string root)∧w.cell? ⟨pr,10,none⟩=some (.slice ap n1 c1)∧w.cell? ⟨pr,11,none⟩=some (.int .i64 si)∧w.cell? ⟨pr,12,none⟩=some (.slice aq n2 c2)∧w.cell? ⟨pr,13,none⟩=some (.slice ar n3 c3))∧w.cell? ⟨g,i*14,none⟩=some (.int .i64 holB)∧w.cell? ⟨g,i*14+1,none⟩=some (.int .i64 vltB)∧w.cell? ⟨g,i*14+2,none⟩=some (.string strB)∧w.cell? ⟨g,i*14+3,none⟩=some (.int .i64 ixB)∧w.cell? ⟨g,i*14+4,none⟩=some (.int .i64 szB)∧w.cell? ⟨g,i*14+5,none⟩=some (.int .i64 dayB)∧w.cell? ⟨g,i*14+6,none⟩=some (.int .i64 serB)∧w.cell? ⟨g,i*14+7,none⟩=some (.int .i64 cntB)∧w.cell? ⟨g,i*14+8,none⟩=some (.int .i64 plB)∧w.cell? ⟨g,i*14+9,none⟩=some (.string rootB)∧w.cell? ⟨g,i*14+10,none⟩=some (.slice apB n1B c1B)∧w.cell? ⟨g,i*14+11,none⟩=some (.int .i64 siB)∧w.cell? ⟨g,i*14+12,none⟩=some (.slice aqB n2B c2B)∧w.cell? ⟨g,i*14+13,none⟩=some (.slice arB n3B c3B)):Calls Tryz.prog 131 #[.int .i64 (i:Int),.pointer (some ⟨pl,0,none⟩),.pointer (some ⟨pr,0,none⟩)] w fun e w'=>e= .returned (.bool (decide (0<orI [cmpN dayB day,cmpN holB hol,cmpN serB ser])))∧ ∃q os,w'=Sort.grow (w.drewN q) os:=by
 have HCM:=hid (fun w=>compareRc_any holB vltB strB ixB szB dayB serB cntB plB rootB apB n1B c1B siB aqB n2B c2B arB n3B c3B hol vlt str ix sz day ser cnt plc root ap n1 c1 si aq n2 c2 ar n3 c3 w)
 obtain ⟨F,hF⟩:=ex_eq (orI [cmpN dayB day,cmpN holB hol,cmpN serB ser])
 rw [hF] at HCM ⊢
 clear hF
 have HS:=hid hS
 clear hS
 have hii:(i:Int)<(n:Int):=by omega
 clear hi
 go_enter Tryz.func131,Tryz.ntmps131
 go_upto_region 1 with fail
 obtain ⟨VD,hVD⟩:=ex_eq w.drew
 have HVD:=hid hVD
 have HCC:Hid (∀V,Below VD.heap.size VD V→V.cell? ⟨pl,0,none⟩=some (.slice (some ⟨g,0,none⟩) n cap)∧(V.cell? ⟨pr,0,none⟩=some (.int .i64 hol)∧V.cell? ⟨pr,1,none⟩=some (.int .i64 vlt)∧V.cell? ⟨pr,2,none⟩=some (.string str)∧V.cell? ⟨pr,3,none⟩=some (.int .i64 ix)∧V.cell? ⟨pr,4,none⟩=some (.int .i64 sz)∧V.cell? ⟨pr,5,none⟩=some (.int .i64 day)∧V.cell? ⟨pr,6,none⟩=some (.int .i64 ser)∧V.cell? ⟨pr,7,none⟩=some (.int .i64 cnt)∧V.cell? ⟨pr,8,none⟩=some (.int .i64 plc)∧V.cell? ⟨pr,9,none⟩=some (.string root)∧V.cell? ⟨pr,10,none⟩=some (.slice ap n1 c1)∧V.cell? ⟨pr,11,none⟩=some (.int .i64 si)∧V.cell? ⟨pr,12,none⟩=some (.slice aq n2 c2)∧V.cell? ⟨pr,13,none⟩=some (.slice ar n3 c3))∧V.cell? ⟨g,i*14,none⟩=some (.int .i64 holB)∧V.cell? ⟨g,i*14+1,none⟩=some (.int .i64 vltB)∧V.cell? ⟨g,i*14+2,none⟩=some (.string strB)∧V.cell? ⟨g,i*14+3,none⟩=some (.int .i64 ixB)∧V.cell? ⟨g,i*14+4,none⟩=some (.int .i64 szB)∧V.cell? ⟨g,i*14+5,none⟩=some (.int .i64 dayB)∧V.cell? ⟨g,i*14+6,none⟩=some (.int .i64 serB)∧V.cell? ⟨g,i*14+7,none⟩=some (.int .i64 cntB)∧V.cell? ⟨g,i*14+8,none⟩=some (.int .i64 plB)∧V.cell? ⟨g,i*14+9,none⟩=some (.string rootB)∧V.cell? ⟨g,i*14+10,none⟩=some (.slice apB n1B c1B)∧V.cell? ⟨g,i*14+11,none⟩=some (.int .i64 siB)∧V.cell? ⟨g,i*14+12,none⟩=some (.slice aqB n2B c2B)∧V.cell? ⟨g,i*14+13,none⟩=some (.slice arB n3B c3B)):=hid (fun V h=>by
  have f: ∀{ad:Addr} {u:Value},w.cell? ad=some u→V.cell? ad=some u:=fun {ad u} hu=>by
   have h1:VD.cell? ad=some u:=by rw [← hVD];exact hu
   exact (h.cell (World.block_lt_of_cell? _ _ h1)).trans h1
  obtain ⟨h0,h1,h2⟩:=HS.o
  refine ⟨f h0,?_,?_⟩
  ·exact ⟨f h1.1,f h1.2.1,f h1.2.2.1,f h1.2.2.2.1,f h1.2.2.2.2.1,f h1.2.2.2.2.2.1,f h1.2.2.2.2.2.2.1,f h1.2.2.2.2.2.2.2.1,f h1.2.2.2.2.2.2.2.2.1,f h1.2.2.2.2.2.2.2.2.2.1,f h1.2.2.2.2.2.2.2.2.2.2.1,f h1.2.2.2.2.2.2.2.2.2.2.2.1,f h1.2.2.2.2.2.2.2.2.2.2.2.2.1,f h1.2.2.2.2.2.2.2.2.2.2.2.2.2⟩
  ·exact ⟨f h2.1,f h2.2.1,f h2.2.2.1,f h2.2.2.2.1,f h2.2.2.2.2.1,f h2.2.2.2.2.2.1,f h2.2.2.2.2.2.2.1,f h2.2.2.2.2.2.2.2.1,f h2.2.2.2.2.2.2.2.2.1,f h2.2.2.2.2.2.2.2.2.2.1,f h2.2.2.2.2.2.2.2.2.2.2.1,f h2.2.2.2.2.2.2.2.2.2.2.2.1,f h2.2.2.2.2.2.2.2.2.2.2.2.2.1,f h2.2.2.2.2.2.2.2.2.2.2.2.2.2⟩)
 refine Kit.wp_region_gplan (fun V=>V.cell? ⟨pl,0,none⟩=some (.slice (some ⟨g,0,none⟩) n cap)∧(V.cell? ⟨pr,0,none⟩=some (.int .i64 hol)∧V.cell? ⟨pr,1,none⟩=some (.int .i64 vlt)∧V.cell? ⟨pr,2,none⟩=some (.string str)∧V.cell? ⟨pr,3,none⟩=some (.int .i64 ix)∧V.cell? ⟨pr,4,none⟩=some (.int .i64 sz)∧V.cell? ⟨pr,5,none⟩=some (.int .i64 day)∧V.cell? ⟨pr,6,none⟩=some (.int .i64 ser)∧V.cell? ⟨pr,7,none⟩=some (.int .i64 cnt)∧V.cell? ⟨pr,8,none⟩=some (.int .i64 plc)∧V.cell? ⟨pr,9,none⟩=some (.string root)∧V.cell? ⟨pr,10,none⟩=some (.slice ap n1 c1)∧V.cell? ⟨pr,11,none⟩=some (.int .i64 si)∧V.cell? ⟨pr,12,none⟩=some (.slice aq n2 c2)∧V.cell? ⟨pr,13,none⟩=some (.slice ar n3 c3))∧V.cell? ⟨g,i*14,none⟩=some (.int .i64 holB)∧V.cell? ⟨g,i*14+1,none⟩=some (.int .i64 vltB)∧V.cell? ⟨g,i*14+2,none⟩=some (.string strB)∧V.cell? ⟨g,i*14+3,none⟩=some (.int .i64 ixB)∧V.cell? ⟨g,i*14+4,none⟩=some (.int .i64 szB)∧V.cell? ⟨g,i*14+5,none⟩=some (.int .i64 dayB)∧V.cell? ⟨g,i*14+6,none⟩=some (.int .i64 serB)∧V.cell? ⟨g,i*14+7,none⟩=some (.int .i64 cntB)∧V.cell? ⟨g,i*14+8,none⟩=some (.int .i64 plB)∧V.cell? ⟨g,i*14+9,none⟩=some (.string rootB)∧V.cell? ⟨g,i*14+10,none⟩=some (.slice apB n1B c1B)∧V.cell? ⟨g,i*14+11,none⟩=some (.int .i64 siB)∧V.cell? ⟨g,i*14+12,none⟩=some (.slice aqB n2B c2B)∧V.cell? ⟨g,i*14+13,none⟩=some (.slice arB n3B c3B)) [(true,0),(true,1),(true,2),(true,3),(true,4),(false,5),(true,6),(true,7)] (by kernel_rfl) (by kernel_rfl) (by kernel_rfl) (by kernel_rfl) (by rw [hVD];exact HCC.o _ (Below.refl _ _)) ?_
 rw [hVD]
 clear hVD
 iterate 5 (refine Kit.ghd (h:= ?_))
 refine Kit.gplan_op (by rfl) (by rfl) fun K hK=> ?_
 go_simp
 go_at_call 132
 with_reducible refine (HCM.o _).mono ?_
 rintro e w2 ⟨rfl,q,os,hw2⟩
 have H2:Hid (Below VD.heap.size VD w2):=hid (by rw [hw2];exact grow_below _ _ _)
 have HW2:=hid hw2
 clear hw2
 refine hK _ _ (HCC.o _ H2.o) ?_
 clear hK K
 iterate 2 (refine Kit.ghd (h:= ?_))
 refine Kit.gdn (h:=?_)
 (try go_wp2_with fail)
 go_ret
 exact ⟨rfl,q+1,os,by rw [HW2.o,← HVD.o];show Sort.grow (w.drew.drewN q) os=_;rw [show w.drew=w.drewN 1 from rfl,World.drewN_drewN,Nat.add_comm]⟩
theorem holdTest_any (hol vlt:Int) (str:ByteArray) (ix sz day ser cnt pl:Int) (root:ByteArray) (ap:Option Addr) (n1 c1:Nat) (si:Int) (aq:Option Addr) (n2 c2:Nat) (ar:Option Addr) (n3 c3:Nat) (holB vltB:Int) (strB:ByteArray) (ixB szB dayB serB cntB plB:Int) (rootB:ByteArray) (apB:Option Addr) (n1B c1B:Nat) (siB:Int) (aqB:Option Addr) (n2B c2B:Nat) (arB:Option Addr) (n3B c3B:Nat) (w:World):Calls Tryz.prog 166 #[.agg #[.int .i64 hol,.int .i64 vlt,.string str,.int .i64 ix,.int .i64 sz,.int .i64 day,.int .i64 ser,.int .i64 cnt,.int .i64 pl,.string root,.slice ap n1 c1,.int .i64 si,.slice aq n2 c2,.slice ar n3 c3],.agg #[.int .i64 holB,.int .i64 vltB,.string strB,.int .i64 ixB,.int .i64 szB,.int .i64 dayB,.int .i64 serB,.int .i64 cntB,.int .i64 plB,.string rootB,.slice apB n1B c1B,.int .i64 siB,.slice aqB n2B c2B,.slice arB n3B c3B]] w fun e w'=>e= .returned (.int .i64 (orI [cmpS str strB,cmpN ix ixB]))∧ ∃q os,w'=Sort.grow (w.drewN q) os:=by
 have HD:=hid (fun w=>cmpS_any str strB w)
 have HH:=hid (fun w=>cmpN_any ix ixB w)
 have HOR:=hid (fun b w h=>orI_any b 2 [cmpS str strB,cmpN ix ixB] 2 rfl (by decide) w h)
 obtain ⟨F,hF⟩:=ex_eq (orI [cmpS str strB,cmpN ix ixB])
 obtain ⟨d1,hd1⟩:=ex_eq (cmpS str strB)
 obtain ⟨d2,hd2⟩:=ex_eq (cmpN ix ixB)
 rw [hF] at HOR ⊢
 rw [hd1,hd2] at HOR
 rw [hd1] at HD
 rw [hd2] at HH
 clear hF hd1 hd2
 go_enter Tryz.func166,Tryz.ntmps166
 go_upto_region 1 with fail
 refine wp_over (fun W=>Hid (W.heap[w.heap.size]? =some (.cells #[.int .i64 hol,.int .i64 vlt,.string str,.int .i64 ix,.int .i64 sz,.int .i64 day,.int .i64 ser,.int .i64 cnt,.int .i64 pl,.string root,.slice ap n1 c1,.int .i64 si,.slice aq n2 c2,.slice ar n3 c3] 47 (0,0)))∧Hid (W.heap[w.heap.size+1]? =some (.cells #[.int .i64 holB,.int .i64 vltB,.string strB,.int .i64 ixB,.int .i64 szB,.int .i64 dayB,.int .i64 serB,.int .i64 cntB,.int .i64 plB,.string rootB,.slice apB n1B c1B,.int .i64 siB,.slice aqB n2B c2B,.slice arB n3B c3B] 47 (0,0)))∧Hid (W.heap.size=w.heap.size+2)∧Hid (∃os,W=Sort.grow w os)) ⟨two_rows1,two_rows2,two_size,_,by rw [Sort.alloc_eq_grow,Sort.alloc_eq_grow,Sort.grow_grow]⟩ ?_
 rintro W ⟨HG,HG2,HWS,HGR⟩
 obtain ⟨N,hN⟩:=ex_eq w.heap.size
 obtain ⟨N1,hN1⟩:=ex_eq (w.heap.size+1)
 have HNN:Hid (N1=N+1):=hid (by omega)
 have HWS:Hid (W.heap.size=N1+1):=hid (by have:=HWS.o;omega)
 rw [hN1] at HG2 ⊢
 rw [hN] at HG ⊢
 clear hN hN1
 obtain ⟨VD,hVD⟩:=ex_eq W.drew
 have HVD:=hid hVD
 have HCC:Hid (∀V,Below VD.heap.size VD V→(V.cell? ⟨N,0,none⟩=some (.int .i64 hol)∧V.cell? ⟨N,1,none⟩=some (.int .i64 vlt)∧V.cell? ⟨N,2,none⟩=some (.string str)∧V.cell? ⟨N,3,none⟩=some (.int .i64 ix)∧V.cell? ⟨N,4,none⟩=some (.int .i64 sz)∧V.cell? ⟨N,5,none⟩=some (.int .i64 day)∧V.cell? ⟨N,6,none⟩=some (.int .i64 ser)∧V.cell? ⟨N,7,none⟩=some (.int .i64 cnt)∧V.cell? ⟨N,8,none⟩=some (.int .i64 pl)∧V.cell? ⟨N,9,none⟩=some (.string root)∧V.cell? ⟨N,10,none⟩=some (.slice ap n1 c1)∧V.cell? ⟨N,11,none⟩=some (.int .i64 si)∧V.cell? ⟨N,12,none⟩=some (.slice aq n2 c2)∧V.cell? ⟨N,13,none⟩=some (.slice ar n3 c3))∧V.cell? ⟨N1,0,none⟩=some (.int .i64 holB)∧V.cell? ⟨N1,1,none⟩=some (.int .i64 vltB)∧V.cell? ⟨N1,2,none⟩=some (.string strB)∧V.cell? ⟨N1,3,none⟩=some (.int .i64 ixB)∧V.cell? ⟨N1,4,none⟩=some (.int .i64 szB)∧V.cell? ⟨N1,5,none⟩=some (.int .i64 dayB)∧V.cell? ⟨N1,6,none⟩=some (.int .i64 serB)∧V.cell? ⟨N1,7,none⟩=some (.int .i64 cntB)∧V.cell? ⟨N1,8,none⟩=some (.int .i64 plB)∧V.cell? ⟨N1,9,none⟩=some (.string rootB)∧V.cell? ⟨N1,10,none⟩=some (.slice apB n1B c1B)∧V.cell? ⟨N1,11,none⟩=some (.int .i64 siB)∧V.cell? ⟨N1,12,none⟩=some (.slice aqB n2B c2B)∧V.cell? ⟨N1,13,none⟩=some (.slice arB n3B c3B)):=hid (fun V h=>by
  have h0:VD.heap.size=W.heap.size:=by rw [← hVD];rfl
  exact ⟨row14 ((h.block N (by have:=HNN.o;have:=HWS.o;omega)).trans (by rw [← hVD];exact HG.o)),row14 ((h.block N1 (by have:=HWS.o;omega)).trans (by rw [← hVD];exact HG2.o))⟩)
 refine Kit.wp_region_gplan (fun V=>(V.cell? ⟨N,0,none⟩=some (.int .i64 hol)∧V.cell? ⟨N,1,none⟩=some (.int .i64 vlt)∧V.cell? ⟨N,2,none⟩=some (.string str)∧V.cell? ⟨N,3,none⟩=some (.int .i64 ix)∧V.cell? ⟨N,4,none⟩=some (.int .i64 sz)∧V.cell? ⟨N,5,none⟩=some (.int .i64 day)∧V.cell? ⟨N,6,none⟩=some (.int .i64 ser)∧V.cell? ⟨N,7,none⟩=some (.int .i64 cnt)∧V.cell? ⟨N,8,none⟩=some (.int .i64 pl)∧V.cell? ⟨N,9,none⟩=some (.string root)∧V.cell? ⟨N,10,none⟩=some (.slice ap n1 c1)∧V.cell? ⟨N,11,none⟩=some (.int .i64 si)∧V.cell? ⟨N,12,none⟩=some (.slice aq n2 c2)∧V.cell? ⟨N,13,none⟩=some (.slice ar n3 c3))∧V.cell? ⟨N1,0,none⟩=some (.int .i64 holB)∧V.cell? ⟨N1,1,none⟩=some (.int .i64 vltB)∧V.cell? ⟨N1,2,none⟩=some (.string strB)∧V.cell? ⟨N1,3,none⟩=some (.int .i64 ixB)∧V.cell? ⟨N1,4,none⟩=some (.int .i64 szB)∧V.cell? ⟨N1,5,none⟩=some (.int .i64 dayB)∧V.cell? ⟨N1,6,none⟩=some (.int .i64 serB)∧V.cell? ⟨N1,7,none⟩=some (.int .i64 cntB)∧V.cell? ⟨N1,8,none⟩=some (.int .i64 plB)∧V.cell? ⟨N1,9,none⟩=some (.string rootB)∧V.cell? ⟨N1,10,none⟩=some (.slice apB n1B c1B)∧V.cell? ⟨N1,11,none⟩=some (.int .i64 siB)∧V.cell? ⟨N1,12,none⟩=some (.slice aqB n2B c2B)∧V.cell? ⟨N1,13,none⟩=some (.slice arB n3B c3B)) [(true,0),(true,1),(true,2),(true,3),(true,4),(true,5),(true,7),(true,8),(true,9),(true,10),(true,11),(true,12),(false,6),(false,13),(false,14),(false,15),(true,16)] (by kernel_rfl) (by kernel_rfl) (by kernel_rfl) (by kernel_rfl) (by rw [hVD];exact HCC.o _ (Below.refl _ _)) ?_
 rw [hVD]
 clear hVD HG HG2
 iterate 12 (refine Kit.ghd (h:= ?_))
 refine Kit.gplan_op (by rfl) (by rfl) fun K hK=> ?_
 go_simp
 go_at_call 167
 with_reducible refine (HD.o _).mono ?_
 rintro e w2 ⟨rfl,rfl⟩
 refine hK _ _ (HCC.o _ (Below.refl _ _)) ?_
 clear hK K
 refine Kit.gplan_op (by rfl) (by rfl) fun K hK=> ?_
 go_simp
 go_at_call 153
 with_reducible refine (HH.o _).mono ?_
 rintro e w2 ⟨rfl,rfl⟩
 refine hK _ _ (HCC.o _ (Below.refl _ _)) ?_
 clear hK K
 refine Kit.gplan_op (by rfl) (by rfl) fun K hK=> ?_
 go_simp
 refine hK _ _ (HCC.o _ ((Below.refl _ _).alloc (Nat.le_refl _) _)) ?_
 clear hK K
 refine Kit.gplan_op (by rfl) (by rfl) fun K hK=> ?_
 go_simp
 go_at_call 152
 refine (HOR.o _ _ ?_).mono ?_
 ·intro i hi
  match i,hi with
  | 0,_=>exact (cell_of_row _ _ _ _ _ _ (heap_alloc_new _ _)).trans rfl
  | 1,_=>exact (cell_of_row _ _ _ _ _ _ (heap_alloc_new _ _)).trans rfl
 rintro e w2 ⟨rfl,rfl⟩
 refine hK _ _ (HCC.o _ ((Below.refl _ _).alloc (Nat.le_refl _) _)) ?_
 clear hK K
 iterate 1 (refine Kit.ghd (h:= ?_))
 refine Kit.gdn (h:=?_)
 (try go_wp2_with fail)
 go_ret
 refine ⟨rfl,?_⟩
 obtain ⟨os,hos⟩:=HGR.o
 refine ⟨1,os++ #[.cells #[.int .i64 d1,.int .i64 d2] 3 (0,0)],?_⟩
 rw [← HVD.o,hos,Sort.alloc_eq_grow,← Sort.grow_grow]
 rfl
end Go.Proofs.YtndlihclgdkpaaaGreatDoor

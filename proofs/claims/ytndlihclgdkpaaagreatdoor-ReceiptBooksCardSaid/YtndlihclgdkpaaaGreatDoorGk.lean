/- Texts Qsg, Qct, Qvf, Qrw, Qcl, Qpm, Qrf, Qrs, Qra, Qky, merged. -/
import Derived.Laws.MakeOwn
import Derived.Test.YtndlihclgdkpaaaGreatDoorQva
import Derived.Test.YtndlihclgdkpaaaGreatDoorGc
import Derived.Test.YtndlihclgdkpaaaGreatDoorGf
import Derived.Test.YtndlihclgdkpaaaGreatDoorGg
import Derived.Test.YtndlihclgdkpaaaGreatDoorGh
import Derived.Test.YtndlihclgdkpaaaGreatDoorGi
import Derived.Test.YtndlihclgdkpaaaGreatDoorGj
/- receipt: the signed fields of a receipt; comparing them. -/
set_option linter.unusedVariables false
set_option linter.unusedSimpArgs false
open Go.Lib (hid)
set_option maxHeartbeats 4000000
set_option maxRecDepth 100000
namespace Go.Proofs.YtndlihclgdkpaaaGreatDoor
open Go.RowKit
open Kit (Chg)
open Sha (v)
open Go.Proofs.YtndlihclgdkpaaaGreatDoor.One

theorem str_tol (s t:ByteArray):(s.toList==t.toList)=decide (s=t):=by
 rw [eq_str]
 exact decide_eq_decide.2 ⟨nb_inj,congrArg nb⟩
theorem tol_iff (s t:ByteArray):s.toList=t.toList↔s=t:=by
 have h:=str_tol s t
 rw [Bool.eq_iff_iff,beq_iff_eq,decide_eq_true_eq] at h
 exact h
theorem int_beq (i j:Int):(i==j)=decide (i=j):=by rw [Bool.eq_iff_iff,beq_iff_eq,decide_eq_true_eq]
theorem Tryz.eqIn_piece (d:Nat) (s t:ByteArray) (i j:Int) (w:World):(Op.equalIn (d+1+1) 42 (.agg #[.string s,.int .i64 i]) (.agg #[.string t,.int .i64 j])).run Tryz.prog w= .ok (decide (s=t) && decide (i=j)) w:=by
 have u3:= Tryz.underlying3
 have a3:= Tryz.isAgg3
 have z3:= Tryz.sizeOf3
 have u9:= Tryz.underlying9
 have a9:= Tryz.isAgg9
 have z9:= Tryz.sizeOf9
 have hS: Tryz.prog.underlying 42 =some (.struct (Tryz.prog.fieldsOf 42)):=by kernel_rfl
 have hp: Tryz.prog.stoodInHeld 42 =false:=by kernel_rfl
 rw [run_equalIn_agg w (d+1) 42 _ _ hS hp]
 simp only [Program.fieldsOf,Tryz.underlying42]
 go_simp
 (try simp only [str_tol,int_beq])
 by_cases h1:s=t<;> by_cases h2:i=j<;> simp [h1,h2,tol_iff]
theorem eq_piece (s t:ByteArray) (i j:Int) (w:World):(binOp .eql 42 (.agg #[.string s,.int .i64 i]) (.agg #[.string t,.int .i64 j])).run Tryz.prog w= .ok (.bool (decide (s=t) && decide (i=j))) w:=by
 rw [run_eql_struct,show (10000:Nat)=9998+1+1 from rfl,Tryz.eqIn_piece]
 rfl
theorem neq_signed (h v z d e:Int) (s:ByteArray) (i:Int) (h' v' z' d' e':Int) (s':ByteArray) (i':Int) (w:World):(binOp .neq 193 (.agg #[.int .i64 h,.int .i64 v,.int .i64 z,.int .i64 d,.int .i64 e,.string s,.int .i64 i]) (.agg #[.int .i64 h',.int .i64 v',.int .i64 z',.int .i64 d',.int .i64 e',.string s',.int .i64 i'])).run Tryz.prog w= .ok (.bool (!decide ((⟨h,v,z,d,e,s,i⟩:Sg)=⟨h',v',z',d',e',s',i'⟩))) w:=by
 have u3:= Tryz.underlying3
 have a3:= Tryz.isAgg3
 have z3:= Tryz.sizeOf3
 have u9:= Tryz.underlying9
 have a9:= Tryz.isAgg9
 have z9:= Tryz.sizeOf9
 have hq: Tryz.prog.underlying 42 =some (.struct (Tryz.prog.fieldsOf 42)):=by kernel_rfl
 have hqp: Tryz.prog.stoodInHeld 42 =false:=by kernel_rfl
 have aq:= Tryz.isAgg42
 have zq:= Tryz.sizeOf42
 have hS: Tryz.prog.underlying 193 =some (.struct (Tryz.prog.fieldsOf 193)):=by kernel_rfl
 have hp: Tryz.prog.stoodInHeld 193 =false:=by kernel_rfl
 have hpc:=fun s t i j w=> Tryz.eqIn_piece 9997 s t i j w
 rw [run_neq_struct,show (10000:Nat)=9997+1+1+1 from rfl,run_equalIn_agg w (9997+1+1) 193 _ _ hS hp]
 simp only [Program.fieldsOf,Tryz.underlying193]
 go_simp
 (try simp only [Sg.mk.injEq])
 by_cases h1:h=h'<;> by_cases h2:v=v'<;> by_cases h3:z=z'<;> by_cases h4:d=d'<;> by_cases h5:e=e'<;> by_cases h6:s=s'<;> by_cases h7:i=i'<;> simp [h1,h2,h3,h4,h5,h6,h7,tol_iff]
def putL (N:Nat):Nat→List Value→World→World
 | _,[],w=>w
 | i,v::vs,w=>putL N (i+1) vs (w.setCell ⟨N,i,none⟩ v)
theorem putL_below {w0:World} {B N:Nat} (hN:B≤N): ∀(vs:List Value) (i:Nat) (w:World),Below B w0 w→Below B w0 (putL N i vs w)
 | [],_,_,h=>h
 | v::vs,i,w,h=>putL_below hN vs (i+1) _ (h.setCell (p:=⟨N,i,none⟩) hN v)
theorem putL_chg {M:Nat→Nat→Prop} {w0:World} {N:Nat} (hM: ∀i,M N i): ∀(vs:List Value) (i:Nat) (w:World),Chg M w0 w→Chg M w0 (putL N i vs w)
 | [],_,_,h=>h
 | v::vs,i,w,h=>putL_chg hM vs (i+1) _ (h.setCell v (hM i))
theorem putL_heap {N:Nat} {T:TypeId}: ∀(vs:List Value) (pre cur:List Value) (w:World),w.heap[N]? =some (.cells (pre++cur).toArray T (0,0))→cur.length=vs.length→(putL N pre.length vs w).heap[N]? =some (.cells (pre++vs).toArray T (0,0))
 | [],pre,cur,w,h,hl=>by
   have:cur=[]:=List.eq_nil_of_length_eq_zero hl
   subst this
   exact h
 | v::vs,pre,c::cur,w,h,hl=>by
   have h1:=heap_setCell_same w N pre.length _ T v h
   have h2:((pre++c::cur).toArray.setIfInBounds pre.length v)=((pre++[v])++cur).toArray:=by
    simp [List.set_append_right]
   rw [h2] at h1
   have h3:=putL_heap vs (pre++[v]) cur (w.setCell ⟨N,pre.length,none⟩ v) h1 (by simpa using hl)
   rw [List.length_append,List.append_assoc] at h3
   exact h3
 | v::vs,pre,[],w,h,hl=>by simp at hl
theorem putL_full {N:Nat} {T:TypeId} {cur vs:List Value} {w:World} (h:w.heap[N]? =some (.cells cur.toArray T (0,0))) (hl:cur.length=vs.length):(putL N 0 vs w).heap[N]? =some (.cells vs.toArray T (0,0)):=putL_heap vs [] cur w h hl
theorem row7 {w:World} {N:Nat} {x0 x1 x2 x3 x4 x5 x6:Value} {T:TypeId} {f:Nat × Nat} (hg:w.heap[N]? =some (.cells #[x0,x1,x2,x3,x4,x5,x6] T f)):w.cell? ⟨N,0,none⟩=some x0∧w.cell? ⟨N,1,none⟩=some x1∧w.cell? ⟨N,2,none⟩=some x2∧w.cell? ⟨N,3,none⟩=some x3∧w.cell? ⟨N,4,none⟩=some x4∧w.cell? ⟨N,5,none⟩=some x5∧w.cell? ⟨N,6,none⟩=some x6:=
 ⟨cr hg,cr hg,cr hg,cr hg,cr hg,cr hg,cr hg⟩
theorem signedOf_any (hol vlt:Int) (str:ByteArray) (ix sz day ser cnt pl:Int) (root:ByteArray) (ap:Option Addr) (n1 c1:Nat) (si:Int) (aq:Option Addr) (n2 c2:Nat) (ar:Option Addr) (n3 c3:Nat) (pa pt sq:List ByteArray) (w:World):Calls Tryz.prog 128 #[.agg #[.int .i64 hol,.int .i64 vlt,.string str,.int .i64 ix,.int .i64 sz,.int .i64 day,.int .i64 ser,.int .i64 cnt,.int .i64 pl,.string root,.slice ap n1 c1,.int .i64 si,.slice aq n2 c2,.slice ar n3 c3]] w fun e w'=>e= .returned (.agg #[.int .i64 hol,.int .i64 vlt,.int .i64 sz,.int .i64 day,.int .i64 ser,.string str,.int .i64 ix])∧Below w.heap.size w w':=by
 go_enter Tryz.func128,Tryz.ntmps128
 go_upto_region 1 with fail
 refine wp_over (fun W=>Hid (W.heap[w.heap.size]? =some (.cells #[.int .i64 hol,.int .i64 vlt,.string str,.int .i64 ix,.int .i64 sz,.int .i64 day,.int .i64 ser,.int .i64 cnt,.int .i64 pl,.string root,.slice ap n1 c1,.int .i64 si,.slice aq n2 c2,.slice ar n3 c3] 47 (0,0)))∧Hid (W.heap[w.heap.size+1]? =some (.cells #[.int .i64 0,.int .i64 0,.int .i64 0,.int .i64 0,.int .i64 0,.string ByteArray.empty,.int .i64 0] 193 (0,0)))∧Hid (Below w.heap.size w W)) ⟨two_rows1,two_rows2,two_below⟩ ?_
 rintro W ⟨HG,HZ,HB⟩
 obtain ⟨N,hN⟩:=ex_eq w.heap.size
 rw [hN] at HG HZ HB ⊢
 have HN:=hid hN
 clear hN
 obtain ⟨q0,q1,q2,q3,q4,q5,q6,q7,q8,q9,q10,q11,q12,q13⟩:=row14 HG.o
 obtain ⟨z0,z1,z2,z3,z4,z5,z6⟩:=row7 HZ.o
 have fz: ∀i,W.frozen? ⟨N+1,i,none⟩=false:=fun i=>frozen_of_row _ _ _ _ _ HZ.o
 go_wp2_with fail
 refine bodyPost_ret (results_cell_row (p:=2) rfl _ _ (N+1) 193 #[.int .i64 hol,.int .i64 vlt,.int .i64 sz,.int .i64 day,.int .i64 ser,.string str,.int .i64 ix] (0,0) _ (by rfl) (putL_full (cur:=[.int .i64 0,.int .i64 0,.int .i64 0,.int .i64 0,.int .i64 0,.string ByteArray.empty,.int .i64 0]) (vs:=[.int .i64 hol,.int .i64 vlt,.int .i64 sz,.int .i64 day,.int .i64 ser,.string str,.int .i64 ix]) HZ.o rfl) Tryz.underlying193 rfl (by kernel_rfl)) rfl ?_
 exact ⟨rfl,by rw [HN.o];exact putL_below (Nat.le_succ N) [.int .i64 hol,.int .i64 vlt,.int .i64 sz,.int .i64 day,.int .i64 ser,.string str,.int .i64 ix] 0 W HB.o⟩
theorem contraR_any (hol vlt:Int) (str:ByteArray) (ix sz day ser cnt pl:Int) (root:ByteArray) (ap:Option Addr) (n1 c1:Nat) (si:Int) (aq:Option Addr) (n2 c2:Nat) (ar:Option Addr) (n3 c3:Nat) (pa pt sq:List ByteArray) (holB vltB:Int) (strB:ByteArray) (ixB szB dayB serB cntB plB:Int) (rootB:ByteArray) (apB:Option Addr) (n1B c1B:Nat) (siB:Int) (aqB:Option Addr) (n2B c2B:Nat) (arB:Option Addr) (n3B c3B:Nat) (paB ptB sqB:List ByteArray) (w:World) (h1:pa.length=n1) (k1:n1<9223372036854775808) (s1:StrsAt w ap pa) (h2:pt.length=n2) (k2:n2<9223372036854775808) (s2:StrsAt w aq pt) (h3:sq.length=n3) (k3:n3<9223372036854775808) (s3:StrsAt w ar sq) (h1B:paB.length=n1B) (k1B:n1B<9223372036854775808) (s1B:StrsAt w apB paB) (h2B:ptB.length=n2B) (k2B:n2B<9223372036854775808) (s2B:StrsAt w aqB ptB) (h3B:sqB.length=n3B) (k3B:n3B<9223372036854775808) (s3B:StrsAt w arB sqB):Calls Tryz.prog 35 #[.agg #[.int .i64 hol,.int .i64 vlt,.string str,.int .i64 ix,.int .i64 sz,.int .i64 day,.int .i64 ser,.int .i64 cnt,.int .i64 pl,.string root,.slice ap n1 c1,.int .i64 si,.slice aq n2 c2,.slice ar n3 c3],.agg #[.int .i64 holB,.int .i64 vltB,.string strB,.int .i64 ixB,.int .i64 szB,.int .i64 dayB,.int .i64 serB,.int .i64 cntB,.int .i64 plB,.string rootB,.slice apB n1B c1B,.int .i64 siB,.slice aqB n2B c2B,.slice arB n3B c3B]] w fun e w'=>e= .returned (.bool (contraR ⟨hol,vlt,str,ix,sz,day,ser,cnt,pl,root,pa,si,pt,sq⟩ ⟨holB,vltB,strB,ixB,szB,dayB,serB,cntB,plB,rootB,paB,siB,ptB,sqB⟩))∧Below w.heap.size w w':=by
 obtain ⟨VA,hVA⟩:=ex_eq (validR ⟨hol,vlt,str,ix,sz,day,ser,cnt,pl,root,pa,si,pt,sq⟩)
 obtain ⟨VB,hVB⟩:=ex_eq (validR ⟨holB,vltB,strB,ixB,szB,dayB,serB,cntB,plB,rootB,paB,siB,ptB,sqB⟩)
 have HVA:Hid (∀V,Below w.heap.size w V→Calls Tryz.prog 101 #[.agg #[.int .i64 hol,.int .i64 vlt,.string str,.int .i64 ix,.int .i64 sz,.int .i64 day,.int .i64 ser,.int .i64 cnt,.int .i64 pl,.string root,.slice ap n1 c1,.int .i64 si,.slice aq n2 c2,.slice ar n3 c3]] V fun e w'=>e= .returned (.bool VA)∧Below V.heap.size V w'):=hid (fun V h=>by
  have h0:=validR_any hol vlt str ix sz day ser cnt pl root ap n1 c1 si aq n2 c2 ar n3 c3 pa pt sq V h1 k1 (s1.later h) h2 k2 (s2.later h) h3 k3 (s3.later h)
  rw [hVA] at h0
  exact h0)
 have HVB:Hid (∀V,Below w.heap.size w V→Calls Tryz.prog 101 #[.agg #[.int .i64 holB,.int .i64 vltB,.string strB,.int .i64 ixB,.int .i64 szB,.int .i64 dayB,.int .i64 serB,.int .i64 cntB,.int .i64 plB,.string rootB,.slice apB n1B c1B,.int .i64 siB,.slice aqB n2B c2B,.slice arB n3B c3B]] V fun e w'=>e= .returned (.bool VB)∧Below V.heap.size V w'):=hid (fun V h=>by
  have h0:=validR_any holB vltB strB ixB szB dayB serB cntB plB rootB apB n1B c1B siB aqB n2B c2B arB n3B c3B paB ptB sqB V h1B k1B (s1B.later h) h2B k2B (s2B.later h) h3B k3B (s3B.later h)
  rw [hVB] at h0
  exact h0)
 have HSA:=hid (fun w=>signedOf_any hol vlt str ix sz day ser cnt pl root ap n1 c1 si aq n2 c2 ar n3 c3 pa pt sq w)
 have HSB:=hid (fun w=>signedOf_any holB vltB strB ixB szB dayB serB cntB plB rootB apB n1B c1B siB aqB n2B c2B arB n3B c3B paB ptB sqB w)
 obtain ⟨D,hD⟩:=ex_eq (decide ((⟨hol,vlt,sz,day,ser,str,ix⟩:Sg)=(⟨holB,vltB,szB,dayB,serB,strB,ixB⟩:Sg)))
 have hneq:=fun w=>neq_signed hol vlt sz day ser str ix holB vltB szB dayB serB strB ixB w
 have HF0:Hid (contraR ⟨hol,vlt,str,ix,sz,day,ser,cnt,pl,root,pa,si,pt,sq⟩ ⟨holB,vltB,strB,ixB,szB,dayB,serB,cntB,plB,rootB,paB,siB,ptB,sqB⟩=(VA && (VB && (decide (hol=holB) && (decide (ser=serB) && !D))))):=hid (by
  unfold contraR
  rw [hVA,hVB,← hD]
  rfl)
 rw [hD] at hneq
 obtain ⟨F,hF⟩:=ex_eq (contraR ⟨hol,vlt,str,ix,sz,day,ser,cnt,pl,root,pa,si,pt,sq⟩ ⟨holB,vltB,strB,ixB,szB,dayB,serB,cntB,plB,rootB,paB,siB,ptB,sqB⟩)
 rw [hF] at HF0 ⊢
 clear hF hVA hVB hD h1 h2 h3 k1 k2 k3 s1 s2 s3 h1B h2B h3B k1B k2B k3B s1B s2B s3B
 go_enter Tryz.func35,Tryz.ntmps35
 go_upto_region 1 with fail
 refine wp_over (fun W=>Hid (W.heap[w.heap.size]? =some (.cells #[.int .i64 hol,.int .i64 vlt,.string str,.int .i64 ix,.int .i64 sz,.int .i64 day,.int .i64 ser,.int .i64 cnt,.int .i64 pl,.string root,.slice ap n1 c1,.int .i64 si,.slice aq n2 c2,.slice ar n3 c3] 47 (0,0)))∧Hid (W.heap[w.heap.size+1]? =some (.cells #[.int .i64 holB,.int .i64 vltB,.string strB,.int .i64 ixB,.int .i64 szB,.int .i64 dayB,.int .i64 serB,.int .i64 cntB,.int .i64 plB,.string rootB,.slice apB n1B c1B,.int .i64 siB,.slice aqB n2B c2B,.slice arB n3B c3B] 47 (0,0)))∧Hid (Below w.heap.size w W)∧Hid (W.heap.size=w.heap.size+2)) ⟨two_rows1,two_rows2,two_below,two_size⟩ ?_
 rintro W ⟨HG,HG2,HB,HWS⟩
 have HBW0:Hid (∀V,Below (w.heap.size+1+1) W V→Below w.heap.size w V):=hid (fun V h=>HB.o.trans (h.mono (by omega)))
 obtain ⟨N,hN⟩:=ex_eq w.heap.size
 obtain ⟨N1,hN1⟩:=ex_eq (w.heap.size+1)
 have HBW:Hid (∀V,Below (N1+1) W V→Below w.heap.size w V):=hid (fun V h=>HBW0.o V (by rw [hN1];exact h))
 have HNN:Hid (N1=N+1):=hid (by omega)
 have HWS:Hid (W.heap.size=N1+1):=hid (by have:=HWS.o;omega)
 rw [hN1] at HG2 ⊢
 rw [hN] at HG HB ⊢
 clear hN hN1 HBW0
 have HCC:Hid (∀V,Below (N1+1) W V→(V.cell? ⟨N,0,none⟩=some (.int .i64 hol)∧V.cell? ⟨N,1,none⟩=some (.int .i64 vlt)∧V.cell? ⟨N,2,none⟩=some (.string str)∧V.cell? ⟨N,3,none⟩=some (.int .i64 ix)∧V.cell? ⟨N,4,none⟩=some (.int .i64 sz)∧V.cell? ⟨N,5,none⟩=some (.int .i64 day)∧V.cell? ⟨N,6,none⟩=some (.int .i64 ser)∧V.cell? ⟨N,7,none⟩=some (.int .i64 cnt)∧V.cell? ⟨N,8,none⟩=some (.int .i64 pl)∧V.cell? ⟨N,9,none⟩=some (.string root)∧V.cell? ⟨N,10,none⟩=some (.slice ap n1 c1)∧V.cell? ⟨N,11,none⟩=some (.int .i64 si)∧V.cell? ⟨N,12,none⟩=some (.slice aq n2 c2)∧V.cell? ⟨N,13,none⟩=some (.slice ar n3 c3))∧V.cell? ⟨N1,0,none⟩=some (.int .i64 holB)∧V.cell? ⟨N1,1,none⟩=some (.int .i64 vltB)∧V.cell? ⟨N1,2,none⟩=some (.string strB)∧V.cell? ⟨N1,3,none⟩=some (.int .i64 ixB)∧V.cell? ⟨N1,4,none⟩=some (.int .i64 szB)∧V.cell? ⟨N1,5,none⟩=some (.int .i64 dayB)∧V.cell? ⟨N1,6,none⟩=some (.int .i64 serB)∧V.cell? ⟨N1,7,none⟩=some (.int .i64 cntB)∧V.cell? ⟨N1,8,none⟩=some (.int .i64 plB)∧V.cell? ⟨N1,9,none⟩=some (.string rootB)∧V.cell? ⟨N1,10,none⟩=some (.slice apB n1B c1B)∧V.cell? ⟨N1,11,none⟩=some (.int .i64 siB)∧V.cell? ⟨N1,12,none⟩=some (.slice aqB n2B c2B)∧V.cell? ⟨N1,13,none⟩=some (.slice arB n3B c3B)):=hid (fun V h=>⟨row14 ((h.block N (by have:=HNN.o;omega)).trans HG.o),row14 ((h.block N1 (Nat.lt_succ_self _)).trans HG2.o)⟩)
 have HST:Hid (∀V V',Below (N1+1) W V→Below V.heap.size V V'→Below (N1+1) W V'):=hid (fun V V' h h'=>h.trans (h'.mono (by have:=h.size;have:=HWS.o;omega)))
 have HDR:Hid (Below (N1+1) W W.drew):=hid (Below.refl _ _).drew
 clear HG HG2 HB
 obtain ⟨VD,hVD⟩:=ex_eq W.drew
 rw [hVD] at HDR
 cases VA
 ·have HF:Hid (F=false):=hid (by rw [HF0.o];rfl)
  refine Kit.wp_region_hplan (fun V=>(V.cell? ⟨N,0,none⟩=some (.int .i64 hol)∧V.cell? ⟨N,1,none⟩=some (.int .i64 vlt)∧V.cell? ⟨N,2,none⟩=some (.string str)∧V.cell? ⟨N,3,none⟩=some (.int .i64 ix)∧V.cell? ⟨N,4,none⟩=some (.int .i64 sz)∧V.cell? ⟨N,5,none⟩=some (.int .i64 day)∧V.cell? ⟨N,6,none⟩=some (.int .i64 ser)∧V.cell? ⟨N,7,none⟩=some (.int .i64 cnt)∧V.cell? ⟨N,8,none⟩=some (.int .i64 pl)∧V.cell? ⟨N,9,none⟩=some (.string root)∧V.cell? ⟨N,10,none⟩=some (.slice ap n1 c1)∧V.cell? ⟨N,11,none⟩=some (.int .i64 si)∧V.cell? ⟨N,12,none⟩=some (.slice aq n2 c2)∧V.cell? ⟨N,13,none⟩=some (.slice ar n3 c3))∧V.cell? ⟨N1,0,none⟩=some (.int .i64 holB)∧V.cell? ⟨N1,1,none⟩=some (.int .i64 vltB)∧V.cell? ⟨N1,2,none⟩=some (.string strB)∧V.cell? ⟨N1,3,none⟩=some (.int .i64 ixB)∧V.cell? ⟨N1,4,none⟩=some (.int .i64 szB)∧V.cell? ⟨N1,5,none⟩=some (.int .i64 dayB)∧V.cell? ⟨N1,6,none⟩=some (.int .i64 serB)∧V.cell? ⟨N1,7,none⟩=some (.int .i64 cntB)∧V.cell? ⟨N1,8,none⟩=some (.int .i64 plB)∧V.cell? ⟨N1,9,none⟩=some (.string rootB)∧V.cell? ⟨N1,10,none⟩=some (.slice apB n1B c1B)∧V.cell? ⟨N1,11,none⟩=some (.int .i64 siB)∧V.cell? ⟨N1,12,none⟩=some (.slice aqB n2B c2B)∧V.cell? ⟨N1,13,none⟩=some (.slice arB n3B c3B)) [(true,0),(false,1),(true,2),(true,3),(false,4),(true,5),(true,6),(true,7),(true,8),(true,9),(true,10),(true,11),(true,12),(true,13),(true,14),(true,15),(true,16),(true,17),(true,18),(true,19),(true,20),(true,21),(true,23),(false,22),(false,24),(true,25),(true,26),(true,27)] (by kernel_rfl) (by kernel_rfl) (by kernel_rfl) (by kernel_rfl) (by rw [hVD];exact HCC.o _ HDR.o) ?_
  rw [hVD]
  clear hVD
  iterate 1 (refine Kit.hhd (h:= ?_))
  refine Kit.hplan_op (by rfl) (by rfl) fun K hK=> ?_
  go_simp
  go_at_call 101
  with_reducible refine (HVA.o _ (HBW.o _ HDR.o)).mono ?_
  rintro e w2 ⟨rfl,h2⟩
  have H1:Hid (Below (N1+1) W w2):=hid (HST.o _ _ HDR.o h2)
  clear h2
  refine hK _ _ (HCC.o _ H1.o) ?_
  clear hK K
  iterate 2 (refine Kit.hhd (h:= ?_))
  refine Kit.hsk (h:=?_)
  iterate 18 (refine Kit.hhd (h:= ?_))
  refine Kit.hsk (h:=?_)
  refine Kit.hsk (h:=?_)
  iterate 3 (refine Kit.hhd (h:= ?_))
  refine Kit.hdn (h:=?_)
  (try go_wp2_with fail)
  go_ret
  exact ⟨by rw [HF.o];first | rfl | simp,HBW.o _ H1.o⟩
 cases VB
 ·have HF:Hid (F=false):=hid (by rw [HF0.o];rfl)
  refine Kit.wp_region_hplan (fun V=>(V.cell? ⟨N,0,none⟩=some (.int .i64 hol)∧V.cell? ⟨N,1,none⟩=some (.int .i64 vlt)∧V.cell? ⟨N,2,none⟩=some (.string str)∧V.cell? ⟨N,3,none⟩=some (.int .i64 ix)∧V.cell? ⟨N,4,none⟩=some (.int .i64 sz)∧V.cell? ⟨N,5,none⟩=some (.int .i64 day)∧V.cell? ⟨N,6,none⟩=some (.int .i64 ser)∧V.cell? ⟨N,7,none⟩=some (.int .i64 cnt)∧V.cell? ⟨N,8,none⟩=some (.int .i64 pl)∧V.cell? ⟨N,9,none⟩=some (.string root)∧V.cell? ⟨N,10,none⟩=some (.slice ap n1 c1)∧V.cell? ⟨N,11,none⟩=some (.int .i64 si)∧V.cell? ⟨N,12,none⟩=some (.slice aq n2 c2)∧V.cell? ⟨N,13,none⟩=some (.slice ar n3 c3))∧V.cell? ⟨N1,0,none⟩=some (.int .i64 holB)∧V.cell? ⟨N1,1,none⟩=some (.int .i64 vltB)∧V.cell? ⟨N1,2,none⟩=some (.string strB)∧V.cell? ⟨N1,3,none⟩=some (.int .i64 ixB)∧V.cell? ⟨N1,4,none⟩=some (.int .i64 szB)∧V.cell? ⟨N1,5,none⟩=some (.int .i64 dayB)∧V.cell? ⟨N1,6,none⟩=some (.int .i64 serB)∧V.cell? ⟨N1,7,none⟩=some (.int .i64 cntB)∧V.cell? ⟨N1,8,none⟩=some (.int .i64 plB)∧V.cell? ⟨N1,9,none⟩=some (.string rootB)∧V.cell? ⟨N1,10,none⟩=some (.slice apB n1B c1B)∧V.cell? ⟨N1,11,none⟩=some (.int .i64 siB)∧V.cell? ⟨N1,12,none⟩=some (.slice aqB n2B c2B)∧V.cell? ⟨N1,13,none⟩=some (.slice arB n3B c3B)) [(true,0),(false,1),(true,2),(true,3),(false,4),(true,5),(true,6),(true,7),(true,8),(true,9),(true,10),(true,11),(true,12),(true,13),(true,14),(true,15),(true,16),(true,17),(true,18),(true,19),(true,20),(true,21),(true,23),(false,22),(false,24),(true,25),(true,26),(true,27)] (by kernel_rfl) (by kernel_rfl) (by kernel_rfl) (by kernel_rfl) (by rw [hVD];exact HCC.o _ HDR.o) ?_
  rw [hVD]
  clear hVD
  iterate 1 (refine Kit.hhd (h:= ?_))
  refine Kit.hplan_op (by rfl) (by rfl) fun K hK=> ?_
  go_simp
  go_at_call 101
  with_reducible refine (HVA.o _ (HBW.o _ HDR.o)).mono ?_
  rintro e w2 ⟨rfl,h2⟩
  have H1:Hid (Below (N1+1) W w2):=hid (HST.o _ _ HDR.o h2)
  clear h2
  refine hK _ _ (HCC.o _ H1.o) ?_
  clear hK K
  iterate 2 (refine Kit.hhd (h:= ?_))
  refine Kit.hplan_op (by rfl) (by rfl) fun K hK=> ?_
  go_simp
  go_at_call 101
  with_reducible refine (HVB.o _ (HBW.o _ H1.o)).mono ?_
  rintro e w2 ⟨rfl,h2⟩
  have H2:Hid (Below (N1+1) W w2):=hid (HST.o _ _ H1.o h2)
  clear h2
  refine hK _ _ (HCC.o _ H2.o) ?_
  clear hK K
  iterate 18 (refine Kit.hhd (h:= ?_))
  refine Kit.hsk (h:=?_)
  refine Kit.hsk (h:=?_)
  iterate 3 (refine Kit.hhd (h:= ?_))
  refine Kit.hdn (h:=?_)
  (try go_wp2_with fail)
  go_ret
  exact ⟨by rw [HF.o];first | rfl | simp,HBW.o _ H2.o⟩
 by_cases he:hol=holB
 rotate_left
 ·have hq1:(hol==holB)=false:=by rw [beq_eq_false_iff_ne];exact he
  have HF:Hid (F=false):=hid (by rw [HF0.o,decide_eq_false he];rfl)
  clear he
  refine Kit.wp_region_hplan (fun V=>(V.cell? ⟨N,0,none⟩=some (.int .i64 hol)∧V.cell? ⟨N,1,none⟩=some (.int .i64 vlt)∧V.cell? ⟨N,2,none⟩=some (.string str)∧V.cell? ⟨N,3,none⟩=some (.int .i64 ix)∧V.cell? ⟨N,4,none⟩=some (.int .i64 sz)∧V.cell? ⟨N,5,none⟩=some (.int .i64 day)∧V.cell? ⟨N,6,none⟩=some (.int .i64 ser)∧V.cell? ⟨N,7,none⟩=some (.int .i64 cnt)∧V.cell? ⟨N,8,none⟩=some (.int .i64 pl)∧V.cell? ⟨N,9,none⟩=some (.string root)∧V.cell? ⟨N,10,none⟩=some (.slice ap n1 c1)∧V.cell? ⟨N,11,none⟩=some (.int .i64 si)∧V.cell? ⟨N,12,none⟩=some (.slice aq n2 c2)∧V.cell? ⟨N,13,none⟩=some (.slice ar n3 c3))∧V.cell? ⟨N1,0,none⟩=some (.int .i64 holB)∧V.cell? ⟨N1,1,none⟩=some (.int .i64 vltB)∧V.cell? ⟨N1,2,none⟩=some (.string strB)∧V.cell? ⟨N1,3,none⟩=some (.int .i64 ixB)∧V.cell? ⟨N1,4,none⟩=some (.int .i64 szB)∧V.cell? ⟨N1,5,none⟩=some (.int .i64 dayB)∧V.cell? ⟨N1,6,none⟩=some (.int .i64 serB)∧V.cell? ⟨N1,7,none⟩=some (.int .i64 cntB)∧V.cell? ⟨N1,8,none⟩=some (.int .i64 plB)∧V.cell? ⟨N1,9,none⟩=some (.string rootB)∧V.cell? ⟨N1,10,none⟩=some (.slice apB n1B c1B)∧V.cell? ⟨N1,11,none⟩=some (.int .i64 siB)∧V.cell? ⟨N1,12,none⟩=some (.slice aqB n2B c2B)∧V.cell? ⟨N1,13,none⟩=some (.slice arB n3B c3B)) [(true,0),(false,1),(true,2),(true,3),(false,4),(true,5),(true,6),(true,7),(true,8),(true,9),(true,10),(true,11),(true,12),(true,13),(true,14),(true,15),(true,16),(true,17),(true,18),(true,19),(true,20),(true,21),(true,23),(false,22),(false,24),(true,25),(true,26),(true,27)] (by kernel_rfl) (by kernel_rfl) (by kernel_rfl) (by kernel_rfl) (by rw [hVD];exact HCC.o _ HDR.o) ?_
  rw [hVD]
  clear hVD
  iterate 1 (refine Kit.hhd (h:= ?_))
  refine Kit.hplan_op (by rfl) (by rfl) fun K hK=> ?_
  go_simp
  go_at_call 101
  with_reducible refine (HVA.o _ (HBW.o _ HDR.o)).mono ?_
  rintro e w2 ⟨rfl,h2⟩
  have H1:Hid (Below (N1+1) W w2):=hid (HST.o _ _ HDR.o h2)
  clear h2
  refine hK _ _ (HCC.o _ H1.o) ?_
  clear hK K
  iterate 2 (refine Kit.hhd (h:= ?_))
  refine Kit.hplan_op (by rfl) (by rfl) fun K hK=> ?_
  go_simp
  go_at_call 101
  with_reducible refine (HVB.o _ (HBW.o _ H1.o)).mono ?_
  rintro e w2 ⟨rfl,h2⟩
  have H2:Hid (Below (N1+1) W w2):=hid (HST.o _ _ H1.o h2)
  clear h2
  refine hK _ _ (HCC.o _ H2.o) ?_
  clear hK K
  iterate 18 (refine Kit.hhd (h:= ?_))
  refine Kit.hsk (h:=?_)
  refine Kit.hsk (h:=?_)
  iterate 3 (refine Kit.hhd (h:= ?_))
  refine Kit.hdn (h:=?_)
  (try go_wp2_with fail)
  go_ret
  exact ⟨by rw [HF.o];first | rfl | simp,HBW.o _ H2.o⟩
 have hq1:(hol==holB)=true:=by rw [beq_iff_eq];exact he
 have HE1:=hid he
 clear he
 by_cases he:ser=serB
 rotate_left
 ·have hq2:(ser==serB)=false:=by rw [beq_eq_false_iff_ne];exact he
  have HF:Hid (F=false):=hid (by rw [HF0.o,decide_eq_false he];simp)
  clear he
  refine Kit.wp_region_hplan (fun V=>(V.cell? ⟨N,0,none⟩=some (.int .i64 hol)∧V.cell? ⟨N,1,none⟩=some (.int .i64 vlt)∧V.cell? ⟨N,2,none⟩=some (.string str)∧V.cell? ⟨N,3,none⟩=some (.int .i64 ix)∧V.cell? ⟨N,4,none⟩=some (.int .i64 sz)∧V.cell? ⟨N,5,none⟩=some (.int .i64 day)∧V.cell? ⟨N,6,none⟩=some (.int .i64 ser)∧V.cell? ⟨N,7,none⟩=some (.int .i64 cnt)∧V.cell? ⟨N,8,none⟩=some (.int .i64 pl)∧V.cell? ⟨N,9,none⟩=some (.string root)∧V.cell? ⟨N,10,none⟩=some (.slice ap n1 c1)∧V.cell? ⟨N,11,none⟩=some (.int .i64 si)∧V.cell? ⟨N,12,none⟩=some (.slice aq n2 c2)∧V.cell? ⟨N,13,none⟩=some (.slice ar n3 c3))∧V.cell? ⟨N1,0,none⟩=some (.int .i64 holB)∧V.cell? ⟨N1,1,none⟩=some (.int .i64 vltB)∧V.cell? ⟨N1,2,none⟩=some (.string strB)∧V.cell? ⟨N1,3,none⟩=some (.int .i64 ixB)∧V.cell? ⟨N1,4,none⟩=some (.int .i64 szB)∧V.cell? ⟨N1,5,none⟩=some (.int .i64 dayB)∧V.cell? ⟨N1,6,none⟩=some (.int .i64 serB)∧V.cell? ⟨N1,7,none⟩=some (.int .i64 cntB)∧V.cell? ⟨N1,8,none⟩=some (.int .i64 plB)∧V.cell? ⟨N1,9,none⟩=some (.string rootB)∧V.cell? ⟨N1,10,none⟩=some (.slice apB n1B c1B)∧V.cell? ⟨N1,11,none⟩=some (.int .i64 siB)∧V.cell? ⟨N1,12,none⟩=some (.slice aqB n2B c2B)∧V.cell? ⟨N1,13,none⟩=some (.slice arB n3B c3B)) [(true,0),(false,1),(true,2),(true,3),(false,4),(true,5),(true,6),(true,7),(true,8),(true,9),(true,10),(true,11),(true,12),(true,13),(true,14),(true,15),(true,16),(true,17),(true,18),(true,19),(true,20),(true,21),(true,23),(false,22),(false,24),(true,25),(true,26),(true,27)] (by kernel_rfl) (by kernel_rfl) (by kernel_rfl) (by kernel_rfl) (by rw [hVD];exact HCC.o _ HDR.o) ?_
  rw [hVD]
  clear hVD
  iterate 1 (refine Kit.hhd (h:= ?_))
  refine Kit.hplan_op (by rfl) (by rfl) fun K hK=> ?_
  go_simp
  go_at_call 101
  with_reducible refine (HVA.o _ (HBW.o _ HDR.o)).mono ?_
  rintro e w2 ⟨rfl,h2⟩
  have H1:Hid (Below (N1+1) W w2):=hid (HST.o _ _ HDR.o h2)
  clear h2
  refine hK _ _ (HCC.o _ H1.o) ?_
  clear hK K
  iterate 2 (refine Kit.hhd (h:= ?_))
  refine Kit.hplan_op (by rfl) (by rfl) fun K hK=> ?_
  go_simp
  go_at_call 101
  with_reducible refine (HVB.o _ (HBW.o _ H1.o)).mono ?_
  rintro e w2 ⟨rfl,h2⟩
  have H2:Hid (Below (N1+1) W w2):=hid (HST.o _ _ H1.o h2)
  clear h2
  refine hK _ _ (HCC.o _ H2.o) ?_
  clear hK K
  iterate 18 (refine Kit.hhd (h:= ?_))
  refine Kit.hsk (h:=?_)
  refine Kit.hsk (h:=?_)
  iterate 3 (refine Kit.hhd (h:= ?_))
  refine Kit.hdn (h:=?_)
  (try go_wp2_with fail)
  go_ret
  exact ⟨by rw [HF.o];first | rfl | simp,HBW.o _ H2.o⟩
 have hq2:(ser==serB)=true:=by rw [beq_iff_eq];exact he
 have HF:Hid (F= !D):=hid (by rw [HF0.o,decide_eq_true he,decide_eq_true HE1.o];rfl)
 clear he
 refine Kit.wp_region_hplan (fun V=>(V.cell? ⟨N,0,none⟩=some (.int .i64 hol)∧V.cell? ⟨N,1,none⟩=some (.int .i64 vlt)∧V.cell? ⟨N,2,none⟩=some (.string str)∧V.cell? ⟨N,3,none⟩=some (.int .i64 ix)∧V.cell? ⟨N,4,none⟩=some (.int .i64 sz)∧V.cell? ⟨N,5,none⟩=some (.int .i64 day)∧V.cell? ⟨N,6,none⟩=some (.int .i64 ser)∧V.cell? ⟨N,7,none⟩=some (.int .i64 cnt)∧V.cell? ⟨N,8,none⟩=some (.int .i64 pl)∧V.cell? ⟨N,9,none⟩=some (.string root)∧V.cell? ⟨N,10,none⟩=some (.slice ap n1 c1)∧V.cell? ⟨N,11,none⟩=some (.int .i64 si)∧V.cell? ⟨N,12,none⟩=some (.slice aq n2 c2)∧V.cell? ⟨N,13,none⟩=some (.slice ar n3 c3))∧V.cell? ⟨N1,0,none⟩=some (.int .i64 holB)∧V.cell? ⟨N1,1,none⟩=some (.int .i64 vltB)∧V.cell? ⟨N1,2,none⟩=some (.string strB)∧V.cell? ⟨N1,3,none⟩=some (.int .i64 ixB)∧V.cell? ⟨N1,4,none⟩=some (.int .i64 szB)∧V.cell? ⟨N1,5,none⟩=some (.int .i64 dayB)∧V.cell? ⟨N1,6,none⟩=some (.int .i64 serB)∧V.cell? ⟨N1,7,none⟩=some (.int .i64 cntB)∧V.cell? ⟨N1,8,none⟩=some (.int .i64 plB)∧V.cell? ⟨N1,9,none⟩=some (.string rootB)∧V.cell? ⟨N1,10,none⟩=some (.slice apB n1B c1B)∧V.cell? ⟨N1,11,none⟩=some (.int .i64 siB)∧V.cell? ⟨N1,12,none⟩=some (.slice aqB n2B c2B)∧V.cell? ⟨N1,13,none⟩=some (.slice arB n3B c3B)) [(true,0),(false,1),(true,2),(true,3),(false,4),(true,5),(true,6),(true,7),(true,8),(true,9),(true,10),(true,11),(true,12),(true,13),(true,14),(true,15),(true,16),(true,17),(true,18),(true,19),(true,20),(true,21),(true,23),(false,22),(false,24),(true,25),(true,26),(true,27)] (by kernel_rfl) (by kernel_rfl) (by kernel_rfl) (by kernel_rfl) (by rw [hVD];exact HCC.o _ HDR.o) ?_
 rw [hVD]
 clear hVD
 iterate 1 (refine Kit.hhd (h:= ?_))
 refine Kit.hplan_op (by rfl) (by rfl) fun K hK=> ?_
 go_simp
 go_at_call 101
 with_reducible refine (HVA.o _ (HBW.o _ HDR.o)).mono ?_
 rintro e w2 ⟨rfl,h2⟩
 have H1:Hid (Below (N1+1) W w2):=hid (HST.o _ _ HDR.o h2)
 clear h2
 refine hK _ _ (HCC.o _ H1.o) ?_
 clear hK K
 iterate 2 (refine Kit.hhd (h:= ?_))
 refine Kit.hplan_op (by rfl) (by rfl) fun K hK=> ?_
 go_simp
 go_at_call 101
 with_reducible refine (HVB.o _ (HBW.o _ H1.o)).mono ?_
 rintro e w2 ⟨rfl,h2⟩
 have H2:Hid (Below (N1+1) W w2):=hid (HST.o _ _ H1.o h2)
 clear h2
 refine hK _ _ (HCC.o _ H2.o) ?_
 clear hK K
 iterate 18 (refine Kit.hhd (h:= ?_))
 refine Kit.hplan_op (by rfl) (by rfl) fun K hK=> ?_
 go_simp
 go_at_call 128
 with_reducible refine (HSA.o _).mono ?_
 rintro e w2 ⟨rfl,h2⟩
 have H3:Hid (Below (N1+1) W w2):=hid (HST.o _ _ H2.o h2)
 clear h2
 refine hK _ _ (HCC.o _ H3.o) ?_
 clear hK K
 refine Kit.hplan_op (by rfl) (by rfl) fun K hK=> ?_
 go_simp
 go_at_call 128
 with_reducible refine (HSB.o _).mono ?_
 rintro e w2 ⟨rfl,h2⟩
 have H4:Hid (Below (N1+1) W w2):=hid (HST.o _ _ H3.o h2)
 clear h2
 refine hK _ _ (HCC.o _ H4.o) ?_
 clear hK K
 iterate 3 (refine Kit.hhd (h:= ?_))
 refine Kit.hdn (h:=?_)
 (try go_wp2_with fail)
 go_ret
 exact ⟨by rw [HF.o];first | rfl | simp,HBW.o _ H4.o⟩
def verR (B H:Int) (pk:List Nat) (r:Rc):Bool:=validR r && (decide (Mrk.climbM (leafR r) r.pl.toNat r.cnt.toNat (r.path.map nb)=some (nb r.root)) && decide (SigAcc B H pk (batchR (nb r.root) r.cnt.toNat) r.si (r.parts.map nb) (r.sp.map nb)))
theorem receiptVerify_any (pk:ByteArray) (B H:Int) (hol vlt:Int) (str:ByteArray) (ix sz day ser cnt pl:Int) (root:ByteArray) (ap:Option Addr) (n1 c1:Nat) (si:Int) (aq:Option Addr) (n2 c2:Nat) (ar:Option Addr) (n3 c3:Nat) (pa pt sq:List ByteArray) (w:World) (h1:pa.length=n1) (k1:n1<9223372036854775808) (s1:StrsAt w ap pa) (h2:pt.length=n2) (k2:n2<9223372036854775808) (s2:StrsAt w aq pt) (h3:sq.length=n3) (k3:n3<9223372036854775808) (s3:StrsAt w ar sq) (hc1:n1≤c1) (hLd:Laid w):Calls Tryz.prog 23 #[.string pk,.agg #[.int .i64 B,.int .i64 H],.agg #[.int .i64 hol,.int .i64 vlt,.string str,.int .i64 ix,.int .i64 sz,.int .i64 day,.int .i64 ser,.int .i64 cnt,.int .i64 pl,.string root,.slice ap n1 c1,.int .i64 si,.slice aq n2 c2,.slice ar n3 c3]] w fun e w'=>e= .returned (.bool (verR B H (nb pk) ⟨hol,vlt,str,ix,sz,day,ser,cnt,pl,root,pa,si,pt,sq⟩))∧Below w.heap.size w w':=by
 obtain ⟨VA,hVA⟩:=ex_eq (validR ⟨hol,vlt,str,ix,sz,day,ser,cnt,pl,root,pa,si,pt,sq⟩)
 have HVA:Hid (∀V,Below w.heap.size w V→Calls Tryz.prog 101 #[.agg #[.int .i64 hol,.int .i64 vlt,.string str,.int .i64 ix,.int .i64 sz,.int .i64 day,.int .i64 ser,.int .i64 cnt,.int .i64 pl,.string root,.slice ap n1 c1,.int .i64 si,.slice aq n2 c2,.slice ar n3 c3]] V fun e w'=>e= .returned (.bool VA)∧Below V.heap.size V w'):=hid (fun V h=>by
  have h0:=validR_any hol vlt str ix sz day ser cnt pl root ap n1 c1 si aq n2 c2 ar n3 c3 pa pt sq V h1 k1 (s1.later h) h2 k2 (s2.later h) h3 k3 (s3.later h)
  rw [hVA] at h0
  exact h0)
 obtain ⟨D1,hD1⟩:=ex_eq (decide (Mrk.climbM (leafR ⟨hol,vlt,str,ix,sz,day,ser,cnt,pl,root,pa,si,pt,sq⟩) pl.toNat cnt.toNat (pa.map nb)=some (nb root)))
 obtain ⟨D2,hD2⟩:=ex_eq (decide (SigAcc B H (nb pk) (batchR (nb root) cnt.toNat) si (pt.map nb) (sq.map nb)))
 have HF0:Hid (verR B H (nb pk) ⟨hol,vlt,str,ix,sz,day,ser,cnt,pl,root,pa,si,pt,sq⟩=(VA && (D1 && D2))):=hid (by
  unfold verR
  rw [hVA,← hD1,← hD2])
 have HVT:Hid (VA=true→ValidR ⟨hol,vlt,str,ix,sz,day,ser,cnt,pl,root,pa,si,pt,sq⟩):=hid (fun h=>validR_iff.1 (by rw [hVA,h]))
 have HD1:=hid hD1
 have HD2:=hid hD2
 obtain ⟨F,hF⟩:=ex_eq (verR B H (nb pk) ⟨hol,vlt,str,ix,sz,day,ser,cnt,pl,root,pa,si,pt,sq⟩)
 rw [hF] at HF0 ⊢
 have HH1:=hid h1
 have HH2:=hid h2
 have HH3:=hid h3
 have HK1:=hid k1
 have HK2:=hid k2
 have HK3:=hid k3
 have HS1:=hid s1
 have HS2:=hid s2
 have HS3:=hid s3
 have HC1:=hid hc1
 have HLD:=hid hLd
 clear hF hVA hD1 hD2 hc1 hLd h1 h2 h3 k1 k2 k3 s1 s2 s3
 go_enter Tryz.func23,Tryz.ntmps23
 go_upto_region 1 with fail
 refine wp_over (fun W=>Hid (W.heap[w.heap.size]? =some (.cells #[.int .i64 B,.int .i64 H] 23 (0,0)))∧Hid (W.heap[w.heap.size+1]? =some (.cells #[.int .i64 hol,.int .i64 vlt,.string str,.int .i64 ix,.int .i64 sz,.int .i64 day,.int .i64 ser,.int .i64 cnt,.int .i64 pl,.string root,.slice ap n1 c1,.int .i64 si,.slice aq n2 c2,.slice ar n3 c3] 47 (0,0)))∧Hid (Below w.heap.size w W)∧Hid (W.heap.size=w.heap.size+2)) ⟨two_rows1,two_rows2,two_below,two_size⟩ ?_
 rintro W ⟨HG,HG2,HB,HWS⟩
 have HBW0:Hid (∀V,Below (w.heap.size+1+1) W V→Below w.heap.size w V):=hid (fun V h=>HB.o.trans (h.mono (by omega)))
 obtain ⟨N,hN⟩:=ex_eq w.heap.size
 obtain ⟨N1,hN1⟩:=ex_eq (w.heap.size+1)
 have HBW:Hid (∀V,Below (N1+1) W V→Below w.heap.size w V):=hid (fun V h=>HBW0.o V (by rw [hN1];exact h))
 have HNN:Hid (N1=N+1):=hid (by omega)
 have HWS:Hid (W.heap.size=N1+1):=hid (by have:=HWS.o;omega)
 rw [hN1] at HG2 ⊢
 rw [hN] at HG HB ⊢
 clear hN hN1 HBW0
 have HCC:Hid (∀V,Below (N1+1) W V→(V.cell? ⟨N,0,none⟩=some (.int .i64 B)∧V.cell? ⟨N,1,none⟩=some (.int .i64 H))∧V.cell? ⟨N1,0,none⟩=some (.int .i64 hol)∧V.cell? ⟨N1,1,none⟩=some (.int .i64 vlt)∧V.cell? ⟨N1,2,none⟩=some (.string str)∧V.cell? ⟨N1,3,none⟩=some (.int .i64 ix)∧V.cell? ⟨N1,4,none⟩=some (.int .i64 sz)∧V.cell? ⟨N1,5,none⟩=some (.int .i64 day)∧V.cell? ⟨N1,6,none⟩=some (.int .i64 ser)∧V.cell? ⟨N1,7,none⟩=some (.int .i64 cnt)∧V.cell? ⟨N1,8,none⟩=some (.int .i64 pl)∧V.cell? ⟨N1,9,none⟩=some (.string root)∧V.cell? ⟨N1,10,none⟩=some (.slice ap n1 c1)∧V.cell? ⟨N1,11,none⟩=some (.int .i64 si)∧V.cell? ⟨N1,12,none⟩=some (.slice aq n2 c2)∧V.cell? ⟨N1,13,none⟩=some (.slice ar n3 c3)):=hid (fun V h=>by
  have hr:=(h.block N (by have:=HNN.o;omega)).trans HG.o
  exact ⟨⟨cr hr,cr hr⟩,row14 ((h.block N1 (Nat.lt_succ_self _)).trans HG2.o)⟩)
 have HST:Hid (∀V V',Below (N1+1) W V→Below V.heap.size V V'→Below (N1+1) W V'):=hid (fun V V' h h'=>h.trans (h'.mono (by have:=h.size;have:=HWS.o;omega)))
 have HDR:Hid (Below (N1+1) W W.drew):=hid (Below.refl _ _).drew
 clear HG HG2 HB
 obtain ⟨VD,hVD⟩:=ex_eq W.drew
 rw [hVD] at HDR
 cases VA
 ·have HF:Hid (F=false):=hid (by rw [HF0.o];rfl)
  refine Kit.wp_region_hplan (fun V=>(V.cell? ⟨N,0,none⟩=some (.int .i64 B)∧V.cell? ⟨N,1,none⟩=some (.int .i64 H))∧V.cell? ⟨N1,0,none⟩=some (.int .i64 hol)∧V.cell? ⟨N1,1,none⟩=some (.int .i64 vlt)∧V.cell? ⟨N1,2,none⟩=some (.string str)∧V.cell? ⟨N1,3,none⟩=some (.int .i64 ix)∧V.cell? ⟨N1,4,none⟩=some (.int .i64 sz)∧V.cell? ⟨N1,5,none⟩=some (.int .i64 day)∧V.cell? ⟨N1,6,none⟩=some (.int .i64 ser)∧V.cell? ⟨N1,7,none⟩=some (.int .i64 cnt)∧V.cell? ⟨N1,8,none⟩=some (.int .i64 pl)∧V.cell? ⟨N1,9,none⟩=some (.string root)∧V.cell? ⟨N1,10,none⟩=some (.slice ap n1 c1)∧V.cell? ⟨N1,11,none⟩=some (.int .i64 si)∧V.cell? ⟨N1,12,none⟩=some (.slice aq n2 c2)∧V.cell? ⟨N1,13,none⟩=some (.slice ar n3 c3)) [(true,0),(false,1),(true,2),(true,3),(true,5),(true,6),(true,7),(true,8),(true,9),(true,10),(true,11),(true,12),(false,4),(false,13),(true,14),(true,15),(true,16),(true,17),(true,18),(true,19),(true,20),(true,21),(true,23),(true,24),(false,22),(false,25),(true,26),(true,27)] (by kernel_rfl) (by kernel_rfl) (by kernel_rfl) (by kernel_rfl) (by rw [hVD];exact HCC.o _ HDR.o) ?_
  rw [hVD]
  clear hVD
  iterate 1 (refine Kit.hhd (h:= ?_))
  refine Kit.hplan_op (by rfl) (by rfl) fun K hK=> ?_
  go_simp
  go_at_call 101
  with_reducible refine (HVA.o _ (HBW.o _ HDR.o)).mono ?_
  rintro e w2 ⟨rfl,h2⟩
  have H1:Hid (Below (N1+1) W w2):=hid (HST.o _ _ HDR.o h2)
  clear h2
  refine hK _ _ (HCC.o _ H1.o) ?_
  clear hK K
  iterate 10 (refine Kit.hhd (h:= ?_))
  refine Kit.hsk (h:=?_)
  refine Kit.hsk (h:=?_)
  iterate 10 (refine Kit.hhd (h:= ?_))
  refine Kit.hsk (h:=?_)
  refine Kit.hsk (h:=?_)
  iterate 2 (refine Kit.hhd (h:= ?_))
  refine Kit.hdn (h:=?_)
  (try go_wp2_with fail)
  go_ret
  exact ⟨by rw [HF.o];first | rfl | simp,HBW.o _ H1.o⟩
 have HVR:=hid (HVT.o rfl)
 have HLF:Hid (∀V,Below w.heap.size w V→Calls Tryz.prog 89 #[.agg #[.int .i64 hol,.int .i64 vlt,.string str,.int .i64 ix,.int .i64 sz,.int .i64 day,.int .i64 ser,.int .i64 cnt,.int .i64 pl,.string root,.slice ap n1 c1,.int .i64 si,.slice aq n2 c2,.slice ar n3 c3]] V fun e w'=> ∃u:ByteArray,e= .returned (.string u)∧nb u=leafR ⟨hol,vlt,str,ix,sz,day,ser,cnt,pl,root,pa,si,pt,sq⟩∧u.size=32∧Below V.heap.size V w'):=hid (fun V h=>leafR_ok hol vlt str ix sz day ser cnt pl root ap n1 c1 si aq n2 c2 ar n3 c3 pa pt sq HVR.o.sgv _ rfl V (HLD.o.later h (Nat.le_refl _)))
 obtain ⟨e6,he6⟩: ∃n:Nat,cnt=(n:Int):=⟨cnt.toNat,by have:=HVR.o.c0;simp only at this;omega⟩
 obtain ⟨e7,he7⟩: ∃n:Nat,pl=(n:Int):=⟨pl.toNat,by have:=HVR.o.p0;simp only at this;omega⟩
 have HE:Hid (1≤e6∧e6≤256∧e7<e6):=hid ⟨by have:=HVR.o.c0;simp only at this;omega,by have:=HVR.o.c1;simp only at this;omega,by have:=HVR.o.p1;simp only at this;omega⟩
 have HT6:Hid (cnt.toNat=e6∧pl.toNat=e7):=hid ⟨by omega,by omega⟩
 have HMV:Hid (∀(u:ByteArray),nb u=leafR ⟨hol,vlt,str,ix,sz,day,ser,cnt,pl,root,pa,si,pt,sq⟩→u.size=32→ ∀V,Below w.heap.size w V→Calls Tryz.prog 33 #[.string u,.int .i64 (e7:Int),.int .i64 (e6:Int),.slice ap n1 c1,.string root] V fun e w'=>e= .returned (.bool D1)∧Below V.heap.size V w'):=hid (fun u hu hz V h=>by
  have h0:=verifyM_ok u hz e7 e6 HE.o.1 HE.o.2.1 HE.o.2.2 ap c1 n1 pa HH1.o HC1.o (by have:=HVR.o.pn;have:=HH1.o;simp only at*;omega) HVR.o.ps root HVR.o.rt V (HS1.o.later h) (HLD.o.later h (Nat.le_refl _))
  rw [hu,← HT6.o.1,← HT6.o.2,HD1.o,HT6.o.1,HT6.o.2] at h0
  exact h0)
 have HBD:Hid (∀V,Below w.heap.size w V→Calls Tryz.prog 92 #[.string root,.int .i64 (e6:Int)] V fun e w'=> ∃u:ByteArray,e= .returned (.string u)∧nb u=batchR (nb root) e6∧u.size=32∧Below V.heap.size V w'):=hid (fun V h=>batch_ok root HVR.o.rt e6 (by have:=HE.o.2.1;omega) _ rfl V (HLD.o.later h (Nat.le_refl _)))
 have HSV:Hid (∀(u2:ByteArray),nb u2=batchR (nb root) e6→ ∀V,Below w.heap.size w V→Calls Tryz.prog 102 #[.agg #[.int .i64 B,.int .i64 H],.string pk,.string u2,.agg #[.int .i64 si,.slice aq n2 c2,.slice ar n3 c3]] V fun e w'=>e= .returned (.bool D2)∧Below V.heap.size V w'):=hid (fun u2 hu V h=>by
  have h0:=sigVerify_any B H pk u2 si (.agg #[.int .i64 si,.slice aq n2 c2,.slice ar n3 c3]) pt sq (by rw [HH2.o];exact HK2.o) (by rw [HH3.o];exact HK3.o) V ⟨aq,n2,c2,ar,n3,c3,rfl,HH2.o,HS2.o.later h,HH3.o,HS3.o.later h⟩ (HLD.o.later h (Nat.le_refl _))
  rw [hu,← HT6.o.1,HD2.o] at h0
  exact h0)
 clear HD1 HD2 HVT
 subst he6 he7
 cases D1
 ·have HF:Hid (F=false):=hid (by rw [HF0.o];rfl)
  refine Kit.wp_region_hplan (fun V=>(V.cell? ⟨N,0,none⟩=some (.int .i64 B)∧V.cell? ⟨N,1,none⟩=some (.int .i64 H))∧V.cell? ⟨N1,0,none⟩=some (.int .i64 hol)∧V.cell? ⟨N1,1,none⟩=some (.int .i64 vlt)∧V.cell? ⟨N1,2,none⟩=some (.string str)∧V.cell? ⟨N1,3,none⟩=some (.int .i64 ix)∧V.cell? ⟨N1,4,none⟩=some (.int .i64 sz)∧V.cell? ⟨N1,5,none⟩=some (.int .i64 day)∧V.cell? ⟨N1,6,none⟩=some (.int .i64 ser)∧V.cell? ⟨N1,7,none⟩=some (.int .i64 (e6:Int))∧V.cell? ⟨N1,8,none⟩=some (.int .i64 (e7:Int))∧V.cell? ⟨N1,9,none⟩=some (.string root)∧V.cell? ⟨N1,10,none⟩=some (.slice ap n1 c1)∧V.cell? ⟨N1,11,none⟩=some (.int .i64 si)∧V.cell? ⟨N1,12,none⟩=some (.slice aq n2 c2)∧V.cell? ⟨N1,13,none⟩=some (.slice ar n3 c3)) [(true,0),(false,1),(true,2),(true,3),(true,5),(true,6),(true,7),(true,8),(true,9),(true,10),(true,11),(true,12),(false,4),(false,13),(true,14),(true,15),(true,16),(true,17),(true,18),(true,19),(true,20),(true,21),(true,23),(true,24),(false,22),(false,25),(true,26),(true,27)] (by kernel_rfl) (by kernel_rfl) (by kernel_rfl) (by kernel_rfl) (by rw [hVD];exact HCC.o _ HDR.o) ?_
  rw [hVD]
  clear hVD
  iterate 1 (refine Kit.hhd (h:= ?_))
  refine Kit.hplan_op (by rfl) (by rfl) fun K hK=> ?_
  go_simp
  go_at_call 101
  with_reducible refine (HVA.o _ (HBW.o _ HDR.o)).mono ?_
  rintro e w2 ⟨rfl,h2⟩
  have H1:Hid (Below (N1+1) W w2):=hid (HST.o _ _ HDR.o h2)
  clear h2
  refine hK _ _ (HCC.o _ H1.o) ?_
  clear hK K
  iterate 10 (refine Kit.hhd (h:= ?_))
  refine Kit.hplan_op (by rfl) (by rfl) fun K hK=> ?_
  go_simp
  go_at_call 89
  with_reducible refine (HLF.o _ (HBW.o _ H1.o)).mono ?_
  rintro e w2 ⟨u,rfl,hu,hz,h2⟩
  have HU:=hid hu
  have HZ:=hid hz
  clear hu hz
  have H2:Hid (Below (N1+1) W w2):=hid (HST.o _ _ H1.o h2)
  clear h2
  refine hK _ _ (HCC.o _ H2.o) ?_
  clear hK K
  refine Kit.hplan_op (by rfl) (by rfl) fun K hK=> ?_
  go_simp
  go_at_call 33
  with_reducible refine (HMV.o u HU.o HZ.o _ (HBW.o _ H2.o)).mono ?_
  rintro e w2 ⟨rfl,h2⟩
  have H3:Hid (Below (N1+1) W w2):=hid (HST.o _ _ H2.o h2)
  clear h2
  refine hK _ _ (HCC.o _ H3.o) ?_
  clear hK K
  iterate 10 (refine Kit.hhd (h:= ?_))
  refine Kit.hsk (h:=?_)
  refine Kit.hsk (h:=?_)
  iterate 2 (refine Kit.hhd (h:= ?_))
  refine Kit.hdn (h:=?_)
  (try go_wp2_with fail)
  go_ret
  exact ⟨by rw [HF.o];first | rfl | simp,HBW.o _ H3.o⟩
 have HF:Hid (F=D2):=hid (by rw [HF0.o];rfl)
 refine Kit.wp_region_hplan (fun V=>(V.cell? ⟨N,0,none⟩=some (.int .i64 B)∧V.cell? ⟨N,1,none⟩=some (.int .i64 H))∧V.cell? ⟨N1,0,none⟩=some (.int .i64 hol)∧V.cell? ⟨N1,1,none⟩=some (.int .i64 vlt)∧V.cell? ⟨N1,2,none⟩=some (.string str)∧V.cell? ⟨N1,3,none⟩=some (.int .i64 ix)∧V.cell? ⟨N1,4,none⟩=some (.int .i64 sz)∧V.cell? ⟨N1,5,none⟩=some (.int .i64 day)∧V.cell? ⟨N1,6,none⟩=some (.int .i64 ser)∧V.cell? ⟨N1,7,none⟩=some (.int .i64 (e6:Int))∧V.cell? ⟨N1,8,none⟩=some (.int .i64 (e7:Int))∧V.cell? ⟨N1,9,none⟩=some (.string root)∧V.cell? ⟨N1,10,none⟩=some (.slice ap n1 c1)∧V.cell? ⟨N1,11,none⟩=some (.int .i64 si)∧V.cell? ⟨N1,12,none⟩=some (.slice aq n2 c2)∧V.cell? ⟨N1,13,none⟩=some (.slice ar n3 c3)) [(true,0),(false,1),(true,2),(true,3),(true,5),(true,6),(true,7),(true,8),(true,9),(true,10),(true,11),(true,12),(false,4),(false,13),(true,14),(true,15),(true,16),(true,17),(true,18),(true,19),(true,20),(true,21),(true,23),(true,24),(false,22),(false,25),(true,26),(true,27)] (by kernel_rfl) (by kernel_rfl) (by kernel_rfl) (by kernel_rfl) (by rw [hVD];exact HCC.o _ HDR.o) ?_
 rw [hVD]
 clear hVD
 iterate 1 (refine Kit.hhd (h:= ?_))
 refine Kit.hplan_op (by rfl) (by rfl) fun K hK=> ?_
 go_simp
 go_at_call 101
 with_reducible refine (HVA.o _ (HBW.o _ HDR.o)).mono ?_
 rintro e w2 ⟨rfl,h2⟩
 have H1:Hid (Below (N1+1) W w2):=hid (HST.o _ _ HDR.o h2)
 clear h2
 refine hK _ _ (HCC.o _ H1.o) ?_
 clear hK K
 iterate 10 (refine Kit.hhd (h:= ?_))
 refine Kit.hplan_op (by rfl) (by rfl) fun K hK=> ?_
 go_simp
 go_at_call 89
 with_reducible refine (HLF.o _ (HBW.o _ H1.o)).mono ?_
 rintro e w2 ⟨u,rfl,hu,hz,h2⟩
 have HU:=hid hu
 have HZ:=hid hz
 clear hu hz
 have H2:Hid (Below (N1+1) W w2):=hid (HST.o _ _ H1.o h2)
 clear h2
 refine hK _ _ (HCC.o _ H2.o) ?_
 clear hK K
 refine Kit.hplan_op (by rfl) (by rfl) fun K hK=> ?_
 go_simp
 go_at_call 33
 with_reducible refine (HMV.o u HU.o HZ.o _ (HBW.o _ H2.o)).mono ?_
 rintro e w2 ⟨rfl,h2⟩
 have H3:Hid (Below (N1+1) W w2):=hid (HST.o _ _ H2.o h2)
 clear h2
 refine hK _ _ (HCC.o _ H3.o) ?_
 clear hK K
 iterate 10 (refine Kit.hhd (h:= ?_))
 refine Kit.hplan_op (by rfl) (by rfl) fun K hK=> ?_
 go_simp
 go_at_call 92
 with_reducible refine (HBD.o _ (HBW.o _ H3.o)).mono ?_
 rintro e w2 ⟨u2,rfl,hu2,hz2,h2⟩
 have HU2:=hid hu2
 clear hu2 hz2
 have H4:Hid (Below (N1+1) W w2):=hid (HST.o _ _ H3.o h2)
 clear h2
 refine hK _ _ (HCC.o _ H4.o) ?_
 clear hK K
 refine Kit.hplan_op (by rfl) (by rfl) fun K hK=> ?_
 go_simp
 go_at_call 102
 with_reducible refine (HSV.o u2 HU2.o _ (HBW.o _ H4.o)).mono ?_
 rintro e w2 ⟨rfl,h2⟩
 have H5:Hid (Below (N1+1) W w2):=hid (HST.o _ _ H4.o h2)
 clear h2
 refine hK _ _ (HCC.o _ H5.o) ?_
 clear hK K
 iterate 2 (refine Kit.hhd (h:= ?_))
 refine Kit.hdn (h:=?_)
 (try go_wp2_with fail)
 go_ret
 exact ⟨by rw [HF.o];first | rfl | simp,HBW.o _ H5.o⟩
section
variable {α:Type} {f:α→List Value} {n:Nat} {T:TypeId}
theorem rw_len (hf: ∀x,(f x).length=n): ∀l:List α,(l.flatMap f).length=l.length*n
 | []=>by simp
 | x::l=>by rw [List.flatMap_cons,List.length_append,rw_len hf l,hf,List.length_cons,Nat.add_mul];omega
theorem rw_get (hf: ∀x,(f x).length=n): ∀(l:List α) (i:Nat) (hi:i<l.length) (j:Nat),j<n→(l.flatMap f)[i*n+j]? =(f l[i])[j]?
 | [],i,hi,j,hj=>by simp at hi
 | x::l,0,hi,j,hj=>by
   rw [List.flatMap_cons,List.getElem?_append_left (by rw [hf];omega),Nat.zero_mul,Nat.zero_add]
   rfl
 | x::l,i+1,hi,j,hj=>by
   rw [List.flatMap_cons,List.getElem?_append_right (by rw [hf,Nat.add_mul];omega),hf,show (i+1)*n+j - n=i*n+j by rw [Nat.add_mul];omega]
   exact rw_get hf l i (by simpa using hi) j hj
theorem rw_cut (l:List α) (k:Nat) (hk:k<l.length):l.flatMap f=(l.take k).flatMap f++(f l[k]++(l.drop (k+1)).flatMap f):=by
 conv=>lhs;rw [← List.take_append_drop k l,List.drop_eq_getElem_cons hk]
 rw [List.flatMap_append,List.flatMap_cons]
theorem rw_set (l:List α) (k:Nat) (hk:k<l.length) (y:α):(l.set k y).flatMap f=(l.take k).flatMap f++(f y++(l.drop (k+1)).flatMap f):=by
 have h:=rw_cut (f:=f) (l.set k y) k (by rw [List.length_set];exact hk)
 rw [List.getElem_set_self,List.take_set_of_le (Nat.le_refl k),List.drop_set_of_lt (Nat.lt_succ_self k)] at h
 exact h
theorem putL_mid {N:Nat}: ∀(vs pre mid post:List Value) (w:World),w.heap[N]? =some (.cells (pre++(mid++post)).toArray T (0,0))→mid.length=vs.length→(putL N pre.length vs w).heap[N]? =some (.cells (pre++(vs++post)).toArray T (0,0))
 | [],pre,mid,post,w,h,hl=>by
   have:mid=[]:=List.eq_nil_of_length_eq_zero hl
   subst this
   exact h
 | v::vs,pre,c::mid,post,w,h,hl=>by
   have h1:=heap_setCell_same w N pre.length _ T v h
   have h2:((pre++(c::mid++post)).toArray.setIfInBounds pre.length v)=((pre++[v])++(mid++post)).toArray:=by
    simp [List.set_append_right]
   rw [h2] at h1
   have h3:=putL_mid vs (pre++[v]) mid post (w.setCell ⟨N,pre.length,none⟩ v) h1 (by simpa using hl)
   rw [List.length_append,List.append_assoc] at h3
   exact h3
 | v::vs,pre,[],post,w,h,hl=>by simp at hl
def RowN (f:α→List Value) (n:Nat) (T:TypeId) (w:World) (bl cap:Nat) (xs:List α):Prop:= ∃rest:List Value,w.heap[bl]? =some (.cells (xs.flatMap f++rest).toArray T (0,0))∧xs.length≤cap∧cap≤maxLen∧(xs.flatMap f++rest).length=cap*n
theorem RowN.lt {w:World} {bl cap:Nat} {xs:List α} (h:RowN f n T w bl cap xs):bl<w.heap.size:=by
 obtain ⟨_,hg,_⟩:=h
 exact (gS hg).1
theorem RowN.keep {w w':World} {bl cap:Nat} {xs:List α} (h:RowN f n T w bl cap xs) (he:w'.heap[bl]? =w.heap[bl]?):RowN f n T w' bl cap xs:=by
 obtain ⟨r,h1,h2⟩:=h
 exact ⟨r,he.trans h1,h2⟩
theorem RowN.later {w w':World} {bl cap:Nat} {xs:List α} (h:RowN f n T w bl cap xs) (hb:Below w.heap.size w w'):RowN f n T w' bl cap xs:=h.keep (hb.block bl h.lt)
theorem RowN.cells (hf: ∀x,(f x).length=n) {w:World} {bl cap:Nat} {xs:List α} (h:RowN f n T w bl cap xs) (k:Nat) (hk:k<xs.length):(∀j,j<n→w.cell? ⟨bl,k*n+j,none⟩=(f xs[k])[j]?)∧ ∀i,w.frozen? ⟨bl,i,none⟩=false:=by
 obtain ⟨r,hg,_⟩:=h
 refine ⟨fun j hj=> ?_,fun i=>frozen_of_row _ _ _ _ _ hg⟩
 have h1:=rw_get hf xs k hk j hj
 have h2:(xs.flatMap f++r)[k*n+j]? =(f xs[k])[j]? :=by
  rw [List.getElem?_append_left,h1]
  rw [rw_len hf]
  have:(k+1)*n≤xs.length*n:=Nat.mul_le_mul_right _ hk
  rw [Nat.add_mul] at this
  omega
 rw [cell_of_row _ _ _ _ _ _ hg,← h2]
 simp
theorem RowN.put (hf: ∀x,(f x).length=n) {w:World} {bl cap:Nat} {xs:List α} (h:RowN f n T w bl cap xs) (k:Nat) (hk:k<xs.length) (y:α):RowN f n T (putL bl (k*n) (f y) w) bl cap (xs.set k y):=by
 obtain ⟨r,hg,h1,h2,h3⟩:=h
 refine ⟨r,?_,by rw [List.length_set];exact h1,h2,?_⟩
 ·rw [rw_cut xs k hk,List.append_assoc,List.append_assoc] at hg
  have hl:((xs.take k).flatMap f).length=k*n:=by rw [rw_len hf,List.length_take,Nat.min_eq_left (by omega)]
  have h4:=putL_mid (f y) _ (f xs[k]) _ w hg (by rw [hf,hf])
  rw [hl] at h4
  rw [rw_set xs k hk y,List.append_assoc,List.append_assoc]
  exact h4
 ·rw [List.length_append,rw_len hf] at h3 ⊢
  rw [List.length_set]
  exact h3
theorem RowN.own (hf: ∀x,(f x).length=n) (hn:0<n) {w:World} {B bl cap:Nat} {xs:List α} (h:RowN f n T w bl cap xs) (hb:B≤bl):w.ownsRow B T n (.slice (some ⟨bl,0,none⟩) xs.length cap) xs.length (xs.flatMap f):=by
 obtain ⟨r,hg,h1,h2,h3⟩:=h
 exact ⟨rw_len hf xs,.inr ⟨bl,cap,_,rfl,hb,hg,h1,h2,by simpa using h3,by simp [← rw_len hf xs]⟩⟩
theorem RowN.of (hf: ∀x,(f x).length=n) {w:World} {B bl m cap:Nat} {xs:List α} (h:w.ownsRow B T n (.slice (some ⟨bl,0,none⟩) m cap) m (xs.flatMap f)) (hn:xs.length=m):RowN f n T w bl cap xs∧B≤bl:=by
 obtain ⟨hl,hv⟩:=h
 rcases hv with ⟨h0,_⟩ | ⟨g,cap',cur,he,hbg,hg,hnc,hcm,hcs,htake⟩
 ·cases h0
 ·injection he with e1 e2 e3
  injection e1 with e1
  injection e1 with e1
  subst e1 e3
  refine ⟨⟨cur.toList.drop (m*n),?_,by omega,hcm,?_⟩,hbg⟩
  ·rw [← htake,List.take_append_drop,Array.toArray_toList]
   exact hg
  ·rw [← htake,List.take_append_drop,Array.length_toList]
   exact hcs
theorem made_rows (z:List Value) (n:Nat) (hz:z.length=n) (L:Nat):madeCells z.toArray (L*n)=((List.replicate L ()).flatMap fun _=>z).toArray:=by
 apply Array.ext
 ·rw [size_madeCells,List.size_toArray,rw_len (f:=fun _:Unit=>z) (fun _=>hz),List.length_replicate]
 ·intro i h1 h2
  rw [size_madeCells] at h1
  have hn:0<n:=by
   rcases Nat.eq_zero_or_pos n with e | e
   ·rw [e] at h1;simp at h1
   ·exact e
  have hi:i/n<(List.replicate L ()).length:=by
   rw [List.length_replicate,Nat.div_lt_iff_lt_mul hn]
   exact h1
  have h3:=rw_get (f:=fun _:Unit=>z) (fun _=>hz) (List.replicate L ()) (i/n) hi (i % n) (Nat.mod_lt _ hn)
  rw [Nat.div_add_mod' i n] at h3
  have h4:i % n<z.length:=by rw [hz];exact Nat.mod_lt _ hn
  unfold madeCells
  simp only [Array.getElem_map,Array.getElem_range,List.size_toArray,hz]
  rw [List.getElem_toArray]
  have h5:=lE (l:=(List.replicate L ()).flatMap fun _=>z) (by simpa using h2)
  rw [h5] at h3
  rw [lE h4] at h3
  rw [Option.some.inj h3]
  simp [h4]
end
structure RcV where
 r:Rc
 a1:Option Addr
 c1:Nat
 a2:Option Addr
 c2:Nat
 a3:Option Addr
 c3:Nat
def RcV.cells (x:RcV):List Value:=[.int .i64 x.r.hol,.int .i64 x.r.vlt,.string x.r.str,.int .i64 x.r.ix,.int .i64 x.r.sz,.int .i64 x.r.day,.int .i64 x.r.ser,.int .i64 x.r.cnt,.int .i64 x.r.pl,.string x.r.root,.slice x.a1 x.r.path.length x.c1,.int .i64 x.r.si,.slice x.a2 x.r.parts.length x.c2,.slice x.a3 x.r.sp.length x.c3]
theorem RcV.len (x:RcV):x.cells.length=14:=rfl
theorem RcV.one (x:RcV): ∀v ∈ x.cells,v.oneCell'=true:=fun v h=>by
 simp only [RcV.cells,List.mem_cons,List.not_mem_nil,or_false] at h
 rcases h with rfl | rfl | rfl | rfl | rfl | rfl | rfl | rfl | rfl | rfl | rfl | rfl | rfl | rfl<;> rfl
structure RcV.ok (w:World) (x:RcV):Prop where
 n1:x.r.path.length<9223372036854775808
 n2:x.r.parts.length<9223372036854775808
 n3:x.r.sp.length<9223372036854775808
 s1:StrsAt w x.a1 x.r.path
 s2:StrsAt w x.a2 x.r.parts
 s3:StrsAt w x.a3 x.r.sp
theorem RcV.ok.later {w w':World} {x:RcV} (h:x.ok w) (hb:Below w.heap.size w w'):x.ok w':=⟨h.n1,h.n2,h.n3,h.s1.later hb,h.s2.later hb,h.s3.later hb⟩
def zeroRc:Rc:=⟨0,0,ByteArray.empty,0,0,0,0,0,0,ByteArray.empty,[],0,[],[]⟩
def zeroRV:RcV:=⟨zeroRc,none,0,none,0,none,0⟩
theorem zeroRV_ok (w:World):zeroRV.ok w:=⟨by decide,by decide,by decide,.inl rfl,.inl rfl,.inl rfl⟩
theorem Tryz.infoRc:(Tryz.prog.info? 47).map (fun i=>(i.zero,i.size,i.bytes))=some (some (.agg zeroRV.cells.toArray),14,176):=by kernel_rfl
theorem rep_unit {α:Type} (L:Nat) (x:α) (f:α→List Value):((List.replicate L ()).flatMap fun _=>f x)=(List.replicate L x).flatMap f:=by
 induction L with
 | zero=>rfl
 | succ L ih=>rw [List.replicate_succ,List.replicate_succ,List.flatMap_cons,List.flatMap_cons,ih]
theorem mk_rcs (L:Nat) (hL:L≤100000) (W:World):(Instr.makeSlice 32 (.int .i64 (L:Int)) (.int .i64 (L:Int))).run Tryz.prog W= .ok (.slice (some ⟨W.heap.size,0,none⟩) L L) (W.alloc (.cells ((List.replicate L zeroRV).flatMap RcV.cells).toArray 47)):=by
 obtain ⟨i0,hi0,hz0,hz1,hz2⟩:=info_parts Tryz.infoRc
 have h:=run_makeSlice (P:= Tryz.prog) (w:=W) 32 47 i0 _ Tryz.underlying32 hi0 hz0 .i64 .i64 (L:Int) (L:Int) (by omega) (by omega) (by rw [hz1];omega) (by rw [hz2];omega) (by omega)
 rw [h,hz1]
 simp only [Int.toNat_natCast]
 have e:madeCells (Value.agg zeroRV.cells.toArray).cells (L*14)=((List.replicate L zeroRV).flatMap RcV.cells).toArray:=by
  rw [← rep_unit]
  exact made_rows zeroRV.cells 14 rfl L
 rw [e]
theorem mk_rows (L:Nat) (hL:L≤100000) {w:World} {b:Nat} (h:w.heap[b]? =some (.cells ((List.replicate L zeroRV).flatMap RcV.cells).toArray 47 (0,0))):RowN RcV.cells 14 47 w b L (List.replicate L zeroRV):=
 ⟨[],by rw [List.append_nil];exact h,by rw [List.length_replicate];exact Nat.le_refl _,by unfold maxLen;omega,by rw [List.append_nil,rw_len RcV.len,List.length_replicate]⟩
theorem rowS3 {w:World} {N:Nat} {x0 x1 x2:Value} {T:TypeId} {f:Nat × Nat} (hg:w.heap[N]? =some (.cells #[x0,x1,x2] T f)):w.cell? ⟨N,0,none⟩=some x0∧w.cell? ⟨N,1,none⟩=some x1∧w.cell? ⟨N,2,none⟩=some x2:=
 ⟨cr hg,cr hg,cr hg⟩
theorem cloneSig_any (si:Int) (aq:Option Addr) (n2 c2:Nat) (ar:Option Addr) (n3 c3:Nat) (pt sq:List ByteArray) (h2:pt.length=n2) (h3:sq.length=n3) (l2:n2≤100000000) (l3:n3≤100000000) (w:World) (s2:StrsAt w aq pt) (s3:StrsAt w ar sq):Calls Tryz.prog 94 #[.agg #[.int .i64 si,.slice aq n2 c2,.slice ar n3 c3]] w fun e w'=> ∃a7 d7 a8 d8,e= .returned (.agg #[.int .i64 si,.slice a7 n2 d7,.slice a8 n3 d8])∧(a7=none→d7=0)∧(a8=none→d8=0)∧StrsAt w' a7 pt∧StrsAt w' a8 sq∧(∀ad,a7=some ad→w.heap.size≤ad.block)∧(∀ad,a8=some ad→w.heap.size≤ad.block)∧Below w.heap.size w w':=by
 have HPS:=hid s2
 have HQS:=hid s3
 have HN1:=hid h2
 have HN2:=hid h3
 have HL2:=hid l2
 have HL3:=hid l3
 clear s2 s3 h2 h3 l2 l3
 go_enter Tryz.func94,Tryz.ntmps94
 go_upto_region 1 with fail
 refine wp_over (fun W=>Hid (W.heap[w.heap.size]? =some (.cells #[.int .i64 si,.slice aq n2 c2,.slice ar n3 c3] 45 (0,0)))∧Hid (W.heap[w.heap.size+1]? =some (.cells #[.int .i64 0,.slice none 0 0,.slice none 0 0] 45 (0,0)))∧Hid (Below w.heap.size w W)∧Hid (W.heap.size=w.heap.size+2)) ⟨two_rows1,two_rows2,two_below,two_size⟩ ?_
 rintro W ⟨HG,HZ,HB,HW⟩
 obtain ⟨N,hN⟩:=ex_eq w.heap.size
 rw [hN] at HG HZ HB HW ⊢
 have HN:=hid hN
 clear hN
 have HP2:=hid (HPS.o.later (by rw [HN.o];exact HB.o))
 have HQ2:=hid (HQS.o.later (by rw [HN.o];exact HB.o))
 have HSF:Hid (∀V,Below (N+2) W V→(V.cell? ⟨N,0,none⟩=some (.int .i64 si)∧V.cell? ⟨N,1,none⟩=some (.slice aq n2 c2)∧V.cell? ⟨N,2,none⟩=some (.slice ar n3 c3))∧(V.cell? ⟨N+1,0,none⟩=some (.int .i64 0)∧V.cell? ⟨N+1,1,none⟩=some (.slice none 0 0)∧V.cell? ⟨N+1,2,none⟩=some (.slice none 0 0))∧ ∀i,V.frozen? ⟨N+1,i,none⟩=false):=hid (fun V h=>by
  have hg:=(h.block N (by omega)).trans HG.o
  have hz:=(h.block (N+1) (by omega)).trans HZ.o
  exact ⟨rowS3 hg,rowS3 hz,fun i=>frozen_of_row _ _ _ _ _ hz⟩)
 have HST:Hid (∀V V',Below (N+2) W V→Below V.heap.size V V'→Below (N+2) W V'):=hid (fun V V' h h'=>h.trans (h'.mono (by have:=h.size;have:=HW.o;omega)))
 have HDR:Hid (Below (N+2) W W.drew):=hid (Below.refl _ _).drew
 have HDZ:Hid (W.drew.heap.size=W.heap.size):=hid rfl
 obtain ⟨VD,hVD⟩:=ex_eq W.drew
 rw [hVD] at HDR HDZ
 refine Kit.wp_region_lplan (fun V=>(V.cell? ⟨N,0,none⟩=some (.int .i64 si)∧V.cell? ⟨N,1,none⟩=some (.slice aq n2 c2)∧V.cell? ⟨N,2,none⟩=some (.slice ar n3 c3))∧(V.cell? ⟨N+1,0,none⟩=some (.int .i64 0)∧V.cell? ⟨N+1,1,none⟩=some (.slice none 0 0)∧V.cell? ⟨N+1,2,none⟩=some (.slice none 0 0))∧ ∀i,V.frozen? ⟨N+1,i,none⟩=false) 9 [(true,0),(true,1),(true,2),(true,3),(true,5),(true,6),(false,4),(false,7),(true,8),(false,9)] (by kernel_rfl) (by kernel_rfl) (by kernel_rfl) (by kernel_rfl) (by rw [hVD];exact HSF.o _ HDR.o) ?_
 rw [hVD]
 clear hVD
 iterate 6 (refine Kit.lhd (h:=?_))
 refine Kit.lplan_op (by rfl) (by rfl) (fun K hK=> ?_) (by decide)
 go_simp
 go_at_call 189
 refine (cloneStrs_any aq n2 c2 pt HN1.o HL2.o _ (HP2.o.later (HDR.o.mono (by have:=HW.o;omega)))).mono ?_
 rintro e w7 ⟨a7,d7,rfl,hn7,hb7,hg7,h7⟩
 have HN7:=hid hn7
 have HBB7:=hid hb7
 have HG7:Hid (∀ad,a7=some ad→N+2≤ad.block):=hid (fun ad e=>by have:=hg7 ad e;have:=HDZ.o;have:=HW.o;omega)
 have H7:Hid (Below (N+2) W w7):=hid (HST.o _ _ HDR.o h7)
 clear hn7 hb7 hg7 h7
 refine hK _ _ (HSF.o _ H7.o) ?_
 clear hK K
 refine Kit.lplan_op (by rfl) (by rfl) (fun K hK=> ?_) (by decide)
 go_simp
 go_at_call 189
 refine (cloneStrs_any ar n3 c3 sq HN2.o HL3.o _ (HQ2.o.later (H7.o.mono (by have:=HW.o;omega)))).mono ?_
 rintro e w8 ⟨a8,d8,rfl,hn8,hb8,hg8,h8⟩
 have HN8:=hid hn8
 have HBB8:=hid hb8
 have HG8:Hid (∀ad,a8=some ad→N+2≤ad.block):=hid (fun ad e=>by have:=hg8 ad e;have:=H7.o.size;have:=HW.o;omega)
 have H9:Hid (Below (N+2) W w8):=hid (HST.o _ _ H7.o h8)
 have HP9:=hid (HBB7.o.later h8)
 clear hn8 hb8 hg8 h8
 refine hK _ _ (HSF.o _ H9.o) ?_
 clear hK K
 iterate 1 (refine Kit.lhd (h:=?_))
 obtain ⟨⟨c0,c1,c2'⟩,⟨z0,z1,z2⟩,hfr⟩:=HSF.o _ H9.o
 refine Kit.lplan_last (by rfl) (by rfl) fun K hK=> ?_
 go_simp
 refine hK _ _ ?_
 clear hK K
 refine Kit.ldn (h:=?_)
 clear c0 c1 c2' z0 z1 z2 hfr
 obtain ⟨V,hV⟩:=ex_eq (((w8.setCell ⟨N+1,0,none⟩ (.int .i64 si)).setCell ⟨N+1,1,none⟩ (.slice a7 n2 d7)).setCell ⟨N+1,2,none⟩ (.slice a8 n3 d8))
 have HR:Hid (V.heap[N+1]? =some (.cells #[.int .i64 si,.slice a7 n2 d7,.slice a8 n3 d8] 45 (0,0))):=hid (by rw [← hV];exact putL_full (cur:=[.int .i64 0,.slice none 0 0,.slice none 0 0]) (vs:=[.int .i64 si,.slice a7 n2 d7,.slice a8 n3 d8]) ((H9.o.block (N+1) (by omega)).trans HZ.o) rfl)
 have HCH:Hid (Chg (fun q _=>q=N+1) w8 V):=hid (by rw [← hV];exact putL_chg (fun _=>rfl) [.int .i64 si,.slice a7 n2 d7,.slice a8 n3 d8] 0 w8 (Chg.refl _ _))
 have HBL:Hid (Below (N+1) w8 V):=hid (by rw [← hV];exact putL_below (Nat.le_refl _) [.int .i64 si,.slice a7 n2 d7,.slice a8 n3 d8] 0 w8 (Below.refl _ _))
 rw [hV]
 clear hV
 go_wp2_with fail
 refine bodyPost_ret (results_cell_row (p:=2) rfl _ _ (N+1) 45 #[.int .i64 si,.slice a7 n2 d7,.slice a8 n3 d8] (0,0) _ (by rfl) HR.o Tryz.underlying45 rfl (by kernel_rfl)) rfl ?_
 exact ⟨a7,d7,a8,d8,rfl,HN7.o,HN8.o,HP9.o.keep HCH.o (fun ad e _ i h=>by have:=HG7.o ad e;omega),HBB8.o.keep HCH.o (fun ad e _ i h=>by have:=HG8.o ad e;omega),fun ad e=>by have:=HG7.o ad e;have:=HN.o;omega,fun ad e=>by have:=HG8.o ad e;have:=HN.o;omega,by rw [HN.o];exact HB.o.trans ((H9.o.mono (by omega)).trans (HBL.o.mono (by omega)))⟩
theorem cloneR_any (hol vlt:Int) (str:ByteArray) (ix sz day ser cnt pl:Int) (root:ByteArray) (ap:Option Addr) (n1 c1:Nat) (si:Int) (aq:Option Addr) (n2 c2:Nat) (ar:Option Addr) (n3 c3:Nat) (pa pt sq:List ByteArray) (w:World) (h1:pa.length=n1) (h2:pt.length=n2) (h3:sq.length=n3) (l1:n1≤100000000) (l2:n2≤100000000) (l3:n3≤100000000) (s1:StrsAt w ap pa) (s2:StrsAt w aq pt) (s3:StrsAt w ar sq):Calls Tryz.prog 134 #[.agg #[.int .i64 hol,.int .i64 vlt,.string str,.int .i64 ix,.int .i64 sz,.int .i64 day,.int .i64 ser,.int .i64 cnt,.int .i64 pl,.string root,.slice ap n1 c1,.int .i64 si,.slice aq n2 c2,.slice ar n3 c3]] w fun e w'=> ∃a6 d6 a7 d7 a8 d8,e= .returned (.agg #[.int .i64 hol,.int .i64 vlt,.string str,.int .i64 ix,.int .i64 sz,.int .i64 day,.int .i64 ser,.int .i64 cnt,.int .i64 pl,.string root,.slice a6 n1 d6,.int .i64 si,.slice a7 n2 d7,.slice a8 n3 d8])∧StrsAt w' a6 pa∧StrsAt w' a7 pt∧StrsAt w' a8 sq∧(∀ad,a6=some ad→w.heap.size≤ad.block)∧(∀ad,a7=some ad→w.heap.size≤ad.block)∧(∀ad,a8=some ad→w.heap.size≤ad.block)∧Below w.heap.size w w':=by
 have HC1:Hid (∀V,Below w.heap.size w V→Calls Tryz.prog 189 #[.slice ap n1 c1] V fun e w'=> ∃a' c',e= .returned (.slice a' n1 c')∧(a'=none→c'=0)∧StrsAt w' a' pa∧(∀ad,a'=some ad→V.heap.size≤ad.block)∧Below V.heap.size V w'):=hid (fun V h=>cloneStrs_any ap n1 c1 pa h1 l1 V (s1.later h))
 have HC2:Hid (∀V,Below w.heap.size w V→Calls Tryz.prog 94 #[.agg #[.int .i64 si,.slice aq n2 c2,.slice ar n3 c3]] V fun e w'=> ∃a7 d7 a8 d8,e= .returned (.agg #[.int .i64 si,.slice a7 n2 d7,.slice a8 n3 d8])∧(a7=none→d7=0)∧(a8=none→d8=0)∧StrsAt w' a7 pt∧StrsAt w' a8 sq∧(∀ad,a7=some ad→V.heap.size≤ad.block)∧(∀ad,a8=some ad→V.heap.size≤ad.block)∧Below V.heap.size V w'):=hid (fun V h=>cloneSig_any si aq n2 c2 ar n3 c3 pt sq h2 h3 l2 l3 V (s2.later h) (s3.later h))
 clear h1 h2 h3 l1 l2 l3 s1 s2 s3
 go_enter Tryz.func134,Tryz.ntmps134
 go_upto_region 1 with fail
 refine wp_over (fun W=>Hid (W.heap[w.heap.size]? =some (.cells #[.int .i64 hol,.int .i64 vlt,.string str,.int .i64 ix,.int .i64 sz,.int .i64 day,.int .i64 ser,.int .i64 cnt,.int .i64 pl,.string root,.slice ap n1 c1,.int .i64 si,.slice aq n2 c2,.slice ar n3 c3] 47 (0,0)))∧Hid (W.heap[w.heap.size+1]? =some (.cells #[.int .i64 0,.int .i64 0,.string ByteArray.empty,.int .i64 0,.int .i64 0,.int .i64 0,.int .i64 0,.int .i64 0,.int .i64 0,.string ByteArray.empty,.slice none 0 0,.int .i64 0,.slice none 0 0,.slice none 0 0] 47 (0,0)))∧Hid (Below w.heap.size w W)∧Hid (W.heap.size=w.heap.size+2)) ⟨two_rows1,two_rows2,two_below,two_size⟩ ?_
 rintro W ⟨HG,HZ,HB,HW⟩
 obtain ⟨N,hN⟩:=ex_eq w.heap.size
 rw [hN] at HG HZ HB HW ⊢
 have HN:=hid hN
 clear hN
 have HBW:Hid (∀V,Below N W V→Below w.heap.size w V):=hid (fun V h=>by rw [HN.o];exact HB.o.trans h)
 obtain ⟨q0,q1,q2,q3,q4,q5,q6,q7,q8,q9,q10,q11,q12,q13⟩:=row14 HG.o
 go_upto_region 2 with (first
  | (go_at_call 189
     (with_reducible refine (HC1.o _ (HBW.o _ (Below.refl _ _))).mono ?_)
     rintro e w2 ⟨a6,d6,rfl,hn6,hb6,hg6,h6⟩
     have HBB6:=hid hb6
     have HG6:Hid (∀ad,a6=some ad→N+2≤ad.block):=hid (fun ad e=>by have:=hg6 ad e;have:=HW.o;omega)
     have H6:Hid (Below (N+2) W w2):=hid (h6.mono (by have:=HW.o;omega))
     have HR1:=hid ((H6.o.block N (by omega)).trans HG.o)
     have HR2:=hid ((H6.o.block (N+1) (by omega)).trans HZ.o)
     have f10:=frozen_of_row _ N 10 _ _ HR1.o
     clear hn6 hb6 hg6 h6 q0 q1 q2 q3 q4 q5 q6 q7 q8 q9 q10 q11 q12 q13
     obtain ⟨q0,q1,q2,q3,q4,q5,q6,q7,q8,q9,q10,q11,q12,q13⟩:=row14 HR1.o))
 refine wp_over (fun V=>Hid (V.heap[N]? =some (.cells #[.int .i64 hol,.int .i64 vlt,.string str,.int .i64 ix,.int .i64 sz,.int .i64 day,.int .i64 ser,.int .i64 cnt,.int .i64 pl,.string root,.slice a6 n1 d6,.int .i64 si,.slice aq n2 c2,.slice ar n3 c3] 47 (0,0)))∧Hid (V.heap[N+1]? =some (.cells #[.int .i64 0,.int .i64 0,.string ByteArray.empty,.int .i64 0,.int .i64 0,.int .i64 0,.int .i64 0,.int .i64 0,.int .i64 0,.string ByteArray.empty,.slice none 0 0,.int .i64 0,.slice none 0 0,.slice none 0 0] 47 (0,0)))∧Hid (StrsAt V a6 pa)∧Hid (Below N W V)∧Hid (N+2≤V.heap.size)) ?_ ?_
 ·have hbl:Below N W w2:=H6.o.mono (by omega)
  have hsz:N+2≤w2.heap.size:=by have:=H6.o.size;have:=HW.o;omega
  exact ⟨heap_setCell_same _ N 10 _ _ _ HR1.o,(Below.heap_setCell _ _ _ _ (by simp)).trans HR2.o,HBB6.o.keep (Chg.setCell1 (M:=fun q _=>q=N) w2 N 10 _ rfl) (fun ad e _ i h=>by have:=HG6.o ad e;omega),hbl.setCell (p:=⟨N,10,none⟩) (Nat.le_refl N) _,hid (by simpa [World.setCell] using hsz)⟩
 clear f10 q0 q1 q2 q3 q4 q5 q6 q7 q8 q9 q10 q11 q12 q13
 rintro V ⟨HR3,HZ3,HB3,HV,HVS⟩
 obtain ⟨q0,q1,q2,q3,q4,q5,q6,q7,q8,q9,q10,q11,q12,q13⟩:=row14 HR3.o
 go_upto_region 3 with (first
  | (go_at_call 94
     (with_reducible refine (HC2.o _ (HBW.o _ HV.o)).mono ?_)
     rintro e w3 ⟨a7,d7,a8,d8,rfl,_,_,hb7,hb8,hg7,hg8,h7⟩
     have HBB7:=hid hb7
     have HBB8:=hid hb8
     have HG7:Hid (∀ad,a7=some ad→N+2≤ad.block):=hid (fun ad e=>by have:=hg7 ad e;have:=HVS.o;omega)
     have HG8:Hid (∀ad,a8=some ad→N+2≤ad.block):=hid (fun ad e=>by have:=hg8 ad e;have:=HVS.o;omega)
     have H7:Hid (Below (N+2) V w3):=hid (h7.mono HVS.o)
     have HB4:=hid (HB3.o.later h7)
     have HR4:=hid ((H7.o.block N (by omega)).trans HR3.o)
     have HZ4:=hid ((H7.o.block (N+1) (by omega)).trans HZ3.o)
     have fr:=fun i=>frozen_of_row _ N i _ _ HR4.o
     clear hb7 hb8 hg7 hg8 h7 q0 q1 q2 q3 q4 q5 q6 q7 q8 q9 q10 q11 q12 q13
     obtain ⟨q0,q1,q2,q3,q4,q5,q6,q7,q8,q9,q10,q11,q12,q13⟩:=row14 HR4.o))
 refine wp_over (fun U=>Hid (U.heap[N]? =some (.cells #[.int .i64 hol,.int .i64 vlt,.string str,.int .i64 ix,.int .i64 sz,.int .i64 day,.int .i64 ser,.int .i64 cnt,.int .i64 pl,.string root,.slice a6 n1 d6,.int .i64 si,.slice a7 n2 d7,.slice a8 n3 d8] 47 (0,0)))∧Hid (U.heap[N+1]? =some (.cells #[.int .i64 0,.int .i64 0,.string ByteArray.empty,.int .i64 0,.int .i64 0,.int .i64 0,.int .i64 0,.int .i64 0,.int .i64 0,.string ByteArray.empty,.slice none 0 0,.int .i64 0,.slice none 0 0,.slice none 0 0] 47 (0,0)))∧Hid (Chg (fun q _=>q=N) w3 U)∧Hid (Below N V U)) ?_ ?_
 ·refine ⟨heap_setCell_same _ N 13 _ _ _ (heap_setCell_same _ N 12 _ _ _ (heap_setCell_same _ N 11 _ _ _ HR4.o)),?_,putL_chg (fun _=>rfl) [.int .i64 si,.slice a7 n2 d7,.slice a8 n3 d8] 11 w3 (Chg.refl _ _),putL_below (Nat.le_refl N) [.int .i64 si,.slice a7 n2 d7,.slice a8 n3 d8] 11 w3 (H7.o.mono (by omega))⟩
  iterate 3 rw [Below.heap_setCell _ _ _ (N+1) (by simp)]
  exact HZ4.o
 clear fr q0 q1 q2 q3 q4 q5 q6 q7 q8 q9 q10 q11 q12 q13
 rintro U ⟨HR5,HZ5,HCH,HU⟩
 obtain ⟨q0,q1,q2,q3,q4,q5,q6,q7,q8,q9,q10,q11,q12,q13⟩:=row14 HR5.o
 obtain ⟨z0,z1,z2,z3,z4,z5,z6,z7,z8,z9,z10,z11,z12,z13⟩:=row14 HZ5.o
 have fz: ∀i,U.frozen? ⟨N+1,i,none⟩=false:=fun i=>frozen_of_row _ _ _ _ _ HZ5.o
 go_wp2_with fail
 refine bodyPost_ret (results_cell_row (p:=2) rfl _ _ (N+1) 47 #[.int .i64 hol,.int .i64 vlt,.string str,.int .i64 ix,.int .i64 sz,.int .i64 day,.int .i64 ser,.int .i64 cnt,.int .i64 pl,.string root,.slice a6 n1 d6,.int .i64 si,.slice a7 n2 d7,.slice a8 n3 d8] (0,0) _ (by rfl) (putL_full (cur:=[.int .i64 0,.int .i64 0,.string ByteArray.empty,.int .i64 0,.int .i64 0,.int .i64 0,.int .i64 0,.int .i64 0,.int .i64 0,.string ByteArray.empty,.slice none 0 0,.int .i64 0,.slice none 0 0,.slice none 0 0]) (vs:=[.int .i64 hol,.int .i64 vlt,.string str,.int .i64 ix,.int .i64 sz,.int .i64 day,.int .i64 ser,.int .i64 cnt,.int .i64 pl,.string root,.slice a6 n1 d6,.int .i64 si,.slice a7 n2 d7,.slice a8 n3 d8]) HZ5.o rfl) Tryz.underlying47 rfl (by kernel_rfl)) rfl ?_
 have hch:Chg (fun q _=>q=N+1) U (putL (N+1) 0 [.int .i64 hol,.int .i64 vlt,.string str,.int .i64 ix,.int .i64 sz,.int .i64 day,.int .i64 ser,.int .i64 cnt,.int .i64 pl,.string root,.slice a6 n1 d6,.int .i64 si,.slice a7 n2 d7,.slice a8 n3 d8] U):=putL_chg (fun _=>rfl) _ 0 U (Chg.refl _ _)
 exact ⟨a6,d6,a7,d7,a8,d8,rfl,(HB4.o.keep HCH.o (fun ad e _ i h=>by have:=HG6.o ad e;omega)).keep hch (fun ad e _ i h=>by have:=HG6.o ad e;omega),(HBB7.o.keep HCH.o (fun ad e _ i h=>by have:=HG7.o ad e;omega)).keep hch (fun ad e _ i h=>by have:=HG7.o ad e;omega),(HBB8.o.keep HCH.o (fun ad e _ i h=>by have:=HG8.o ad e;omega)).keep hch (fun ad e _ i h=>by have:=HG8.o ad e;omega),fun ad e=>by have:=HG6.o ad e;have:=HN.o;omega,fun ad e=>by have:=HG7.o ad e;have:=HN.o;omega,fun ad e=>by have:=HG8.o ad e;have:=HN.o;omega,HBW.o _ (putL_below (Nat.le_succ N) [.int .i64 hol,.int .i64 vlt,.string str,.int .i64 ix,.int .i64 sz,.int .i64 day,.int .i64 ser,.int .i64 cnt,.int .i64 pl,.string root,.slice a6 n1 d6,.int .i64 si,.slice a7 n2 d7,.slice a8 n3 d8] 0 U (HV.o.trans HU.o))⟩
structure Pr where
 v:Int
 s:ByteArray
 i:Int
 z:Int
def Pr.cells (p:Pr):List Value:=[.int .i64 p.v,.string p.s,.int .i64 p.i,.int .i64 p.z]
def Pr.good (p:Pr):Bool:=goodP p.v p.s p.i p.z
def PrsAt (w:World) (a:Option Addr) (ps:List Pr):Prop:=ps=[]∨ ∃b o,a=some ⟨b,o,none⟩∧ ∀k (h:k<ps.length) j,j<4→w.cell? ⟨b,o+k*4+j,none⟩=ps[k].cells[j]?
theorem PrsAt.later {w w':World} {a:Option Addr} {ps:List Pr} (h:PrsAt w a ps) (hb:Below w.heap.size w w'):PrsAt w' a ps:=by
 rcases h with h | ⟨b,o,e,h⟩
 ·exact .inl h
 ·refine .inr ⟨b,o,e,fun k hk j hj=> ?_⟩
  have h1:=h k hk j hj
  have h2:ps[k].cells[j]? =some (ps[k].cells[j]'hj):=lE hj
  rw [h2] at h1 ⊢
  exact (hb.cell (World.block_lt_of_cell? _ _ h1)).trans h1
theorem PrsAt.one {w:World} {a:Option Addr} {ps:List Pr} (h:PrsAt w a ps) (k:Nat) (hk:k<ps.length): ∃b o,a=some ⟨b,o,none⟩∧w.cell? ⟨b,o+k*4,none⟩=some (.int .i64 ps[k].v)∧w.cell? ⟨b,o+k*4+1,none⟩=some (.string ps[k].s)∧w.cell? ⟨b,o+k*4+2,none⟩=some (.int .i64 ps[k].i)∧w.cell? ⟨b,o+k*4+3,none⟩=some (.int .i64 ps[k].z):=by
 rcases h with h | ⟨b,o,e,h⟩
 ·rw [h] at hk;simp at hk
 ·exact ⟨b,o,e,h k hk 0 (by decide),h k hk 1 (by decide),h k hk 2 (by decide),h k hk 3 (by decide)⟩
def allGood (ps:List Pr):Bool:=ps.all Pr.good
theorem allGood_bad {ps:List Pr} (k:Nat) (hk:k<ps.length) (h:ps[k].good=false):allGood ps=false:=by
 cases hc:allGood ps with
 | false=>rfl
 | true=>
   have:=(List.all_eq_true.1 hc) ps[k] (List.getElem_mem hk)
   rw [h] at this
   cases this
theorem allGood_good {ps:List Pr} (h: ∀k (hk:k<ps.length),ps[k].good=true):allGood ps=true:=List.all_eq_true.2 fun p hp=>by
 obtain ⟨k,hk,rfl⟩:=List.mem_iff_getElem.1 hp
 exact h k hk
theorem notGood_any (v:Int) (s:ByteArray) (i z:Int) (w:World):Calls Tryz.prog 87 #[.agg #[.int .i64 v,.string s,.int .i64 i,.int .i64 z]] w fun e w'=>e= .returned (.bool (!(goodP v s i z)))∧Below w.heap.size w w':=by
 have HGD:=hid (fun w=>goodR_any v s i z w)
 obtain ⟨D,hD⟩:=ex_eq (goodP v s i z)
 rw [hD] at HGD ⊢
 clear hD
 go_enter Tryz.func87,Tryz.ntmps87
 go_upto_region 1 with fail
 refine wp_over (fun W=>Hid (W.heap[w.heap.size]? =some (.cells #[.int .i64 v,.string s,.int .i64 i,.int .i64 z] 135 (0,0)))∧Hid (Below w.heap.size w W)) ⟨heap_alloc_new _ _,(Below.refl _ _).alloc (Nat.le_refl _) _⟩ ?_
 rintro W ⟨HG,HB⟩
 obtain ⟨N,hN⟩:=ex_eq w.heap.size
 rw [hN] at HG HB ⊢
 have HN:=hid hN
 clear hN
 obtain ⟨c0,c1,c2,c3⟩:=row4 HG.o
 go_wp2_with (first
  | (go_at_call 88
     (with_reducible refine (HGD.o _).mono ?_)
     rintro e w2 ⟨rfl,h2⟩
     have H2:Hid (Below N w w2):=hid (HB.o.trans (h2.mono (by rw [← HN.o];exact HB.o.size)))
     clear h2 c0 c1 c2 c3))
 go_ret
 exact ⟨rfl,by rw [HN.o];exact H2.o⟩
theorem indexPr_any (a:Option Addr) (c L:Nat) (ps:List Pr) (hLe:ps.length=L) (hL:L<9223372036854775808) (w:World) (hS:PrsAt w a ps):
    Calls Tryz.prog 182 #[.slice a L c,.func (.func 87) #[] #[]] w fun e w'=> ∃i:Int,e= .returned (.int .i64 i)∧Hid (decide (0≤i)= !(allGood ps))∧Below w.heap.size w w':=by
 have HS:=hid hS
 have HLE:=hid hLe
 clear hS hLe
 have HNG:=hid (fun v s i z w=>notGood_any v s i z w)
 go_enter Tryz.func182,Tryz.ntmps182
 go_upto_region 2 with fail
 go_loopw [8] (fun z wr=> ∃k:Nat,k≤L∧z= .int .i64 (k:Int)∧Hid (∀i (hi:i<ps.length),i<k→ps[i].good=true)∧Hid (Below w.heap.size w wr)) (fun z _=>L - (intOf z).toNat)
 case atStart=>exact ⟨0,by omega,rfl,hid (fun i hi h=>by omega),hid (Below.refl _ _)⟩
 case round=>
  obtain ⟨k,hk,rfl,HCR,HBE⟩:=hrel
  by_cases hlt:k<L
  ·have hki:(k:Int)<(L:Int):=by omega
   have HKL:Hid (k<ps.length):=hid (by rw [HLE.o];exact hlt)
   obtain ⟨b1,o1,rfl,g0,g1,g2,g3⟩:=(HS.o.later HBE.o).one k HKL.o
   obtain ⟨p,hp⟩:=ex_eq (ps[k]'HKL.o)
   have HP:Hid (ps[k]'HKL.o=p):=hid hp
   rw [hp] at g0 g1 g2 g3
   clear hp
   obtain ⟨v,s,i,z⟩:=p
   simp only at g0 g1 g2 g3
   have HNG:=hid (fun w=>HNG.o v s i z w)
   obtain ⟨D,hD⟩:=ex_eq (goodP v s i z)
   have HD:=hid hD
   rw [hD] at HNG
   clear hD
   cases D
   ·have HF:Hid (allGood ps=false):=hid (allGood_bad k HKL.o (by rw [HP.o];exact HD.o))
    go_wp2_with (first
     | (go_at_call 87
        (with_reducible refine (HNG.o _).mono ?_)
        rintro e w2 ⟨rfl,h2⟩
        have H2:Hid (Below w.heap.size w w2):=hid (HBE.o.trans (h2.mono HBE.o.size))
        clear h2 g0 g1 g2 g3))
    go_ret
    exact ⟨_,rfl,hid (by rw [HF.o];simp),H2.o⟩
   ·have HC2:Hid (∀i (hi:i<ps.length),i<k+1→ps[i].good=true):=hid (fun i hi h=>by
       by_cases e:i=k
       ·subst e;rw [HP.o];exact HD.o
       ·exact HCR.o i hi (by omega))
    go_wp2_with (first
     | (go_at_call 87
        (with_reducible refine (HNG.o _).mono ?_)
        rintro e w2 ⟨rfl,h2⟩
        have H2:Hid (Below w.heap.size w w2):=hid (HBE.o.trans (h2.mono HBE.o.size))
        clear h2 g0 g1 g2 g3))
    go_roundw
    case rel=>exact ⟨k+1,hlt,by go_num,HC2,H2⟩
    case measure=>simp [intOf];omega
  ·have hki: ¬(k:Int)<(L:Int):=by omega
   have HF:Hid (allGood ps=true):=hid (allGood_good (fun i hi=>HCR.o i hi (by have:=HLE.o;omega)))
   go_wp2_with fail
   go_ret
   exact ⟨_,rfl,hid (by rw [HF.o];decide),HBE.o⟩
theorem containsPr_any (a:Option Addr) (c L:Nat) (ps:List Pr) (hLe:ps.length=L) (hL:L<9223372036854775808) (w:World) (hS:PrsAt w a ps):
    Calls Tryz.prog 86 #[.slice a L c,.func (.func 87) #[] #[]] w fun e w'=>e= .returned (.bool (!(allGood ps)))∧Below w.heap.size w w':=by
 have HI:=hid (indexPr_any a c L ps hLe hL w hS)
 obtain ⟨B,hB⟩:=ex_eq (!(allGood ps))
 rw [hB] at HI ⊢
 clear hLe hS hB
 go_enter Tryz.func86,Tryz.ntmps86
 go_wp2_with (first
  | (go_at_call 182
     (with_reducible refine HI.o.mono ?_)
     rintro e w2 ⟨i,rfl,HQ,h2⟩
     have H2:=hid h2
     clear h2))
 go_ret
 exact ⟨by rw [← HQ.o];rfl,H2.o⟩
theorem refFields_any (hol vlt:Int) (str:ByteArray) (ix sz day ser cnt pl:Int) (root:ByteArray) (ap:Option Addr) (n1 c1:Nat) (si:Int) (aq:Option Addr) (n2 c2:Nat) (ar:Option Addr) (n3 c3:Nat) (pa pt sq:List ByteArray) (holB vltB:Int) (strB:ByteArray) (ixB szB dayB serB cntB plB:Int) (rootB:ByteArray) (apB:Option Addr) (n1B c1B:Nat) (siB:Int) (aqB:Option Addr) (n2B c2B:Nat) (arB:Option Addr) (n3B c3B:Nat) (paB ptB sqB:List ByteArray) (w:World):Calls Tryz.prog 32 #[.agg #[.int .i64 hol,.int .i64 vlt,.string str,.int .i64 ix,.int .i64 sz,.int .i64 day,.int .i64 ser,.int .i64 cnt,.int .i64 pl,.string root,.slice ap n1 c1,.int .i64 si,.slice aq n2 c2,.slice ar n3 c3],.agg #[.int .i64 holB,.int .i64 vltB,.string strB,.int .i64 ixB,.int .i64 szB,.int .i64 dayB,.int .i64 serB,.int .i64 cntB,.int .i64 plB,.string rootB,.slice apB n1B c1B,.int .i64 siB,.slice aqB n2B c2B,.slice arB n3B c3B]] w fun e w'=>e= .returned (.bool (decide ((⟨hol,vlt,sz,day,ser,str,ix⟩:Sg)=(⟨holB,vltB,szB,dayB,serB,strB,ixB⟩:Sg))))∧Below w.heap.size w w':=by
 obtain ⟨D1,hD1⟩: ∃d,(hol==holB)=d:=⟨_,rfl⟩
 obtain ⟨D2,hD2⟩: ∃d,(vlt==vltB)=d:=⟨_,rfl⟩
 obtain ⟨D4,hD4⟩: ∃d,(sz==szB)=d:=⟨_,rfl⟩
 obtain ⟨D5,hD5⟩: ∃d,(day==dayB)=d:=⟨_,rfl⟩
 obtain ⟨D6,hD6⟩: ∃d,(ser==serB)=d:=⟨_,rfl⟩
 have hep:=fun w=>eq_piece str strB ix ixB w
 obtain ⟨D3,hD3⟩:=ex_eq (decide (str=strB) && decide (ix=ixB))
 rw [hD3] at hep
 have HF:Hid (decide ((⟨hol,vlt,sz,day,ser,str,ix⟩:Sg)=(⟨holB,vltB,szB,dayB,serB,strB,ixB⟩:Sg))=(D1 && (D2 && (D3 && (D4 && (D5 && D6)))))):=hid (by
  rw [← hD1,← hD2,← hD3,← hD4,← hD5,← hD6]
  simp only [int_beq]
  rw [Bool.eq_iff_iff]
  simp only [decide_eq_true_eq,Bool.and_eq_true,Sg.mk.injEq]
  constructor
  ·rintro ⟨a,b,c,d,e,f,g⟩;exact ⟨a,b,⟨f,g⟩,c,d,e⟩
  ·rintro ⟨a,b,⟨f,g⟩,c,d,e⟩;exact ⟨a,b,c,d,e,f,g⟩)
 obtain ⟨F,hF⟩:=ex_eq (decide ((⟨hol,vlt,sz,day,ser,str,ix⟩:Sg)=(⟨holB,vltB,szB,dayB,serB,strB,ixB⟩:Sg)))
 rw [hF] at HF ⊢
 clear hF hD3
 go_enter Tryz.func32,Tryz.ntmps32
 go_upto_region 1 with fail
 refine wp_over (fun W=>Hid (W.heap[w.heap.size]? =some (.cells #[.int .i64 hol,.int .i64 vlt,.string str,.int .i64 ix,.int .i64 sz,.int .i64 day,.int .i64 ser,.int .i64 cnt,.int .i64 pl,.string root,.slice ap n1 c1,.int .i64 si,.slice aq n2 c2,.slice ar n3 c3] 47 (0,0)))∧Hid (W.heap[w.heap.size+1]? =some (.cells #[.int .i64 holB,.int .i64 vltB,.string strB,.int .i64 ixB,.int .i64 szB,.int .i64 dayB,.int .i64 serB,.int .i64 cntB,.int .i64 plB,.string rootB,.slice apB n1B c1B,.int .i64 siB,.slice aqB n2B c2B,.slice arB n3B c3B] 47 (0,0)))∧Hid (Below w.heap.size w W)∧Hid (W.heap.size=w.heap.size+2)) ⟨two_rows1,two_rows2,two_below,two_size⟩ ?_
 rintro W ⟨HG,HG2,HB,HWS⟩
 have HBW0:Hid (∀V,Below (w.heap.size+1+1) W V→Below w.heap.size w V):=hid (fun V h=>HB.o.trans (h.mono (by omega)))
 obtain ⟨N,hN⟩:=ex_eq w.heap.size
 obtain ⟨N1,hN1⟩:=ex_eq (w.heap.size+1)
 have HBW:Hid (∀V,Below (N1+1) W V→Below w.heap.size w V):=hid (fun V h=>HBW0.o V (by rw [hN1];exact h))
 have HNN:Hid (N1=N+1):=hid (by omega)
 have HWS:Hid (W.heap.size=N1+1):=hid (by have:=HWS.o;omega)
 rw [hN1] at HG2 ⊢
 rw [hN] at HG HB ⊢
 clear hN hN1 HBW0
 have HCC:Hid (∀V,Below (N1+1) W V→(V.cell? ⟨N,0,none⟩=some (.int .i64 hol)∧V.cell? ⟨N,1,none⟩=some (.int .i64 vlt)∧V.cell? ⟨N,2,none⟩=some (.string str)∧V.cell? ⟨N,3,none⟩=some (.int .i64 ix)∧V.cell? ⟨N,4,none⟩=some (.int .i64 sz)∧V.cell? ⟨N,5,none⟩=some (.int .i64 day)∧V.cell? ⟨N,6,none⟩=some (.int .i64 ser)∧V.cell? ⟨N,7,none⟩=some (.int .i64 cnt)∧V.cell? ⟨N,8,none⟩=some (.int .i64 pl)∧V.cell? ⟨N,9,none⟩=some (.string root)∧V.cell? ⟨N,10,none⟩=some (.slice ap n1 c1)∧V.cell? ⟨N,11,none⟩=some (.int .i64 si)∧V.cell? ⟨N,12,none⟩=some (.slice aq n2 c2)∧V.cell? ⟨N,13,none⟩=some (.slice ar n3 c3))∧V.cell? ⟨N1,0,none⟩=some (.int .i64 holB)∧V.cell? ⟨N1,1,none⟩=some (.int .i64 vltB)∧V.cell? ⟨N1,2,none⟩=some (.string strB)∧V.cell? ⟨N1,3,none⟩=some (.int .i64 ixB)∧V.cell? ⟨N1,4,none⟩=some (.int .i64 szB)∧V.cell? ⟨N1,5,none⟩=some (.int .i64 dayB)∧V.cell? ⟨N1,6,none⟩=some (.int .i64 serB)∧V.cell? ⟨N1,7,none⟩=some (.int .i64 cntB)∧V.cell? ⟨N1,8,none⟩=some (.int .i64 plB)∧V.cell? ⟨N1,9,none⟩=some (.string rootB)∧V.cell? ⟨N1,10,none⟩=some (.slice apB n1B c1B)∧V.cell? ⟨N1,11,none⟩=some (.int .i64 siB)∧V.cell? ⟨N1,12,none⟩=some (.slice aqB n2B c2B)∧V.cell? ⟨N1,13,none⟩=some (.slice arB n3B c3B)):=hid (fun V h=>⟨row14 ((h.block N (by have:=HNN.o;omega)).trans HG.o),row14 ((h.block N1 (Nat.lt_succ_self _)).trans HG2.o)⟩)
 have HST:Hid (∀V V',Below (N1+1) W V→Below V.heap.size V V'→Below (N1+1) W V'):=hid (fun V V' h h'=>h.trans (h'.mono (by have:=h.size;have:=HWS.o;omega)))
 clear HG HG2 HB
 have HL:Hid (Below (N1+1) W W):=hid (Below.refl _ _)
 obtain ⟨⟨q0,q1,q2,q3,q4,q5,q6,q7,q8,q9,q10,q11,q12,q13⟩,⟨r0,r1,r2,r3,r4,r5,r6,r7,r8,r9,r10,r11,r12,r13⟩⟩:=HCC.o _ HL.o
 cases D1
 rotate_left
 cases D2
 rotate_left
 cases D3
 rotate_left
 cases D4
 rotate_left
 cases D5
 rotate_left
 cases D6
 all_goals (
  go_wp2_with fail
  go_ret
  exact ⟨by rw [HF.o];first | rfl | simp,HBW.o _ HL.o⟩)
theorem refContraR_any (hol vlt:Int) (str:ByteArray) (ix sz day ser cnt pl:Int) (root:ByteArray) (ap:Option Addr) (n1 c1:Nat) (si:Int) (aq:Option Addr) (n2 c2:Nat) (ar:Option Addr) (n3 c3:Nat) (pa pt sq:List ByteArray) (holB vltB:Int) (strB:ByteArray) (ixB szB dayB serB cntB plB:Int) (rootB:ByteArray) (apB:Option Addr) (n1B c1B:Nat) (siB:Int) (aqB:Option Addr) (n2B c2B:Nat) (arB:Option Addr) (n3B c3B:Nat) (paB ptB sqB:List ByteArray) (w:World) (h1:pa.length=n1) (k1:n1<9223372036854775808) (s1:StrsAt w ap pa) (h2:pt.length=n2) (k2:n2<9223372036854775808) (s2:StrsAt w aq pt) (h3:sq.length=n3) (k3:n3<9223372036854775808) (s3:StrsAt w ar sq) (h1B:paB.length=n1B) (k1B:n1B<9223372036854775808) (s1B:StrsAt w apB paB) (h2B:ptB.length=n2B) (k2B:n2B<9223372036854775808) (s2B:StrsAt w aqB ptB) (h3B:sqB.length=n3B) (k3B:n3B<9223372036854775808) (s3B:StrsAt w arB sqB):Calls Tryz.prog 36 #[.agg #[.int .i64 hol,.int .i64 vlt,.string str,.int .i64 ix,.int .i64 sz,.int .i64 day,.int .i64 ser,.int .i64 cnt,.int .i64 pl,.string root,.slice ap n1 c1,.int .i64 si,.slice aq n2 c2,.slice ar n3 c3],.agg #[.int .i64 holB,.int .i64 vltB,.string strB,.int .i64 ixB,.int .i64 szB,.int .i64 dayB,.int .i64 serB,.int .i64 cntB,.int .i64 plB,.string rootB,.slice apB n1B c1B,.int .i64 siB,.slice aqB n2B c2B,.slice arB n3B c3B]] w fun e w'=>e= .returned (.bool (contraR ⟨hol,vlt,str,ix,sz,day,ser,cnt,pl,root,pa,si,pt,sq⟩ ⟨holB,vltB,strB,ixB,szB,dayB,serB,cntB,plB,rootB,paB,siB,ptB,sqB⟩))∧Below w.heap.size w w':=by
 obtain ⟨VA,hVA⟩:=ex_eq (validR ⟨hol,vlt,str,ix,sz,day,ser,cnt,pl,root,pa,si,pt,sq⟩)
 obtain ⟨VB,hVB⟩:=ex_eq (validR ⟨holB,vltB,strB,ixB,szB,dayB,serB,cntB,plB,rootB,paB,siB,ptB,sqB⟩)
 have HVA:Hid (∀V,Below w.heap.size w V→Calls Tryz.prog 29 #[.agg #[.int .i64 hol,.int .i64 vlt,.string str,.int .i64 ix,.int .i64 sz,.int .i64 day,.int .i64 ser,.int .i64 cnt,.int .i64 pl,.string root,.slice ap n1 c1,.int .i64 si,.slice aq n2 c2,.slice ar n3 c3]] V fun e w'=>e= .returned (.bool VA)∧Below V.heap.size V w'):=hid (fun V h=>by
  have h0:=refValidR_any hol vlt str ix sz day ser cnt pl root ap n1 c1 si aq n2 c2 ar n3 c3 pa pt sq V h1 k1 (s1.later h) h2 k2 (s2.later h) h3 k3 (s3.later h)
  rw [hVA] at h0
  exact h0)
 have HVB:Hid (∀V,Below w.heap.size w V→Calls Tryz.prog 29 #[.agg #[.int .i64 holB,.int .i64 vltB,.string strB,.int .i64 ixB,.int .i64 szB,.int .i64 dayB,.int .i64 serB,.int .i64 cntB,.int .i64 plB,.string rootB,.slice apB n1B c1B,.int .i64 siB,.slice aqB n2B c2B,.slice arB n3B c3B]] V fun e w'=>e= .returned (.bool VB)∧Below V.heap.size V w'):=hid (fun V h=>by
  have h0:=refValidR_any holB vltB strB ixB szB dayB serB cntB plB rootB apB n1B c1B siB aqB n2B c2B arB n3B c3B paB ptB sqB V h1B k1B (s1B.later h) h2B k2B (s2B.later h) h3B k3B (s3B.later h)
  rw [hVB] at h0
  exact h0)
 obtain ⟨D,hD⟩:=ex_eq (decide ((⟨hol,vlt,sz,day,ser,str,ix⟩:Sg)=(⟨holB,vltB,szB,dayB,serB,strB,ixB⟩:Sg)))
 have HFD:Hid (∀V,Below w.heap.size w V→Calls Tryz.prog 32 #[.agg #[.int .i64 hol,.int .i64 vlt,.string str,.int .i64 ix,.int .i64 sz,.int .i64 day,.int .i64 ser,.int .i64 cnt,.int .i64 pl,.string root,.slice ap n1 c1,.int .i64 si,.slice aq n2 c2,.slice ar n3 c3],.agg #[.int .i64 holB,.int .i64 vltB,.string strB,.int .i64 ixB,.int .i64 szB,.int .i64 dayB,.int .i64 serB,.int .i64 cntB,.int .i64 plB,.string rootB,.slice apB n1B c1B,.int .i64 siB,.slice aqB n2B c2B,.slice arB n3B c3B]] V fun e w'=>e= .returned (.bool D)∧Below V.heap.size V w'):=hid (fun V h=>by
  have h0:=refFields_any hol vlt str ix sz day ser cnt pl root ap n1 c1 si aq n2 c2 ar n3 c3 pa pt sq holB vltB strB ixB szB dayB serB cntB plB rootB apB n1B c1B siB aqB n2B c2B arB n3B c3B paB ptB sqB V
  rw [hD] at h0
  exact h0)
 obtain ⟨D1,hD1⟩: ∃d,(hol==holB)=d:=⟨_,rfl⟩
 obtain ⟨D2,hD2⟩: ∃d,(ser==serB)=d:=⟨_,rfl⟩
 have HF:Hid (contraR ⟨hol,vlt,str,ix,sz,day,ser,cnt,pl,root,pa,si,pt,sq⟩ ⟨holB,vltB,strB,ixB,szB,dayB,serB,cntB,plB,rootB,paB,siB,ptB,sqB⟩=(VA && (VB && (D1 && (D2 && !D))))):=hid (by
  unfold contraR
  rw [hVA,hVB,← hD,← hD1,← hD2,int_beq,int_beq]
  rfl)
 obtain ⟨F,hF⟩:=ex_eq (contraR ⟨hol,vlt,str,ix,sz,day,ser,cnt,pl,root,pa,si,pt,sq⟩ ⟨holB,vltB,strB,ixB,szB,dayB,serB,cntB,plB,rootB,paB,siB,ptB,sqB⟩)
 rw [hF] at HF ⊢
 clear hF hVA hVB hD h1 h2 h3 k1 k2 k3 s1 s2 s3 h1B h2B h3B k1B k2B k3B s1B s2B s3B
 go_enter Tryz.func36,Tryz.ntmps36
 go_upto_region 1 with fail
 refine wp_over (fun W=>Hid (W.heap[w.heap.size]? =some (.cells #[.int .i64 hol,.int .i64 vlt,.string str,.int .i64 ix,.int .i64 sz,.int .i64 day,.int .i64 ser,.int .i64 cnt,.int .i64 pl,.string root,.slice ap n1 c1,.int .i64 si,.slice aq n2 c2,.slice ar n3 c3] 47 (0,0)))∧Hid (W.heap[w.heap.size+1]? =some (.cells #[.int .i64 holB,.int .i64 vltB,.string strB,.int .i64 ixB,.int .i64 szB,.int .i64 dayB,.int .i64 serB,.int .i64 cntB,.int .i64 plB,.string rootB,.slice apB n1B c1B,.int .i64 siB,.slice aqB n2B c2B,.slice arB n3B c3B] 47 (0,0)))∧Hid (Below w.heap.size w W)∧Hid (W.heap.size=w.heap.size+2)) ⟨two_rows1,two_rows2,two_below,two_size⟩ ?_
 rintro W ⟨HG,HG2,HB,HWS⟩
 have HBW0:Hid (∀V,Below (w.heap.size+1+1) W V→Below w.heap.size w V):=hid (fun V h=>HB.o.trans (h.mono (by omega)))
 obtain ⟨N,hN⟩:=ex_eq w.heap.size
 obtain ⟨N1,hN1⟩:=ex_eq (w.heap.size+1)
 have HBW:Hid (∀V,Below (N1+1) W V→Below w.heap.size w V):=hid (fun V h=>HBW0.o V (by rw [hN1];exact h))
 have HNN:Hid (N1=N+1):=hid (by omega)
 have HWS:Hid (W.heap.size=N1+1):=hid (by have:=HWS.o;omega)
 rw [hN1] at HG2 ⊢
 rw [hN] at HG HB ⊢
 clear hN hN1 HBW0
 have HCC:Hid (∀V,Below (N1+1) W V→(V.cell? ⟨N,0,none⟩=some (.int .i64 hol)∧V.cell? ⟨N,1,none⟩=some (.int .i64 vlt)∧V.cell? ⟨N,2,none⟩=some (.string str)∧V.cell? ⟨N,3,none⟩=some (.int .i64 ix)∧V.cell? ⟨N,4,none⟩=some (.int .i64 sz)∧V.cell? ⟨N,5,none⟩=some (.int .i64 day)∧V.cell? ⟨N,6,none⟩=some (.int .i64 ser)∧V.cell? ⟨N,7,none⟩=some (.int .i64 cnt)∧V.cell? ⟨N,8,none⟩=some (.int .i64 pl)∧V.cell? ⟨N,9,none⟩=some (.string root)∧V.cell? ⟨N,10,none⟩=some (.slice ap n1 c1)∧V.cell? ⟨N,11,none⟩=some (.int .i64 si)∧V.cell? ⟨N,12,none⟩=some (.slice aq n2 c2)∧V.cell? ⟨N,13,none⟩=some (.slice ar n3 c3))∧V.cell? ⟨N1,0,none⟩=some (.int .i64 holB)∧V.cell? ⟨N1,1,none⟩=some (.int .i64 vltB)∧V.cell? ⟨N1,2,none⟩=some (.string strB)∧V.cell? ⟨N1,3,none⟩=some (.int .i64 ixB)∧V.cell? ⟨N1,4,none⟩=some (.int .i64 szB)∧V.cell? ⟨N1,5,none⟩=some (.int .i64 dayB)∧V.cell? ⟨N1,6,none⟩=some (.int .i64 serB)∧V.cell? ⟨N1,7,none⟩=some (.int .i64 cntB)∧V.cell? ⟨N1,8,none⟩=some (.int .i64 plB)∧V.cell? ⟨N1,9,none⟩=some (.string rootB)∧V.cell? ⟨N1,10,none⟩=some (.slice apB n1B c1B)∧V.cell? ⟨N1,11,none⟩=some (.int .i64 siB)∧V.cell? ⟨N1,12,none⟩=some (.slice aqB n2B c2B)∧V.cell? ⟨N1,13,none⟩=some (.slice arB n3B c3B)):=hid (fun V h=>⟨row14 ((h.block N (by have:=HNN.o;omega)).trans HG.o),row14 ((h.block N1 (Nat.lt_succ_self _)).trans HG2.o)⟩)
 have HST:Hid (∀V V',Below (N1+1) W V→Below V.heap.size V V'→Below (N1+1) W V'):=hid (fun V V' h h'=>h.trans (h'.mono (by have:=h.size;have:=HWS.o;omega)))
 clear HG HG2 HB
 have HL:Hid (Below (N1+1) W W):=hid (Below.refl _ _)
 obtain ⟨⟨q0,q1,q2,q3,q4,q5,q6,q7,q8,q9,q10,q11,q12,q13⟩,⟨r0,r1,r2,r3,r4,r5,r6,r7,r8,r9,r10,r11,r12,r13⟩⟩:=HCC.o _ HL.o
 cases VA
 rotate_left
 cases VB
 rotate_left
 cases D1
 rotate_left
 cases D2
 all_goals (
  go_wp2_with (first
   | (go_at_call 29
      (with_reducible refine (HVA.o _ (HBW.o _ HL.o)).mono ?_)
      rintro e w2 ⟨rfl,h2⟩
      have HM:Hid (Below (N1+1) W w2):=hid (HST.o _ _ HL.o h2)
      clear h2 HL q0 r0 q1 r1 q2 r2 q3 r3 q4 r4 q5 r5 q6 r6 q7 r7 q8 r8 q9 r9 q10 r10 q11 r11 q12 r12 q13 r13
      have HL:=HM
      clear HM
      obtain ⟨⟨q0,q1,q2,q3,q4,q5,q6,q7,q8,q9,q10,q11,q12,q13⟩,⟨r0,r1,r2,r3,r4,r5,r6,r7,r8,r9,r10,r11,r12,r13⟩⟩:=HCC.o _ HL.o)
   | (go_at_call 29
      (with_reducible refine (HVB.o _ (HBW.o _ HL.o)).mono ?_)
      rintro e w2 ⟨rfl,h2⟩
      have HM:Hid (Below (N1+1) W w2):=hid (HST.o _ _ HL.o h2)
      clear h2 HL q0 r0 q1 r1 q2 r2 q3 r3 q4 r4 q5 r5 q6 r6 q7 r7 q8 r8 q9 r9 q10 r10 q11 r11 q12 r12 q13 r13
      have HL:=HM
      clear HM
      obtain ⟨⟨q0,q1,q2,q3,q4,q5,q6,q7,q8,q9,q10,q11,q12,q13⟩,⟨r0,r1,r2,r3,r4,r5,r6,r7,r8,r9,r10,r11,r12,r13⟩⟩:=HCC.o _ HL.o)
   | (go_at_call 32
      (with_reducible refine (HFD.o _ (HBW.o _ HL.o)).mono ?_)
      rintro e w2 ⟨rfl,h2⟩
      have HM:Hid (Below (N1+1) W w2):=hid (HST.o _ _ HL.o h2)
      clear h2 HL q0 r0 q1 r1 q2 r2 q3 r3 q4 r4 q5 r5 q6 r6 q7 r7 q8 r8 q9 r9 q10 r10 q11 r11 q12 r12 q13 r13
      have HL:=HM
      clear HM
      obtain ⟨⟨q0,q1,q2,q3,q4,q5,q6,q7,q8,q9,q10,q11,q12,q13⟩,⟨r0,r1,r2,r3,r4,r5,r6,r7,r8,r9,r10,r11,r12,r13⟩⟩:=HCC.o _ HL.o))
  go_ret
  exact ⟨by rw [HF.o];first | rfl | simp,HBW.o _ HL.o⟩)
theorem texts43_any (a b:Option Addr) (c1 c2 L1 L2:Nat) (X Y:List ByteArray) (h1:X.length=L1) (h2:Y.length=L2) (hl1:L1≤1000000) (hl2:L2≤9223372036854775807) (w:World) (hX:StrsAt w a X) (hY:StrsAt w b Y):
    Calls Tryz.prog 114 #[.slice a L1 c1,.slice b L2 c2] w fun e w'=>e= .returned (.bool (decide (X=Y)))∧Below w.heap.size w w':=by
 by_cases hl:L1=L2
 ·subst hl
  have HX:=hid hX
  have HY:=hid hY
  have H1:=hid h1
  have H2:=hid h2
  clear hX hY h1 h2
  go_enter Tryz.func114,Tryz.ntmps114
  go_wp2_with fail
  go_loopw [5] (fun z wr=> ∃k:Nat,k≤L1∧z= .int .i64 (k:Int)∧Drawn w wr∧Hid (∀i,i<k→X.getD i ByteArray.empty=Y.getD i ByteArray.empty)) (fun z _=>L1 - (intOf z).toNat)
  case atStart=>exact ⟨0,by omega,rfl,Drawn.refl _,fun i h=>by omega⟩
  case round=>
   obtain ⟨k,hk,rfl,hdr,HLE⟩:=hrel
   obtain ⟨q,rfl⟩:=hdr
   by_cases hlt:k<L1
   ·have hki:(k:Int)<(L1:Int):=by omega
    obtain ⟨b2,o2,rfl,hc2⟩: ∃b o,a=some ⟨b,o,none⟩∧ ∀i,i<X.length→w.cell? ⟨b,o+i,none⟩=some (.string (X.getD i ByteArray.empty)):=by
     rcases HX.o with h | h
     ·have:=H1.o;rw [h] at this;simp at this;omega
     ·exact h
    obtain ⟨b3,o3,rfl,hc3⟩: ∃b' o,b=some ⟨b',o,none⟩∧ ∀i,i<Y.length→w.cell? ⟨b',o+i,none⟩=some (.string (Y.getD i ByteArray.empty)):=by
     rcases HY.o with h | h
     ·have:=H2.o;rw [h] at this;simp at this;omega
     ·exact h
    have hx:(w.drewN q).cell? ⟨b2,o2+k,none⟩=some (.string (X.getD k ByteArray.empty)):=hc2 k (by rw [H1.o];exact hlt)
    have hy:(w.drewN q).cell? ⟨b3,o3+k,none⟩=some (.string (Y.getD k ByteArray.empty)):=hc3 k (by rw [H2.o];exact hlt)
    obtain ⟨d,hd⟩:=ex_eq (X.getD k ByteArray.empty)
    obtain ⟨f,hf⟩:=ex_eq (Y.getD k ByteArray.empty)
    rw [hd] at hx
    rw [hf] at hy
    have HDF:=hid (And.intro hd hf)
    have HTF:Hid ((d.toList==f.toList)=decide (d=f)):=hid (by
     rw [eq_str,decide_eq_decide]
     exact ⟨nb_inj,fun h=>by rw [h]⟩)
    clear hc2 hc3 hd hf
    go_upto_region 6 with fail
    refine Kit.wp_region_plan (fun V=>V.cell? ⟨b2,o2+k,none⟩=some (.string d)∧V.cell? ⟨b3,o3+k,none⟩=some (.string f)) [(true,0),(true,1),(true,2),(true,3),(true,4),(true,5),(true,6),(true,7),(true,8)] (by kernel_rfl) (by kernel_rfl) (by kernel_rfl) (by kernel_rfl) ⟨hx,hy⟩ ?_
    repeat (refine Kit.plan_head (by rfl) (.inl ⟨by rfl,fun w' hS=>by (dsimp only at hS);go_simp;(try with_reducible rfl)⟩) ?_;simp only [Act.put,List.setIfInBounds_toArray,List.set_cons_zero,List.set_cons_succ])
    refine Kit.plan_done ?_
    (try simp only [Act.put,List.setIfInBounds_toArray,List.set_cons_zero,List.set_cons_succ])
    obtain ⟨t,ht⟩:=ex_eq (!(d.toList==f.toList))
    rw [ht]
    rw [HTF.o] at ht
    by_cases hle:d=f
    ·have hne:t=false:=by rw [← ht,decide_eq_true hle];rfl
     subst hne
     clear ht
     have HLF:=hid hle
     clear hle
     go_wp2_with fail
     go_roundw
     case rel=>
      refine ⟨k+1,hlt,by go_num,⟨q+1,rfl⟩,fun i hi=> ?_⟩
      by_cases e:i=k
      ·rw [e,HDF.o.1,HDF.o.2];exact HLF.o
      ·exact HLE.o i (by omega)
     case measure=>simp [intOf];omega
    ·have hne:t=true:=by rw [← ht,decide_eq_false hle];rfl
     subst hne
     clear ht
     have HF:Hid (decide (X=Y)=false):=hid (decide_eq_false (fun h=>hle (by rw [← HDF.o.1,← HDF.o.2,h])))
     go_wp2_with fail
     go_ret
     exact ⟨by rw [HF.o];rfl,by exact Below.drew (below_drewN (w:=w) (n:=q))⟩
   ·have hki: ¬(k:Int)<(L1:Int):=by omega
    have HF:Hid (decide (X=Y)=true):=hid (decide_eq_true (by
     refine List.ext_getElem (by rw [H1.o,H2.o]) fun i h1 h2=> ?_
     have h3:=HLE.o i (by rw [H1.o] at h1;omega)
     rwa [lD,lE h1,lD,lE h2] at h3))
    go_wp2_with fail
    go_ret
    exact ⟨by rw [HF.o];rfl,below_drewN (w:=w) (n:=q)⟩
 ·have hne:((L1:Int) != (L2:Int))=true:=by rw [bne_iff_ne];omega
  have HF:Hid (decide (X=Y)=false):=hid (decide_eq_false (fun h=>hl (by rw [← h1,← h2,h])))
  clear hX hY h1 h2 hl
  go_enter Tryz.func114,Tryz.ntmps114
  go_wp2_with fail
  go_ret
  exact ⟨by rw [HF.o];rfl,Below.refl _ _⟩
def sameR (a b:Rc):Bool:=decide (a.sg=b.sg) && (decide (a.cnt=b.cnt) && (decide (a.pl=b.pl) && (decide (a.root=b.root) && (decide (a.path=b.path) && (decide (a.si=b.si) && (decide (a.parts=b.parts) && decide (a.sp=b.sp)))))))
theorem sameR_iff {a b:Rc}:sameR a b=true↔a=b:=by
 unfold sameR
 simp only [Bool.and_eq_true,decide_eq_true_eq]
 constructor
 ·rintro ⟨h,h1,h2,h3,h4,h5,h6,h7⟩
  exact Rc.ext' h h1 h2 h3 h4 h5 h6 h7
 ·rintro rfl
  exact ⟨rfl,rfl,rfl,rfl,rfl,rfl,rfl,rfl⟩
theorem refSame43_any (hol vlt:Int) (str:ByteArray) (ix sz day ser cnt pl:Int) (root:ByteArray) (ap:Option Addr) (n1 c1:Nat) (si:Int) (aq:Option Addr) (n2 c2:Nat) (ar:Option Addr) (n3 c3:Nat) (pa pt sq:List ByteArray) (holB vltB:Int) (strB:ByteArray) (ixB szB dayB serB cntB plB:Int) (rootB:ByteArray) (apB:Option Addr) (n1B c1B:Nat) (siB:Int) (aqB:Option Addr) (n2B c2B:Nat) (arB:Option Addr) (n3B c3B:Nat) (paB ptB sqB:List ByteArray) (w:World) (h1:pa.length=n1) (k1:n1<9223372036854775808) (s1:StrsAt w ap pa) (h2:pt.length=n2) (k2:n2<9223372036854775808) (s2:StrsAt w aq pt) (h3:sq.length=n3) (k3:n3<9223372036854775808) (s3:StrsAt w ar sq) (h1B:paB.length=n1B) (k1B:n1B<9223372036854775808) (s1B:StrsAt w apB paB) (h2B:ptB.length=n2B) (k2B:n2B<9223372036854775808) (s2B:StrsAt w aqB ptB) (h3B:sqB.length=n3B) (k3B:n3B<9223372036854775808) (s3B:StrsAt w arB sqB) (m1:n1≤1000000) (m2:n2≤1000000) (m3:n3≤1000000):Calls Tryz.prog 27 #[.agg #[.int .i64 hol,.int .i64 vlt,.string str,.int .i64 ix,.int .i64 sz,.int .i64 day,.int .i64 ser,.int .i64 cnt,.int .i64 pl,.string root,.slice ap n1 c1,.int .i64 si,.slice aq n2 c2,.slice ar n3 c3],.agg #[.int .i64 holB,.int .i64 vltB,.string strB,.int .i64 ixB,.int .i64 szB,.int .i64 dayB,.int .i64 serB,.int .i64 cntB,.int .i64 plB,.string rootB,.slice apB n1B c1B,.int .i64 siB,.slice aqB n2B c2B,.slice arB n3B c3B]] w fun e w'=>e= .returned (.bool (sameR ⟨hol,vlt,str,ix,sz,day,ser,cnt,pl,root,pa,si,pt,sq⟩ ⟨holB,vltB,strB,ixB,szB,dayB,serB,cntB,plB,rootB,paB,siB,ptB,sqB⟩))∧Below w.heap.size w w':=by
 obtain ⟨D1,hD1⟩:=ex_eq (decide ((⟨hol,vlt,sz,day,ser,str,ix⟩:Sg)=(⟨holB,vltB,szB,dayB,serB,strB,ixB⟩:Sg)))
 have HFD:Hid (∀V,Below w.heap.size w V→Calls Tryz.prog 32 #[.agg #[.int .i64 hol,.int .i64 vlt,.string str,.int .i64 ix,.int .i64 sz,.int .i64 day,.int .i64 ser,.int .i64 cnt,.int .i64 pl,.string root,.slice ap n1 c1,.int .i64 si,.slice aq n2 c2,.slice ar n3 c3],.agg #[.int .i64 holB,.int .i64 vltB,.string strB,.int .i64 ixB,.int .i64 szB,.int .i64 dayB,.int .i64 serB,.int .i64 cntB,.int .i64 plB,.string rootB,.slice apB n1B c1B,.int .i64 siB,.slice aqB n2B c2B,.slice arB n3B c3B]] V fun e w'=>e= .returned (.bool D1)∧Below V.heap.size V w'):=hid (fun V h=>by
  have h0:=refFields_any hol vlt str ix sz day ser cnt pl root ap n1 c1 si aq n2 c2 ar n3 c3 pa pt sq holB vltB strB ixB szB dayB serB cntB plB rootB apB n1B c1B siB aqB n2B c2B arB n3B c3B paB ptB sqB V
  rw [hD1] at h0
  exact h0)
 obtain ⟨D2,hD2⟩: ∃d,(cnt==cntB)=d:=⟨_,rfl⟩
 obtain ⟨D3,hD3⟩: ∃d,(pl==plB)=d:=⟨_,rfl⟩
 obtain ⟨D4,hD4⟩: ∃d,(root.toList==rootB.toList)=d:=⟨_,rfl⟩
 obtain ⟨D5,hD5⟩:=ex_eq (decide (pa=paB))
 obtain ⟨D6,hD6⟩: ∃d,(si==siB)=d:=⟨_,rfl⟩
 obtain ⟨D7,hD7⟩:=ex_eq (decide (pt=ptB))
 obtain ⟨D8,hD8⟩:=ex_eq (decide (sq=sqB))
 have HTD5:Hid (∀V,Below w.heap.size w V→Calls Tryz.prog 114 #[.slice ap n1 c1,.slice apB n1B c1B] V fun e w'=>e= .returned (.bool D5)∧Below V.heap.size V w'):=hid (fun V h=>by
  have h0:=texts43_any ap apB c1 c1B n1 n1B pa paB h1 h1B m1 (by omega) V (s1.later h) (s1B.later h)
  rw [hD5] at h0
  exact h0)
 have HTD7:Hid (∀V,Below w.heap.size w V→Calls Tryz.prog 114 #[.slice aq n2 c2,.slice aqB n2B c2B] V fun e w'=>e= .returned (.bool D7)∧Below V.heap.size V w'):=hid (fun V h=>by
  have h0:=texts43_any aq aqB c2 c2B n2 n2B pt ptB h2 h2B m2 (by omega) V (s2.later h) (s2B.later h)
  rw [hD7] at h0
  exact h0)
 have HTD8:Hid (∀V,Below w.heap.size w V→Calls Tryz.prog 114 #[.slice ar n3 c3,.slice arB n3B c3B] V fun e w'=>e= .returned (.bool D8)∧Below V.heap.size V w'):=hid (fun V h=>by
  have h0:=texts43_any ar arB c3 c3B n3 n3B sq sqB h3 h3B m3 (by omega) V (s3.later h) (s3B.later h)
  rw [hD8] at h0
  exact h0)
 have HF:Hid (sameR ⟨hol,vlt,str,ix,sz,day,ser,cnt,pl,root,pa,si,pt,sq⟩ ⟨holB,vltB,strB,ixB,szB,dayB,serB,cntB,plB,rootB,paB,siB,ptB,sqB⟩=(D1 && (D2 && (D3 && (D4 && (D5 && (D6 && (D7 && D8)))))))):=hid (by
  unfold sameR
  rw [← hD1,← hD2,← hD3,← hD4,← hD5,← hD6,← hD7,← hD8,int_beq,int_beq,int_beq,str_tol]
  rfl)
 obtain ⟨F,hF⟩:=ex_eq (sameR ⟨hol,vlt,str,ix,sz,day,ser,cnt,pl,root,pa,si,pt,sq⟩ ⟨holB,vltB,strB,ixB,szB,dayB,serB,cntB,plB,rootB,paB,siB,ptB,sqB⟩)
 rw [hF] at HF ⊢
 clear hF hD1 hD5 hD7 hD8 m1 m2 m3 h1 h2 h3 k1 k2 k3 s1 s2 s3 h1B h2B h3B k1B k2B k3B s1B s2B s3B
 go_enter Tryz.func27,Tryz.ntmps27
 go_upto_region 1 with fail
 refine wp_over (fun W=>Hid (W.heap[w.heap.size]? =some (.cells #[.int .i64 hol,.int .i64 vlt,.string str,.int .i64 ix,.int .i64 sz,.int .i64 day,.int .i64 ser,.int .i64 cnt,.int .i64 pl,.string root,.slice ap n1 c1,.int .i64 si,.slice aq n2 c2,.slice ar n3 c3] 47 (0,0)))∧Hid (W.heap[w.heap.size+1]? =some (.cells #[.int .i64 holB,.int .i64 vltB,.string strB,.int .i64 ixB,.int .i64 szB,.int .i64 dayB,.int .i64 serB,.int .i64 cntB,.int .i64 plB,.string rootB,.slice apB n1B c1B,.int .i64 siB,.slice aqB n2B c2B,.slice arB n3B c3B] 47 (0,0)))∧Hid (Below w.heap.size w W)∧Hid (W.heap.size=w.heap.size+2)) ⟨two_rows1,two_rows2,two_below,two_size⟩ ?_
 rintro W ⟨HG,HG2,HB,HWS⟩
 have HBW0:Hid (∀V,Below (w.heap.size+1+1) W V→Below w.heap.size w V):=hid (fun V h=>HB.o.trans (h.mono (by omega)))
 obtain ⟨N,hN⟩:=ex_eq w.heap.size
 obtain ⟨N1,hN1⟩:=ex_eq (w.heap.size+1)
 have HBW:Hid (∀V,Below (N1+1) W V→Below w.heap.size w V):=hid (fun V h=>HBW0.o V (by rw [hN1];exact h))
 have HNN:Hid (N1=N+1):=hid (by omega)
 have HWS:Hid (W.heap.size=N1+1):=hid (by have:=HWS.o;omega)
 rw [hN1] at HG2 ⊢
 rw [hN] at HG HB ⊢
 clear hN hN1 HBW0
 have HCC:Hid (∀V,Below (N1+1) W V→(V.cell? ⟨N,0,none⟩=some (.int .i64 hol)∧V.cell? ⟨N,1,none⟩=some (.int .i64 vlt)∧V.cell? ⟨N,2,none⟩=some (.string str)∧V.cell? ⟨N,3,none⟩=some (.int .i64 ix)∧V.cell? ⟨N,4,none⟩=some (.int .i64 sz)∧V.cell? ⟨N,5,none⟩=some (.int .i64 day)∧V.cell? ⟨N,6,none⟩=some (.int .i64 ser)∧V.cell? ⟨N,7,none⟩=some (.int .i64 cnt)∧V.cell? ⟨N,8,none⟩=some (.int .i64 pl)∧V.cell? ⟨N,9,none⟩=some (.string root)∧V.cell? ⟨N,10,none⟩=some (.slice ap n1 c1)∧V.cell? ⟨N,11,none⟩=some (.int .i64 si)∧V.cell? ⟨N,12,none⟩=some (.slice aq n2 c2)∧V.cell? ⟨N,13,none⟩=some (.slice ar n3 c3))∧V.cell? ⟨N1,0,none⟩=some (.int .i64 holB)∧V.cell? ⟨N1,1,none⟩=some (.int .i64 vltB)∧V.cell? ⟨N1,2,none⟩=some (.string strB)∧V.cell? ⟨N1,3,none⟩=some (.int .i64 ixB)∧V.cell? ⟨N1,4,none⟩=some (.int .i64 szB)∧V.cell? ⟨N1,5,none⟩=some (.int .i64 dayB)∧V.cell? ⟨N1,6,none⟩=some (.int .i64 serB)∧V.cell? ⟨N1,7,none⟩=some (.int .i64 cntB)∧V.cell? ⟨N1,8,none⟩=some (.int .i64 plB)∧V.cell? ⟨N1,9,none⟩=some (.string rootB)∧V.cell? ⟨N1,10,none⟩=some (.slice apB n1B c1B)∧V.cell? ⟨N1,11,none⟩=some (.int .i64 siB)∧V.cell? ⟨N1,12,none⟩=some (.slice aqB n2B c2B)∧V.cell? ⟨N1,13,none⟩=some (.slice arB n3B c3B)):=hid (fun V h=>⟨row14 ((h.block N (by have:=HNN.o;omega)).trans HG.o),row14 ((h.block N1 (Nat.lt_succ_self _)).trans HG2.o)⟩)
 have HST:Hid (∀V V',Below (N1+1) W V→Below V.heap.size V V'→Below (N1+1) W V'):=hid (fun V V' h h'=>h.trans (h'.mono (by have:=h.size;have:=HWS.o;omega)))
 clear HG HG2 HB
 have HL:Hid (Below (N1+1) W W):=hid (Below.refl _ _)
 obtain ⟨⟨q0,q1,q2,q3,q4,q5,q6,q7,q8,q9,q10,q11,q12,q13⟩,⟨r0,r1,r2,r3,r4,r5,r6,r7,r8,r9,r10,r11,r12,r13⟩⟩:=HCC.o _ HL.o
 cases D1
 rotate_left
 cases D2
 rotate_left
 cases D3
 rotate_left
 cases D4
 rotate_left
 cases D5
 rotate_left
 cases D6
 rotate_left
 cases D7
 rotate_left
 cases D8
 all_goals (
  go_wp2_with (first
   | (go_at_call 32
      (with_reducible refine (HFD.o _ (HBW.o _ HL.o)).mono ?_)
      rintro e w2 ⟨rfl,h2⟩
      have HM:Hid (Below (N1+1) W w2):=hid (HST.o _ _ HL.o h2)
      clear h2 HL q0 r0 q1 r1 q2 r2 q3 r3 q4 r4 q5 r5 q6 r6 q7 r7 q8 r8 q9 r9 q10 r10 q11 r11 q12 r12 q13 r13
      have HL:=HM
      clear HM
      obtain ⟨⟨q0,q1,q2,q3,q4,q5,q6,q7,q8,q9,q10,q11,q12,q13⟩,⟨r0,r1,r2,r3,r4,r5,r6,r7,r8,r9,r10,r11,r12,r13⟩⟩:=HCC.o _ HL.o)
   | (go_at_call 114
      (with_reducible refine (HTD5.o _ (HBW.o _ HL.o)).mono ?_)
      rintro e w2 ⟨rfl,h2⟩
      have HM:Hid (Below (N1+1) W w2):=hid (HST.o _ _ HL.o h2)
      clear h2 HL q0 r0 q1 r1 q2 r2 q3 r3 q4 r4 q5 r5 q6 r6 q7 r7 q8 r8 q9 r9 q10 r10 q11 r11 q12 r12 q13 r13
      have HL:=HM
      clear HM
      obtain ⟨⟨q0,q1,q2,q3,q4,q5,q6,q7,q8,q9,q10,q11,q12,q13⟩,⟨r0,r1,r2,r3,r4,r5,r6,r7,r8,r9,r10,r11,r12,r13⟩⟩:=HCC.o _ HL.o)
   | (go_at_call 114
      (with_reducible refine (HTD7.o _ (HBW.o _ HL.o)).mono ?_)
      rintro e w2 ⟨rfl,h2⟩
      have HM:Hid (Below (N1+1) W w2):=hid (HST.o _ _ HL.o h2)
      clear h2 HL q0 r0 q1 r1 q2 r2 q3 r3 q4 r4 q5 r5 q6 r6 q7 r7 q8 r8 q9 r9 q10 r10 q11 r11 q12 r12 q13 r13
      have HL:=HM
      clear HM
      obtain ⟨⟨q0,q1,q2,q3,q4,q5,q6,q7,q8,q9,q10,q11,q12,q13⟩,⟨r0,r1,r2,r3,r4,r5,r6,r7,r8,r9,r10,r11,r12,r13⟩⟩:=HCC.o _ HL.o)
   | (go_at_call 114
      (with_reducible refine (HTD8.o _ (HBW.o _ HL.o)).mono ?_)
      rintro e w2 ⟨rfl,h2⟩
      have HM:Hid (Below (N1+1) W w2):=hid (HST.o _ _ HL.o h2)
      clear h2 HL q0 r0 q1 r1 q2 r2 q3 r3 q4 r4 q5 r5 q6 r6 q7 r7 q8 r8 q9 r9 q10 r10 q11 r11 q12 r12 q13 r13
      have HL:=HM
      clear HM
      obtain ⟨⟨q0,q1,q2,q3,q4,q5,q6,q7,q8,q9,q10,q11,q12,q13⟩,⟨r0,r1,r2,r3,r4,r5,r6,r7,r8,r9,r10,r11,r12,r13⟩⟩:=HCC.o _ HL.o))
  go_ret
  exact ⟨by rw [HF.o];first | rfl | simp,HBW.o _ HL.o⟩)
def RcsAt (w:World) (a:Option Addr) (xs:List RcV):Prop:=(xs=[]∨ ∃b o,a=some ⟨b,o,none⟩∧ ∀k (h:k<xs.length) j,j<14→w.cell? ⟨b,o+k*14+j,none⟩=xs[k].cells[j]?)∧ ∀x ∈ xs,x.ok w
theorem RcsAt.later {w w':World} {a:Option Addr} {xs:List RcV} (h:RcsAt w a xs) (hb:Below w.heap.size w w'):RcsAt w' a xs:=by
 refine ⟨?_,fun x hx=>(h.2 x hx).later hb⟩
 rcases h.1 with h | ⟨b,o,e,h⟩
 ·exact .inl h
 ·refine .inr ⟨b,o,e,fun k hk j hj=> ?_⟩
  have h1:=h k hk j hj
  have h2:xs[k].cells[j]? =some (xs[k].cells[j]'hj):=lE hj
  rw [h2] at h1 ⊢
  exact (hb.cell (World.block_lt_of_cell? _ _ h1)).trans h1
theorem RcsAt.one {w:World} {a:Option Addr} {xs:List RcV} (h:RcsAt w a xs) (k:Nat) (hk:k<xs.length): ∃b o,a=some ⟨b,o,none⟩∧ ∀j,j<14→w.cell? ⟨b,o+k*14+j,none⟩=xs[k].cells[j]? :=by
 rcases h.1 with h | ⟨b,o,e,h⟩
 ·rw [h] at hk;simp at hk
 ·exact ⟨b,o,e,h k hk⟩
theorem refSameAll_ok (a:Option Addr) (c L:Nat) (xs:List RcV) (hLe:xs.length=L) (a':Option Addr) (c':Nat) (ys:List RcV) (hLf:ys.length=L) (he:xs.map RcV.r=ys.map RcV.r) (hL:L≤100000) (hm: ∀x ∈ xs,x.r.path.length≤1000000∧x.r.parts.length≤1000000∧x.r.sp.length≤1000000) (w:World) (hX:RcsAt w a xs) (hY:RcsAt w a' ys):
    Calls Tryz.prog 21 #[.slice a L c,.slice a' L c'] w fun e w'=>e= .returned (.bool true)∧Below w.heap.size w w':=by
 have HX:=hid hX
 have HY:=hid hY
 have HLE:=hid hLe
 have HLF:=hid hLf
 have HM:=hid hm
 have HEQ:Hid (∀k (h1:k<xs.length) (h2:k<ys.length),xs[k].r=ys[k].r):=hid (fun k h1 h2=>by
  have h:=List.getElem_of_eq he (i:=k) (by rw [List.length_map];exact h1)
  simpa using h)
 clear hX hY hLe hLf hm he
 go_enter Tryz.func21,Tryz.ntmps21
 go_upto_region 4 with fail
 go_loopw [5] (fun z wr=> ∃k:Nat,k≤L∧z= .int .i64 (k:Int)∧Hid (Below w.heap.size w wr)) (fun z _=>L - (intOf z).toNat)
 case atStart=>exact ⟨0,by omega,rfl,hid (Below.refl _ _)⟩
 case round=>
  obtain ⟨k,hk,rfl,HBE⟩:=hrel
  by_cases hlt:k<L
  rotate_left
  ·have hki: ¬(k:Int)<(L:Int):=by omega
   go_wp2_with fail
   go_ret
   exact ⟨by first | rfl | simp,HBE.o⟩
  have hki:(k:Int)<(L:Int):=by omega
  have HK1:Hid (k<xs.length):=hid (by rw [HLE.o];exact hlt)
  have HK2:Hid (k<ys.length):=hid (by rw [HLF.o];exact hlt)
  obtain ⟨b1,o1,rfl,hc1⟩:=(HX.o.later HBE.o).one k HK1.o
  obtain ⟨b2,o2,rfl,hc2⟩:=(HY.o.later HBE.o).one k HK2.o
  have HO1:=hid ((HX.o.later HBE.o).2 _ (List.getElem_mem HK1.o))
  have HO2:=hid ((HY.o.later HBE.o).2 _ (List.getElem_mem HK2.o))
  have HMX:=hid (HM.o _ (List.getElem_mem HK1.o))
  have HE1:=hid (HEQ.o k HK1.o HK2.o)
  obtain ⟨x,hx⟩:=ex_eq (xs[k]'HK1.o)
  obtain ⟨y,hy⟩:=ex_eq (ys[k]'HK2.o)
  rw [hx] at hc1 HO1 HMX HE1
  rw [hy] at hc2 HO2 HE1
  clear hx hy
  obtain ⟨⟨hol,vlt,str,ix,sz,day,ser,cnt,pl,root,pa,si,pt,sq⟩,ap,c1,aq,c2,ar,c3⟩:=x
  obtain ⟨⟨holB,vltB,strB,ixB,szB,dayB,serB,cntB,plB,rootB,paB,siB,ptB,sqB⟩,apB,c1B,aqB,c2B,arB,c3B⟩:=y
  have HSM:Hid (sameR ⟨hol,vlt,str,ix,sz,day,ser,cnt,pl,root,pa,si,pt,sq⟩ ⟨holB,vltB,strB,ixB,szB,dayB,serB,cntB,plB,rootB,paB,siB,ptB,sqB⟩=true):=hid (sameR_iff.2 HE1.o)
  simp only [RcV.cells] at hc1 hc2
  have g1:=HO1.o
  have g2:=HO2.o
  have g3:=HMX.o
  obtain ⟨k1,k2,k3,s1,s2,s3⟩:=g1
  obtain ⟨k1B,k2B,k3B,s1B,s2B,s3B⟩:=g2
  simp only at k1 k2 k3 s1 s2 s3 k1B k2B k3B s1B s2B s3B g3
  obtain ⟨n1,h1⟩:=ex_eq pa.length
  obtain ⟨n2,h2⟩:=ex_eq pt.length
  obtain ⟨n3,h3⟩:=ex_eq sq.length
  obtain ⟨n1B,h1B⟩:=ex_eq paB.length
  obtain ⟨n2B,h2B⟩:=ex_eq ptB.length
  obtain ⟨n3B,h3B⟩:=ex_eq sqB.length
  rw [h1] at hc1 k1 g3
  rw [h2] at hc1 k2 g3
  rw [h3] at hc1 k3 g3
  rw [h1B] at hc2 k1B
  rw [h2B] at hc2 k2B
  rw [h3B] at hc2 k3B
  have HSC:Hid (∀V,Below wr.heap.size wr V→Calls Tryz.prog 27 #[.agg #[.int .i64 hol,.int .i64 vlt,.string str,.int .i64 ix,.int .i64 sz,.int .i64 day,.int .i64 ser,.int .i64 cnt,.int .i64 pl,.string root,.slice ap n1 c1,.int .i64 si,.slice aq n2 c2,.slice ar n3 c3],.agg #[.int .i64 holB,.int .i64 vltB,.string strB,.int .i64 ixB,.int .i64 szB,.int .i64 dayB,.int .i64 serB,.int .i64 cntB,.int .i64 plB,.string rootB,.slice apB n1B c1B,.int .i64 siB,.slice aqB n2B c2B,.slice arB n3B c3B]] V fun e w'=>e= .returned (.bool true)∧Below V.heap.size V w'):=hid (fun V h=>by
   have h0:=refSame43_any hol vlt str ix sz day ser cnt pl root ap n1 c1 si aq n2 c2 ar n3 c3 pa pt sq holB vltB strB ixB szB dayB serB cntB plB rootB apB n1B c1B siB aqB n2B c2B arB n3B c3B paB ptB sqB V h1 k1 (s1.later h) h2 k2 (s2.later h) h3 k3 (s3.later h) h1B k1B (s1B.later h) h2B k2B (s2B.later h) h3B k3B (s3B.later h) g3.1 g3.2.1 g3.2.2
   rw [HSM.o] at h0
   exact h0)
  have HSS:Hid (∀V,Below wr.heap.size wr V→V.cell? ⟨b1,o1+k*14,none⟩=some (.int .i64 hol)∧V.cell? ⟨b1,o1+k*14+1,none⟩=some (.int .i64 vlt)∧V.cell? ⟨b1,o1+k*14+2,none⟩=some (.string str)∧V.cell? ⟨b1,o1+k*14+3,none⟩=some (.int .i64 ix)∧V.cell? ⟨b1,o1+k*14+4,none⟩=some (.int .i64 sz)∧V.cell? ⟨b1,o1+k*14+5,none⟩=some (.int .i64 day)∧V.cell? ⟨b1,o1+k*14+6,none⟩=some (.int .i64 ser)∧V.cell? ⟨b1,o1+k*14+7,none⟩=some (.int .i64 cnt)∧V.cell? ⟨b1,o1+k*14+8,none⟩=some (.int .i64 pl)∧V.cell? ⟨b1,o1+k*14+9,none⟩=some (.string root)∧V.cell? ⟨b1,o1+k*14+10,none⟩=some (.slice ap n1 c1)∧V.cell? ⟨b1,o1+k*14+11,none⟩=some (.int .i64 si)∧V.cell? ⟨b1,o1+k*14+12,none⟩=some (.slice aq n2 c2)∧V.cell? ⟨b1,o1+k*14+13,none⟩=some (.slice ar n3 c3)∧V.cell? ⟨b2,o2+k*14,none⟩=some (.int .i64 holB)∧V.cell? ⟨b2,o2+k*14+1,none⟩=some (.int .i64 vltB)∧V.cell? ⟨b2,o2+k*14+2,none⟩=some (.string strB)∧V.cell? ⟨b2,o2+k*14+3,none⟩=some (.int .i64 ixB)∧V.cell? ⟨b2,o2+k*14+4,none⟩=some (.int .i64 szB)∧V.cell? ⟨b2,o2+k*14+5,none⟩=some (.int .i64 dayB)∧V.cell? ⟨b2,o2+k*14+6,none⟩=some (.int .i64 serB)∧V.cell? ⟨b2,o2+k*14+7,none⟩=some (.int .i64 cntB)∧V.cell? ⟨b2,o2+k*14+8,none⟩=some (.int .i64 plB)∧V.cell? ⟨b2,o2+k*14+9,none⟩=some (.string rootB)∧V.cell? ⟨b2,o2+k*14+10,none⟩=some (.slice apB n1B c1B)∧V.cell? ⟨b2,o2+k*14+11,none⟩=some (.int .i64 siB)∧V.cell? ⟨b2,o2+k*14+12,none⟩=some (.slice aqB n2B c2B)∧V.cell? ⟨b2,o2+k*14+13,none⟩=some (.slice arB n3B c3B)):=hid (fun V h=>by
   have f: ∀{ad:Addr} {u:Value},wr.cell? ad=some u→V.cell? ad=some u:=fun hu=>(h.cell (World.block_lt_of_cell? _ _ hu)).trans hu
   exact ⟨f (hc1 0 (by decide)),f (hc1 1 (by decide)),f (hc1 2 (by decide)),f (hc1 3 (by decide)),f (hc1 4 (by decide)),f (hc1 5 (by decide)),f (hc1 6 (by decide)),f (hc1 7 (by decide)),f (hc1 8 (by decide)),f (hc1 9 (by decide)),f (hc1 10 (by decide)),f (hc1 11 (by decide)),f (hc1 12 (by decide)),f (hc1 13 (by decide)),f (hc2 0 (by decide)),f (hc2 1 (by decide)),f (hc2 2 (by decide)),f (hc2 3 (by decide)),f (hc2 4 (by decide)),f (hc2 5 (by decide)),f (hc2 6 (by decide)),f (hc2 7 (by decide)),f (hc2 8 (by decide)),f (hc2 9 (by decide)),f (hc2 10 (by decide)),f (hc2 11 (by decide)),f (hc2 12 (by decide)),f (hc2 13 (by decide))⟩)
  clear hc1 hc2 k1 k2 k3 s1 s2 s3 k1B k2B k3B s1B s2B s3B g3 h1 h2 h3 h1B h2B h3B
  go_upto_region 6 with fail
  have HD:Hid (Below wr.heap.size wr wr.drew):=hid (Below.refl _ _).drew
  obtain ⟨VD,hVD⟩:=ex_eq wr.drew
  rw [hVD] at HD
  refine Kit.wp_region_gplan (fun V=>V.cell? ⟨b1,o1+k*14,none⟩=some (.int .i64 hol)∧V.cell? ⟨b1,o1+k*14+1,none⟩=some (.int .i64 vlt)∧V.cell? ⟨b1,o1+k*14+2,none⟩=some (.string str)∧V.cell? ⟨b1,o1+k*14+3,none⟩=some (.int .i64 ix)∧V.cell? ⟨b1,o1+k*14+4,none⟩=some (.int .i64 sz)∧V.cell? ⟨b1,o1+k*14+5,none⟩=some (.int .i64 day)∧V.cell? ⟨b1,o1+k*14+6,none⟩=some (.int .i64 ser)∧V.cell? ⟨b1,o1+k*14+7,none⟩=some (.int .i64 cnt)∧V.cell? ⟨b1,o1+k*14+8,none⟩=some (.int .i64 pl)∧V.cell? ⟨b1,o1+k*14+9,none⟩=some (.string root)∧V.cell? ⟨b1,o1+k*14+10,none⟩=some (.slice ap n1 c1)∧V.cell? ⟨b1,o1+k*14+11,none⟩=some (.int .i64 si)∧V.cell? ⟨b1,o1+k*14+12,none⟩=some (.slice aq n2 c2)∧V.cell? ⟨b1,o1+k*14+13,none⟩=some (.slice ar n3 c3)∧V.cell? ⟨b2,o2+k*14,none⟩=some (.int .i64 holB)∧V.cell? ⟨b2,o2+k*14+1,none⟩=some (.int .i64 vltB)∧V.cell? ⟨b2,o2+k*14+2,none⟩=some (.string strB)∧V.cell? ⟨b2,o2+k*14+3,none⟩=some (.int .i64 ixB)∧V.cell? ⟨b2,o2+k*14+4,none⟩=some (.int .i64 szB)∧V.cell? ⟨b2,o2+k*14+5,none⟩=some (.int .i64 dayB)∧V.cell? ⟨b2,o2+k*14+6,none⟩=some (.int .i64 serB)∧V.cell? ⟨b2,o2+k*14+7,none⟩=some (.int .i64 cntB)∧V.cell? ⟨b2,o2+k*14+8,none⟩=some (.int .i64 plB)∧V.cell? ⟨b2,o2+k*14+9,none⟩=some (.string rootB)∧V.cell? ⟨b2,o2+k*14+10,none⟩=some (.slice apB n1B c1B)∧V.cell? ⟨b2,o2+k*14+11,none⟩=some (.int .i64 siB)∧V.cell? ⟨b2,o2+k*14+12,none⟩=some (.slice aqB n2B c2B)∧V.cell? ⟨b2,o2+k*14+13,none⟩=some (.slice arB n3B c3B)) [(true,0),(true,1),(true,2),(true,3),(true,4),(true,5),(true,6),(true,7),(false,8),(true,9)] (by kernel_rfl) (by kernel_rfl) (by kernel_rfl) (by kernel_rfl) (by rw [hVD];exact HSS.o _ HD.o) ?_
  rw [hVD]
  clear hVD
  iterate 8 (refine Kit.ghd (h:= ?_))
  refine Kit.gplan_op (by rfl) (by rfl) fun K hK=> ?_
  go_simp
  go_at_call 27
  with_reducible refine (HSC.o _ HD.o).mono ?_
  rintro e w2 ⟨rfl,h2⟩
  have H2:Hid (Below wr.heap.size wr w2):=hid (HD.o.trans (h2.mono HD.o.size))
  clear h2
  refine hK _ _ (HSS.o _ H2.o) ?_
  clear hK K
  iterate 1 (refine Kit.ghd (h:= ?_))
  refine Kit.gdn (h:=?_)
  go_wp2_with fail
  go_roundw
  case rel=>exact ⟨k+1,hlt,by go_num,hid (HBE.o.trans (H2.o.mono HBE.o.size))⟩
  case measure=>simp [intOf];omega
def keyC (c:Nat):List Nat:=c::[49,50,51,52,53,54,55,56,57,97,98,99,100,101,102,48,49,50,51,52,53,54,55,56,57,97,98,99,100,101,102]
theorem key43_any (c:Nat) (hc:c<256) (w:World):Calls Tryz.prog 73 #[.int .u8 (c:Int)] w fun e w'=> ∃u:ByteArray,e= .returned (.string u)∧nb u=keyC c∧u.size=32∧Below w.heap.size w w':=by
 obtain ⟨cb,hcb⟩:=ex_eq (strB [c])
 have hcv:=conv_new w [c] (by simpa using hc) 1 rfl (by decide) #[.int .u8 (c:Int)] rfl cb hcb
 have HCB:=hid hcb
 have HB1:Hid (Below w.heap.size w (w.alloc (.cells #[.int .u8 (c:Int)] 5))):=hid ((Below.refl _ _).alloc (Nat.le_refl _) _)
 clear hcb
 go_enter Tryz.func73,Tryz.ntmps73
 have hsz:ByteArray.size (cb++{ data:= #[49,50,51,52,53,54,55,56,57,97,98,99,100,101,102,48,49,50,51,52,53,54,55,56,57,97,98,99,100,101,102] })=32:=by
  rw [ByteArray.size_append,← HCB.o,(strB_one hc).2]
  rfl
 have hnb:nb (cb++{ data:= #[49,50,51,52,53,54,55,56,57,97,98,99,100,101,102,48,49,50,51,52,53,54,55,56,57,97,98,99,100,101,102] })=keyC c:=by
  rw [nb_app,← HCB.o,(strB_one hc).1]
  rfl
 have HSZ:=hid hsz
 have HNB:=hid hnb
 have hlt: ¬9223372036854775807<cb.size+31:=by rw [← HCB.o,(strB_one hc).2];decide
 clear hsz hnb
 go_wp2_with fail
 go_ret
 exact ⟨_,rfl,HNB.o,HSZ.o,HB1.o⟩
theorem scheme43_any (w:World):Calls Tryz.prog 72 #[] w fun e w'=>e= .returned (.agg #[.int .i64 4,.int .i64 0])∧Below w.heap.size w w':=by
 go_enter Tryz.func72,Tryz.ntmps72
 go_wp2_with fail
 refine bodyPost_ret (results_cell_row (p:=0) rfl _ _ w.heap.size 23 #[.int .i64 4,.int .i64 0] (0,0) _ (by rfl) (heap_alloc_new _ _) Tryz.underlying23 rfl (by kernel_rfl)) rfl ?_
 exact ⟨rfl,(Below.refl _ _).alloc (Nat.le_refl _) _⟩
end Go.Proofs.YtndlihclgdkpaaaGreatDoor

/- Book.Add, where it adds nothing. -/
import Derived.Test.YtndlihclgdkpaaaGreatDoorGg
import Derived.Test.YtndlihclgdkpaaaGreatDoorGm
set_option linter.unusedVariables false
set_option linter.unusedSimpArgs false
open Go.Lib (hid)
set_option maxHeartbeats 4000000
set_option maxRecDepth 100000
namespace Go.Proofs.YtndlihclgdkpaaaGreatDoor
open Go.RowKit
open Go.Maps
open Kit (Chg)
open Sha (v)
open Go.Proofs.YtndlihclgdkpaaaGreatDoor.One

theorem eq_signed (h v z d e:Int) (s:ByteArray) (i:Int) (h' v' z' d' e':Int) (s':ByteArray) (i':Int) (w:World):(binOp .eql 193 (.agg #[.int .i64 h,.int .i64 v,.int .i64 z,.int .i64 d,.int .i64 e,.string s,.int .i64 i]) (.agg #[.int .i64 h',.int .i64 v',.int .i64 z',.int .i64 d',.int .i64 e',.string s',.int .i64 i'])).run Tryz.prog w= .ok (.bool (decide ((⟨h,v,z,d,e,s,i⟩:Sg)=⟨h',v',z',d',e',s',i'⟩))) w:=by
 have u3:= Tryz.underlying3
 have a3:= Tryz.isAgg3
 have z3:= Tryz.sizeOf3
 have u9:= Tryz.underlying9
 have a9:= Tryz.isAgg9
 have z9:= Tryz.sizeOf9
 have hq: Tryz.prog.underlying 42 =some (.struct (Tryz.prog.fieldsOf 42)):=by kernel_rfl
 have hqp: Tryz.prog.stoodInHeld 42 =false:=by kernel_rfl
 have aq:= Tryz.isAgg42
 have zq:= Tryz.sizeOf42
 have hS: Tryz.prog.underlying 193 =some (.struct (Tryz.prog.fieldsOf 193)):=by kernel_rfl
 have hp: Tryz.prog.stoodInHeld 193 =false:=by kernel_rfl
 have hpc:=fun s t i j w=> Tryz.eqIn_piece 9997 s t i j w
 rw [run_eql_struct,show (10000:Nat)=9997+1+1+1 from rfl,run_equalIn_agg w (9997+1+1) 193 _ _ hS hp]
 simp only [Program.fieldsOf,Tryz.underlying193]
 go_simp
 (try simp only [Sg.mk.injEq])
 by_cases h1:h=h'<;> by_cases h2:v=v'<;> by_cases h3:z=z'<;> by_cases h4:d=d'<;> by_cases h5:e=e'<;> by_cases h6:s=s'<;> by_cases h7:i=i'<;> simp [h1,h2,h3,h4,h5,h6,h7,tol_iff]
theorem BookR.mono {w:World} {O:Nat→Prop} {bk b1 b2:Nat} {R:Pc→Option BRow} {m:List Rc} {c c':Nat} (h:BookR w O bk b1 b2 R m c) (hc:c≤c'):BookR w O bk b1 b2 R m c':=
 ⟨h.good,Nat.le_trans h.len hc,h.cell,h.m1.mono hc,h.m2.mono hc,h.ne12,h.row,h.no,h.ok,h.apart,h.o0,h.o1,h.o2,h.og,h.lt⟩
theorem BookAt.mono {w:World} {O:Nat→Prop} {bk:Nat} {m:List Rc} {c c':Nat} (h:BookAt w O bk m c) (hc:c≤c'):BookAt w O bk m c':=by
 obtain ⟨b1,b2,R,h⟩:=h
 exact ⟨b1,b2,R,h.mono hc⟩
theorem BookR.find {w:World} {O:Nat→Prop} {bk b1 b2:Nat} {R:Pc→Option BRow} {m:List Rc} {c:Nat} (h:BookR w O bk b1 b2 R m c) {a s:Int} (ha:(Lit.int .i64 a).wf=true) (hs:(Lit.int .i64 s).wf=true):(Instr.lookup 196 (.map (some b2)) (.agg #[.int .i64 a,.int .i64 s]) true).run Tryz.prog w= .ok (.tuple #[((findN m a s).map sgV).getD sgZ,.bool ((findN m a s).map sgV).isSome]) w:=by
 obtain ⟨l,hl⟩:=numberKey ha hs
 exact h.m2.look numberKeyed Tryz.underlying196 (sgZero w) hl
theorem add_bad (bk:Nat) (hol vlt:Int) (str:ByteArray) (ix sz day ser cnt pl:Int) (root:ByteArray) (ap:Option Addr) (n1 c1:Nat) (si:Int) (aq:Option Addr) (n2 c2:Nat) (ar:Option Addr) (n3 c3:Nat) (pa pt sq:List ByteArray) (w:World) (h1:pa.length=n1) (k1:n1<9223372036854775808) (s1:StrsAt w ap pa) (h2:pt.length=n2) (k2:n2<9223372036854775808) (s2:StrsAt w aq pt) (h3:sq.length=n3) (k3:n3<9223372036854775808) (s3:StrsAt w ar sq) (hv:validR ⟨hol,vlt,str,ix,sz,day,ser,cnt,pl,root,pa,si,pt,sq⟩=false):Calls Tryz.prog 42 #[.pointer (some ⟨bk,0,none⟩),.agg #[.int .i64 hol,.int .i64 vlt,.string str,.int .i64 ix,.int .i64 sz,.int .i64 day,.int .i64 ser,.int .i64 cnt,.int .i64 pl,.string root,.slice ap n1 c1,.int .i64 si,.slice aq n2 c2,.slice ar n3 c3]] w fun e w'=>e= .returned (.int .i64 1)∧Below w.heap.size w w':=by
 have HV:Hid (∀V,Below w.heap.size w V→Calls Tryz.prog 101 #[.agg #[.int .i64 hol,.int .i64 vlt,.string str,.int .i64 ix,.int .i64 sz,.int .i64 day,.int .i64 ser,.int .i64 cnt,.int .i64 pl,.string root,.slice ap n1 c1,.int .i64 si,.slice aq n2 c2,.slice ar n3 c3]] V fun e w'=>e= .returned (.bool false)∧Below V.heap.size V w'):=hid (fun V h=>by
  have h0:=validR_any hol vlt str ix sz day ser cnt pl root ap n1 c1 si aq n2 c2 ar n3 c3 pa pt sq V h1 k1 (s1.later h) h2 k2 (s2.later h) h3 k3 (s3.later h)
  rw [hv] at h0
  exact h0)
 clear hv h1 h2 h3 k1 k2 k3 s1 s2 s3
 go_enter Tryz.func42,Tryz.ntmps42
 go_upto_region 1 with fail
 refine wp_over (fun W=>Hid (W.heap[w.heap.size]? =some (.cells #[.int .i64 hol,.int .i64 vlt,.string str,.int .i64 ix,.int .i64 sz,.int .i64 day,.int .i64 ser,.int .i64 cnt,.int .i64 pl,.string root,.slice ap n1 c1,.int .i64 si,.slice aq n2 c2,.slice ar n3 c3] 47 (0,0)))∧Hid (Below w.heap.size w W)∧Hid (W.heap.size=w.heap.size+1)) ⟨heap_alloc_new _ _,(Below.refl _ _).alloc (Nat.le_refl _) _,by show _=_;simp⟩ ?_
 rintro W ⟨HG,HB,HW⟩
 obtain ⟨N,hN⟩:=ex_eq w.heap.size
 rw [hN] at HG HB HW ⊢
 have HN:=hid hN
 clear hN
 have HBW:Hid (∀V,Below N w V→Below w.heap.size w V):=hid (fun V h=>by rw [HN.o];exact h)
 obtain ⟨q0,q1,q2,q3,q4,q5,q6,q7,q8,q9,q10,q11,q12,q13⟩:=row14 HG.o
 go_wp2_with (first
     | (go_at_call 101
        (with_reducible refine (HV.o _ (HBW.o _ HB.o)).mono ?_)
        rintro e w2 ⟨rfl,h2⟩
        have H2:Hid (Below (N+1) W w2):=hid (h2.mono (by have:=HW.o;omega))
        clear h2 q0 q1 q2 q3 q4 q5 q6 q7 q8 q9 q10 q11 q12 q13))
 go_ret
 exact ⟨rfl,HBW.o _ (HB.o.trans (H2.o.mono (by omega)))⟩
theorem add_found (O:Nat→Prop) (bk b1 b2:Nat) (R:Pc→Option BRow) (m:List Rc) (c:Nat) (hol vlt:Int) (str:ByteArray) (ix sz day ser cnt pl:Int) (root:ByteArray) (ap:Option Addr) (n1 c1:Nat) (si:Int) (aq:Option Addr) (n2 c2:Nat) (ar:Option Addr) (n3 c3:Nat) (pa pt sq:List ByteArray) (holB vltB szB dayB serB:Int) (strB:ByteArray) (ixB:Int) (w:World) (h1:pa.length=n1) (k1:n1<9223372036854775808) (s1:StrsAt w ap pa) (h2:pt.length=n2) (k2:n2<9223372036854775808) (s2:StrsAt w aq pt) (h3:sq.length=n3) (k3:n3<9223372036854775808) (s3:StrsAt w ar sq) (hv:validR ⟨hol,vlt,str,ix,sz,day,ser,cnt,pl,root,pa,si,pt,sq⟩=true) (y:Rc) (hy:y.sg=⟨holB,vltB,szB,dayB,serB,strB,ixB⟩) (hf:findN m hol ser=some y) (hB:BookR w O bk b1 b2 R m c):Calls Tryz.prog 42 #[.pointer (some ⟨bk,0,none⟩),.agg #[.int .i64 hol,.int .i64 vlt,.string str,.int .i64 ix,.int .i64 sz,.int .i64 day,.int .i64 ser,.int .i64 cnt,.int .i64 pl,.string root,.slice ap n1 c1,.int .i64 si,.slice aq n2 c2,.slice ar n3 c3]] w fun e w'=>e= .returned (.int .i64 (if decide ((⟨holB,vltB,szB,dayB,serB,strB,ixB⟩:Sg)=⟨hol,vlt,sz,day,ser,str,ix⟩)=true then 5 else 13))∧Below w.heap.size w w':=by
 have HV:Hid (∀V,Below w.heap.size w V→Calls Tryz.prog 101 #[.agg #[.int .i64 hol,.int .i64 vlt,.string str,.int .i64 ix,.int .i64 sz,.int .i64 day,.int .i64 ser,.int .i64 cnt,.int .i64 pl,.string root,.slice ap n1 c1,.int .i64 si,.slice aq n2 c2,.slice ar n3 c3]] V fun e w'=>e= .returned (.bool true)∧Below V.heap.size V w'):=hid (fun V h=>by
  have h0:=validR_any hol vlt str ix sz day ser cnt pl root ap n1 c1 si aq n2 c2 ar n3 c3 pa pt sq V h1 k1 (s1.later h) h2 k2 (s2.later h) h3 k3 (s3.later h)
  rw [hv] at h0
  exact h0)
 have HBK:=hid hB
 have HVR:Hid (ValidR ⟨hol,vlt,str,ix,sz,day,ser,cnt,pl,root,pa,si,pt,sq⟩):=hid (validR_iff.1 hv)
 have HWF:Hid ((Lit.int .i64 hol).wf=true∧(Lit.int .i64 ser).wf=true):=hid ⟨wf64 (by have:=HVR.o.h0;simp only at this;omega) (by have:=HVR.o.h1;simp only at this;omega),wf64 (by have:=HVR.o.s0;simp only at this;omega) (by have:=HVR.o.s1;simp only at this;omega)⟩
 have HFS:Hid (((findN m hol ser).map sgV).getD sgZ= .agg #[.int .i64 holB,.int .i64 vltB,.int .i64 szB,.int .i64 dayB,.int .i64 serB,.string strB,.int .i64 ixB]∧((findN m hol ser).map sgV).isSome=true):=hid (by
  rw [hf]
  obtain ⟨a1,a2,a3,a4,a5,a6,a7,a8,a9,a10,a11,a12,a13,a14⟩:=y
  simp only [Rc.sg,Sg.mk.injEq] at hy
  obtain ⟨rfl,rfl,rfl,rfl,rfl,rfl,rfl⟩:=hy
  exact ⟨rfl,rfl⟩)
 have HSG:=hid (fun w=>signedOf_any hol vlt str ix sz day ser cnt pl root ap n1 c1 si aq n2 c2 ar n3 c3 pa pt sq w)
 obtain ⟨D,hD⟩:=ex_eq (decide ((⟨holB,vltB,szB,dayB,serB,strB,ixB⟩:Sg)=⟨hol,vlt,sz,day,ser,str,ix⟩))
 have heq:=fun w=>eq_signed holB vltB szB dayB serB strB ixB hol vlt sz day ser str ix w
 rw [hD] at heq ⊢
 clear hv hy hf hB hD h1 h2 h3 k1 k2 k3 s1 s2 s3
 go_enter Tryz.func42,Tryz.ntmps42
 go_upto_region 1 with fail
 refine wp_over (fun W=>Hid (W.heap[w.heap.size]? =some (.cells #[.int .i64 hol,.int .i64 vlt,.string str,.int .i64 ix,.int .i64 sz,.int .i64 day,.int .i64 ser,.int .i64 cnt,.int .i64 pl,.string root,.slice ap n1 c1,.int .i64 si,.slice aq n2 c2,.slice ar n3 c3] 47 (0,0)))∧Hid (Below w.heap.size w W)∧Hid (W.heap.size=w.heap.size+1)) ⟨heap_alloc_new _ _,(Below.refl _ _).alloc (Nat.le_refl _) _,by show _=_;simp⟩ ?_
 rintro W ⟨HG,HB,HW⟩
 obtain ⟨N,hN⟩:=ex_eq w.heap.size
 rw [hN] at HG HB HW ⊢
 have HN:=hid hN
 clear hN
 have HBW:Hid (∀V,Below N w V→Below w.heap.size w V):=hid (fun V h=>by rw [HN.o];exact h)
 obtain ⟨q0,q1,q2,q3,q4,q5,q6,q7,q8,q9,q10,q11,q12,q13⟩:=row14 HG.o
 go_upto_region 4 with (first
     | (go_at_call 101
        (with_reducible refine (HV.o _ (HBW.o _ HB.o)).mono ?_)
        rintro e w2 ⟨rfl,h2⟩
        have H2:Hid (Below (N+1) W w2):=hid (h2.mono (by have:=HW.o;omega))
        clear h2 q0 q1 q2 q3 q4 q5 q6 q7 q8 q9 q10 q11 q12 q13
        have HR2:=hid ((H2.o.block N (by omega)).trans HG.o)
        obtain ⟨q0,q1,q2,q3,q4,q5,q6,q7,q8,q9,q10,q11,q12,q13⟩:=row14 HR2.o))
 clear q0 q1 q2 q3 q4 q5 q6 q7 q8 q9 q10 q11 q12 q13
 refine wp_over (fun X=>Hid (X.heap[w2.heap.size]? =some (.cells #[.int .i64 hol,.int .i64 ser] 200 (0,0)))∧Hid (Below w2.heap.size w2 X)∧Hid (X.heap.size=w2.heap.size+1)) ⟨heap_alloc_new _ _,(Below.refl _ _).alloc (Nat.le_refl _) _,by show _=_;simp⟩ ?_
 rintro X ⟨HXG,HXB,HXZ⟩
 obtain ⟨N1,hN1⟩:=ex_eq w2.heap.size
 rw [hN1] at HXG HXB HXZ ⊢
 have HN1:Hid (N+1≤N1):=hid (by have:=H2.o.size;have:=HW.o;omega)
 clear hN1
 have HX:Hid (Below (N+1) W X):=hid (H2.o.trans (HXB.o.mono HN1.o))
 have HWX:Hid (Below w.heap.size w X):=hid (HBW.o _ (HB.o.trans (HX.o.mono (by omega))))
 have HSB:Hid (∀V,Below (N1+1) X V→(V.cell? ⟨bk,0,none⟩=some (.map (some b1))∧V.cell? ⟨bk,1,none⟩=some (.map (some b2)))∧(V.cell? ⟨N,0,none⟩=some (.int .i64 hol)∧V.cell? ⟨N,1,none⟩=some (.int .i64 vlt)∧V.cell? ⟨N,2,none⟩=some (.string str)∧V.cell? ⟨N,3,none⟩=some (.int .i64 ix)∧V.cell? ⟨N,4,none⟩=some (.int .i64 sz)∧V.cell? ⟨N,5,none⟩=some (.int .i64 day)∧V.cell? ⟨N,6,none⟩=some (.int .i64 ser)∧V.cell? ⟨N,7,none⟩=some (.int .i64 cnt)∧V.cell? ⟨N,8,none⟩=some (.int .i64 pl)∧V.cell? ⟨N,9,none⟩=some (.string root)∧V.cell? ⟨N,10,none⟩=some (.slice ap n1 c1)∧V.cell? ⟨N,11,none⟩=some (.int .i64 si)∧V.cell? ⟨N,12,none⟩=some (.slice aq n2 c2)∧V.cell? ⟨N,13,none⟩=some (.slice ar n3 c3))∧(V.cell? ⟨N1,0,none⟩=some (.int .i64 hol)∧V.cell? ⟨N1,1,none⟩=some (.int .i64 ser))∧(Instr.lookup 196 (.map (some b2)) (.agg #[.int .i64 hol,.int .i64 ser]) true).run Tryz.prog V= .ok (.tuple #[.agg #[.int .i64 holB,.int .i64 vltB,.int .i64 szB,.int .i64 dayB,.int .i64 serB,.string strB,.int .i64 ixB],.bool true]) V):=hid (fun V h=>by
  have hb:=HBK.o.later (HWX.o.trans (h.mono (by have:=HN.o;have:=HN1.o;omega)))
  have hl:=hb.find HWF.o.1 HWF.o.2
  rw [HFS.o.1,HFS.o.2] at hl
  have hg:=(h.block N (by have:=HN1.o;omega)).trans ((HX.o.block N (by omega)).trans HG.o)
  have hg1:=(h.block N1 (by omega)).trans HXG.o
  exact ⟨hb.cells,row14 hg,⟨cr hg1,cr hg1⟩,hl⟩)
 have HDR:Hid (Below (N1+1) X X.drew):=hid (Below.refl _ _).drew
 have HDZ:Hid (X.drew.heap.size=N1+1):=hid HXZ.o
 obtain ⟨VD,hVD⟩:=ex_eq X.drew
 rw [hVD] at HDR HDZ
 refine Kit.wp_region_gplan (fun V=>(V.cell? ⟨bk,0,none⟩=some (.map (some b1))∧V.cell? ⟨bk,1,none⟩=some (.map (some b2)))∧(V.cell? ⟨N,0,none⟩=some (.int .i64 hol)∧V.cell? ⟨N,1,none⟩=some (.int .i64 vlt)∧V.cell? ⟨N,2,none⟩=some (.string str)∧V.cell? ⟨N,3,none⟩=some (.int .i64 ix)∧V.cell? ⟨N,4,none⟩=some (.int .i64 sz)∧V.cell? ⟨N,5,none⟩=some (.int .i64 day)∧V.cell? ⟨N,6,none⟩=some (.int .i64 ser)∧V.cell? ⟨N,7,none⟩=some (.int .i64 cnt)∧V.cell? ⟨N,8,none⟩=some (.int .i64 pl)∧V.cell? ⟨N,9,none⟩=some (.string root)∧V.cell? ⟨N,10,none⟩=some (.slice ap n1 c1)∧V.cell? ⟨N,11,none⟩=some (.int .i64 si)∧V.cell? ⟨N,12,none⟩=some (.slice aq n2 c2)∧V.cell? ⟨N,13,none⟩=some (.slice ar n3 c3))∧(V.cell? ⟨N1,0,none⟩=some (.int .i64 hol)∧V.cell? ⟨N1,1,none⟩=some (.int .i64 ser))∧(Instr.lookup 196 (.map (some b2)) (.agg #[.int .i64 hol,.int .i64 ser]) true).run Tryz.prog V= .ok (.tuple #[.agg #[.int .i64 holB,.int .i64 vltB,.int .i64 szB,.int .i64 dayB,.int .i64 serB,.string strB,.int .i64 ixB],.bool true]) V) [(true,0),(true,1),(true,2),(true,3),(true,4),(true,5),(true,6),(true,7),(true,8),(false,9),(false,10),(true,11)] (by kernel_rfl) (by kernel_rfl) (by kernel_rfl) (by kernel_rfl) (by rw [hVD];exact HSB.o _ HDR.o) ?_
 rw [hVD]
 clear hVD
 iterate 9 (refine Kit.ghd (h:= ?_))
 refine Kit.gplan_op (by rfl) (by rfl) fun K hK=> ?_
 go_simp
 refine hK _ _ (HSB.o _ (HDR.o.alloc (by have:=HDZ.o;omega) _)) ?_
 clear hK K
 have HAG:Hid ((VD.alloc (.cells #[.int .i64 0,.int .i64 0,.int .i64 0,.int .i64 0,.int .i64 0,.string ⟨#[]⟩,.int .i64 0] 193)).heap[VD.heap.size]? =some (.cells #[.int .i64 0,.int .i64 0,.int .i64 0,.int .i64 0,.int .i64 0,.string ⟨#[]⟩,.int .i64 0] 193 (0,0))):=hid (heap_alloc_new _ _)
 have HAB:Hid (Below (N1+1) X (VD.alloc (.cells #[.int .i64 0,.int .i64 0,.int .i64 0,.int .i64 0,.int .i64 0,.string ⟨#[]⟩,.int .i64 0] 193))):=hid (HDR.o.alloc (by have:=HDZ.o;omega) _)
 obtain ⟨N2,hN2⟩:=ex_eq VD.heap.size
 have HN2:Hid (N1+1=N2):=hid (by have:=HDZ.o;omega)
 rw [hN2] at HAG ⊢
 clear hN2
 obtain ⟨VA,hVA⟩:=ex_eq (VD.alloc (.cells #[.int .i64 0,.int .i64 0,.int .i64 0,.int .i64 0,.int .i64 0,.string ⟨#[]⟩,.int .i64 0] 193))
 rw [hVA] at HAG HAB ⊢
 clear hVA
 obtain ⟨z0,z1,z2,z3,z4,z5,z6⟩:=row7 HAG.o
 have fz: ∀i,VA.frozen? ⟨N2,i,none⟩=false:=fun i=>frozen_of_row _ _ _ _ _ HAG.o
 refine Kit.gplan_op (by rfl) (by rfl) fun K hK=> ?_
 go_simp
 refine hK _ _ (HSB.o _ (putL_below (by have:=HN2.o;omega) [.int .i64 holB,.int .i64 vltB,.int .i64 szB,.int .i64 dayB,.int .i64 serB,.string strB,.int .i64 ixB] 0 VA HAB.o)) ?_
 clear hK K z0 z1 z2 z3 z4 z5 z6 fz
 iterate 1 (refine Kit.ghd (h:= ?_))
 refine Kit.gdn (h:=?_)
 have HPG:Hid ((putL N2 0 [.int .i64 holB,.int .i64 vltB,.int .i64 szB,.int .i64 dayB,.int .i64 serB,.string strB,.int .i64 ixB] VA).heap[N2]? =some (.cells #[.int .i64 holB,.int .i64 vltB,.int .i64 szB,.int .i64 dayB,.int .i64 serB,.string strB,.int .i64 ixB] 193 (0,0))):=hid (putL_full (cur:=[.int .i64 0,.int .i64 0,.int .i64 0,.int .i64 0,.int .i64 0,.string ⟨#[]⟩,.int .i64 0]) (vs:=[.int .i64 holB,.int .i64 vltB,.int .i64 szB,.int .i64 dayB,.int .i64 serB,.string strB,.int .i64 ixB]) HAG.o rfl)
 have HPB:Hid (Below (N1+1) X (putL N2 0 [.int .i64 holB,.int .i64 vltB,.int .i64 szB,.int .i64 dayB,.int .i64 serB,.string strB,.int .i64 ixB] VA)):=hid (putL_below (by have:=HN2.o;omega) [.int .i64 holB,.int .i64 vltB,.int .i64 szB,.int .i64 dayB,.int .i64 serB,.string strB,.int .i64 ixB] 0 VA HAB.o)
 have HPS:Hid (N2+1≤(putL N2 0 [.int .i64 holB,.int .i64 vltB,.int .i64 szB,.int .i64 dayB,.int .i64 serB,.string strB,.int .i64 ixB] VA).heap.size):=hid (by have h:=(gS HPG.o).1;omega)
 go_upto_region 6 with fail
 refine wp_over (fun Y=>Hid (Y.heap[N2]? =some (.cells #[.int .i64 holB,.int .i64 vltB,.int .i64 szB,.int .i64 dayB,.int .i64 serB,.string strB,.int .i64 ixB] 193 (0,0)))∧Hid (Below (N1+1) X Y)∧Hid (N2+1≤Y.heap.size)) ⟨HPG,HPB,HPS⟩ ?_
 clear HPG HPB HPS HAG HAB
 rintro Y ⟨HYG,HYB,HYS⟩
 have HS6:Hid (∀V,Below (N2+1) Y V→(V.cell? ⟨N,0,none⟩=some (.int .i64 hol)∧V.cell? ⟨N,1,none⟩=some (.int .i64 vlt)∧V.cell? ⟨N,2,none⟩=some (.string str)∧V.cell? ⟨N,3,none⟩=some (.int .i64 ix)∧V.cell? ⟨N,4,none⟩=some (.int .i64 sz)∧V.cell? ⟨N,5,none⟩=some (.int .i64 day)∧V.cell? ⟨N,6,none⟩=some (.int .i64 ser)∧V.cell? ⟨N,7,none⟩=some (.int .i64 cnt)∧V.cell? ⟨N,8,none⟩=some (.int .i64 pl)∧V.cell? ⟨N,9,none⟩=some (.string root)∧V.cell? ⟨N,10,none⟩=some (.slice ap n1 c1)∧V.cell? ⟨N,11,none⟩=some (.int .i64 si)∧V.cell? ⟨N,12,none⟩=some (.slice aq n2 c2)∧V.cell? ⟨N,13,none⟩=some (.slice ar n3 c3))∧(V.cell? ⟨N2,0,none⟩=some (.int .i64 holB)∧V.cell? ⟨N2,1,none⟩=some (.int .i64 vltB)∧V.cell? ⟨N2,2,none⟩=some (.int .i64 szB)∧V.cell? ⟨N2,3,none⟩=some (.int .i64 dayB)∧V.cell? ⟨N2,4,none⟩=some (.int .i64 serB)∧V.cell? ⟨N2,5,none⟩=some (.string strB)∧V.cell? ⟨N2,6,none⟩=some (.int .i64 ixB))):=hid (fun V h=>by
  have hx:X.heap[N]? =_:=(HX.o.block N (by omega)).trans HG.o
  have hy:=(HYB.o.block N (by have:=HN1.o;omega)).trans hx
  have hg:=(h.block N (by have:=HN1.o;have:=HN2.o;omega)).trans hy
  have hg2:=(h.block N2 (by omega)).trans HYG.o
  exact ⟨row14 hg,row7 hg2⟩)
 have HDR6:Hid (Below (N2+1) Y Y.drew):=hid (Below.refl _ _).drew
 obtain ⟨VE,hVE⟩:=ex_eq Y.drew
 rw [hVE] at HDR6
 have HYZ:Hid (VE.heap.size=Y.heap.size):=hid (by rw [← hVE];rfl)
 refine Kit.wp_region_gplan (fun V=>(V.cell? ⟨N,0,none⟩=some (.int .i64 hol)∧V.cell? ⟨N,1,none⟩=some (.int .i64 vlt)∧V.cell? ⟨N,2,none⟩=some (.string str)∧V.cell? ⟨N,3,none⟩=some (.int .i64 ix)∧V.cell? ⟨N,4,none⟩=some (.int .i64 sz)∧V.cell? ⟨N,5,none⟩=some (.int .i64 day)∧V.cell? ⟨N,6,none⟩=some (.int .i64 ser)∧V.cell? ⟨N,7,none⟩=some (.int .i64 cnt)∧V.cell? ⟨N,8,none⟩=some (.int .i64 pl)∧V.cell? ⟨N,9,none⟩=some (.string root)∧V.cell? ⟨N,10,none⟩=some (.slice ap n1 c1)∧V.cell? ⟨N,11,none⟩=some (.int .i64 si)∧V.cell? ⟨N,12,none⟩=some (.slice aq n2 c2)∧V.cell? ⟨N,13,none⟩=some (.slice ar n3 c3))∧(V.cell? ⟨N2,0,none⟩=some (.int .i64 holB)∧V.cell? ⟨N2,1,none⟩=some (.int .i64 vltB)∧V.cell? ⟨N2,2,none⟩=some (.int .i64 szB)∧V.cell? ⟨N2,3,none⟩=some (.int .i64 dayB)∧V.cell? ⟨N2,4,none⟩=some (.int .i64 serB)∧V.cell? ⟨N2,5,none⟩=some (.string strB)∧V.cell? ⟨N2,6,none⟩=some (.int .i64 ixB))) [(true,0),(true,1),(false,2),(true,3)] (by kernel_rfl) (by kernel_rfl) (by kernel_rfl) (by kernel_rfl) (by rw [hVE];exact HS6.o _ HDR6.o) ?_
 rw [hVE]
 clear hVE
 iterate 2 (refine Kit.ghd (h:= ?_))
 refine Kit.gplan_op (by rfl) (by rfl) fun K hK=> ?_
 go_simp
 go_at_call 128
 with_reducible refine (HSG.o _).mono ?_
 rintro e w3 ⟨rfl,h3⟩
 have H3:Hid (Below (N2+1) Y w3):=hid (HDR6.o.trans (h3.mono (by have:=HYS.o;have:=HYZ.o;omega)))
 clear h3
 refine hK _ _ (HS6.o _ H3.o) ?_
 clear hK K
 iterate 1 (refine Kit.ghd (h:= ?_))
 refine Kit.gdn (h:=?_)
 have HEND:Hid (Below w.heap.size w w3):=hid (HBW.o _ (HB.o.trans ((HX.o.mono (by omega)).trans ((HYB.o.mono (by have:=HN1.o;omega)).trans (H3.o.mono (by have:=HN1.o;have:=HN2.o;omega))))))
 cases D
 ·go_wp2_with fail
  go_ret
  exact ⟨rfl,HEND.o⟩
 ·go_wp2_with fail
  go_ret
  exact ⟨rfl,HEND.o⟩
end Go.Proofs.YtndlihclgdkpaaaGreatDoor

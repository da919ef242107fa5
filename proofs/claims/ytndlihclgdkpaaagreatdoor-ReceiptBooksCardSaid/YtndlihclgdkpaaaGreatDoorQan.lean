/- Book.Add, where it adds. -/
import Derived.Test.YtndlihclgdkpaaaGreatDoorQae
set_option linter.unusedVariables false
set_option linter.unusedSimpArgs false
open Go.Lib (hid)
namespace Go.Proofs.YtndlihclgdkpaaaGreatDoor
open Go.RowKit
open Go.Maps
open Kit (Chg)
open Sha (v)
open Go.Proofs.YtndlihclgdkpaaaGreatDoor.One

theorem equalIn_mapN {P:Program} (w:World) (d:Nat) (t k e:TypeId) (p:Option Nat) (h:P.underlying t=some (.map k e)):(Op.equalIn (d+1) t (.map p) (.map none)).run P w= .ok p.isNone w:=by
 cases p<;> simp [Op.equalIn,run_underlying h]
theorem eql_mapN {P:Program} (w:World) (t k e:TypeId) (p:Option Nat) (h:P.underlying t=some (.map k e)):(binOp .eql t (.map p) (.map none)).run P w= .ok (.bool p.isNone) w:=by
 simp only [binOp]
 simp [show Op.equal t (.map p) (.map none)=Op.equalIn (9999+1) t (.map p) (.map none) from rfl,equalIn_mapN w 9999 t k e p h]
theorem map_nil (b:Nat) (w:World):(binOp .eql 195 (.map (some b)) (.map none)).run Tryz.prog w= .ok (.bool false) w:=eql_mapN w 195 _ _ (some b) Tryz.underlying195
set_option maxRecDepth 100000 in
set_option maxHeartbeats 4000000 in
theorem add_new (O:Nat→Prop) (bk b1 b2:Nat) (R:Pc→Option BRow) (m:List Rc) (c:Nat) (hc:c≤100000) (hol vlt:Int) (str:ByteArray) (ix sz day ser cnt pl:Int) (root:ByteArray) (ap:Option Addr) (n1 c1:Nat) (si:Int) (aq:Option Addr) (n2 c2:Nat) (ar:Option Addr) (n3 c3:Nat) (pa pt sq:List ByteArray) (w:World) (h1:pa.length=n1) (k1:n1<9223372036854775808) (s1:StrsAt w ap pa) (h2:pt.length=n2) (k2:n2<9223372036854775808) (s2:StrsAt w aq pt) (h3:sq.length=n3) (k3:n3<9223372036854775808) (s3:StrsAt w ar sq) (hv:validR ⟨hol,vlt,str,ix,sz,day,ser,cnt,pl,root,pa,si,pt,sq⟩=true) (hf:findN m hol ser=none) (hB:BookR w O bk b1 b2 R m c):Calls Tryz.prog 42 #[.pointer (some ⟨bk,0,none⟩),.agg #[.int .i64 hol,.int .i64 vlt,.string str,.int .i64 ix,.int .i64 sz,.int .i64 day,.int .i64 ser,.int .i64 cnt,.int .i64 pl,.string root,.slice ap n1 c1,.int .i64 si,.slice aq n2 c2,.slice ar n3 c3]] w fun e w'=>e= .returned (.int .i64 0)∧(∃R',BookR w' (fun q=>O q∨(w.heap.size≤q∧q<w'.heap.size)) bk b1 b2 R' (insB m ⟨hol,vlt,str,ix,sz,day,ser,cnt,pl,root,pa,si,pt,sq⟩) (c+1))∧Chg (fun q _=>O q) w w':=by
 have HV:Hid (∀V,Below w.heap.size w V→Calls Tryz.prog 101 #[.agg #[.int .i64 hol,.int .i64 vlt,.string str,.int .i64 ix,.int .i64 sz,.int .i64 day,.int .i64 ser,.int .i64 cnt,.int .i64 pl,.string root,.slice ap n1 c1,.int .i64 si,.slice aq n2 c2,.slice ar n3 c3]] V fun e w'=>e= .returned (.bool true)∧Below V.heap.size V w'):=hid (fun V h=>by
  have h0:=validR_any hol vlt str ix sz day ser cnt pl root ap n1 c1 si aq n2 c2 ar n3 c3 pa pt sq V h1 k1 (s1.later h) h2 k2 (s2.later h) h3 k3 (s3.later h)
  rw [hv] at h0
  exact h0)
 have HBK:=hid hB
 have HVR:Hid (ValidR ⟨hol,vlt,str,ix,sz,day,ser,cnt,pl,root,pa,si,pt,sq⟩):=hid (validR_iff.1 hv)
 have HWF:Hid ((Lit.int .i64 hol).wf=true∧(Lit.int .i64 ser).wf=true):=hid ⟨wf64 (by have:=HVR.o.h0;simp only at this;omega) (by have:=HVR.o.h1;simp only at this;omega),wf64 (by have:=HVR.o.s0;simp only at this;omega) (by have:=HVR.o.s1;simp only at this;omega)⟩
 have HWP:Hid (str.size≤maxLen∧(Lit.int .i64 ix).wf=true):=hid ⟨by have:=HVR.o.gd.st;unfold maxLen;simp only at this;omega,wf64 (by have:=HVR.o.gd.i0;simp only at this;omega) (by have:=HVR.o.gd.i1;simp only at this;omega)⟩
 have HLN:Hid ((pa.length=n1∧n1≤8)∧(pt.length=n2∧n2≤300)∧sq.length=n3∧n3≤8):=hid ⟨⟨h1,by have:=HVR.o.pn;simp only at this;omega⟩,⟨h2,by have:=HVR.o.an;simp only at this;omega⟩,h3,by have:=HVR.o.qn;simp only at this;omega⟩
 have HFN:=hid hf
 have HFS:Hid (((findN m hol ser).map sgV).getD sgZ= .agg #[.int .i64 0,.int .i64 0,.int .i64 0,.int .i64 0,.int .i64 0,.string ByteArray.empty,.int .i64 0]∧((findN m hol ser).map sgV).isSome=false):=hid (by
  rw [hf]
  exact ⟨rfl,rfl⟩)
 have HSG:=hid (fun w=>signedOf_any hol vlt str ix sz day ser cnt pl root ap n1 c1 si aq n2 c2 ar n3 c3 pa pt sq w)
 have HST:Hid (StrsAt w ap pa∧StrsAt w aq pt∧StrsAt w ar sq):=hid ⟨s1,s2,s3⟩
 -- the list of the piece
 obtain ⟨la,ln,lc,xs,hla,hLR,hlk⟩: ∃(la:Option Addr) (ln lc:Nat) (xs:List RcV),((R ⟨str,ix⟩=none∧la=none∧xs=[])∨ ∃g,R ⟨str,ix⟩=some ⟨g,lc,xs⟩∧la=some ⟨g,0,none⟩)∧LRow w la ln lc xs∧((R ⟨str,ix⟩).map BRow.val).getD (.slice none 0 0)= .slice la ln lc:=by
  cases hR:R ⟨str,ix⟩ with
  | none=>exact ⟨none,0,0,[],.inl ⟨rfl,rfl,rfl⟩,.inl ⟨rfl,rfl,rfl,rfl⟩,rfl⟩
  | some r=>exact ⟨some ⟨r.g,0,none⟩,r.xs.length,r.cap,r.xs,.inr ⟨r.g,rfl,rfl⟩,.inr ⟨r.g,rfl,rfl,(hB.row _ _ hR).1⟩,rfl⟩
 have HLA:=hid hla
 have HLR:=hid hLR
 have HLK:=hid hlk
 have HXF:Hid (xs.map RcV.r=ofB m ⟨str,ix⟩):=hid (by
  rcases hla with ⟨hR,_,e⟩ | ⟨g,hR,_⟩
  ·rw [e,hB.no _ hR];rfl
  ·exact (hB.row _ _ hR).2.1)
 have hln:ln≤100000:=by
  have e1:=congrArg List.length HXF.o
  rw [List.length_map,hLR.len] at e1
  have e2:(ofB m ⟨str,ix⟩).length≤m.length:=List.length_filter_le _ _
  have:=hB.len
  omega
 have HXS:Hid (xs.Pairwise (fun a b=>befR a.r b.r=true)):=hid (by
  have h:=(hB.good.filter (isPc ⟨str,ix⟩)).s
  have e:(ofB m ⟨str,ix⟩)=m.filter (isPc ⟨str,ix⟩):=rfl
  rw [← e,← HXF.o,List.pairwise_map] at h
  exact h)
 obtain ⟨k,hk⟩:=ex_eq (xs.countP (fun y=> !befR ⟨hol,vlt,str,ix,sz,day,ser,cnt,pl,root,pa,si,pt,sq⟩ y.r))
 have HK:=hid hk
 have HKL:Hid (k≤ln):=hid (by rw [← hk,← hLR.len];exact List.countP_le_length)
 clear hv hf hB hla hLR hlk hk h1 h2 h3 k1 k2 k3 s1 s2 s3
 go_enter Tryz.func42,Tryz.ntmps42
 go_upto_region 1 with fail
 refine wp_over (fun W=>Hid (W.heap[w.heap.size]? =some (.cells #[.int .i64 hol,.int .i64 vlt,.string str,.int .i64 ix,.int .i64 sz,.int .i64 day,.int .i64 ser,.int .i64 cnt,.int .i64 pl,.string root,.slice ap n1 c1,.int .i64 si,.slice aq n2 c2,.slice ar n3 c3] 47 (0,0)))∧Hid (Below w.heap.size w W)∧Hid (W.heap.size=w.heap.size+1)) ⟨heap_alloc_new _ _,(Below.refl _ _).alloc (Nat.le_refl _) _,by show _=_;simp⟩ ?_
 rintro W ⟨HG,HB,HW⟩
 obtain ⟨N,hN⟩:=ex_eq w.heap.size
 rw [hN] at HG HB HW ⊢
 have HN:=hid hN
 clear hN
 have HBW:Hid (∀V,Below N w V→Below w.heap.size w V):=hid (fun V h=>by rw [HN.o];exact h)
 obtain ⟨q0,q1,q2,q3,q4,q5,q6,q7,q8,q9,q10,q11,q12,q13⟩:=row14 HG.o
 go_upto_region 4 with (first
     | (go_at_call 101
        (with_reducible refine (HV.o _ (HBW.o _ HB.o)).mono ?_)
        rintro e w2 ⟨rfl,h2⟩
        have H2:Hid (Below (N+1) W w2):=hid (h2.mono (by have:=HW.o;omega))
        clear h2 q0 q1 q2 q3 q4 q5 q6 q7 q8 q9 q10 q11 q12 q13
        have HR2:=hid ((H2.o.block N (by omega)).trans HG.o)
        obtain ⟨q0,q1,q2,q3,q4,q5,q6,q7,q8,q9,q10,q11,q12,q13⟩:=row14 HR2.o))
 clear q0 q1 q2 q3 q4 q5 q6 q7 q8 q9 q10 q11 q12 q13
 refine wp_over (fun X=>Hid (X.heap[w2.heap.size]? =some (.cells #[.int .i64 hol,.int .i64 ser] 200 (0,0)))∧Hid (Below w2.heap.size w2 X)∧Hid (X.heap.size=w2.heap.size+1)) ⟨heap_alloc_new _ _,(Below.refl _ _).alloc (Nat.le_refl _) _,by show _=_;simp⟩ ?_
 rintro X ⟨HXG,HXB,HXZ⟩
 obtain ⟨N1,hN1⟩:=ex_eq w2.heap.size
 rw [hN1] at HXG HXB HXZ ⊢
 have HN1:Hid (N+1≤N1):=hid (by have:=H2.o.size;have:=HW.o;omega)
 clear hN1
 have HX:Hid (Below (N+1) W X):=hid (H2.o.trans (HXB.o.mono HN1.o))
 have HWX:Hid (Below w.heap.size w X):=hid (HBW.o _ (HB.o.trans (HX.o.mono (by omega))))
 have HSB:Hid (∀V,Below (N1+1) X V→(V.cell? ⟨bk,0,none⟩=some (.map (some b1))∧V.cell? ⟨bk,1,none⟩=some (.map (some b2)))∧(V.cell? ⟨N,0,none⟩=some (.int .i64 hol)∧V.cell? ⟨N,1,none⟩=some (.int .i64 vlt)∧V.cell? ⟨N,2,none⟩=some (.string str)∧V.cell? ⟨N,3,none⟩=some (.int .i64 ix)∧V.cell? ⟨N,4,none⟩=some (.int .i64 sz)∧V.cell? ⟨N,5,none⟩=some (.int .i64 day)∧V.cell? ⟨N,6,none⟩=some (.int .i64 ser)∧V.cell? ⟨N,7,none⟩=some (.int .i64 cnt)∧V.cell? ⟨N,8,none⟩=some (.int .i64 pl)∧V.cell? ⟨N,9,none⟩=some (.string root)∧V.cell? ⟨N,10,none⟩=some (.slice ap n1 c1)∧V.cell? ⟨N,11,none⟩=some (.int .i64 si)∧V.cell? ⟨N,12,none⟩=some (.slice aq n2 c2)∧V.cell? ⟨N,13,none⟩=some (.slice ar n3 c3))∧(V.cell? ⟨N1,0,none⟩=some (.int .i64 hol)∧V.cell? ⟨N1,1,none⟩=some (.int .i64 ser))∧(Instr.lookup 196 (.map (some b2)) (.agg #[.int .i64 hol,.int .i64 ser]) true).run Tryz.prog V= .ok (.tuple #[.agg #[.int .i64 0,.int .i64 0,.int .i64 0,.int .i64 0,.int .i64 0,.string ByteArray.empty,.int .i64 0],.bool false]) V):=hid (fun V h=>by
  have hb:=HBK.o.later (HWX.o.trans (h.mono (by have:=HN.o;have:=HN1.o;omega)))
  have hl:=hb.find HWF.o.1 HWF.o.2
  rw [HFS.o.1,HFS.o.2] at hl
  have hg:=(h.block N (by have:=HN1.o;omega)).trans ((HX.o.block N (by omega)).trans HG.o)
  have hg1:=(h.block N1 (by omega)).trans HXG.o
  exact ⟨hb.cells,row14 hg,⟨cr hg1,cr hg1⟩,hl⟩)
 have HDR:Hid (Below (N1+1) X X.drew):=hid (Below.refl _ _).drew
 have HDZ:Hid (X.drew.heap.size=N1+1):=hid HXZ.o
 obtain ⟨VD,hVD⟩:=ex_eq X.drew
 rw [hVD] at HDR HDZ
 refine Kit.wp_region_gplan (fun V=>(V.cell? ⟨bk,0,none⟩=some (.map (some b1))∧V.cell? ⟨bk,1,none⟩=some (.map (some b2)))∧(V.cell? ⟨N,0,none⟩=some (.int .i64 hol)∧V.cell? ⟨N,1,none⟩=some (.int .i64 vlt)∧V.cell? ⟨N,2,none⟩=some (.string str)∧V.cell? ⟨N,3,none⟩=some (.int .i64 ix)∧V.cell? ⟨N,4,none⟩=some (.int .i64 sz)∧V.cell? ⟨N,5,none⟩=some (.int .i64 day)∧V.cell? ⟨N,6,none⟩=some (.int .i64 ser)∧V.cell? ⟨N,7,none⟩=some (.int .i64 cnt)∧V.cell? ⟨N,8,none⟩=some (.int .i64 pl)∧V.cell? ⟨N,9,none⟩=some (.string root)∧V.cell? ⟨N,10,none⟩=some (.slice ap n1 c1)∧V.cell? ⟨N,11,none⟩=some (.int .i64 si)∧V.cell? ⟨N,12,none⟩=some (.slice aq n2 c2)∧V.cell? ⟨N,13,none⟩=some (.slice ar n3 c3))∧(V.cell? ⟨N1,0,none⟩=some (.int .i64 hol)∧V.cell? ⟨N1,1,none⟩=some (.int .i64 ser))∧(Instr.lookup 196 (.map (some b2)) (.agg #[.int .i64 hol,.int .i64 ser]) true).run Tryz.prog V= .ok (.tuple #[.agg #[.int .i64 0,.int .i64 0,.int .i64 0,.int .i64 0,.int .i64 0,.string ByteArray.empty,.int .i64 0],.bool false]) V) [(true,0),(true,1),(true,2),(true,3),(true,4),(true,5),(true,6),(true,7),(true,8),(false,9),(false,10),(true,11)] (by kernel_rfl) (by kernel_rfl) (by kernel_rfl) (by kernel_rfl) (by rw [hVD];exact HSB.o _ HDR.o) ?_
 rw [hVD]
 clear hVD
 iterate 9 (refine Kit.ghd (h:= ?_))
 refine Kit.gplan_op (by rfl) (by rfl) fun K hK=> ?_
 go_simp
 refine hK _ _ (HSB.o _ (HDR.o.alloc (by have:=HDZ.o;omega) _)) ?_
 clear hK K
 have HAG:Hid ((VD.alloc (.cells #[.int .i64 0,.int .i64 0,.int .i64 0,.int .i64 0,.int .i64 0,.string ⟨#[]⟩,.int .i64 0] 193)).heap[VD.heap.size]? =some (.cells #[.int .i64 0,.int .i64 0,.int .i64 0,.int .i64 0,.int .i64 0,.string ⟨#[]⟩,.int .i64 0] 193 (0,0))):=hid (heap_alloc_new _ _)
 have HAB:Hid (Below (N1+1) X (VD.alloc (.cells #[.int .i64 0,.int .i64 0,.int .i64 0,.int .i64 0,.int .i64 0,.string ⟨#[]⟩,.int .i64 0] 193))):=hid (HDR.o.alloc (by have:=HDZ.o;omega) _)
 obtain ⟨N2,hN2⟩:=ex_eq VD.heap.size
 have HN2:Hid (N1+1=N2):=hid (by have:=HDZ.o;omega)
 rw [hN2] at HAG ⊢
 clear hN2
 obtain ⟨VA,hVA⟩:=ex_eq (VD.alloc (.cells #[.int .i64 0,.int .i64 0,.int .i64 0,.int .i64 0,.int .i64 0,.string ⟨#[]⟩,.int .i64 0] 193))
 rw [hVA] at HAG HAB ⊢
 clear hVA
 obtain ⟨z0,z1,z2,z3,z4,z5,z6⟩:=row7 HAG.o
 have fz: ∀i,VA.frozen? ⟨N2,i,none⟩=false:=fun i=>frozen_of_row _ _ _ _ _ HAG.o
 refine Kit.gplan_op (by rfl) (by rfl) fun K hK=> ?_
 go_simp
 refine hK _ _ (HSB.o _ (putL_below (by have:=HN2.o;omega) [.int .i64 0,.int .i64 0,.int .i64 0,.int .i64 0,.int .i64 0,.string ByteArray.empty,.int .i64 0] 0 VA HAB.o)) ?_
 clear hK K z0 z1 z2 z3 z4 z5 z6 fz
 iterate 1 (refine Kit.ghd (h:= ?_))
 refine Kit.gdn (h:=?_)
 have HPG:Hid ((putL N2 0 [.int .i64 0,.int .i64 0,.int .i64 0,.int .i64 0,.int .i64 0,.string ByteArray.empty,.int .i64 0] VA).heap[N2]? =some (.cells #[.int .i64 0,.int .i64 0,.int .i64 0,.int .i64 0,.int .i64 0,.string ByteArray.empty,.int .i64 0] 193 (0,0))):=hid (putL_full (cur:=[.int .i64 0,.int .i64 0,.int .i64 0,.int .i64 0,.int .i64 0,.string ⟨#[]⟩,.int .i64 0]) (vs:=[.int .i64 0,.int .i64 0,.int .i64 0,.int .i64 0,.int .i64 0,.string ByteArray.empty,.int .i64 0]) HAG.o rfl)
 have HPB:Hid (Below (N1+1) X (putL N2 0 [.int .i64 0,.int .i64 0,.int .i64 0,.int .i64 0,.int .i64 0,.string ByteArray.empty,.int .i64 0] VA)):=hid (putL_below (by have:=HN2.o;omega) [.int .i64 0,.int .i64 0,.int .i64 0,.int .i64 0,.int .i64 0,.string ByteArray.empty,.int .i64 0] 0 VA HAB.o)
 have HPS:Hid (N2+1≤(putL N2 0 [.int .i64 0,.int .i64 0,.int .i64 0,.int .i64 0,.int .i64 0,.string ByteArray.empty,.int .i64 0] VA).heap.size):=hid (by have h:=(gS HPG.o).1;omega)
 go_upto_region 9 with fail
 refine wp_over (fun Y=>Hid (Y.heap[N2]? =some (.cells #[.int .i64 0,.int .i64 0,.int .i64 0,.int .i64 0,.int .i64 0,.string ByteArray.empty,.int .i64 0] 193 (0,0)))∧Hid (Below (N1+1) X Y)∧Hid (N2+1≤Y.heap.size)) ⟨HPG,HPB,HPS⟩ ?_
 clear HPG HPB HPS HAG HAB
 rintro Y ⟨HYG,HYB,HYS⟩
 have HY:Hid (Below (N+1) W Y):=hid (HX.o.trans (HYB.o.mono (by have:=HN1.o;omega)))
 have HWY:Hid (Below w.heap.size w Y):=hid (HBW.o _ (HB.o.trans (HY.o.mono (by omega))))
 have HNY:Hid (N+1≤N1∧N1+1≤Y.heap.size∧w.heap.size≤N):=hid ⟨HN1.o,by have:=HYS.o;have:=HN2.o;omega,by have:=HN.o;omega⟩
 have HS9:Hid (∀V,Below Y.heap.size Y V→(V.cell? ⟨bk,0,none⟩=some (.map (some b1))∧V.cell? ⟨bk,1,none⟩=some (.map (some b2)))∧(V.cell? ⟨N,0,none⟩=some (.int .i64 hol)∧V.cell? ⟨N,1,none⟩=some (.int .i64 vlt)∧V.cell? ⟨N,2,none⟩=some (.string str)∧V.cell? ⟨N,3,none⟩=some (.int .i64 ix)∧V.cell? ⟨N,4,none⟩=some (.int .i64 sz)∧V.cell? ⟨N,5,none⟩=some (.int .i64 day)∧V.cell? ⟨N,6,none⟩=some (.int .i64 ser)∧V.cell? ⟨N,7,none⟩=some (.int .i64 cnt)∧V.cell? ⟨N,8,none⟩=some (.int .i64 pl)∧V.cell? ⟨N,9,none⟩=some (.string root)∧V.cell? ⟨N,10,none⟩=some (.slice ap n1 c1)∧V.cell? ⟨N,11,none⟩=some (.int .i64 si)∧V.cell? ⟨N,12,none⟩=some (.slice aq n2 c2)∧V.cell? ⟨N,13,none⟩=some (.slice ar n3 c3))):=hid (fun V h=>by
  have hb:=HBK.o.later (HWY.o.trans (h.mono (by have:=HNY.o;have:=HN.o;omega)))
  have hg:=(h.block N (by have:=HNY.o;omega)).trans ((HY.o.block N (by omega)).trans HG.o)
  exact ⟨hb.cells,row14 hg⟩)
 have HG1:Hid (∀V,Below Y.heap.size Y V→V.heap[N1]? =some (.cells #[.int .i64 hol,.int .i64 ser] 200 (0,0))):=hid (fun V h=>(h.block N1 (by have:=HNY.o;omega)).trans ((HYB.o.block N1 (by omega)).trans HXG.o))
 clear HYG HYB HYS HXG HXB HXZ HSB
 obtain ⟨⟨e0,e1⟩,_⟩:=HS9.o Y (Below.refl _ _)
 have hmn:=map_nil b1
 go_upto_region 11 with fail
 clear e0 e1 hmn
 have HSB11:Hid (∀V,Below Y.heap.size Y V→(V.cell? ⟨bk,0,none⟩=some (.map (some b1))∧V.cell? ⟨bk,1,none⟩=some (.map (some b2)))∧(V.cell? ⟨N,0,none⟩=some (.int .i64 hol)∧V.cell? ⟨N,1,none⟩=some (.int .i64 vlt)∧V.cell? ⟨N,2,none⟩=some (.string str)∧V.cell? ⟨N,3,none⟩=some (.int .i64 ix)∧V.cell? ⟨N,4,none⟩=some (.int .i64 sz)∧V.cell? ⟨N,5,none⟩=some (.int .i64 day)∧V.cell? ⟨N,6,none⟩=some (.int .i64 ser)∧V.cell? ⟨N,7,none⟩=some (.int .i64 cnt)∧V.cell? ⟨N,8,none⟩=some (.int .i64 pl)∧V.cell? ⟨N,9,none⟩=some (.string root)∧V.cell? ⟨N,10,none⟩=some (.slice ap n1 c1)∧V.cell? ⟨N,11,none⟩=some (.int .i64 si)∧V.cell? ⟨N,12,none⟩=some (.slice aq n2 c2)∧V.cell? ⟨N,13,none⟩=some (.slice ar n3 c3))∧(Instr.lookup 195 (.map (some b1)) (.agg #[.string str,.int .i64 ix]) false).run Tryz.prog V= .ok (.slice la ln lc) V):=hid (fun V h=>by
  obtain ⟨f1,f2⟩:=HS9.o V h
  have hb:=HBK.o.later (HWY.o.trans (h.mono (by have:=HNY.o;have:=HN.o;omega)))
  have hl:=hb.look HWP.o.1 HWP.o.2
  rw [HLK.o] at hl
  exact ⟨f1,f2,hl⟩)
 have HDR11:Hid (Below Y.heap.size Y Y.drew):=hid (Below.refl _ _).drew
 have HDZ11:Hid (Y.drew.heap.size=Y.heap.size):=hid rfl
 obtain ⟨VE,hVE⟩:=ex_eq Y.drew
 rw [hVE] at HDR11 HDZ11
 refine Kit.wp_region_gplan (fun V=>(V.cell? ⟨bk,0,none⟩=some (.map (some b1))∧V.cell? ⟨bk,1,none⟩=some (.map (some b2)))∧(V.cell? ⟨N,0,none⟩=some (.int .i64 hol)∧V.cell? ⟨N,1,none⟩=some (.int .i64 vlt)∧V.cell? ⟨N,2,none⟩=some (.string str)∧V.cell? ⟨N,3,none⟩=some (.int .i64 ix)∧V.cell? ⟨N,4,none⟩=some (.int .i64 sz)∧V.cell? ⟨N,5,none⟩=some (.int .i64 day)∧V.cell? ⟨N,6,none⟩=some (.int .i64 ser)∧V.cell? ⟨N,7,none⟩=some (.int .i64 cnt)∧V.cell? ⟨N,8,none⟩=some (.int .i64 pl)∧V.cell? ⟨N,9,none⟩=some (.string root)∧V.cell? ⟨N,10,none⟩=some (.slice ap n1 c1)∧V.cell? ⟨N,11,none⟩=some (.int .i64 si)∧V.cell? ⟨N,12,none⟩=some (.slice aq n2 c2)∧V.cell? ⟨N,13,none⟩=some (.slice ar n3 c3))∧(Instr.lookup 195 (.map (some b1)) (.agg #[.string str,.int .i64 ix]) false).run Tryz.prog V= .ok (.slice la ln lc) V) [(true,0),(true,1),(true,2),(true,3),(true,4),(true,5),(true,6),(false,7),(false,8)] (by kernel_rfl) (by kernel_rfl) (by kernel_rfl) (by kernel_rfl) (by rw [hVE];exact HSB11.o _ HDR11.o) ?_
 rw [hVE]
 clear hVE
 iterate 7 (refine Kit.ghd (h:= ?_))
 refine Kit.gplan_op (by rfl) (by rfl) fun K hK=> ?_
 go_simp
 refine hK _ _ (HSB11.o _ (HDR11.o.alloc (by have:=HDZ11.o;omega) _)) ?_
 clear hK K
 have HLG:Hid ((VE.alloc (.cells #[.slice none 0 0] 32)).heap[VE.heap.size]? =some (.cells #[.slice none 0 0] 32 (0,0))):=hid (heap_alloc_new _ _)
 have HLB:Hid (Below Y.heap.size Y (VE.alloc (.cells #[.slice none 0 0] 32))):=hid (HDR11.o.alloc (by have:=HDZ11.o;omega) _)
 obtain ⟨PL,hPL⟩:=ex_eq VE.heap.size
 have HPL:Hid (Y.heap.size=PL):=hid (by have:=HDZ11.o;omega)
 rw [hPL] at HLG ⊢
 clear hPL
 obtain ⟨VL,hVL⟩:=ex_eq (VE.alloc (.cells #[.slice none 0 0] 32))
 rw [hVL] at HLG HLB ⊢
 clear hVL
 have z0:VL.cell? ⟨PL,0,none⟩=some (.slice none 0 0):=cr HLG.o
 have fz: ∀i,VL.frozen? ⟨PL,i,none⟩=false:=fun i=>frozen_of_row _ _ _ _ _ HLG.o
 refine Kit.gplan_op (by rfl) (by rfl) fun K hK=> ?_
 go_simp
 have HLP:Hid (Below Y.heap.size Y (VL.setCell ⟨PL,0,none⟩ (.slice la ln lc))):=hid (HLB.o.setCell (p:=⟨PL,0,none⟩) (by show _≤PL;have:=HPL.o;omega) _)
 refine hK _ _ (HSB11.o _ HLP.o) ?_
 clear hK K z0 fz
 refine Kit.gdn (h:=?_)
 have HLG2:Hid ((VL.setCell ⟨PL,0,none⟩ (.slice la ln lc)).heap[PL]? =some (.cells #[.slice la ln lc] 32 (0,0))):=hid (heap_setCell_same _ PL 0 _ _ _ HLG.o)
 go_upto_region 12 with fail
 refine wp_over (fun Z=>Hid (Z.heap[PL]? =some (.cells #[.slice la ln lc] 32 (0,0)))∧Hid (Below Y.heap.size Y Z)) ⟨HLG2,HLP⟩ ?_
 clear HLG HLB HLG2 HLP
 rintro Z ⟨HZG,HZB⟩
 have HPZ:Hid (PL<Z.heap.size):=hid (gS HZG.o).1
 have HWZ:Hid (Below w.heap.size w Z):=hid (HWY.o.trans (HZB.o.mono (by have:=HNY.o;omega)))
 have e0:Z.cell? ⟨PL,0,none⟩=some (.slice la ln lc):=cr HZG.o
 have HXC:Hid (∀V,Below Y.heap.size Y V→ ∀j,j<14→V.cell? ⟨N,j,none⟩=(⟨⟨hol,vlt,str,ix,sz,day,ser,cnt,pl,root,pa,si,pt,sq⟩,ap,c1,aq,c2,ar,c3⟩:RcV).cells[j]?):=hid (fun V h j hj=>by
  obtain ⟨_,f0,f1,f2,f3,f4,f5,f6,f7,f8,f9,f10,f11,f12,f13⟩:=HS9.o V h
  have l:=HLN.o
  obtain ⟨⟨rfl,_⟩,⟨rfl,_⟩,rfl,_⟩:=l
  match j,hj with
  | 0,_=>exact f0
  | 1,_=>exact f1
  | 2,_=>exact f2
  | 3,_=>exact f3
  | 4,_=>exact f4
  | 5,_=>exact f5
  | 6,_=>exact f6
  | 7,_=>exact f7
  | 8,_=>exact f8
  | 9,_=>exact f9
  | 10,_=>exact f10
  | 11,_=>exact f11
  | 12,_=>exact f12
  | 13,_=>exact f13
 )
 have HSE:=hid (searchL_any PL N ln lc la xs (⟨⟨hol,vlt,str,ix,sz,day,ser,cnt,pl,root,pa,si,pt,sq⟩,ap,c1,aq,c2,ar,c3⟩:RcV) (by omega) HXS.o Z (HLR.o.later HWZ.o) e0 (HXC.o Z HZB.o))
 rw [HK.o] at HSE
 go_upto_region 13 with (first
  | (go_at_call 130
     (with_reducible refine HSE.o.mono ?_)
     rintro e w3 ⟨rfl,h3⟩
     have H3:=hid h3
     clear h3 e0))
 have H3Y:Hid (Below Y.heap.size Y w3):=hid (HZB.o.trans (H3.o.mono HZB.o.size))
 have HPZ3:Hid (PL<w3.heap.size∧PL=Y.heap.size):=hid ⟨by have:=HPZ.o;have:=H3.o.size;omega,HPL.o.symm⟩
 have HG3:=hid ((H3.o.block PL HPZ.o).trans HZG.o)
 have HW3:Hid (Below w.heap.size w w3):=hid (HWZ.o.trans (H3.o.mono HWZ.o.size))
 have HS13:Hid (∀V,Below w3.heap.size w3 V→(V.cell? ⟨bk,0,none⟩=some (.map (some b1))∧V.cell? ⟨bk,1,none⟩=some (.map (some b2)))∧(V.cell? ⟨N,0,none⟩=some (.int .i64 hol)∧V.cell? ⟨N,1,none⟩=some (.int .i64 vlt)∧V.cell? ⟨N,2,none⟩=some (.string str)∧V.cell? ⟨N,3,none⟩=some (.int .i64 ix)∧V.cell? ⟨N,4,none⟩=some (.int .i64 sz)∧V.cell? ⟨N,5,none⟩=some (.int .i64 day)∧V.cell? ⟨N,6,none⟩=some (.int .i64 ser)∧V.cell? ⟨N,7,none⟩=some (.int .i64 cnt)∧V.cell? ⟨N,8,none⟩=some (.int .i64 pl)∧V.cell? ⟨N,9,none⟩=some (.string root)∧V.cell? ⟨N,10,none⟩=some (.slice ap n1 c1)∧V.cell? ⟨N,11,none⟩=some (.int .i64 si)∧V.cell? ⟨N,12,none⟩=some (.slice aq n2 c2)∧V.cell? ⟨N,13,none⟩=some (.slice ar n3 c3))∧V.cell? ⟨PL,0,none⟩=some (.slice la ln lc)):=hid (fun V h=>by
  obtain ⟨f1,f2⟩:=HS9.o V (H3Y.o.trans (h.mono H3Y.o.size))
  exact ⟨f1,f2,(cell_of_row _ _ _ _ _ _ ((h.block PL HPZ3.o.1).trans HG3.o)).trans rfl⟩)
 have HDR13:Hid (Below w3.heap.size w3 w3.drew):=hid (Below.refl _ _).drew
 obtain ⟨VF,hVF⟩:=ex_eq w3.drew
 rw [hVF] at HDR13
 have HCL:=hid (cloneR_any hol vlt str ix sz day ser cnt pl root ap n1 c1 si aq n2 c2 ar n3 c3 pa pt sq VF HLN.o.1.1 HLN.o.2.1.1 HLN.o.2.2.1 (by have:=HLN.o;omega) (by have:=HLN.o;omega) (by have:=HLN.o;omega) ((HST.o.1.later HW3.o).later HDR13.o) ((HST.o.2.1.later HW3.o).later HDR13.o) ((HST.o.2.2.later HW3.o).later HDR13.o))
 refine Kit.wp_region_gplan (fun V=>(V.cell? ⟨bk,0,none⟩=some (.map (some b1))∧V.cell? ⟨bk,1,none⟩=some (.map (some b2)))∧(V.cell? ⟨N,0,none⟩=some (.int .i64 hol)∧V.cell? ⟨N,1,none⟩=some (.int .i64 vlt)∧V.cell? ⟨N,2,none⟩=some (.string str)∧V.cell? ⟨N,3,none⟩=some (.int .i64 ix)∧V.cell? ⟨N,4,none⟩=some (.int .i64 sz)∧V.cell? ⟨N,5,none⟩=some (.int .i64 day)∧V.cell? ⟨N,6,none⟩=some (.int .i64 ser)∧V.cell? ⟨N,7,none⟩=some (.int .i64 cnt)∧V.cell? ⟨N,8,none⟩=some (.int .i64 pl)∧V.cell? ⟨N,9,none⟩=some (.string root)∧V.cell? ⟨N,10,none⟩=some (.slice ap n1 c1)∧V.cell? ⟨N,11,none⟩=some (.int .i64 si)∧V.cell? ⟨N,12,none⟩=some (.slice aq n2 c2)∧V.cell? ⟨N,13,none⟩=some (.slice ar n3 c3))∧V.cell? ⟨PL,0,none⟩=some (.slice la ln lc)) [(true,0),(true,1),(true,2),(true,3),(true,4),(true,5),(true,6),(true,7),(true,8),(false,9),(false,10),(false,11),(false,12)] (by kernel_rfl) (by kernel_rfl) (by kernel_rfl) (by kernel_rfl) (by rw [hVF];exact HS13.o _ HDR13.o) ?_
 rw [hVF]
 clear hVF
 iterate 9 (refine Kit.ghd (h:= ?_))
 refine Kit.gplan_op (by rfl) (by rfl) fun K hK=> ?_
 go_simp
 go_at_call 134
 with_reducible refine HCL.o.mono ?_
 rintro e w4 ⟨a6,d6,a7,d7,a8,d8,rfl,hb6,hb7,hb8,hg6,hg7,hg8,h4⟩
 have HCK:=hid (clone_ok (hol:=hol) (vlt:=vlt) (str:=str) (ix:=ix) (sz:=sz) (day:=day) (ser:=ser) (cnt:=cnt) (pl:=pl) (root:=root) (si:=si) HLN.o.1.1 HLN.o.2.1.1 HLN.o.2.2.1 (by have:=HLN.o;omega) (by have:=HLN.o;omega) (by have:=HLN.o;omega) (d6:=d6) (d7:=d7) (d8:=d8) hb6 hb7 hb8 hg6 hg7 hg8)
 have HVF:Hid (w.heap.size≤VF.heap.size):=hid (by have:=HDR13.o.size;have:=HW3.o.size;omega)
 have H4:Hid (Below w3.heap.size w3 w4):=hid (HDR13.o.trans (h4.mono HDR13.o.size))
 clear hb6 hb7 hb8 hg6 hg7 hg8 h4
 refine hK _ _ (HS13.o _ H4.o) ?_
 clear hK K
 refine Kit.gplan_op (by rfl) (by rfl) fun K hK=> ?_
 go_simp
 have H5:Hid (Below w3.heap.size w3 (w4.alloc (.cells #[.int .i64 hol,.int .i64 vlt,.string str,.int .i64 ix,.int .i64 sz,.int .i64 day,.int .i64 ser,.int .i64 cnt,.int .i64 pl,.string root,.slice a6 n1 d6,.int .i64 si,.slice a7 n2 d7,.slice a8 n3 d8] 47))):=hid (H4.o.alloc H4.o.size _)
 have HX5:Hid ((w4.alloc (.cells #[.int .i64 hol,.int .i64 vlt,.string str,.int .i64 ix,.int .i64 sz,.int .i64 day,.int .i64 ser,.int .i64 cnt,.int .i64 pl,.string root,.slice a6 n1 d6,.int .i64 si,.slice a7 n2 d7,.slice a8 n3 d8] 47)).heap[w4.heap.size]? =some (.cells #[.int .i64 hol,.int .i64 vlt,.string str,.int .i64 ix,.int .i64 sz,.int .i64 day,.int .i64 ser,.int .i64 cnt,.int .i64 pl,.string root,.slice a6 n1 d6,.int .i64 si,.slice a7 n2 d7,.slice a8 n3 d8] 47 (0,0))):=hid (heap_alloc_new _ _)
 refine hK _ _ (HS13.o _ H5.o) ?_
 clear hK K
 obtain ⟨vb,hvb⟩:=ex_eq w4.heap.size
 have HVB:Hid (w4.heap.size=vb):=hid hvb
 rw [hvb] at HX5 ⊢
 clear hvb
 have HXK:Hid ((⟨⟨hol,vlt,str,ix,sz,day,ser,cnt,pl,root,pa,si,pt,sq⟩,a6,d6,a7,d7,a8,d8⟩:RcV).ok (w4.alloc (.cells #[.int .i64 hol,.int .i64 vlt,.string str,.int .i64 ix,.int .i64 sz,.int .i64 day,.int .i64 ser,.int .i64 cnt,.int .i64 pl,.string root,.slice a6 n1 d6,.int .i64 si,.slice a7 n2 d7,.slice a8 n3 d8] 47))):=hid (HCK.o.1.later ((Below.refl _ _).alloc (Nat.le_refl _) _))
 obtain ⟨w5,hw5⟩:=ex_eq (w4.alloc (.cells #[.int .i64 hol,.int .i64 vlt,.string str,.int .i64 ix,.int .i64 sz,.int .i64 day,.int .i64 ser,.int .i64 cnt,.int .i64 pl,.string root,.slice a6 n1 d6,.int .i64 si,.slice a7 n2 d7,.slice a8 n3 d8] 47))
 rw [hw5] at H5 HX5 HXK ⊢
 clear hw5
 have HXB:Hid (∀q,(⟨⟨hol,vlt,str,ix,sz,day,ser,cnt,pl,root,pa,si,pt,sq⟩,a6,d6,a7,d7,a8,d8⟩:RcV).blk q→w.heap.size≤q):=hid (fun q hq=>Nat.le_trans HVF.o (HCK.o.2 q hq))
 have HW5:Hid (Below w.heap.size w w5):=hid (HW3.o.trans (H5.o.mono HW3.o.size))
 have HB5:=hid (HBK.o.later HW5.o)
 have HL5:=hid (HLR.o.later HW5.o)
 have HX5c:Hid (w5.heap[vb]? =some (.cells (⟨⟨hol,vlt,str,ix,sz,day,ser,cnt,pl,root,pa,si,pt,sq⟩,a6,d6,a7,d7,a8,d8⟩:RcV).cells.toArray 47 (0,0))):=hid (by
  have l:=HLN.o
  have h:=HX5.o
  obtain ⟨⟨rfl,_⟩,⟨rfl,_⟩,rfl,_⟩:=l
  exact h)
 have HLAO:Hid (∀q,laIs la q→O q∧ ∃cs f,w5.heap[q]? =some (.cells cs 47 f)):=hid (fun q hq=>by
  obtain ⟨g,e,rfl⟩:=hq
  rcases HLA.o with ⟨_,e2,_⟩ | ⟨g',hR,e2⟩
  ·rw [e2] at e;cases e
  ·rw [e2] at e
   have:g'=q:=by injection e with e;injection e
   subst this
   obtain ⟨rest,hg,_⟩:=(HB5.o.row _ _ hR).1
   exact ⟨HB5.o.og _ _ hR,_,_,hg⟩)
 have HIN:=hid (insertL_any ln lc k vb la xs (⟨⟨hol,vlt,str,ix,sz,day,ser,cnt,pl,root,pa,si,pt,sq⟩,a6,d6,a7,d7,a8,d8⟩:RcV) HKL.o (by omega) w5 HL5.o (fun g e=>by
  have h1:=HBK.o.lt g (HLAO.o g ⟨g,e,rfl⟩).1
  have h2:=HVB.o
  have h3:=H4.o.size
  have h4:=HW3.o.size
  omega) HX5c.o)
 refine Kit.gplan_op (by rfl) (by rfl) fun K hK=> ?_
 go_simp
 go_at_call 133
 with_reducible refine HIN.o.mono ?_
 rintro e w6 ⟨bl,cap',rfl,hbl,hR6,hC6⟩
 have HBL:=hid hbl
 have HR6:=hid hR6
 have HC6:=hid hC6
 clear hbl hR6 hC6
 -- what the insertion leaves alone
 have HNLA:Hid (∀q,laIs la q→q<w.heap.size∧q≠bk∧q≠b1∧q≠b2):=hid (fun q hq=>by
  obtain ⟨h1,cs,f,hg⟩:=HLAO.o q hq
  refine ⟨HBK.o.lt q h1,fun e=> ?_,fun e=> ?_,fun e=> ?_⟩
  ·subst e
   rw [HB5.o.cell] at hg
   injection hg with hg
   injection hg with _ e2
   exact absurd e2 (by decide)
  ·subst e
   obtain ⟨es,cl,hb⟩:=HB5.o.m1.isMap
   rw [hb] at hg;cases hg
  ·subst e
   obtain ⟨es,cl,hb⟩:=HB5.o.m2.isMap
   rw [hb] at hg;cases hg)
 have HBS:Hid (bk<w5.heap.size∧b1<w5.heap.size∧b2<w5.heap.size∧bk≠b1∧bk≠b2):=hid ⟨HB5.o.lt _ HB5.o.o0,HB5.o.lt _ HB5.o.o1,HB5.o.lt _ HB5.o.o2,(fun e=>by
  obtain ⟨es,cl,hb⟩:=HB5.o.m1.isMap
  rw [← e,HB5.o.cell] at hb;cases hb),(fun e=>by
  obtain ⟨es,cl,hb⟩:=HB5.o.m2.isMap
  rw [← e,HB5.o.cell] at hb;cases hb)⟩
 have HPN:Hid (N<w5.heap.size∧PL<w5.heap.size∧w.heap.size≤N∧w.heap.size≤PL∧N1<w5.heap.size∧w.heap.size≤N1):=hid (by
  have h1:=HNY.o
  have h2:=HPZ3.o
  have h3:=H5.o.size
  omega)
 have HKEEP:Hid (∀q,q<w5.heap.size→ ¬laIs la q→w6.heap[q]? =w5.heap[q]?):=hid (fun q hq hn=>HC6.o.other q hq (fun _=>hn))
 -- blocks that stay:bk,N,PL,N1
 have HST6:Hid (∀V:World,V.heap[bk]? =w5.heap[bk]? →V.heap[N]? =w5.heap[N]? →V.heap[PL]? =w5.heap[PL]? →(V.cell? ⟨bk,0,none⟩=some (.map (some b1))∧V.cell? ⟨bk,1,none⟩=some (.map (some b2)))∧(V.cell? ⟨N,0,none⟩=some (.int .i64 hol)∧V.cell? ⟨N,1,none⟩=some (.int .i64 vlt)∧V.cell? ⟨N,2,none⟩=some (.string str)∧V.cell? ⟨N,3,none⟩=some (.int .i64 ix)∧V.cell? ⟨N,4,none⟩=some (.int .i64 sz)∧V.cell? ⟨N,5,none⟩=some (.int .i64 day)∧V.cell? ⟨N,6,none⟩=some (.int .i64 ser)∧V.cell? ⟨N,7,none⟩=some (.int .i64 cnt)∧V.cell? ⟨N,8,none⟩=some (.int .i64 pl)∧V.cell? ⟨N,9,none⟩=some (.string root)∧V.cell? ⟨N,10,none⟩=some (.slice ap n1 c1)∧V.cell? ⟨N,11,none⟩=some (.int .i64 si)∧V.cell? ⟨N,12,none⟩=some (.slice aq n2 c2)∧V.cell? ⟨N,13,none⟩=some (.slice ar n3 c3))∧V.cell? ⟨PL,0,none⟩=some (.slice la ln lc)):=hid (fun V e1 e2 e3=>by
  have hN5:w5.heap[N]? =some (.cells #[.int .i64 hol,.int .i64 vlt,.string str,.int .i64 ix,.int .i64 sz,.int .i64 day,.int .i64 ser,.int .i64 cnt,.int .i64 pl,.string root,.slice ap n1 c1,.int .i64 si,.slice aq n2 c2,.slice ar n3 c3] 47 (0,0)):=(H5.o.block N (by have:=HNY.o;have:=H3Y.o.size;omega)).trans ((H3Y.o.block N (by have:=HNY.o;omega)).trans ((HY.o.block N (by omega)).trans HG.o))
  have hP5:w5.heap[PL]? =some (.cells #[.slice la ln lc] 32 (0,0)):=(H5.o.block PL HPZ3.o.1).trans HG3.o
  exact ⟨⟨(cell_of_row _ _ _ _ _ _ (e1.trans HB5.o.cell)).trans rfl,(cell_of_row _ _ _ _ _ _ (e1.trans HB5.o.cell)).trans rfl⟩,row14 (e2.trans hN5),(cell_of_row _ _ _ _ _ _ (e3.trans hP5)).trans rfl⟩)
 refine hK _ _ (HST6.o w6 (HKEEP.o bk HBS.o.1 (fun hq=>(HNLA.o bk hq).2.1 rfl)) (HKEEP.o N HPN.o.1 (fun hq=>by have:=(HNLA.o N hq).1;have:=HPN.o;omega)) (HKEEP.o PL HPN.o.2.1 (fun hq=>by have:=(HNLA.o PL hq).1;have:=HPN.o;omega))) ?_
 clear hK K
 have HXR:Hid ((xs.take k++(⟨⟨hol,vlt,str,ix,sz,day,ser,cnt,pl,root,pa,si,pt,sq⟩,a6,d6,a7,d7,a8,d8⟩:RcV)::xs.drop k).length=ln+1):=hid (by
  have:=HLR.o.len
  have:=HKL.o
  rw [List.length_append,List.length_cons,List.length_take,List.length_drop]
  omega)
 obtain ⟨kl,hkl⟩:=pieceKey HWP.o.1 HWP.o.2
 obtain ⟨w7,hrun7,hm7,hg7,hs7⟩:=(HB5.o.m1.keep (HKEEP.o b1 HBS.o.2.1 (fun hq=>(HNLA.o b1 hq).2.2.1 rfl))).put (t:= 195) (e:= 32) pieceKeyed Tryz.underlying195 (by unfold maxLen;omega) hkl (.slice (some ⟨bl,0,none⟩) (ln+1) cap') (listF (fun q=>if q=(⟨⟨hol,vlt,str,ix,sz,day,ser,cnt,pl,root,pa,si,pt,sq⟩,a6,d6,a7,d7,a8,d8⟩:RcV).r.pc then some ⟨bl,cap',xs.take k++(⟨⟨hol,vlt,str,ix,sz,day,ser,cnt,pl,root,pa,si,pt,sq⟩,a6,d6,a7,d7,a8,d8⟩:RcV)::xs.drop k⟩ else R q)) (by
  rw [listF_piece,if_pos (show (⟨str,ix⟩:Pc)=(⟨⟨hol,vlt,str,ix,sz,day,ser,cnt,pl,root,pa,si,pt,sq⟩,a6,d6,a7,d7,a8,d8⟩:RcV).r.pc from rfl)]
  show some (BRow.val _)=_
  unfold BRow.val
  simp only
  rw [HXR.o]) (fun key l hk hne=>listF_put hk hne)
 have HM7:=hid hm7
 have HGW7:=hid hg7
 have HSZ7:=hid hs7
 unfold pieceV at hrun7
 clear hm7 hg7 hs7 hkl
 refine Kit.gplan_op (by rfl) (by rfl) fun K hK=> ?_
 go_simp
 refine hK _ _ (HST6.o w7 ?_ ?_ ?_) ?_
 ·exact (HGW7.o.block bk (by have:=HBS.o;have:=HC6.o.size;omega) (fun e=>by injection e with e;exact HBS.o.2.2.2.1 e)).trans (HKEEP.o bk HBS.o.1 (fun hq=>(HNLA.o bk hq).2.1 rfl))
 ·exact (HGW7.o.block N (by have:=HPN.o;have:=HC6.o.size;omega) (fun e=>by injection e with e;have:=HBK.o.lt b1 HBK.o.o1;have:=HPN.o;omega)).trans (HKEEP.o N HPN.o.1 (fun hq=>by have:=(HNLA.o N hq).1;have:=HPN.o;omega))
 ·exact (HGW7.o.block PL (by have:=HPN.o;have:=HC6.o.size;omega) (fun e=>by injection e with e;have:=HBK.o.lt b1 HBK.o.o1;have:=HPN.o;omega)).trans (HKEEP.o PL HPN.o.2.1 (fun hq=>by have:=(HNLA.o PL hq).1;have:=HPN.o;omega))
 clear hK K hrun7
 refine Kit.gdn (h:=?_)
 go_upto_region 14 with fail
 have HSZ67:Hid (w5.heap.size≤w6.heap.size∧w6.heap.size=w7.heap.size):=hid ⟨HC6.o.size,HSZ7.o.symm⟩
 have HB7:Hid (∀q,q<w5.heap.size→ ¬laIs la q→q≠b1→w7.heap[q]? =w5.heap[q]?):=hid (fun q hq hn hb=>(HGW7.o.block q (by have:=HSZ67.o;omega) (fun e=>by injection e with e;exact hb e)).trans (HKEEP.o q hq hn))
 have HN15:Hid (w5.heap[N1]? =some (.cells #[.int .i64 hol,.int .i64 ser] 200 (0,0))):=hid (HG1.o w5 (H3Y.o.trans (H5.o.mono H3Y.o.size)))
 have HS14:Hid (∀V:World,Below w7.heap.size w7 V→(V.cell? ⟨bk,0,none⟩=some (.map (some b1))∧V.cell? ⟨bk,1,none⟩=some (.map (some b2)))∧(V.cell? ⟨N,0,none⟩=some (.int .i64 hol)∧V.cell? ⟨N,1,none⟩=some (.int .i64 vlt)∧V.cell? ⟨N,2,none⟩=some (.string str)∧V.cell? ⟨N,3,none⟩=some (.int .i64 ix)∧V.cell? ⟨N,4,none⟩=some (.int .i64 sz)∧V.cell? ⟨N,5,none⟩=some (.int .i64 day)∧V.cell? ⟨N,6,none⟩=some (.int .i64 ser)∧V.cell? ⟨N,7,none⟩=some (.int .i64 cnt)∧V.cell? ⟨N,8,none⟩=some (.int .i64 pl)∧V.cell? ⟨N,9,none⟩=some (.string root)∧V.cell? ⟨N,10,none⟩=some (.slice ap n1 c1)∧V.cell? ⟨N,11,none⟩=some (.int .i64 si)∧V.cell? ⟨N,12,none⟩=some (.slice aq n2 c2)∧V.cell? ⟨N,13,none⟩=some (.slice ar n3 c3))∧(V.cell? ⟨N1,0,none⟩=some (.int .i64 hol)∧V.cell? ⟨N1,1,none⟩=some (.int .i64 ser))):=hid (fun V h=>by
  have hb1:=HBK.o.lt b1 HBK.o.o1
  have e: ∀q,q<w5.heap.size→ ¬laIs la q→q≠b1→V.heap[q]? =w5.heap[q]? :=fun q h1 h2 h3=>(h.block q (by have:=HSZ67.o;omega)).trans (HB7.o q h1 h2 h3)
  have e1:=e bk HBS.o.1 (fun hq=>(HNLA.o bk hq).2.1 rfl) HBS.o.2.2.2.1
  have e2:=e N HPN.o.1 (fun hq=>by have:=(HNLA.o N hq).1;have:=HPN.o;omega) (by have:=HPN.o;omega)
  have e3:=e PL HPN.o.2.1 (fun hq=>by have:=(HNLA.o PL hq).1;have:=HPN.o;omega) (by have:=HPN.o;omega)
  have e4:=(e N1 HPN.o.2.2.2.2.1 (fun hq=>by have:=(HNLA.o N1 hq).1;have:=HPN.o;omega) (by have:=HPN.o;omega)).trans HN15.o
  obtain ⟨f1,f2,_⟩:=HST6.o V e1 e2 e3
  exact ⟨f1,f2,cr e4,cr e4⟩)
 have HDR14:Hid (Below w7.heap.size w7 w7.drew):=hid (Below.refl _ _).drew
 obtain ⟨VG,hVG⟩:=ex_eq w7.drew
 rw [hVG] at HDR14
 refine Kit.wp_region_gplan (fun V=>(V.cell? ⟨bk,0,none⟩=some (.map (some b1))∧V.cell? ⟨bk,1,none⟩=some (.map (some b2)))∧(V.cell? ⟨N,0,none⟩=some (.int .i64 hol)∧V.cell? ⟨N,1,none⟩=some (.int .i64 vlt)∧V.cell? ⟨N,2,none⟩=some (.string str)∧V.cell? ⟨N,3,none⟩=some (.int .i64 ix)∧V.cell? ⟨N,4,none⟩=some (.int .i64 sz)∧V.cell? ⟨N,5,none⟩=some (.int .i64 day)∧V.cell? ⟨N,6,none⟩=some (.int .i64 ser)∧V.cell? ⟨N,7,none⟩=some (.int .i64 cnt)∧V.cell? ⟨N,8,none⟩=some (.int .i64 pl)∧V.cell? ⟨N,9,none⟩=some (.string root)∧V.cell? ⟨N,10,none⟩=some (.slice ap n1 c1)∧V.cell? ⟨N,11,none⟩=some (.int .i64 si)∧V.cell? ⟨N,12,none⟩=some (.slice aq n2 c2)∧V.cell? ⟨N,13,none⟩=some (.slice ar n3 c3))∧(V.cell? ⟨N1,0,none⟩=some (.int .i64 hol)∧V.cell? ⟨N1,1,none⟩=some (.int .i64 ser))) [(true,0),(true,1),(true,2),(true,3),(true,4),(true,5),(false,6),(false,7)] (by kernel_rfl) (by kernel_rfl) (by kernel_rfl) (by kernel_rfl) (by rw [hVG];exact HS14.o _ HDR14.o) ?_
 rw [hVG]
 clear hVG
 iterate 6 (refine Kit.ghd (h:= ?_))
 refine Kit.gplan_op (by rfl) (by rfl) fun K hK=> ?_
 go_simp
 go_at_call 128
 with_reducible refine (HSG.o _).mono ?_
 rintro e w8 ⟨rfl,h8⟩
 have H8:Hid (Below w7.heap.size w7 w8):=hid (HDR14.o.trans (h8.mono HDR14.o.size))
 clear h8
 refine hK _ _ (HS14.o _ H8.o) ?_
 clear hK K
 obtain ⟨kl,hkl⟩:=numberKey HWF.o.1 HWF.o.2
 obtain ⟨w9,hrun9,hm9,hg9,hs9⟩:=(HB5.o.m2.keep ((H8.o.block b2 (by have:=HBS.o;have:=HSZ67.o;omega)).trans (HB7.o b2 HBS.o.2.2.1 (fun hq=>(HNLA.o b2 hq).2.2.2 rfl) (fun e=>HB5.o.ne12 e.symm)))).put (t:= 196) (e:= 193) numberKeyed Tryz.underlying196 (by unfold maxLen;omega) hkl (.agg #[.int .i64 hol,.int .i64 vlt,.int .i64 sz,.int .i64 day,.int .i64 ser,.string str,.int .i64 ix]) (numF (insB m (⟨⟨hol,vlt,str,ix,sz,day,ser,cnt,pl,root,pa,si,pt,sq⟩,a6,d6,a7,d7,a8,d8⟩:RcV).r)) (by
  rw [numF_number,findN_ins HB5.o.good HVR.o HFN.o,if_pos ⟨rfl,rfl⟩]
  rfl) (fun key l hk hne=>numF_ins HB5.o.good HVR.o HFN.o hne)
 have HM9:=hid hm9
 have HGW9:=hid hg9
 have HSZ9:=hid hs9
 unfold numberV at hrun9
 clear hm9 hg9 hs9 hkl
 have HST14:Hid ((w9.cell? ⟨bk,0,none⟩=some (.map (some b1))∧w9.cell? ⟨bk,1,none⟩=some (.map (some b2)))∧(w9.cell? ⟨N,0,none⟩=some (.int .i64 hol)∧w9.cell? ⟨N,1,none⟩=some (.int .i64 vlt)∧w9.cell? ⟨N,2,none⟩=some (.string str)∧w9.cell? ⟨N,3,none⟩=some (.int .i64 ix)∧w9.cell? ⟨N,4,none⟩=some (.int .i64 sz)∧w9.cell? ⟨N,5,none⟩=some (.int .i64 day)∧w9.cell? ⟨N,6,none⟩=some (.int .i64 ser)∧w9.cell? ⟨N,7,none⟩=some (.int .i64 cnt)∧w9.cell? ⟨N,8,none⟩=some (.int .i64 pl)∧w9.cell? ⟨N,9,none⟩=some (.string root)∧w9.cell? ⟨N,10,none⟩=some (.slice ap n1 c1)∧w9.cell? ⟨N,11,none⟩=some (.int .i64 si)∧w9.cell? ⟨N,12,none⟩=some (.slice aq n2 c2)∧w9.cell? ⟨N,13,none⟩=some (.slice ar n3 c3))∧(w9.cell? ⟨N1,0,none⟩=some (.int .i64 hol)∧w9.cell? ⟨N1,1,none⟩=some (.int .i64 ser))):=hid (by
  have hb2:=HBK.o.lt b2 HBK.o.o2
  have e: ∀q,q<w5.heap.size→ ¬laIs la q→q≠b1→q≠b2→w9.heap[q]? =w5.heap[q]? :=fun q h1 h2 h3 h4=>(HGW9.o.block q (by have:=HSZ67.o;have:=H8.o.size;omega) (fun e=>by injection e with e;exact h4 e)).trans ((H8.o.block q (by have:=HSZ67.o;omega)).trans (HB7.o q h1 h2 h3))
  have hb1:=HBK.o.lt b1 HBK.o.o1
  have e1:=e bk HBS.o.1 (fun hq=>(HNLA.o bk hq).2.1 rfl) HBS.o.2.2.2.1 HBS.o.2.2.2.2
  have e2:=e N HPN.o.1 (fun hq=>by have:=(HNLA.o N hq).1;have:=HPN.o;omega) (by have:=HPN.o;omega) (by have:=HPN.o;omega)
  have e3:=e PL HPN.o.2.1 (fun hq=>by have:=(HNLA.o PL hq).1;have:=HPN.o;omega) (by have:=HPN.o;omega) (by have:=HPN.o;omega)
  have e4:=(e N1 HPN.o.2.2.2.2.1 (fun hq=>by have:=(HNLA.o N1 hq).1;have:=HPN.o;omega) (by have:=HPN.o;omega) (by have:=HPN.o;omega)).trans HN15.o
  obtain ⟨f1,f2,_⟩:=HST6.o w9 e1 e2 e3
  exact ⟨f1,f2,cr e4,cr e4⟩)
 refine Kit.gplan_op (by rfl) (by rfl) fun K hK=> ?_
 go_simp
 refine hK _ _ HST14.o ?_
 clear hK K hrun9
 refine Kit.gdn (h:=?_)
 go_wp2_with fail
 go_ret
 have hbook:=HB5.o.added (x:=(⟨⟨hol,vlt,str,ix,sz,day,ser,cnt,pl,root,pa,si,pt,sq⟩,a6,d6,a7,d7,a8,d8⟩:RcV)) HVR.o HFN.o HLA.o HK.o.symm (B:=w.heap.size) HW5.o.size (fun q hq=>HBK.o.lt q hq) HXK.o HXB.o HBL.o HR6.o HC6.o HM7.o HGW7.o H8.o HM9.o HGW9.o
 refine ⟨rfl,⟨_,hbook⟩,?_⟩
 refine (Chg.of_below HW5.o).trans ((HC6.o.mono (fun q _ _ h=>(HLAO.o q h).1)).trans ((Chg.of_grown HGW7.o (fun q i e=>by injection e with e;rw [← e];exact HBK.o.o1)).trans ((Chg.of_below H8.o).trans (Chg.of_grown HGW9.o (fun q i e=>by injection e with e;rw [← e];exact HBK.o.o2)))))
theorem add_any (O:Nat→Prop) (bk:Nat) (m:List Rc) (c:Nat) (hc:c≤100000) (hol vlt:Int) (str:ByteArray) (ix sz day ser cnt pl:Int) (root:ByteArray) (ap:Option Addr) (n1 c1:Nat) (si:Int) (aq:Option Addr) (n2 c2:Nat) (ar:Option Addr) (n3 c3:Nat) (pa pt sq:List ByteArray) (w:World) (h1:pa.length=n1) (k1:n1<9223372036854775808) (s1:StrsAt w ap pa) (h2:pt.length=n2) (k2:n2<9223372036854775808) (s2:StrsAt w aq pt) (h3:sq.length=n3) (k3:n3<9223372036854775808) (s3:StrsAt w ar sq) (hB:BookAt w O bk m c):Calls Tryz.prog 42 #[.pointer (some ⟨bk,0,none⟩),.agg #[.int .i64 hol,.int .i64 vlt,.string str,.int .i64 ix,.int .i64 sz,.int .i64 day,.int .i64 ser,.int .i64 cnt,.int .i64 pl,.string root,.slice ap n1 c1,.int .i64 si,.slice aq n2 c2,.slice ar n3 c3]] w fun e w'=>e= .returned (.int .i64 (addP m ⟨hol,vlt,str,ix,sz,day,ser,cnt,pl,root,pa,si,pt,sq⟩).2)∧(∃O',BookAt w' O' bk (addP m ⟨hol,vlt,str,ix,sz,day,ser,cnt,pl,root,pa,si,pt,sq⟩).1 (c+1)∧(∀q,O' q→O q∨w.heap.size≤q)∧ ∀q,O q→O' q)∧Chg (fun q _=>O q) w w':=by
 unfold addP
 cases hv:validR ⟨hol,vlt,str,ix,sz,day,ser,cnt,pl,root,pa,si,pt,sq⟩ with
 | false=>
   refine (add_bad bk hol vlt str ix sz day ser cnt pl root ap n1 c1 si aq n2 c2 ar n3 c3 pa pt sq w h1 k1 s1 h2 k2 s2 h3 k3 s3 hv).mono ?_
   rintro e w' ⟨rfl,h⟩
   exact ⟨rfl,⟨O,(hB.later h).mono (Nat.le_succ c),fun q hq=> .inl hq,fun q hq=>hq⟩,Chg.of_below h⟩
 | true=>
   obtain ⟨b1,b2,R,hR⟩:=hB
   rw [if_pos rfl]
   cases hf:findN m hol ser with
   | some y=>
     refine (add_found O bk b1 b2 R m c hol vlt str ix sz day ser cnt pl root ap n1 c1 si aq n2 c2 ar n3 c3 pa pt sq y.hol y.vlt y.sz y.day y.ser y.str y.ix w h1 k1 s1 h2 k2 s2 h3 k3 s3 hv y rfl hf hR).mono ?_
     rintro e w' ⟨rfl,h⟩
     have hb:BookAt w' O bk m (c+1):=BookAt.mono ⟨b1,b2,R,hR.later h⟩ (Nat.le_succ c)
     by_cases hd:y.sg=(⟨hol,vlt,str,ix,sz,day,ser,cnt,pl,root,pa,si,pt,sq⟩:Rc).sg
     ·have e1:decide ((⟨y.hol,y.vlt,y.sz,y.day,y.ser,y.str,y.ix⟩:Sg)=⟨hol,vlt,sz,day,ser,str,ix⟩)=true:=decide_eq_true hd
      rw [if_pos e1]
      simp only [hf,if_pos hd]
      exact ⟨trivial,⟨O,hb,fun q hq=> .inl hq,fun q hq=>hq⟩,Chg.of_below h⟩
     ·have e1: ¬decide ((⟨y.hol,y.vlt,y.sz,y.day,y.ser,y.str,y.ix⟩:Sg)=⟨hol,vlt,sz,day,ser,str,ix⟩)=true:=fun e=>hd (of_decide_eq_true e)
      rw [if_neg e1]
      simp only [hf,if_neg hd]
      exact ⟨trivial,⟨O,hb,fun q hq=> .inl hq,fun q hq=>hq⟩,Chg.of_below h⟩
   | none=>
     refine (add_new O bk b1 b2 R m c hc hol vlt str ix sz day ser cnt pl root ap n1 c1 si aq n2 c2 ar n3 c3 pa pt sq w h1 k1 s1 h2 k2 s2 h3 k3 s3 hv hf hR).mono ?_
     rintro e w' ⟨rfl,⟨R',h1⟩,h2⟩
     simp only [hf]
     exact ⟨trivial,⟨_,⟨b1,b2,R',h1⟩,fun q hq=>hq.imp id (fun h=>h.1),fun q hq=> .inl hq⟩,h2⟩
end Go.Proofs.YtndlihclgdkpaaaGreatDoor

/- The document's Encode of a receipt. -/
import Derived.Test.YtndlihclgdkpaaaGreatDoorQvl
set_option linter.unusedVariables false
set_option linter.unusedSimpArgs false
open Go.Lib (hid)
set_option maxHeartbeats 4000000
set_option maxRecDepth 100000
namespace Go.Proofs.YtndlihclgdkpaaaGreatDoor
open Go.RowKit
open Kit (Chg)
open Sha (v)
open Go.Proofs.YtndlihclgdkpaaaGreatDoor.One

section
theorem signed43_own (hol vlt:Int) (str:ByteArray) (ix sz day ser cnt pl:Int) (root:ByteArray) (ap:Option Addr) (n1 c1:Nat) (si:Int) (aq:Option Addr) (n2 c2:Nat) (ar:Option Addr) (n3 c3:Nat) (pa pt sq:List ByteArray) (hv:SgV ⟨hol,vlt,str,ix,sz,day,ser,cnt,pl,root,pa,si,pt,sq⟩) (w:World):Calls Tryz.prog 123 #[.agg #[.int .i64 hol,.int .i64 vlt,.string str,.int .i64 ix,.int .i64 sz,.int .i64 day,.int .i64 ser,.int .i64 cnt,.int .i64 pl,.string root,.slice ap n1 c1,.int .i64 si,.slice aq n2 c2,.slice ar n3 c3]] w fun e w'=> ∃(b:Nat) (l:List RV),e= .returned (.slice (some ⟨b,0,none⟩) 7 7)∧l.length=7∧(∀x ∈ l,x.ok)∧l.flatMap RV.enc=encS ⟨hol,vlt,str,ix,sz,day,ser,cnt,pl,root,pa,si,pt,sq⟩∧(w.heap.size≤b∧w'.heap[b]? =some (.cells (rvs l).toArray 187 (0,0)))∧Below w.heap.size w w':=by
 obtain ⟨d0,rfl⟩: ∃n:Nat,hol=(n:Int):=⟨hol.toNat,by have:=hv.h0;simp only at this;omega⟩
 obtain ⟨d1,rfl⟩: ∃n:Nat,vlt=(n:Int):=⟨vlt.toNat,by have:=hv.gd.v0;simp only at this;omega⟩
 obtain ⟨d2,rfl⟩: ∃n:Nat,ix=(n:Int):=⟨ix.toNat,by have:=hv.gd.i0;simp only at this;omega⟩
 obtain ⟨d3,rfl⟩: ∃n:Nat,sz=(n:Int):=⟨sz.toNat,by have:=hv.gd.s0;simp only at this;omega⟩
 obtain ⟨d4,rfl⟩: ∃n:Nat,day=(n:Int):=⟨day.toNat,by have:=hv.d0;simp only at this;omega⟩
 obtain ⟨d5,rfl⟩: ∃n:Nat,ser=(n:Int):=⟨ser.toNat,by have:=hv.s0;simp only at this;omega⟩
 have HQ:Hid (d0≤1099511627776∧d1≤1099511627776∧d2≤1099511627776∧d3≤1099511627776∧d4≤1099511627776∧d5≤1099511627776∧str.size=32):=hid ⟨by have:=hv.h1;simp only at this;omega,by have:=hv.gd.v1;simp only at this;omega,by have:=hv.gd.i1;simp only at this;omega,by have:=hv.gd.s1;simp only at this;omega,by have:=hv.d1;simp only at this;omega,by have:=hv.s1;simp only at this;omega,hv.gd.st⟩
 have HOK:Hid (∀x ∈ [RV.uint d0,RV.uint d1,RV.sum str,RV.uint d2,RV.uint d3,RV.uint d4,RV.uint d5],x.ok):=hid (by
  have:=HQ.o
  intro x hx
  simp only [List.mem_cons,List.not_mem_nil,or_false] at hx
  rcases hx with rfl | rfl | rfl | rfl | rfl | rfl | rfl<;> unfold RV.ok<;> simp only<;> omega)
 have HTT:Hid ([RV.uint d0,RV.uint d1,RV.sum str,RV.uint d2,RV.uint d3,RV.uint d4,RV.uint d5].flatMap RV.enc=encS ⟨(d0:Int),(d1:Int),str,(d2:Int),(d3:Int),(d4:Int),(d5:Int),cnt,pl,root,pa,si,pt,sq⟩):=hid (by
  show num d0++(num d1++(nb str++(num d2++(num d3++(num d4++(num d5++[]))))))=_
  unfold encS encS.headN
  simp)
 obtain ⟨T,hT⟩:=ex_eq (encS ⟨(d0:Int),(d1:Int),str,(d2:Int),(d3:Int),(d4:Int),(d5:Int),cnt,pl,root,pa,si,pt,sq⟩)
 rw [hT] at HTT ⊢
 clear hT hv
 go_enter Tryz.func123,Tryz.ntmps123
 go_upto_region 1 with fail
 refine wp_over (fun W=>Hid (W.heap[w.heap.size]? =some (.cells #[.int .i64 (d0:Int),.int .i64 (d1:Int),.string str,.int .i64 (d2:Int),.int .i64 (d3:Int),.int .i64 (d4:Int),.int .i64 (d5:Int),.int .i64 cnt,.int .i64 pl,.string root,.slice ap n1 c1,.int .i64 si,.slice aq n2 c2,.slice ar n3 c3] 47 (0,0)))∧Hid (Below w.heap.size w W)∧Hid (W.heap.size=w.heap.size+1)) ⟨heap_alloc_new _ _,(Below.refl _ _).alloc (Nat.le_refl _) _,by show _=_;simp⟩ ?_
 rintro W ⟨HG,HB,HWS⟩
 have HBW0:Hid (∀V,Below (w.heap.size+1) W V→Below w.heap.size w V):=hid (fun V h=>HB.o.trans (h.mono (Nat.le_succ _)))
 obtain ⟨N,hN⟩:=ex_eq w.heap.size
 have HN:=hid hN
 have HBW:Hid (∀V,Below (N+1) W V→Below w.heap.size w V):=hid (fun V h=>HBW0.o V (by rw [hN];exact h))
 rw [hN] at HG HB HWS ⊢
 clear hN HBW0
 have HCC:Hid (∀V,Below (N+1) W V→V.cell? ⟨N,0,none⟩=some (.int .i64 (d0:Int))∧V.cell? ⟨N,1,none⟩=some (.int .i64 (d1:Int))∧V.cell? ⟨N,2,none⟩=some (.string str)∧V.cell? ⟨N,3,none⟩=some (.int .i64 (d2:Int))∧V.cell? ⟨N,4,none⟩=some (.int .i64 (d3:Int))∧V.cell? ⟨N,5,none⟩=some (.int .i64 (d4:Int))∧V.cell? ⟨N,6,none⟩=some (.int .i64 (d5:Int))∧V.cell? ⟨N,7,none⟩=some (.int .i64 cnt)∧V.cell? ⟨N,8,none⟩=some (.int .i64 pl)∧V.cell? ⟨N,9,none⟩=some (.string root)∧V.cell? ⟨N,10,none⟩=some (.slice ap n1 c1)∧V.cell? ⟨N,11,none⟩=some (.int .i64 si)∧V.cell? ⟨N,12,none⟩=some (.slice aq n2 c2)∧V.cell? ⟨N,13,none⟩=some (.slice ar n3 c3)):=hid (fun V h=>row14 ((h.block N (Nat.lt_succ_self _)).trans HG.o))
 have HST:Hid (∀V V',Below (N+1) W V→Below V.heap.size V V'→Below (N+1) W V'):=hid (fun V V' h h'=>h.trans (h'.mono (by have:=h.size;have:=HWS.o;omega)))
 have HL:Hid (Below (N+1) W W.drew):=hid (Below.refl _ _).drew
 obtain ⟨VD,hVD⟩:=ex_eq W.drew
 rw [hVD] at HL
 refine Kit.wp_region_gplan (fun V=>V.cell? ⟨N,0,none⟩=some (.int .i64 (d0:Int))∧V.cell? ⟨N,1,none⟩=some (.int .i64 (d1:Int))∧V.cell? ⟨N,2,none⟩=some (.string str)∧V.cell? ⟨N,3,none⟩=some (.int .i64 (d2:Int))∧V.cell? ⟨N,4,none⟩=some (.int .i64 (d3:Int))∧V.cell? ⟨N,5,none⟩=some (.int .i64 (d4:Int))∧V.cell? ⟨N,6,none⟩=some (.int .i64 (d5:Int))∧V.cell? ⟨N,7,none⟩=some (.int .i64 cnt)∧V.cell? ⟨N,8,none⟩=some (.int .i64 pl)∧V.cell? ⟨N,9,none⟩=some (.string root)∧V.cell? ⟨N,10,none⟩=some (.slice ap n1 c1)∧V.cell? ⟨N,11,none⟩=some (.int .i64 si)∧V.cell? ⟨N,12,none⟩=some (.slice aq n2 c2)∧V.cell? ⟨N,13,none⟩=some (.slice ar n3 c3)) [(true,0),(true,1),(true,3),(true,4),(true,6),(true,7),(true,8),(true,10),(true,11),(true,12),(true,14),(true,15),(true,17),(true,18),(true,20),(true,21),(false,2),(false,5),(false,9),(false,13),(false,16),(false,19),(false,22),(false,23),(true,24)] (by kernel_rfl) (by kernel_rfl) (by kernel_rfl) (by kernel_rfl) (by rw [hVD];exact HCC.o _ HL.o) ?_
 rw [hVD]
 clear hVD
 iterate 16 (refine Kit.ghd (h:= ?_))
 refine Kit.gplan_op (by rfl) (by rfl) fun K hK=> ?_
 go_simp
 go_at_call 124
 with_reducible refine (num43_any d0 (by have:=HQ.o;omega) _).mono ?_
 rintro e w2 ⟨rfl,h2⟩
 have HM:Hid (Below (N+1) W w2):=hid (HST.o _ _ HL.o h2)
 clear h2 HL
 have HL:=HM
 clear HM
 refine hK _ _ (HCC.o _ HL.o) ?_
 clear hK K
 refine Kit.gplan_op (by rfl) (by rfl) fun K hK=> ?_
 go_simp
 go_at_call 124
 with_reducible refine (num43_any d1 (by have:=HQ.o;omega) _).mono ?_
 rintro e w2 ⟨rfl,h2⟩
 have HM:Hid (Below (N+1) W w2):=hid (HST.o _ _ HL.o h2)
 clear h2 HL
 have HL:=HM
 clear HM
 refine hK _ _ (HCC.o _ HL.o) ?_
 clear hK K
 refine Kit.gplan_op (by rfl) (by rfl) fun K hK=> ?_
 go_simp
 go_at_call 126
 with_reducible refine (sum43_any str _).mono ?_
 rintro e w2 ⟨rfl,h2⟩
 have HM:Hid (Below (N+1) W w2):=hid (HST.o _ _ HL.o h2)
 clear h2 HL
 have HL:=HM
 clear HM
 refine hK _ _ (HCC.o _ HL.o) ?_
 clear hK K
 refine Kit.gplan_op (by rfl) (by rfl) fun K hK=> ?_
 go_simp
 go_at_call 124
 with_reducible refine (num43_any d2 (by have:=HQ.o;omega) _).mono ?_
 rintro e w2 ⟨rfl,h2⟩
 have HM:Hid (Below (N+1) W w2):=hid (HST.o _ _ HL.o h2)
 clear h2 HL
 have HL:=HM
 clear HM
 refine hK _ _ (HCC.o _ HL.o) ?_
 clear hK K
 refine Kit.gplan_op (by rfl) (by rfl) fun K hK=> ?_
 go_simp
 go_at_call 124
 with_reducible refine (num43_any d3 (by have:=HQ.o;omega) _).mono ?_
 rintro e w2 ⟨rfl,h2⟩
 have HM:Hid (Below (N+1) W w2):=hid (HST.o _ _ HL.o h2)
 clear h2 HL
 have HL:=HM
 clear HM
 refine hK _ _ (HCC.o _ HL.o) ?_
 clear hK K
 refine Kit.gplan_op (by rfl) (by rfl) fun K hK=> ?_
 go_simp
 go_at_call 124
 with_reducible refine (num43_any d4 (by have:=HQ.o;omega) _).mono ?_
 rintro e w2 ⟨rfl,h2⟩
 have HM:Hid (Below (N+1) W w2):=hid (HST.o _ _ HL.o h2)
 clear h2 HL
 have HL:=HM
 clear HM
 refine hK _ _ (HCC.o _ HL.o) ?_
 clear hK K
 refine Kit.gplan_op (by rfl) (by rfl) fun K hK=> ?_
 go_simp
 go_at_call 124
 with_reducible refine (num43_any d5 (by have:=HQ.o;omega) _).mono ?_
 rintro e w2 ⟨rfl,h2⟩
 have HM:Hid (Below (N+1) W w2):=hid (HST.o _ _ HL.o h2)
 clear h2 HL
 have HL:=HM
 clear HM
 refine hK _ _ (HCC.o _ HL.o) ?_
 clear hK K
 rename World=>wl
 refine Kit.gplan_op (by rfl) (by rfl) fun K hK=> ?_
 go_simp
 have HZB:Hid (Below (N+1) W (wl.alloc (.cells #[.int .i64 1,.int .u64 (d0:Int),.int .i64 0,.bool false,.string { data:= #[] },.int .i64 0,.int .i64 1,.int .u64 (d1:Int),.int .i64 0,.bool false,.string { data:= #[] },.int .i64 0,.int .i64 6,.int .u64 0,.int .i64 0,.bool false,.string str,.int .i64 0,.int .i64 1,.int .u64 (d2:Int),.int .i64 0,.bool false,.string { data:= #[] },.int .i64 0,.int .i64 1,.int .u64 (d3:Int),.int .i64 0,.bool false,.string { data:= #[] },.int .i64 0,.int .i64 1,.int .u64 (d4:Int),.int .i64 0,.bool false,.string { data:= #[] },.int .i64 0,.int .i64 1,.int .u64 (d5:Int),.int .i64 0,.bool false,.string { data:= #[] },.int .i64 0] 187))):=hid (HL.o.alloc (by have:=HL.o.size;have:=HWS.o;omega) _)
 refine hK _ _ (HCC.o _ HZB.o) ?_
 clear hK K
 iterate 1 (refine Kit.ghd (h:= ?_))
 refine Kit.gdn (h:=?_)
 have HVA:Hid (VsAt (wl.alloc (.cells #[.int .i64 1,.int .u64 (d0:Int),.int .i64 0,.bool false,.string { data:= #[] },.int .i64 0,.int .i64 1,.int .u64 (d1:Int),.int .i64 0,.bool false,.string { data:= #[] },.int .i64 0,.int .i64 6,.int .u64 0,.int .i64 0,.bool false,.string str,.int .i64 0,.int .i64 1,.int .u64 (d2:Int),.int .i64 0,.bool false,.string { data:= #[] },.int .i64 0,.int .i64 1,.int .u64 (d3:Int),.int .i64 0,.bool false,.string { data:= #[] },.int .i64 0,.int .i64 1,.int .u64 (d4:Int),.int .i64 0,.bool false,.string { data:= #[] },.int .i64 0,.int .i64 1,.int .u64 (d5:Int),.int .i64 0,.bool false,.string { data:= #[] },.int .i64 0] 187)) (some ⟨wl.heap.size,0,none⟩) [RV.uint d0,RV.uint d1,RV.sum str,RV.uint d2,RV.uint d3,RV.uint d4,RV.uint d5]):=hid (vs_of_row (heap_alloc_new wl _) (by rfl))
 go_wp2_with fail
 go_ret
 exact ⟨_,rfl,_,rfl,HOK.o,HTT.o,⟨by have:=HL.o.size;have:=HWS.o;have:=HN.o;omega,heap_alloc_new _ _⟩,HBW.o _ HZB.o⟩
end
theorem own_vs1 {w:World} {B n:Nat} {v:Value} {l:List RV} (h:w.ownsRow B 187 6 v n (rvs l)) (hn:0<n): ∃ad cap,v= .slice (some ad) n cap∧VsAt w (some ad) l∧l.length=n:=by
 obtain ⟨a,cap,rfl,hV,hl⟩:=own_vs h
 cases a with
 | none=>
   rcases hV with e | ⟨_,_,e,_⟩
   ·rw [e] at hl;simp at hl;omega
   ·cases e
 | some ad=>exact ⟨ad,cap,rfl,hV,hl⟩
theorem lstV_ok (ss:List ByteArray) (h: ∀s ∈ ss,s.size=32) (hl:ss.length<9223372036854775808): ∀x ∈ lstV ss ss.length,x.ok:=by
 intro x hx
 unfold lstV at hx
 rw [List.take_length] at hx
 rcases List.mem_cons.1 hx with rfl | hx
 ·exact hl
 ·obtain ⟨s,hs,rfl⟩:=List.mem_map.1 hx
  exact h s hs
theorem refEncodeR_ok (hol vlt:Int) (str:ByteArray) (ix sz day ser cnt pl:Int) (root:ByteArray) (ap:Option Addr) (n1 c1:Nat) (si:Int) (aq:Option Addr) (n2 c2:Nat) (ar:Option Addr) (n3 c3:Nat) (pa pt sq:List ByteArray) (w:World) (h1:pa.length=n1) (k1:n1<9223372036854775808) (s1:StrsAt w ap pa) (h2:pt.length=n2) (k2:n2<9223372036854775808) (s2:StrsAt w aq pt) (h3:sq.length=n3) (k3:n3<9223372036854775808) (s3:StrsAt w ar sq) (hv:ValidR ⟨hol,vlt,str,ix,sz,day,ser,cnt,pl,root,pa,si,pt,sq⟩) (T:List Nat) (hT:encR ⟨hol,vlt,str,ix,sz,day,ser,cnt,pl,root,pa,si,pt,sq⟩=T):Calls Tryz.prog 34 #[.agg #[.int .i64 hol,.int .i64 vlt,.string str,.int .i64 ix,.int .i64 sz,.int .i64 day,.int .i64 ser,.int .i64 cnt,.int .i64 pl,.string root,.slice ap n1 c1,.int .i64 si,.slice aq n2 c2,.slice ar n3 c3]] w fun e w'=> ∃ad L cap,e= .returned (.slice ad L cap)∧T.length=L∧BytesAt w' ad T∧Below w.heap.size w w':=by
 obtain ⟨dc,rfl⟩: ∃n:Nat,cnt=(n:Int):=⟨cnt.toNat,by have:=hv.c0;simp only at this;omega⟩
 obtain ⟨dp,rfl⟩: ∃n:Nat,pl=(n:Int):=⟨pl.toNat,by have:=hv.p0;simp only at this;omega⟩
 obtain ⟨di,rfl⟩: ∃n:Nat,si=(n:Int):=⟨si.toNat,by have:=hv.x0;simp only at this;omega⟩
 have HSV:Hid (SgV (⟨hol,vlt,str,ix,sz,day,ser,(dc:Int),(dp:Int),root,pa,(di:Int),pt,sq⟩:Rc)):=hid hv.sgv
 have HQ:Hid (dc≤1000∧dp≤1000∧di≤1000∧n1≤8∧n2≤300∧n3≤8∧root.size=32):=hid (by
  have a1:=hv.c1;have a2:=hv.p1;have a3:=hv.x1;have a4:=hv.pn;have a5:=hv.an;have a6:=hv.qn;have a7:=hv.rt
  simp only at a1 a2 a3 a4 a5 a6 a7
  exact ⟨by omega,by omega,by omega,by omega,by omega,by omega,a7⟩)
 have HLS:Hid (pa.length=n1∧pt.length=n2∧sq.length=n3):=hid ⟨h1,h2,h3⟩
 have HZZ:Hid ((∀x ∈ lstV pa n1,x.ok)∧(∀x ∈ lstV pt n2,x.ok)∧ ∀x ∈ lstV sq n3,x.ok):=hid (by
  rw [← h1,← h2,← h3]
  exact ⟨lstV_ok pa hv.ps (by omega),lstV_ok pt hv.am (by omega),lstV_ok sq hv.qs (by omega)⟩)
 have HTL:Hid (T.length≤1048576):=hid (by rw [← hT];have:=encR_len hv;omega)
 have HTE:Hid (encS (⟨hol,vlt,str,ix,sz,day,ser,(dc:Int),(dp:Int),root,pa,(di:Int),pt,sq⟩:Rc)++(num dc++(num dp++(encL pa++(nb root++(num di++(encL pt++encL sq))))))=T):=hid (by
  rw [← hT]
  unfold encR
  simp only [List.append_assoc,Int.toNat_natCast,List.flatMap_cons,List.flatMap_nil,List.append_nil])
 have HSI:=hid (fun w=>signed43_own hol vlt str ix sz day ser (dc:Int) (dp:Int) root ap n1 c1 (di:Int) aq n2 c2 ar n3 c3 pa pt sq HSV.o w)
 obtain ⟨TS,hTS⟩:=ex_eq (encS (⟨hol,vlt,str,ix,sz,day,ser,(dc:Int),(dp:Int),root,pa,(di:Int),pt,sq⟩:Rc))
 rw [hTS] at HSI HTE
 have HS1:Hid (∀V,Below w.heap.size w V→StrsAt V ap pa∧StrsAt V aq pt∧StrsAt V ar sq):=hid (fun V h=>⟨s1.later h,s2.later h,s3.later h⟩)
 clear hv hT hTS h1 h2 h3 k1 k2 k3 s1 s2 s3
 go_enter Tryz.func34,Tryz.ntmps34
 go_upto_region 1 with fail
 refine wp_over (fun W=>Hid (W.heap[w.heap.size]? =some (.cells #[.int .i64 hol,.int .i64 vlt,.string str,.int .i64 ix,.int .i64 sz,.int .i64 day,.int .i64 ser,.int .i64 (dc:Int),.int .i64 (dp:Int),.string root,.slice ap n1 c1,.int .i64 (di:Int),.slice aq n2 c2,.slice ar n3 c3] 47 (0,0)))∧Hid (Below w.heap.size w W)∧Hid (W.heap.size=w.heap.size+1)) ⟨heap_alloc_new _ _,(Below.refl _ _).alloc (Nat.le_refl _) _,by show _=_;simp⟩ ?_
 rintro W ⟨HG,HB,HWS⟩
 obtain ⟨N,hN⟩:=ex_eq w.heap.size
 have HN:=hid hN
 have HBW:Hid (∀V,Below (N+1) W V→Below w.heap.size w V):=hid (fun V h=>HB.o.trans (h.mono (by omega)))
 rw [hN] at HG HB HWS ⊢
 clear hN
 have HS:Hid (StrsAt W ap pa∧StrsAt W aq pt∧StrsAt W ar sq):=hid (HS1.o W (by rw [HN.o];exact HB.o))
 have HLT:Hid (∀V,Below (N+1) W V→Below W.heap.size W V):=hid (fun V h=>by rw [HWS.o];exact h)
 have HCC:Hid (∀V,Below (N+1) W V→V.cell? ⟨N,0,none⟩=some (.int .i64 hol)∧V.cell? ⟨N,1,none⟩=some (.int .i64 vlt)∧V.cell? ⟨N,2,none⟩=some (.string str)∧V.cell? ⟨N,3,none⟩=some (.int .i64 ix)∧V.cell? ⟨N,4,none⟩=some (.int .i64 sz)∧V.cell? ⟨N,5,none⟩=some (.int .i64 day)∧V.cell? ⟨N,6,none⟩=some (.int .i64 ser)∧V.cell? ⟨N,7,none⟩=some (.int .i64 (dc:Int))∧V.cell? ⟨N,8,none⟩=some (.int .i64 (dp:Int))∧V.cell? ⟨N,9,none⟩=some (.string root)∧V.cell? ⟨N,10,none⟩=some (.slice ap n1 c1)∧V.cell? ⟨N,11,none⟩=some (.int .i64 (di:Int))∧V.cell? ⟨N,12,none⟩=some (.slice aq n2 c2)∧V.cell? ⟨N,13,none⟩=some (.slice ar n3 c3)):=hid (fun V h=>row14 ((h.block N (Nat.lt_succ_self N)).trans HG.o))
 have HST:Hid (∀V V',Below (N+1) W V→Below V.heap.size V V'→Below (N+1) W V'):=hid (fun V V' h h'=>h.trans (h'.mono (by have:=h.size;have:=HWS.o;omega)))
 have HVD:Hid (Below (N+1) W W.drew):=hid (Below.refl _ _).drew
 obtain ⟨VD,hVD⟩:=ex_eq W.drew
 rw [hVD] at HVD
 refine Kit.wp_region_gplan (fun V=>V.cell? ⟨N,0,none⟩=some (.int .i64 hol)∧V.cell? ⟨N,1,none⟩=some (.int .i64 vlt)∧V.cell? ⟨N,2,none⟩=some (.string str)∧V.cell? ⟨N,3,none⟩=some (.int .i64 ix)∧V.cell? ⟨N,4,none⟩=some (.int .i64 sz)∧V.cell? ⟨N,5,none⟩=some (.int .i64 day)∧V.cell? ⟨N,6,none⟩=some (.int .i64 ser)∧V.cell? ⟨N,7,none⟩=some (.int .i64 (dc:Int))∧V.cell? ⟨N,8,none⟩=some (.int .i64 (dp:Int))∧V.cell? ⟨N,9,none⟩=some (.string root)∧V.cell? ⟨N,10,none⟩=some (.slice ap n1 c1)∧V.cell? ⟨N,11,none⟩=some (.int .i64 (di:Int))∧V.cell? ⟨N,12,none⟩=some (.slice aq n2 c2)∧V.cell? ⟨N,13,none⟩=some (.slice ar n3 c3)) [(true,0),(true,2),(true,3),(true,5),(true,6),(false,1),(false,4),(false,7),(false,8),(false,9),(true,10)] (by kernel_rfl) (by kernel_rfl) (by kernel_rfl) (by kernel_rfl) (by rw [hVD];exact HCC.o _ HVD.o) ?_
 rw [hVD]
 clear hVD
 iterate 5 (refine Kit.ghd (h:= ?_))
 refine Kit.gplan_op (by rfl) (by rfl) fun K' hK'=> ?_
 go_simp
 go_at_call 123
 with_reducible refine (HSI.o _).mono ?_
 rintro e v1 ⟨b7,l7,rfl,hl7,hok7,hen7,⟨hb7,hg7⟩,hb⟩
 have Hv1:Hid (Below (N+1) W v1):=hid (HST.o _ _ HVD.o hb)
 have HL7:=hid hl7
 have HK7:=hid hok7
 have HE7:=hid hen7
 have HO1:Hid (v1.ownsRow (N+1) 187 6 (.slice (some ⟨b7,0,none⟩) 7 7) (7) (rvs (l7))):=hid (by
  have h:=own_new (w0:=W) (B:=N+1) hg7 (by have:=HVD.o.size;have:=HWS.o;omega) (by omega)
  rwa [hl7] at h)
 clear hl7 hok7 hen7 hb7 hg7 hb
 refine hK' _ _ (HCC.o _ Hv1.o) ?_
 clear hK' K'
 refine Kit.gplan_op (by rfl) (by rfl) fun K' hK'=> ?_
 go_simp
 go_at_call 124
 with_reducible refine (num43_any dc (by have:=HQ.o;omega) _).mono ?_
 rintro e v2 ⟨rfl,hb⟩
 have Hv2:Hid (Below (N+1) W v2):=hid (HST.o _ _ Hv1.o hb)
 have HO2:Hid (v2.ownsRow (N+1) 187 6 (.slice (some ⟨b7,0,none⟩) 7 7) (7) (rvs (l7))):=hid (own_later HO1.o hb)
 clear hb
 refine hK' _ _ (HCC.o _ Hv2.o) ?_
 clear hK' K'
 refine Kit.gplan_op (by rfl) (by rfl) fun K' hK'=> ?_
 go_simp
 go_at_call 124
 with_reducible refine (num43_any dp (by have:=HQ.o;omega) _).mono ?_
 rintro e v3 ⟨rfl,hb⟩
 have Hv3:Hid (Below (N+1) W v3):=hid (HST.o _ _ Hv2.o hb)
 have HO3:Hid (v3.ownsRow (N+1) 187 6 (.slice (some ⟨b7,0,none⟩) 7 7) (7) (rvs (l7))):=hid (own_later HO2.o hb)
 clear hb
 refine hK' _ _ (HCC.o _ Hv3.o) ?_
 clear hK' K'
 refine Kit.gplan_op (by rfl) (by rfl) fun K' hK'=> ?_
 go_simp
 have HA3:Hid (Below (N+1) W (v3.alloc (.cells #[.int .i64 1,.int .u64 (dc:Int),.int .i64 0,.bool false,.string { data:= #[] },.int .i64 0,.int .i64 1,.int .u64 (dp:Int),.int .i64 0,.bool false,.string { data:= #[] },.int .i64 0] 187))):=hid (Hv3.o.alloc (by have:=Hv3.o.size;have:=HWS.o;omega) _)
 have HOA:Hid ((v3.alloc (.cells #[.int .i64 1,.int .u64 (dc:Int),.int .i64 0,.bool false,.string { data:= #[] },.int .i64 0,.int .i64 1,.int .u64 (dp:Int),.int .i64 0,.bool false,.string { data:= #[] },.int .i64 0] 187)).ownsRow (N+1) 187 6 (.slice (some ⟨b7,0,none⟩) 7 7) (7) (rvs (l7))):=hid (own_later HO3.o ((Below.refl _ _).alloc (Nat.le_refl _) _))
 have HVA:Hid (VsAt (v3.alloc (.cells #[.int .i64 1,.int .u64 (dc:Int),.int .i64 0,.bool false,.string { data:= #[] },.int .i64 0,.int .i64 1,.int .u64 (dp:Int),.int .i64 0,.bool false,.string { data:= #[] },.int .i64 0] 187)) (some ⟨v3.heap.size,0,none⟩) [RV.uint dc,RV.uint dp]):=hid (vs_of_row (heap_alloc_new _ _) rfl)
 refine hK' _ _ (HCC.o _ HA3.o) ?_
 clear hK' K' HO1 HO2 HO3
 refine Kit.gplan_op (by rfl) (by rfl) fun K' hK'=> ?_
 refine wp_app_vs _ _ (by rfl) (N+1) _ 7 l7 (by rfl) HOA.o (by have:=HA3.o.size;have:=HWS.o;omega) (by decide) ⟨v3.heap.size,0,none⟩ 2 2 [RV.uint dc,RV.uint dp] (by rfl) HVA.o rfl (by decide) ?_
 intro x4 v4 ho hb
 have HO4:Hid (v4.ownsRow (N+1) 187 6 x4 (7+2) (rvs (l7++[RV.uint dc,RV.uint dp]))):=hid ho
 have Hv4:Hid (Below (N+1) W v4):=hid (HA3.o.trans hb)
 clear ho hb HOA HVA HA3
 refine hK' _ _ (HCC.o _ Hv4.o) ?_
 clear hK' K'
 iterate 1 (refine Kit.ghd (h:= ?_))
 refine Kit.gdn (h:=?_)
 have HOKA:Hid (∀x ∈ ((((l7++[RV.uint dc,RV.uint dp])++lstV pa n1)++[RV.sum root,RV.uint di])++lstV pt n2)++lstV sq n3,x.ok):=hid (by
  intro x hx
  have hz:=HZZ.o
  have hq:=HQ.o
  simp only [List.mem_append,List.mem_cons,List.not_mem_nil,or_false] at hx
  rcases hx with (((((hx | rfl | rfl) | hx) | rfl | rfl) | hx) | hx)
  ·exact HK7.o x hx
  ·show dc<18446744073709551616;omega
  ·show dp<18446744073709551616;omega
  ·exact hz.1 x hx
  ·exact hq.2.2.2.2.2.2
  ·show di<18446744073709551616;omega
  ·exact hz.2.1 x hx
  ·exact hz.2.2 x hx)
 have HTEA:Hid ((((((l7++[RV.uint dc,RV.uint dp])++lstV pa n1)++[RV.sum root,RV.uint di])++lstV pt n2)++lstV sq n3).flatMap RV.enc=T):=hid (by
  obtain ⟨e1,e2,e3⟩:=HLS.o
  have f1:=lstV_enc pa
  have f2:=lstV_enc pt
  have f3:=lstV_enc sq
  rw [e1] at f1
  rw [e2] at f2
  rw [e3] at f3
  simp only [List.flatMap_append,f1,f2,f3,HE7.o,List.flatMap_cons,List.flatMap_nil,RV.enc,List.append_nil]
  rw [← HTE.o]
  simp only [List.append_assoc])
 clear HE7 HK7 HTE
 obtain ⟨_,_,_,_,_,_,_,_,_,_,q10,_,_,_⟩:=HCC.o _ Hv4.o
 go_upto_region 3 with (first
  | (go_at_call 125
     (with_reducible refine (list43_any ap c1 n1 pa HLS.o.1 (by have:=HQ.o;omega) _ (HS.o.1.later (HLT.o _ Hv4.o))).mono ?_)
     rintro e v5 ⟨vl,rfl,hol2,hb⟩
     have Hv5:Hid (Below (N+1) W v5):=hid (HST.o _ _ Hv4.o hb)
     have HO4b:Hid (v5.ownsRow (N+1) 187 6 x4 (7+2) (rvs (l7++[RV.uint dc,RV.uint dp]))):=hid (own_later HO4.o hb)
     obtain ⟨ad,cap,rfl,hV,hll⟩:=own_vs1 hol2 (Nat.succ_pos _)
     have HVv5:=hid hV
     have HLv5:=hid hll
     clear hol2 hb hV hll q10)
  | (at_builtin
     refine app_vs rfl _ _ rfl (N+1) x4 (7+2) (l7++[RV.uint dc,RV.uint dp]) (by rfl) HO4b.o (by have:=Hv5.o.size;have:=HWS.o;omega) (by have:=HQ.o;omega) ad (n1+1) cap (lstV pa n1) (by rfl) HVv5.o HLv5.o (by have:=HQ.o;omega) ?_
     intro x6 v6 ho hb
     have HO6:Hid (v6.ownsRow (N+1) 187 6 x6 (7+2+(n1+1)) (rvs ((l7++[RV.uint dc,RV.uint dp])++lstV pa n1))):=hid ho
     have Hv6:Hid (Below (N+1) W v6):=hid (Hv5.o.trans hb)
     clear ho hb))
 have HVE:Hid (Below (N+1) W v6.drew):=hid Hv6.o.drew
 have HOE:Hid (v6.drew.ownsRow (N+1) 187 6 x6 (7+2+(n1+1)) (rvs ((l7++[RV.uint dc,RV.uint dp])++lstV pa n1))):=hid (own_later HO6.o (Below.refl _ _).drew)
 obtain ⟨VE,hVE⟩:=ex_eq v6.drew
 rw [hVE] at HVE HOE
 refine Kit.wp_region_gplan (fun V=>V.cell? ⟨N,0,none⟩=some (.int .i64 hol)∧V.cell? ⟨N,1,none⟩=some (.int .i64 vlt)∧V.cell? ⟨N,2,none⟩=some (.string str)∧V.cell? ⟨N,3,none⟩=some (.int .i64 ix)∧V.cell? ⟨N,4,none⟩=some (.int .i64 sz)∧V.cell? ⟨N,5,none⟩=some (.int .i64 day)∧V.cell? ⟨N,6,none⟩=some (.int .i64 ser)∧V.cell? ⟨N,7,none⟩=some (.int .i64 (dc:Int))∧V.cell? ⟨N,8,none⟩=some (.int .i64 (dp:Int))∧V.cell? ⟨N,9,none⟩=some (.string root)∧V.cell? ⟨N,10,none⟩=some (.slice ap n1 c1)∧V.cell? ⟨N,11,none⟩=some (.int .i64 (di:Int))∧V.cell? ⟨N,12,none⟩=some (.slice aq n2 c2)∧V.cell? ⟨N,13,none⟩=some (.slice ar n3 c3)) [(true,0),(true,1),(true,2),(true,4),(true,5),(true,6),(false,3),(false,7),(false,8),(false,9),(true,10)] (by kernel_rfl) (by kernel_rfl) (by kernel_rfl) (by kernel_rfl) (by rw [hVE];exact HCC.o _ HVE.o) ?_
 rw [hVE]
 clear hVE HO6
 iterate 6 (refine Kit.ghd (h:= ?_))
 refine Kit.gplan_op (by rfl) (by rfl) fun K' hK'=> ?_
 go_simp
 go_at_call 126
 with_reducible refine (sum43_any root _).mono ?_
 rintro e v7 ⟨rfl,hb⟩
 have Hv7:Hid (Below (N+1) W v7):=hid (HST.o _ _ HVE.o hb)
 have HO7:Hid (v7.ownsRow (N+1) 187 6 x6 (7+2+(n1+1)) (rvs ((l7++[RV.uint dc,RV.uint dp])++lstV pa n1))):=hid (own_later HOE.o hb)
 clear hb HOE
 refine hK' _ _ (HCC.o _ Hv7.o) ?_
 clear hK' K'
 refine Kit.gplan_op (by rfl) (by rfl) fun K' hK'=> ?_
 go_simp
 go_at_call 124
 with_reducible refine (num43_any di (by have:=HQ.o;omega) _).mono ?_
 rintro e v8 ⟨rfl,hb⟩
 have Hv8:Hid (Below (N+1) W v8):=hid (HST.o _ _ Hv7.o hb)
 have HO8:Hid (v8.ownsRow (N+1) 187 6 x6 (7+2+(n1+1)) (rvs ((l7++[RV.uint dc,RV.uint dp])++lstV pa n1))):=hid (own_later HO7.o hb)
 clear hb
 refine hK' _ _ (HCC.o _ Hv8.o) ?_
 clear hK' K'
 refine Kit.gplan_op (by rfl) (by rfl) fun K' hK'=> ?_
 go_simp
 have HA8:Hid (Below (N+1) W (v8.alloc (.cells #[.int .i64 6,.int .u64 0,.int .i64 0,.bool false,.string root,.int .i64 0,.int .i64 1,.int .u64 (di:Int),.int .i64 0,.bool false,.string { data:= #[] },.int .i64 0] 187))):=hid (Hv8.o.alloc (by have:=Hv8.o.size;have:=HWS.o;omega) _)
 have HOA:Hid ((v8.alloc (.cells #[.int .i64 6,.int .u64 0,.int .i64 0,.bool false,.string root,.int .i64 0,.int .i64 1,.int .u64 (di:Int),.int .i64 0,.bool false,.string { data:= #[] },.int .i64 0] 187)).ownsRow (N+1) 187 6 x6 (7+2+(n1+1)) (rvs ((l7++[RV.uint dc,RV.uint dp])++lstV pa n1))):=hid (own_later HO8.o ((Below.refl _ _).alloc (Nat.le_refl _) _))
 have HVA:Hid (VsAt (v8.alloc (.cells #[.int .i64 6,.int .u64 0,.int .i64 0,.bool false,.string root,.int .i64 0,.int .i64 1,.int .u64 (di:Int),.int .i64 0,.bool false,.string { data:= #[] },.int .i64 0] 187)) (some ⟨v8.heap.size,0,none⟩) [RV.sum root,RV.uint di]):=hid (vs_of_row (heap_alloc_new _ _) rfl)
 refine hK' _ _ (HCC.o _ HA8.o) ?_
 clear hK' K' HO7 HO8
 refine Kit.gplan_op (by rfl) (by rfl) fun K' hK'=> ?_
 refine wp_app_vs _ _ (by rfl) (N+1) _ (7+2+(n1+1)) ((l7++[RV.uint dc,RV.uint dp])++lstV pa n1) (by rfl) HOA.o (by have:=HA8.o.size;have:=HWS.o;omega) (by have:=HQ.o;omega) ⟨v8.heap.size,0,none⟩ 2 2 [RV.sum root,RV.uint di] (by rfl) HVA.o rfl (by decide) ?_
 intro x9 v9 ho hb
 have HO9:Hid (v9.ownsRow (N+1) 187 6 x9 (7+2+(n1+1)+2) (rvs (((l7++[RV.uint dc,RV.uint dp])++lstV pa n1)++[RV.sum root,RV.uint di]))):=hid ho
 have Hv9:Hid (Below (N+1) W v9):=hid (HA8.o.trans hb)
 clear ho hb HOA HVA HA8
 refine hK' _ _ (HCC.o _ Hv9.o) ?_
 clear hK' K'
 iterate 1 (refine Kit.ghd (h:= ?_))
 refine Kit.gdn (h:=?_)
 obtain ⟨_,_,_,_,_,_,_,_,_,_,_,_,q12,q13⟩:=HCC.o _ Hv9.o
 go_upto_region 5 with (first
  | (go_at_call 125
     (with_reducible refine (list43_any aq c2 n2 pt HLS.o.2.1 (by have:=HQ.o;omega) _ (HS.o.2.1.later (HLT.o _ Hv9.o))).mono ?_)
     rintro e va ⟨vl,rfl,hol2,hb⟩
     have Hva:Hid (Below (N+1) W va):=hid (HST.o _ _ Hv9.o hb)
     have HO9b:Hid (va.ownsRow (N+1) 187 6 x9 (7+2+(n1+1)+2) (rvs (((l7++[RV.uint dc,RV.uint dp])++lstV pa n1)++[RV.sum root,RV.uint di]))):=hid (own_later HO9.o hb)
     obtain ⟨ad,cap,rfl,hV,hll⟩:=own_vs1 hol2 (Nat.succ_pos _)
     have HVva:=hid hV
     have HLva:=hid hll
     clear hol2 hb hV hll q12 q13)
  | (at_builtin
     refine app_vs rfl _ _ rfl (N+1) x9 (7+2+(n1+1)+2) (((l7++[RV.uint dc,RV.uint dp])++lstV pa n1)++[RV.sum root,RV.uint di]) (by rfl) HO9b.o (by have:=Hva.o.size;have:=HWS.o;omega) (by have:=HQ.o;omega) ad (n2+1) cap (lstV pt n2) (by rfl) HVva.o HLva.o (by have:=HQ.o;omega) ?_
     intro xb vb ho hb
     have HOB:Hid (vb.ownsRow (N+1) 187 6 xb (7+2+(n1+1)+2+(n2+1)) (rvs ((((l7++[RV.uint dc,RV.uint dp])++lstV pa n1)++[RV.sum root,RV.uint di])++lstV pt n2))):=hid ho
     have Hvb:Hid (Below (N+1) W vb):=hid (Hva.o.trans hb)
     clear ho hb))
 obtain ⟨_,_,_,_,_,_,_,_,_,_,_,_,_,q13⟩:=HCC.o _ Hvb.o
 have HLN:Hid (∀l:List RV,l.length=7+2+(n1+1)+2+(n2+1)+(n3+1)→l.length≤1000):=hid (fun l h=>by have:=HQ.o;omega)
 go_upto_region 6 with (first
  | (go_at_call 125
     (with_reducible refine (list43_any ar c3 n3 sq HLS.o.2.2 (by have:=HQ.o;omega) _ (HS.o.2.2.later (HLT.o _ Hvb.o))).mono ?_)
     rintro e vc ⟨vl,rfl,hol2,hb⟩
     have Hvc:Hid (Below (N+1) W vc):=hid (HST.o _ _ Hvb.o hb)
     have HOBb:Hid (vc.ownsRow (N+1) 187 6 xb (7+2+(n1+1)+2+(n2+1)) (rvs ((((l7++[RV.uint dc,RV.uint dp])++lstV pa n1)++[RV.sum root,RV.uint di])++lstV pt n2))):=hid (own_later HOB.o hb)
     obtain ⟨ad,cap,rfl,hV,hll⟩:=own_vs1 hol2 (Nat.succ_pos _)
     have HVvc:=hid hV
     have HLvc:=hid hll
     clear hol2 hb hV hll q13)
  | (at_builtin
     refine app_vs rfl _ _ rfl (N+1) xb (7+2+(n1+1)+2+(n2+1)) ((((l7++[RV.uint dc,RV.uint dp])++lstV pa n1)++[RV.sum root,RV.uint di])++lstV pt n2) (by rfl) HOBb.o (by have:=Hvc.o.size;have:=HWS.o;omega) (by have:=HQ.o;omega) ad (n3+1) cap (lstV sq n3) (by rfl) HVvc.o HLvc.o (by have:=HQ.o;omega) ?_
     intro xd vd ho hb
     have HOD:Hid (vd.ownsRow (N+1) 187 6 xd (7+2+(n1+1)+2+(n2+1)+(n3+1)) (rvs (((((l7++[RV.uint dc,RV.uint dp])++lstV pa n1)++[RV.sum root,RV.uint di])++lstV pt n2)++lstV sq n3))):=hid ho
     have Hvd:Hid (Below (N+1) W vd):=hid (Hvc.o.trans hb)
     obtain ⟨ae,ce,rfl,hVe,hle⟩:=own_vs1 ho (Nat.succ_pos _)
     have HVe:=hid hVe
     have HLe:=hid hle
     clear ho hb hVe hle)
  | (go_at_call 127
     (with_reducible refine (refEncode_any (some ae) ce (7+2+(n1+1)+2+(n2+1)+(n3+1)) (((((l7++[RV.uint dc,RV.uint dp])++lstV pa n1)++[RV.sum root,RV.uint di])++lstV pt n2)++lstV sq n3) HLe.o (by have:=HQ.o;omega) HOKA.o T HTEA.o HTL.o _ HVe.o).mono ?_)
     rintro e vf ⟨af,Lf,cf,rfl,hlf,hcf,hbf,hnf,hb⟩
     have HLf:=hid hlf
     have HBf:=hid hbf
     have Hvf:Hid (Below (N+1) W vf):=hid (HST.o _ _ Hvd.o hb)
     clear hlf hcf hbf hnf hb))
 go_wp2_with fail
 go_ret
 exact ⟨af,Lf,cf,rfl,HLf.o,HBf.o,HBW.o _ Hvf.o⟩
end Go.Proofs.YtndlihclgdkpaaaGreatDoor

/- Book.current, Current. -/
import Derived.Test.YtndlihclgdkpaaaGreatDoorGc
import Derived.Test.YtndlihclgdkpaaaGreatDoorGf
import Derived.Test.YtndlihclgdkpaaaGreatDoorQbk
set_option linter.unusedVariables false
set_option linter.unusedSimpArgs false
open Go.Lib (hid)
namespace Go.Proofs.YtndlihclgdkpaaaGreatDoor
open Go.RowKit
open Go.Maps
open Kit (Chg)
open Sha (v)
open Go.Proofs.YtndlihclgdkpaaaGreatDoor.One

def CurOut (O:Nat→Prop) (w':World) (m:List Rc) (p:Pc) (e:Ending):Prop:=(curB m p=none∧e= .returned (.tuple #[.agg #[.int .i64 0,.int .i64 0,.string ByteArray.empty,.int .i64 0,.int .i64 0,.int .i64 0,.int .i64 0,.int .i64 0,.int .i64 0,.string ByteArray.empty,.slice none 0 0,.int .i64 0,.slice none 0 0,.slice none 0 0],.bool false]))∨ ∃x:RcV,curB m p=some x.r∧e= .returned (.tuple #[.agg x.cells.toArray,.bool true])∧x.ok w'∧ ∀q,x.blk q→O q
theorem BookR.look {w:World} {O:Nat→Prop} {bk b1 b2:Nat} {R:Pc→Option BRow} {m:List Rc} {c:Nat} (h:BookR w O bk b1 b2 R m c) {s:ByteArray} {i:Int} (hs:s.size≤maxLen) (hi:(Lit.int .i64 i).wf=true):(Instr.lookup 195 (.map (some b1)) (.agg #[.string s,.int .i64 i]) false).run Tryz.prog w= .ok (((R ⟨s,i⟩).map BRow.val).getD (.slice none 0 0)) w:=by
 obtain ⟨l,hl⟩:=pieceKey hs hi
 exact h.m1.look1 pieceKeyed Tryz.underlying195 (listZero w) hl
theorem BookR.cells {w:World} {O:Nat→Prop} {bk b1 b2:Nat} {R:Pc→Option BRow} {m:List Rc} {c:Nat} (h:BookR w O bk b1 b2 R m c):w.cell? ⟨bk,0,none⟩=some (.map (some b1))∧w.cell? ⟨bk,1,none⟩=some (.map (some b2)):=⟨cr h.cell,cr h.cell⟩
theorem curB_rows {xs:List RcV} {m:List Rc} {p:Pc} (h:xs.map RcV.r=ofB m p) {k:Nat} (hk:xs.length=k+1):curB m p=some (xs[k]'(by omega)).r:=by
 unfold curB
 rw [← h,List.getLast?_map,List.getLast?_eq_getElem?,show xs.length - 1=k by omega,lE (show k<xs.length by omega)]
 rfl
set_option maxRecDepth 100000 in
set_option maxHeartbeats 4000000 in
theorem current_any (O:Nat→Prop) (bk:Nat) (m:List Rc) (c:Nat) (hc:c≤100000) (s:ByteArray) (i:Int) (hs:s.size≤maxLen) (hi:(Lit.int .i64 i).wf=true) (w:World) (hB:BookAt w O bk m c):Calls Tryz.prog 137 #[.pointer (some ⟨bk,0,none⟩),.agg #[.string s,.int .i64 i]] w fun e w'=>CurOut O w' m ⟨s,i⟩ e∧Below w.heap.size w w':=by
 obtain ⟨b1,b2,R,hB⟩:=hB
 have HBK:=hid hB
 have HKS:=hid hs
 have HKI:=hid hi
 clear hs hi
 cases hR:R ⟨s,i⟩ with
 | none=>
   have HRP:Hid (((R ⟨s,i⟩).map BRow.val).getD (.slice none 0 0)= .slice none 0 0):=hid (by rw [hR];rfl)
   have HNO:Hid (curB m ⟨s,i⟩=none):=hid (by unfold curB;rw [hB.no _ hR];rfl)
   clear hB hR
   go_enter Tryz.func137,Tryz.ntmps137
   go_upto_region 1 with fail
   refine wp_over (fun W=>Hid (W.heap[w.heap.size]? =some (.cells #[.string s,.int .i64 i] 42 (0,0)))∧Hid (W.heap[w.heap.size+1]? =some (.cells #[.int .i64 0,.int .i64 0,.string ByteArray.empty,.int .i64 0,.int .i64 0,.int .i64 0,.int .i64 0,.int .i64 0,.int .i64 0,.string ByteArray.empty,.slice none 0 0,.int .i64 0,.slice none 0 0,.slice none 0 0] 47 (0,0)))∧Hid (Below w.heap.size w W)∧Hid (W.heap.size=w.heap.size+2)) ⟨two_rows1,two_rows2,two_below,two_size⟩ ?_
   rintro W ⟨HG,HZ,HB,HW⟩
   obtain ⟨N,hN⟩:=ex_eq w.heap.size
   rw [hN] at HG HZ HB HW ⊢
   have HN:=hid hN
   clear hN
   have HSB:Hid (∀V,Below N w V→Below (N+2) W V→V.cell? ⟨bk,0,none⟩=some (.map (some b1))∧(V.cell? ⟨N,0,none⟩=some (.string s)∧V.cell? ⟨N,1,none⟩=some (.int .i64 i))∧(Instr.lookup 195 (.map (some b1)) (.agg #[.string s,.int .i64 i]) false).run Tryz.prog V= .ok (.slice none 0 0) V):=hid (fun V h h2=>by
    have hb:=HBK.o.later (by rw [HN.o];exact h)
    have hl:=hb.look HKS.o HKI.o
    have hg:=(h2.block N (by omega)).trans HG.o
    rw [HRP.o] at hl
    exact ⟨hb.cells.1,⟨cr hg,cr hg⟩,hl⟩)
   have HDR:Hid (Below (N+2) W W.drew):=hid (Below.refl _ _).drew
   obtain ⟨VD,hVD⟩:=ex_eq W.drew
   rw [hVD] at HDR
   refine Kit.wp_region_gplan (fun V=>V.cell? ⟨bk,0,none⟩=some (.map (some b1))∧(V.cell? ⟨N,0,none⟩=some (.string s)∧V.cell? ⟨N,1,none⟩=some (.int .i64 i))∧(Instr.lookup 195 (.map (some b1)) (.agg #[.string s,.int .i64 i]) false).run Tryz.prog V= .ok (.slice none 0 0) V) [(true,0),(true,1),(true,2),(true,3),(true,4),(true,5),(true,6)] (by kernel_rfl) (by kernel_rfl) (by kernel_rfl) (by kernel_rfl) (by rw [hVD];exact HSB.o _ (HB.o.trans (HDR.o.mono (by omega))) HDR.o) ?_
   rw [hVD]
   clear hVD
   iterate 7 (refine Kit.ghd (h:= ?_))
   refine Kit.gdn (h:=?_)
   have HZ2:=hid ((HDR.o.block (N+1) (by omega)).trans HZ.o)
   obtain ⟨z0,z1,z2,z3,z4,z5,z6,z7,z8,z9,z10,z11,z12,z13⟩:=row14 HZ2.o
   have fz: ∀i,VD.frozen? ⟨N+1,i,none⟩=false:=fun i=>frozen_of_row _ _ _ _ _ HZ2.o
   go_wp2_with fail
   refine bodyPost_ret (results_cell_row_tmp (p:=4) (u:=5) rfl _ _ (N+1) 47 #[.int .i64 0,.int .i64 0,.string ByteArray.empty,.int .i64 0,.int .i64 0,.int .i64 0,.int .i64 0,.int .i64 0,.int .i64 0,.string ByteArray.empty,.slice none 0 0,.int .i64 0,.slice none 0 0,.slice none 0 0] (0,0) _ (by rfl) (putL_full (cur:=[.int .i64 0,.int .i64 0,.string ByteArray.empty,.int .i64 0,.int .i64 0,.int .i64 0,.int .i64 0,.int .i64 0,.int .i64 0,.string ByteArray.empty,.slice none 0 0,.int .i64 0,.slice none 0 0,.slice none 0 0]) (vs:=[.int .i64 0,.int .i64 0,.string ByteArray.empty,.int .i64 0,.int .i64 0,.int .i64 0,.int .i64 0,.int .i64 0,.int .i64 0,.string ByteArray.empty,.slice none 0 0,.int .i64 0,.slice none 0 0,.slice none 0 0]) HZ2.o rfl) Tryz.underlying47 rfl (by kernel_rfl)) rfl ?_
   exact ⟨.inl ⟨HNO.o,rfl⟩,by rw [HN.o];exact HB.o.trans (putL_below (Nat.le_succ N) [.int .i64 0,.int .i64 0,.string ByteArray.empty,.int .i64 0,.int .i64 0,.int .i64 0,.int .i64 0,.int .i64 0,.int .i64 0,.string ByteArray.empty,.slice none 0 0,.int .i64 0,.slice none 0 0,.slice none 0 0] 0 VD (HDR.o.mono (by omega)))⟩
 | some r=>
   obtain ⟨g,cap,xs⟩:=r
   obtain ⟨h1,h2,h3⟩:=hB.row _ _ hR
   simp only at h1 h2 h3
   obtain ⟨n,hn⟩:=ex_eq xs.length
   obtain ⟨k,hk⟩: ∃k,n=k+1:=⟨n - 1,by have:=List.length_pos_iff.2 h3;omega⟩
   have HRP:Hid (((R ⟨s,i⟩).map BRow.val).getD (.slice none 0 0)= .slice (some ⟨g,0,none⟩) n cap):=hid (by rw [hR,← hn];rfl)
   have HKL:Hid (k<xs.length):=hid (by omega)
   have HCU:Hid (curB m ⟨s,i⟩=some (xs[k]'HKL.o).r):=hid (curB_rows h2 (by omega))
   have HOK:=hid (hB.ok _ _ hR (xs[k]'HKL.o) (List.getElem_mem _))
   have HRW:=hid h1
   have hle:n≤100000:=by
    have e1:=congrArg List.length h2
    rw [List.length_map] at e1
    have e2:(ofB m ⟨s,i⟩).length≤m.length:=List.length_filter_le _ _
    have:=hB.len
    omega
   have hkn:(n:Int) - 1=(k:Int):=by omega
   have hk2:(k:Int)<(n:Int):=by omega
   have hn0:((n:Int)==0)=false:=by rw [beq_eq_false_iff_ne];omega
   clear hB hR h1 h2 h3 hn hk
   go_enter Tryz.func137,Tryz.ntmps137
   go_upto_region 1 with fail
   refine wp_over (fun W=>Hid (W.heap[w.heap.size]? =some (.cells #[.string s,.int .i64 i] 42 (0,0)))∧Hid (W.heap[w.heap.size+1]? =some (.cells #[.int .i64 0,.int .i64 0,.string ByteArray.empty,.int .i64 0,.int .i64 0,.int .i64 0,.int .i64 0,.int .i64 0,.int .i64 0,.string ByteArray.empty,.slice none 0 0,.int .i64 0,.slice none 0 0,.slice none 0 0] 47 (0,0)))∧Hid (Below w.heap.size w W)∧Hid (W.heap.size=w.heap.size+2)) ⟨two_rows1,two_rows2,two_below,two_size⟩ ?_
   rintro W ⟨HG,HZ,HB,HW⟩
   obtain ⟨N,hN⟩:=ex_eq w.heap.size
   rw [hN] at HG HZ HB HW ⊢
   have HN:=hid hN
   clear hN
   have HSB:Hid (∀V,Below N w V→Below (N+2) W V→V.cell? ⟨bk,0,none⟩=some (.map (some b1))∧(V.cell? ⟨N,0,none⟩=some (.string s)∧V.cell? ⟨N,1,none⟩=some (.int .i64 i))∧(Instr.lookup 195 (.map (some b1)) (.agg #[.string s,.int .i64 i]) false).run Tryz.prog V= .ok (.slice (some ⟨g,0,none⟩) n cap) V):=hid (fun V h h2=>by
    have hb:=HBK.o.later (by rw [HN.o];exact h)
    have hl:=hb.look HKS.o HKI.o
    have hg:=(h2.block N (by omega)).trans HG.o
    rw [HRP.o] at hl
    exact ⟨hb.cells.1,⟨cr hg,cr hg⟩,hl⟩)
   have HDR:Hid (Below (N+2) W W.drew):=hid (Below.refl _ _).drew
   obtain ⟨VD,hVD⟩:=ex_eq W.drew
   rw [hVD] at HDR
   refine Kit.wp_region_gplan (fun V=>V.cell? ⟨bk,0,none⟩=some (.map (some b1))∧(V.cell? ⟨N,0,none⟩=some (.string s)∧V.cell? ⟨N,1,none⟩=some (.int .i64 i))∧(Instr.lookup 195 (.map (some b1)) (.agg #[.string s,.int .i64 i]) false).run Tryz.prog V= .ok (.slice (some ⟨g,0,none⟩) n cap) V) [(true,0),(true,1),(true,2),(true,3),(true,4),(true,5),(true,6)] (by kernel_rfl) (by kernel_rfl) (by kernel_rfl) (by kernel_rfl) (by rw [hVD];exact HSB.o _ (HB.o.trans (HDR.o.mono (by omega))) HDR.o) ?_
   rw [hVD]
   clear hVD
   iterate 7 (refine Kit.ghd (h:= ?_))
   refine Kit.gdn (h:=?_)
   have HZ2:=hid ((HDR.o.block (N+1) (by omega)).trans HZ.o)
   have HVW:Hid (Below w.heap.size w VD):=hid (by rw [HN.o];exact HB.o.trans (HDR.o.mono (by omega)))
   have hce:=((HRW.o.later HVW.o).cells RcV.len k HKL.o).1
   have HXK:=hid (HOK.o.1.later HVW.o)
   have HXO:=hid HOK.o.2.1
   obtain ⟨x,hx⟩:=ex_eq (xs[k]'HKL.o)
   rw [hx] at hce HXK HXO HCU
   clear hx
   have HCE:Hid (x.cells=x.cells):=hid rfl
   obtain ⟨⟨hol,vlt,str,ix,sz,day,ser,cnt,pl,root,pa,si,pt,sq⟩,ap,c1,aq,c2,ar,c3⟩:=x
   simp only [RcV.cells] at hce HCE
   obtain ⟨n1,e1⟩:=ex_eq pa.length
   obtain ⟨n2,e2⟩:=ex_eq pt.length
   obtain ⟨n3,e3⟩:=ex_eq sq.length
   rw [e1,e2,e3] at hce
   have HE:=hid (And.intro e1 (And.intro e2 e3))
   clear e1 e2 e3
   have c50:=hce 0 (by decide)
   have c51:=hce 1 (by decide)
   have c52:=hce 2 (by decide)
   have c53:=hce 3 (by decide)
   have c54:=hce 4 (by decide)
   have c55:=hce 5 (by decide)
   have c56:=hce 6 (by decide)
   have c57:=hce 7 (by decide)
   have c58:=hce 8 (by decide)
   have c59:=hce 9 (by decide)
   have c60:=hce 10 (by decide)
   have c61:=hce 11 (by decide)
   have c62:=hce 12 (by decide)
   have c63:=hce 13 (by decide)
   simp only [List.getElem?_cons_zero,List.getElem?_cons_succ,Nat.add_zero] at c50 c51 c52 c53 c54 c55 c56 c57 c58 c59 c60 c61 c62 c63
   clear hce
   obtain ⟨z0,z1,z2,z3,z4,z5,z6,z7,z8,z9,z10,z11,z12,z13⟩:=row14 HZ2.o
   have fz: ∀i,VD.frozen? ⟨N+1,i,none⟩=false:=fun i=>frozen_of_row _ _ _ _ _ HZ2.o
   go_wp2_with fail
   refine bodyPost_ret (results_cell_row_tmp (p:=4) (u:=5) rfl _ _ (N+1) 47 #[.int .i64 hol,.int .i64 vlt,.string str,.int .i64 ix,.int .i64 sz,.int .i64 day,.int .i64 ser,.int .i64 cnt,.int .i64 pl,.string root,.slice ap n1 c1,.int .i64 si,.slice aq n2 c2,.slice ar n3 c3] (0,0) _ (by rfl) (putL_full (cur:=[.int .i64 0,.int .i64 0,.string ByteArray.empty,.int .i64 0,.int .i64 0,.int .i64 0,.int .i64 0,.int .i64 0,.int .i64 0,.string ByteArray.empty,.slice none 0 0,.int .i64 0,.slice none 0 0,.slice none 0 0]) (vs:=[.int .i64 hol,.int .i64 vlt,.string str,.int .i64 ix,.int .i64 sz,.int .i64 day,.int .i64 ser,.int .i64 cnt,.int .i64 pl,.string root,.slice ap n1 c1,.int .i64 si,.slice aq n2 c2,.slice ar n3 c3]) HZ2.o rfl) Tryz.underlying47 rfl (by kernel_rfl)) rfl ?_
   have hch:Chg (fun q _=>q=N+1) VD (putL (N+1) 0 [.int .i64 hol,.int .i64 vlt,.string str,.int .i64 ix,.int .i64 sz,.int .i64 day,.int .i64 ser,.int .i64 cnt,.int .i64 pl,.string root,.slice ap n1 c1,.int .i64 si,.slice aq n2 c2,.slice ar n3 c3] VD):=putL_chg (fun _=>rfl) _ 0 VD (Chg.refl _ _)
   have hlo: ∀q,(⟨⟨hol,vlt,str,ix,sz,day,ser,cnt,pl,root,pa,si,pt,sq⟩,ap,c1,aq,c2,ar,c3⟩:RcV).blk q→q<N:=fun q hq=>by rw [← HN.o];exact HBK.o.lt q (HXO.o q hq)
   exact ⟨.inr ⟨⟨⟨hol,vlt,str,ix,sz,day,ser,cnt,pl,root,pa,si,pt,sq⟩,ap,c1,aq,c2,ar,c3⟩,HCU.o,by simp only [RcV.cells,HE.o.1,HE.o.2.1,HE.o.2.2];rfl,HXK.o.keepB hch (fun q hq i e=>by have:=hlo q hq;omega),HXO.o⟩,by rw [HN.o];exact HB.o.trans (putL_below (Nat.le_succ N) [.int .i64 hol,.int .i64 vlt,.string str,.int .i64 ix,.int .i64 sz,.int .i64 day,.int .i64 ser,.int .i64 cnt,.int .i64 pl,.string root,.slice ap n1 c1,.int .i64 si,.slice aq n2 c2,.slice ar n3 c3] 0 VD (HDR.o.mono (by omega)))⟩
theorem current_none (O:Nat→Prop) (bk:Nat) (m:List Rc) (c:Nat) (hc:c≤100000) (s:ByteArray) (i:Int) (hs:s.size≤maxLen) (hi:(Lit.int .i64 i).wf=true) (h:curB m ⟨s,i⟩=none) (w:World) (hB:BookAt w O bk m c):Calls Tryz.prog 137 #[.pointer (some ⟨bk,0,none⟩),.agg #[.string s,.int .i64 i]] w fun e w'=>e= .returned (.tuple #[.agg #[.int .i64 0,.int .i64 0,.string ByteArray.empty,.int .i64 0,.int .i64 0,.int .i64 0,.int .i64 0,.int .i64 0,.int .i64 0,.string ByteArray.empty,.slice none 0 0,.int .i64 0,.slice none 0 0,.slice none 0 0],.bool false])∧Below w.heap.size w w':=
 (current_any O bk m c hc s i hs hi w hB).mono fun e w' h1=>by
   obtain ⟨h1,h2⟩:=h1
   rcases h1 with ⟨_,h3⟩ | ⟨x,h3,_⟩
   ·exact ⟨h3,h2⟩
   ·rw [h] at h3;cases h3
theorem current_some (O:Nat→Prop) (bk:Nat) (m:List Rc) (c:Nat) (hc:c≤100000) (s:ByteArray) (i:Int) (hs:s.size≤maxLen) (hi:(Lit.int .i64 i).wf=true) (hol vlt:Int) (str:ByteArray) (ix sz day ser cnt pl:Int) (root:ByteArray) (si:Int) (pa pt sq:List ByteArray) (n1 n2 n3:Nat) (h1:pa.length=n1) (h2:pt.length=n2) (h3:sq.length=n3) (h:curB m ⟨s,i⟩=some ⟨hol,vlt,str,ix,sz,day,ser,cnt,pl,root,pa,si,pt,sq⟩) (w:World) (hB:BookAt w O bk m c):Calls Tryz.prog 137 #[.pointer (some ⟨bk,0,none⟩),.agg #[.string s,.int .i64 i]] w fun e w'=> ∃ap c1 aq c2 ar c3,e= .returned (.tuple #[.agg #[.int .i64 hol,.int .i64 vlt,.string str,.int .i64 ix,.int .i64 sz,.int .i64 day,.int .i64 ser,.int .i64 cnt,.int .i64 pl,.string root,.slice ap n1 c1,.int .i64 si,.slice aq n2 c2,.slice ar n3 c3],.bool true])∧(⟨⟨hol,vlt,str,ix,sz,day,ser,cnt,pl,root,pa,si,pt,sq⟩,ap,c1,aq,c2,ar,c3⟩:RcV).ok w'∧(∀q,(⟨⟨hol,vlt,str,ix,sz,day,ser,cnt,pl,root,pa,si,pt,sq⟩,ap,c1,aq,c2,ar,c3⟩:RcV).blk q→O q)∧Below w.heap.size w w':=
 (current_any O bk m c hc s i hs hi w hB).mono fun e w' h4=>by
   obtain ⟨h4,h5⟩:=h4
   subst h1 h2 h3
   rcases h4 with ⟨h3,_⟩ | ⟨x,h3,rfl,h6,h7⟩
   ·rw [h] at h3;cases h3
   ·rw [h] at h3
    obtain ⟨r,ap,c1,aq,c2,ar,c3⟩:=x
    simp only at h3
    have h3:=Option.some.inj h3
    subst h3
    exact ⟨ap,c1,aq,c2,ar,c3,rfl,h6,h7,h5⟩
theorem curB_sizes {m:List Rc} (hg:GoodB m) {p:Pc} {r:Rc} (h:curB m p=some r):r.path.length≤8∧r.parts.length≤300∧r.sp.length≤8:=by
 have hv:=hg.v r (curB_some h).1
 exact ⟨hv.pn,hv.an,hv.qn⟩
theorem clone_ok {w':World} {B:Nat} {hol vlt:Int} {str:ByteArray} {ix sz day ser cnt pl:Int} {root:ByteArray} {si:Int} {pa pt sq:List ByteArray} {n1 n2 n3:Nat} (h1:pa.length=n1) (h2:pt.length=n2) (h3:sq.length=n3) (l1:n1≤100000000) (l2:n2≤100000000) (l3:n3≤100000000) {a6 a7 a8:Option Addr} {d6 d7 d8:Nat} (s1:StrsAt w' a6 pa) (s2:StrsAt w' a7 pt) (s3:StrsAt w' a8 sq) (g1: ∀ad,a6=some ad→B≤ad.block) (g2: ∀ad,a7=some ad→B≤ad.block) (g3: ∀ad,a8=some ad→B≤ad.block):(⟨⟨hol,vlt,str,ix,sz,day,ser,cnt,pl,root,pa,si,pt,sq⟩,a6,d6,a7,d7,a8,d8⟩:RcV).ok w'∧ ∀q,(⟨⟨hol,vlt,str,ix,sz,day,ser,cnt,pl,root,pa,si,pt,sq⟩,a6,d6,a7,d7,a8,d8⟩:RcV).blk q→B≤q:=by
 subst h1 h2 h3
 refine ⟨⟨by show pa.length<_;omega,by show pt.length<_;omega,by show sq.length<_;omega,s1,s2,s3⟩,fun q hq=> ?_⟩
 rcases hq with ⟨_,ad,e,rfl⟩ | ⟨_,ad,e,rfl⟩ | ⟨_,ad,e,rfl⟩
 ·exact g1 ad e
 ·exact g2 ad e
 ·exact g3 ad e
end Go.Proofs.YtndlihclgdkpaaaGreatDoor

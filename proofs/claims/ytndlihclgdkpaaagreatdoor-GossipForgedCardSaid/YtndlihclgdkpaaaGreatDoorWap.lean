/- gossip: the error ways of Append. -/
import Derived.Test.YtndlihclgdkpaaaGreatDoorGf
import Derived.Test.YtndlihclgdkpaaaGreatDoorGg
set_option linter.unusedVariables false
set_option linter.unusedSimpArgs false
open Go.Lib (hid)
set_option maxHeartbeats 2000000
set_option maxRecDepth 100000
namespace Go.Proofs.YtndlihclgdkpaaaGreatDoor
open Go.RowKit
open Kit (Chg)
open Sha (v)
open Go.Proofs.YtndlihclgdkpaaaGreatDoor.One

theorem append_bad1 {G:Nat→Nat} {s p:Nat} {B H:Int} {ls:List Lin} (d:Nat) (hd:d<ls.length) (kd dy:Int) (hn: ¬(1≤kd∧kd≤9)) (hl:ls.length≤12) (a:Option Addr) (n c:Nat) (w:World) (h:StoreAt w G s p B H ls):
    Calls Tryz.prog 139 #[.pointer (some ⟨p,0,none⟩),.int .i64 (d:Int),.int .i64 kd,.int .i64 dy,.slice a n c] w fun e w'=>e= .returned (.tuple #[.agg #[.int .i64 0,.int .i64 0,.int .i64 0,.int .i64 0,.slice none 0 0,.string ByteArray.empty],.int .i64 1])∧Below w.heap.size w w':=by
 have HHB:Hid (∀V,Below w.heap.size w V→Calls Tryz.prog 154 #[.pointer (some ⟨p,0,none⟩),.int .i64 (d:Int)] V fun e w'=>e= .returned (.bool true)∧V=w'):=hid (fun V hV=>by
  have h1:=has_any (d:Int) V (h.later hV) (by omega)
  rwa [decide_eq_true ⟨by omega,by omega⟩] at h1)
 have HWK:=hid (fun w=>within_any kd 1 9 w)
 rw [show inB kd 1 9=false by unfold inB;rw [← Bool.decide_and,decide_eq_false hn]] at HWK
 have HWY:=HWK
 clear h hd hl hn
 go_enter Tryz.func139,Tryz.ntmps139
 go_upto_region 1 with fail
 refine wp_over (fun W=>Hid (W.heap[w.heap.size]? =some (.cells #[.int .i64 0,.int .i64 0,.int .i64 0,.int .i64 0,.slice none 0 0,.string ByteArray.empty] 92 (0,0)))∧Hid (Below w.heap.size w W)∧Hid (W.heap.size=w.heap.size+1)) ⟨heap_alloc_new _ _,(Below.refl _ _).alloc (Nat.le_refl _) _,by show _=_;simp⟩ ?_
 rintro W ⟨HZN,HB1,HW1⟩
 obtain ⟨N,hN⟩:=ex_eq w.heap.size
 have HN:=hid hN
 rw [hN] at HZN HB1 HW1 HHB ⊢
 clear hN
 have fz:=cells6 HZN.o
 obtain ⟨r0,r1,r2,r3,r4,r5⟩:=row6 HZN.o
 go_wp2_with (first
  | (go_at_call 154
     (refine (HHB.o _ HB1.o).mono ?_)
     rintro e w2 ⟨rfl,rfl⟩)
  | (go_at_call 142
     (with_reducible refine (HWK.o _).mono ?_)
     rintro e w2 ⟨rfl,rfl⟩)
  | (go_at_call 142
     (with_reducible refine (HWY.o _).mono ?_)
     rintro e w2 ⟨rfl,rfl⟩))
 (try simp only [Exit.inBlock,Exit.then])
 refine bodyPost_ret (results_cell_row_tmp (p:=10) (u:=11) rfl _ _ N 92 #[.int .i64 0,.int .i64 0,.int .i64 0,.int .i64 0,.slice none 0 0,.string ByteArray.empty] (0,0) _ (by rfl) (put6_row6 HZN.o) Tryz.underlying92 rfl (by kernel_rfl)) rfl ?_
 refine ⟨rfl,?_⟩
 rw [HN.o]
 exact below6 HB1.o (Nat.le_refl _)
theorem append_bad2 {G:Nat→Nat} {s p:Nat} {B H:Int} {ls:List Lin} (d:Nat) (hd:d<ls.length) (kd dy:Int) (hk:1≤kd∧kd≤9) (hn: ¬(0≤dy∧dy≤999999)) (hl:ls.length≤12) (a:Option Addr) (n c:Nat) (w:World) (h:StoreAt w G s p B H ls):
    Calls Tryz.prog 139 #[.pointer (some ⟨p,0,none⟩),.int .i64 (d:Int),.int .i64 kd,.int .i64 dy,.slice a n c] w fun e w'=>e= .returned (.tuple #[.agg #[.int .i64 0,.int .i64 0,.int .i64 0,.int .i64 0,.slice none 0 0,.string ByteArray.empty],.int .i64 1])∧Below w.heap.size w w':=by
 have HHB:Hid (∀V,Below w.heap.size w V→Calls Tryz.prog 154 #[.pointer (some ⟨p,0,none⟩),.int .i64 (d:Int)] V fun e w'=>e= .returned (.bool true)∧V=w'):=hid (fun V hV=>by
  have h1:=has_any (d:Int) V (h.later hV) (by omega)
  rwa [decide_eq_true ⟨by omega,by omega⟩] at h1)
 have HWK:=hid (fun w=>within_any kd 1 9 w)
 rw [show inB kd 1 9=true by unfold inB;rw [decide_eq_true (by omega),decide_eq_true (by omega)];rfl] at HWK
 have HWY:=hid (fun w=>within_any dy 0 999999 w)
 rw [show inB dy 0 999999=false by unfold inB;rw [← Bool.decide_and,decide_eq_false hn]] at HWY
 clear h hd hl hn hk
 go_enter Tryz.func139,Tryz.ntmps139
 go_upto_region 1 with fail
 refine wp_over (fun W=>Hid (W.heap[w.heap.size]? =some (.cells #[.int .i64 0,.int .i64 0,.int .i64 0,.int .i64 0,.slice none 0 0,.string ByteArray.empty] 92 (0,0)))∧Hid (Below w.heap.size w W)∧Hid (W.heap.size=w.heap.size+1)) ⟨heap_alloc_new _ _,(Below.refl _ _).alloc (Nat.le_refl _) _,by show _=_;simp⟩ ?_
 rintro W ⟨HZN,HB1,HW1⟩
 obtain ⟨N,hN⟩:=ex_eq w.heap.size
 have HN:=hid hN
 rw [hN] at HZN HB1 HW1 HHB ⊢
 clear hN
 have fz:=cells6 HZN.o
 obtain ⟨r0,r1,r2,r3,r4,r5⟩:=row6 HZN.o
 go_wp2_with (first
  | (go_at_call 154
     (refine (HHB.o _ HB1.o).mono ?_)
     rintro e w2 ⟨rfl,rfl⟩)
  | (go_at_call 142
     (with_reducible refine (HWK.o _).mono ?_)
     rintro e w2 ⟨rfl,rfl⟩)
  | (go_at_call 142
     (with_reducible refine (HWY.o _).mono ?_)
     rintro e w2 ⟨rfl,rfl⟩))
 (try simp only [Exit.inBlock,Exit.then])
 refine bodyPost_ret (results_cell_row_tmp (p:=10) (u:=11) rfl _ _ N 92 #[.int .i64 0,.int .i64 0,.int .i64 0,.int .i64 0,.slice none 0 0,.string ByteArray.empty] (0,0) _ (by rfl) (put6_row6 HZN.o) Tryz.underlying92 rfl (by kernel_rfl)) rfl ?_
 refine ⟨rfl,?_⟩
 rw [HN.o]
 exact below6 HB1.o (Nat.le_refl _)
theorem append_day {G:Nat→Nat} {s p N0:Nat} {B H:Int} {ls:List Lin} (d kd dy:Nat) (hd:d<ls.length) (hd11:d≤11) (hk:1≤kd∧kd≤9) (hy:dy≤999999) (a:Option Addr) (n c:Nat) (bs:List Nat) (hn:bs.length=n) (hn2:n≤69632)
    (hday: ∃e,ls[d].log.getLast? =some e∧(dy:Int)<e.day) (hfull:ls[d].log.length≤4096) (hl:ls.length≤12) (h0:0<s) (w:World) (hB:BytesAt w a bs) (h:StoreAt w G s p B H ls) (hO:Own w G N0) (hL:Laid w):
    Calls Tryz.prog 139 #[.pointer (some ⟨p,0,none⟩),.int .i64 (d:Int),.int .i64 (kd:Int),.int .i64 (dy:Int),.slice a n c] w fun e w'=>e= .returned (.tuple #[.agg #[.int .i64 0,.int .i64 0,.int .i64 0,.int .i64 0,.slice none 0 0,.string ByteArray.empty],.int .i64 13])∧Below w.heap.size w w':=by
 have HHA:=hid (has_any (d:Int) w h (by omega))
 rw [decide_eq_true ⟨by omega,by omega⟩] at HHA
 have HWK:=hid (fun w=>within_any (kd:Int) 1 9 w)
 rw [show inB (kd:Int) 1 9=true by unfold inB;rw [decide_eq_true (by omega),decide_eq_true (by omega)];rfl] at HWK
 have HWY:=hid (fun w=>within_any (dy:Int) 0 999999 w)
 rw [show inB (dy:Int) 0 999999=true by unfold inB;rw [decide_eq_true (by omega),decide_eq_true (by omega)];rfl] at HWY
 obtain ⟨vr,gs,h⟩:=h
 have HS:=hid h
 obtain ⟨_,a0,cap,rfl,hca,hnil,hpt⟩:=ptrs_of_own h.lines
 have hdg:d<gs.length:=by rw [h.len];exact hd
 obtain ⟨b,rfl,hck⟩:=hpt d hdg
 obtain ⟨vl,vs,ss,hx,f0,f1,f2,f3,f4,f5,f6,f7,f8,f9,f10,f11,f12,f13,f14,hln⟩:=line_at h d hd
 obtain ⟨l,hll⟩: ∃l,l=ls[d]:=⟨_,rfl⟩
 rw [← hll] at hln
 rw [← hll] at hday hfull
 have HLN:=hid hln
 obtain ⟨xs,hx1,hx2,hx3,hx4⟩:=hln.log
 obtain ⟨hnx,al,cl,rfl,hcl,hcm,hnl,hnc⟩:=sixes_cells (fun _=>rfl) hx2
 clear hnx hnc
 obtain ⟨sl,cs,rfl,hsl,hcs,hSS,hns,_⟩:=strs_of_own hln.sums
 obtain ⟨L,hLe⟩:=ex_eq l.log.length
 rw [hLe] at hfull hcl hsl
 have HLE:=hid hLe
 have hL0:L≤4096:=hfull
 have HXE:=hid hx1
 have HXO:Hid (w.ownsRow 0 92 6 (.slice al L cl) L (evs xs)):=hid (by rw [← hLe];exact hx2)
 have HXT:Hid (∀b,(Value.slice al L cl).ownBlock=some b→G b=s+1+d):=hid (by rw [← hLe];exact hx3)
 have HXK:=hid hx4
 have HSE:=hid hln.sumE
 have HSO:Hid (w.ownsRow 0 9 1 (.slice sl L cs) L (strV ss)):=hid (by rw [← hLe];exact hln.sums)
 have HST0:Hid (∀b,(Value.slice sl L cs).ownBlock=some b→G b=s+1+d):=hid (by rw [← hLe];exact hln.stag)
 have HSL:=hid hsl
 have HRW:Hid (w.heap[gs.getD d 0]? =some (.cells (lineRow l.pub (.slice al L cl) (.slice sl L cs) (l.sealed':Int) hx l.fork.isSome f0 f1 f2 f3 f4 f5 f6 f7 f8 f9 f10 f11 f12 f13 f14) 222 (0,0))):=hid (by rw [← hLe];exact hln.row)
 obtain ⟨g,hg⟩:=ex_eq (gs.getD d 0)
 have HGE:=hid hg
 rw [hg] at hck HRW
 have HGT:Hid (G g=s+1+d):=hid (by rw [← hg];exact hln.tag)
 have HC2:Hid (w.cell? ⟨p,2,none⟩=some (.slice (some ⟨b,0,none⟩) gs.length cap)):=hid (store_cells h.row).2.2.1
 have HCK:=hid hck
 have hdi:(d:Int)<(gs.length:Int):=by omega
 have HPV:Hid (∀P0,nb P0=nb (prevOf l.log)→P0=prevOf l.log):=hid (fun P0 h=>nb_inj h)
 have HVE:Hid (∀P0,nb P0=nb (prevOf l.log)→ValidE ⟨(d:Int),((L+1:Nat):Int),(kd:Int),(dy:Int),bs,P0⟩):=hid (fun P0 hP=>by
  refine ⟨by simp only;omega,by simp only;omega,by simp only;omega,by simp only;omega,by simp only;omega,by simp only;omega,by simp only;omega,by simp only;omega,by simp only;omega,?_⟩
  have hz:=congrArg List.length hP
  rw [nb_length,nb_length] at hz
  simp only
  rw [hz]
  by_cases hz0:L=0
  ·have hnl:l.log=[]:=List.eq_nil_of_length_eq_zero (by omega)
   rw [if_pos (by omega),hnl]
   rfl
  ·have hnn:l.log≠[]:=fun e=>hz0 (by rw [← hLe,e];rfl)
   rw [if_neg (by omega),← nb_length,nb_prevOf hnn]
   exact sumE_len _)
 have HSUM:Hid (∀a2 cp2 P0,nb P0=nb (prevOf l.log)→(a2=none→cp2=0)→ ∀V,BytesAt V a2 bs→Laid V→Calls Tryz.prog 62 #[.agg #[.int .i64 (d:Int),.int .i64 ((L:Int)+1),.int .i64 (kd:Int),.int .i64 (dy:Int),.slice a2 n cp2,.string P0]] V fun e w'=> ∃u:ByteArray,e= .returned (.tuple #[.string u,.int .i64 0])∧nb u=sumE (newE l d kd dy bs)∧u.size=32∧Below V.heap.size V w'):=hid (fun a2 cp2 P0 hP hnil V hBV hLV=>by
  have e0:((L+1:Nat):Int)=(L:Int)+1:=Int.natCast_add L 1
  have e1:(⟨(d:Int),((L+1:Nat):Int),(kd:Int),(dy:Int),bs,P0⟩:Ent)=newE l d kd dy bs:=by
   unfold newE
   rw [hLe,HPV.o P0 hP,e0]
  have h1:=sum_ok d (L+1) kd dy a2 n cp2 P0 bs hn hnil (HVE.o P0 hP) (sumE (newE l d kd dy bs)) (by rw [e1]) V hBV hLV
  rw [e0] at h1
  exact h1)
 have HYC:Hid (∀(a2:Option Addr) (cp2:Nat),(⟨newE l d kd dy bs,a2,cp2⟩:EV).cells=[.int .i64 (d:Int),.int .i64 ((L:Int)+1),.int .i64 (kd:Int),.int .i64 (dy:Int),.slice a2 n cp2,.string (prevOf l.log)]):=hid (fun a2 cp2=>by
  unfold EV.cells newE
  simp only
  rw [hLe,hn])
 have HBY:=hid hB
 have HNL:=hid hn
 have HO:=hid hO
 have HL:=hid hL
 have HTG:=hid h.tag
 have hnb:n≤69632:=hn2
 have hng: ¬(69632:Int)<(n:Int):=by omega
 have hw1:wrap64 ((L:Int)+1)=(L:Int)+1:=IntWalk.wrap64_in _ ⟨by omega,by omega⟩
 have HDY:Hid (∃e,l.log.getLast? =some e∧(dy:Int)<e.day):=hid hday
 have HD:Hid (d<ls.length∧ls.length≤12∧0<s):=hid ⟨hd,hl,h0⟩
 have HCE:Hid (∀V,Below w.heap.size w V→V.cell? ⟨p,2,none⟩=some (.slice (some ⟨b,0,none⟩) gs.length cap)∧V.cell? ⟨b,d,none⟩=some (.pointer (some ⟨g,0,none⟩))∧V.cell? ⟨g,1,none⟩=some (.slice al L cl)∧V.cell? ⟨g,2,none⟩=some (.slice sl L cs)):=hid (fun V hV=>by
  have k: ∀{q j:Nat} {y:Value},w.cell? ⟨q,j,none⟩=some y→V.cell? ⟨q,j,none⟩=some y:=fun h=>(hV.cell (World.block_lt_of_cell? w _ h)).trans h
  exact ⟨k HC2.o,k HCK.o,k (line_cells HRW.o).2.1,k (line_cells HRW.o).2.2.1⟩)
 clear h hpt hln hx1 hx2 hx3 hx4 hLe hfull hck hg hll hday hdg hd hl hB hn hO hL hn2 hcl hcm hnl hsl hcs hSS hns hk hy hca hnil h0
 obtain ⟨PV,hPV⟩:=ex_eq (prevOf l.log)
 have HPE:=hid hPV
 rw [hPV] at HPV HVE HYC
 clear hPV
 go_enter Tryz.func139,Tryz.ntmps139
 go_upto_region 1 with fail
 refine wp_over (fun W=>Hid (W.heap[w.heap.size]? =some (.cells #[.int .i64 0,.int .i64 0,.int .i64 0,.int .i64 0,.slice none 0 0,.string ByteArray.empty] 92 (0,0)))∧Hid (Below w.heap.size w W)∧Hid (W.heap.size=w.heap.size+1)) ⟨heap_alloc_new _ _,(Below.refl _ _).alloc (Nat.le_refl _) _,by show _=_;simp⟩ ?_
 rintro W ⟨HZN,HB1,HW1⟩
 obtain ⟨N,hN⟩:=ex_eq w.heap.size
 have HN:=hid hN
 rw [hN] at HZN HB1 HW1 HCE ⊢
 clear hN
 have HHB:Hid (∀V,Below N w V→Calls Tryz.prog 154 #[.pointer (some ⟨p,0,none⟩),.int .i64 (d:Int)] V fun e w'=>e= .returned (.bool true)∧V=w'):=hid (fun V hV=>by
  have h:=has_any (d:Int) V ⟨_,_,HS.o.later (by rw [HN.o];exact hV)⟩ (by have:=HD.o;omega)
  rwa [decide_eq_true ⟨by omega,by have:=HD.o;omega⟩] at h)
 have HSF:Hid (∀(X:Nat) (a2:Option Addr) (cp2:Nat) (U:World),U.heap[g]? =some (.cells (lineRow l.pub (.slice al L cl) (.slice sl L cs) (l.sealed':Int) hx l.fork.isSome f0 f1 f2 f3 f4 f5 f6 f7 f8 f9 f10 f11 f12 f13 f14) 222 (0,0))→U.heap[X]? =some (.cells #[.int .i64 (d:Int),.int .i64 ((L:Int)+1),.int .i64 (kd:Int),.int .i64 (dy:Int),.slice a2 n cp2,.string PV] 92 (0,0))→(U.cell? ⟨g,1,none⟩=some (.slice al L cl)∧U.cell? ⟨X,0,none⟩=some (.int .i64 (d:Int))∧U.cell? ⟨X,1,none⟩=some (.int .i64 ((L:Int)+1))∧U.cell? ⟨X,2,none⟩=some (.int .i64 (kd:Int))∧U.cell? ⟨X,3,none⟩=some (.int .i64 (dy:Int))∧U.cell? ⟨X,4,none⟩=some (.slice a2 n cp2)∧U.cell? ⟨X,5,none⟩=some (.string PV)∧ ∀i,U.frozen? ⟨g,i,none⟩=false)):=hid (fun X a2 cp2 U h1 h2=>by
  obtain ⟨_,k1,_,_,_,_,kf⟩:=line_cells h1
  obtain ⟨e0,e1,e2,e3,e4,e5⟩:=row6 h2
  exact ⟨k1,e0,e1,e2,e3,e4,e5,kf⟩)
 obtain ⟨c2,ck,l1,l2⟩:=HCE.o _ HB1.o
 go_upto_region 7 with (first
  | (go_at_call 154
     (refine (HHB.o _ HB1.o).mono ?_)
     rintro e w2 ⟨rfl,rfl⟩)
  | (go_at_call 142
     (with_reducible refine (HWK.o _).mono ?_)
     rintro e w2 ⟨rfl,rfl⟩)
  | (go_at_call 142
     (with_reducible refine (HWY.o _).mono ?_)
     rintro e w2 ⟨rfl,rfl⟩))
 go_upto_region 8 with (first
  | (go_at_call 217
     (refine (cloneBytes_any a n c bs HNL.o (by omega) _ (HBY.o.later (by rw [HN.o];exact HB1.o))).mono ?_)
     rintro e w2 ⟨a2,cp2,rfl,hn2,hb2,hg2,h2⟩
     have HN2:=hid hn2
     have HBB:=hid hb2
     have HG2:Hid (∀ad,a2=some ad→N+1≤ad.block):=hid (fun ad e=>by have:=hg2 ad e;have:=HW1.o;omega)
     have H2:=hid h2
     clear hn2 hb2 hg2 h2 c2 ck l1 l2))
 refine wp_over (fun V=>Hid (V.heap[w2.heap.size]? =some (.cells #[.int .i64 (d:Int),.int .i64 ((L:Int)+1),.int .i64 (kd:Int),.int .i64 (dy:Int),.slice a2 n cp2,.string ByteArray.empty] 92 (0,0)))∧Hid (Below w2.heap.size w2 V)∧Hid (V.heap.size=w2.heap.size+1)) ⟨heap_alloc_new _ _,(Below.refl _ w2).alloc (Nat.le_refl _) _,by show _=_;simp⟩ ?_
 rintro V ⟨HX,HBV0,HVS⟩
 have HXN:Hid (N+1≤w2.heap.size):=hid (by have:=H2.o.size;have:=HW1.o;omega)
 have HBV:Hid (Below N w V):=hid (HB1.o.trans ((H2.o.trans (HBV0.o.mono H2.o.size)).mono (by have:=HW1.o;omega)))
 have HZV:Hid (V.heap[N]? =some (.cells #[.int .i64 0,.int .i64 0,.int .i64 0,.int .i64 0,.slice none 0 0,.string ByteArray.empty] 92 (0,0))):=hid ((HBV0.o.block N (by have:=HXN.o;omega)).trans ((H2.o.block N (by have:=HW1.o;omega)).trans HZN.o))
 have HBYV:=hid (HBB.o.later HBV0.o)
 have HA2:Hid (bs≠[]→ ∀ad,a2=some ad→N+1≤ad.block∧ad.block<w2.heap.size):=hid (fun hne ad e=>⟨HG2.o ad e,HBB.o.blk ad e hne⟩)
 obtain ⟨X,hX⟩:=ex_eq w2.heap.size
 rw [hX] at HX HVS HXN HA2 ⊢
 clear hX HBV0 HZN HB1 HW1 HBB HG2 H2 HBY
 have fX:=cells6 HX.o
 obtain ⟨x0,x1,x2,x3,x4,x5⟩:=row6 HX.o
 have hz:L≠0:=fun hz=>by
  obtain ⟨e,he1,_⟩:=HDY.o
  rw [show l.log=[] from List.eq_nil_of_length_eq_zero (by rw [HLE.o];exact hz)] at he1
  cases he1
 obtain ⟨m,hm⟩: ∃m,L=m+1:=⟨L - 1,by omega⟩
 have HMX:Hid (m<xs.length):=hid (by
  have h1:=congrArg List.length HXE.o
  rw [List.length_map,HLE.o] at h1
  omega)
 have HML:Hid (m<l.log.length):=hid (by rw [HLE.o];omega)
 have HLM:Hid (l.log.getLast? =some (l.log[m]'HML.o)):=hid (by
  rw [List.getLast?_eq_getElem?,show l.log.length - 1=m by have:=HLE.o;omega,lE HML.o])
 have HXM:Hid ((xs[m]'HMX.o).e=l.log[m]'HML.o):=hid (by
  have h1:=congrArg (fun q=>q[m]?) HXE.o
  simp only [List.getElem?_map,lE HMX.o,lE HML.o,Option.map_some] at h1
  exact Option.some.inj h1)
 have hgz:(0:Int)<(L:Int):=by omega
 have hw2:wrap64 ((L:Int) - 1)=(m:Int):=by rw [IntWalk.wrap64_in _ ⟨by omega,by omega⟩];omega
 have hml:(m:Int)<(L:Int):=by omega
 have hm0:(0:Int)≤(m:Int):=by omega
 obtain ⟨hnx,_,_,he,_,_,_,hcell⟩:=sixes_cells (f:=EV.cells) (fun _=>rfl) (own_later HXO.o (by rw [HN.o];exact HBV.o))
 obtain ⟨b5,hb5,_,hj⟩:=hcell m HMX.o
 injection he with e1 e1b e1c
 rw [← e1] at hb5
 have r3:V.cell? ⟨b5,m*6+3,none⟩=some (.int .i64 (xs[m]'HMX.o).e.day):=hj 3 (by decide)
 obtain ⟨y3,hy3⟩:=ex_eq (xs[m]'HMX.o).e.day
 have hdy3:(dy:Int)<y3:=by
  obtain ⟨e,he1,he2⟩:=HDY.o
  rw [HLM.o] at he1
  injection he1 with he1
  rw [← he1,← HXM.o,hy3] at he2
  exact he2
 rw [hy3] at r3
 clear hcell hj e1 hy3 hnx e1b e1c
 obtain ⟨k2,kk,l1,l2⟩:=HCE.o _ HBV.o
 rw [hb5] at l1
 have fz:=cells6 HZV.o
 obtain ⟨z0,z1,z2,z3,z4,z5⟩:=row6 HZV.o
 clear x0 x1 x2 x3 x4 x5 fX
 go_wp2_with fail
 (try simp only [Exit.inBlock,Exit.then])
 refine bodyPost_ret (results_cell_row_tmp (p:=10) (u:=11) rfl _ _ N 92 #[.int .i64 0,.int .i64 0,.int .i64 0,.int .i64 0,.slice none 0 0,.string ByteArray.empty] (0,0) _ (by rfl) (put6_row6 HZV.o) Tryz.underlying92 rfl (by kernel_rfl)) rfl ?_
 refine ⟨rfl,?_⟩
 rw [HN.o]
 exact below6 HBV.o (Nat.le_refl _)
theorem append_full {G:Nat→Nat} {s p N0:Nat} {B H:Int} {ls:List Lin} (d kd dy:Nat) (hd:d<ls.length) (hd11:d≤11) (hk:1≤kd∧kd≤9) (hy:dy≤999999) (a:Option Addr) (n c:Nat) (bs:List Nat) (hn:bs.length=n) (hn2:n≤69632)
    (hday: ∀e,ls[d].log.getLast? =some e→e.day≤(dy:Int)) (hfull:ls[d].log.length=4096) (hl:ls.length≤12) (h0:0<s) (w:World) (hB:BytesAt w a bs) (h:StoreAt w G s p B H ls) (hO:Own w G N0) (hL:Laid w):
    Calls Tryz.prog 139 #[.pointer (some ⟨p,0,none⟩),.int .i64 (d:Int),.int .i64 (kd:Int),.int .i64 (dy:Int),.slice a n c] w fun e w'=>e= .returned (.tuple #[.agg #[.int .i64 0,.int .i64 0,.int .i64 0,.int .i64 0,.slice none 0 0,.string ByteArray.empty],.int .i64 7])∧Below w.heap.size w w':=by
 have HHA:=hid (has_any (d:Int) w h (by omega))
 rw [decide_eq_true ⟨by omega,by omega⟩] at HHA
 have HWK:=hid (fun w=>within_any (kd:Int) 1 9 w)
 rw [show inB (kd:Int) 1 9=true by unfold inB;rw [decide_eq_true (by omega),decide_eq_true (by omega)];rfl] at HWK
 have HWY:=hid (fun w=>within_any (dy:Int) 0 999999 w)
 rw [show inB (dy:Int) 0 999999=true by unfold inB;rw [decide_eq_true (by omega),decide_eq_true (by omega)];rfl] at HWY
 obtain ⟨vr,gs,h⟩:=h
 have HS:=hid h
 obtain ⟨_,a0,cap,rfl,hca,hnil,hpt⟩:=ptrs_of_own h.lines
 have hdg:d<gs.length:=by rw [h.len];exact hd
 obtain ⟨b,rfl,hck⟩:=hpt d hdg
 obtain ⟨vl,vs,ss,hx,f0,f1,f2,f3,f4,f5,f6,f7,f8,f9,f10,f11,f12,f13,f14,hln⟩:=line_at h d hd
 obtain ⟨l,hll⟩: ∃l,l=ls[d]:=⟨_,rfl⟩
 rw [← hll] at hln
 rw [← hll] at hday hfull
 have HLN:=hid hln
 obtain ⟨xs,hx1,hx2,hx3,hx4⟩:=hln.log
 obtain ⟨hnx,al,cl,rfl,hcl,hcm,hnl,hnc⟩:=sixes_cells (fun _=>rfl) hx2
 clear hnx hnc
 obtain ⟨sl,cs,rfl,hsl,hcs,hSS,hns,_⟩:=strs_of_own hln.sums
 obtain ⟨L,hLe⟩:=ex_eq l.log.length
 rw [hLe] at hfull hcl hsl
 have HLE:=hid hLe
 have hL0:L≤4096:=Nat.le_of_eq hfull
 have HXE:=hid hx1
 have HXO:Hid (w.ownsRow 0 92 6 (.slice al L cl) L (evs xs)):=hid (by rw [← hLe];exact hx2)
 have HXT:Hid (∀b,(Value.slice al L cl).ownBlock=some b→G b=s+1+d):=hid (by rw [← hLe];exact hx3)
 have HXK:=hid hx4
 have HSE:=hid hln.sumE
 have HSO:Hid (w.ownsRow 0 9 1 (.slice sl L cs) L (strV ss)):=hid (by rw [← hLe];exact hln.sums)
 have HST0:Hid (∀b,(Value.slice sl L cs).ownBlock=some b→G b=s+1+d):=hid (by rw [← hLe];exact hln.stag)
 have HSL:=hid hsl
 have HRW:Hid (w.heap[gs.getD d 0]? =some (.cells (lineRow l.pub (.slice al L cl) (.slice sl L cs) (l.sealed':Int) hx l.fork.isSome f0 f1 f2 f3 f4 f5 f6 f7 f8 f9 f10 f11 f12 f13 f14) 222 (0,0))):=hid (by rw [← hLe];exact hln.row)
 obtain ⟨g,hg⟩:=ex_eq (gs.getD d 0)
 have HGE:=hid hg
 rw [hg] at hck HRW
 have HGT:Hid (G g=s+1+d):=hid (by rw [← hg];exact hln.tag)
 have HC2:Hid (w.cell? ⟨p,2,none⟩=some (.slice (some ⟨b,0,none⟩) gs.length cap)):=hid (store_cells h.row).2.2.1
 have HCK:=hid hck
 have hdi:(d:Int)<(gs.length:Int):=by omega
 have HPV:Hid (∀P0,nb P0=nb (prevOf l.log)→P0=prevOf l.log):=hid (fun P0 h=>nb_inj h)
 have HVE:Hid (∀P0,nb P0=nb (prevOf l.log)→ValidE ⟨(d:Int),((L+1:Nat):Int),(kd:Int),(dy:Int),bs,P0⟩):=hid (fun P0 hP=>by
  refine ⟨by simp only;omega,by simp only;omega,by simp only;omega,by simp only;omega,by simp only;omega,by simp only;omega,by simp only;omega,by simp only;omega,by simp only;omega,?_⟩
  have hz:=congrArg List.length hP
  rw [nb_length,nb_length] at hz
  simp only
  rw [hz]
  by_cases hz0:L=0
  ·have hnl:l.log=[]:=List.eq_nil_of_length_eq_zero (by omega)
   rw [if_pos (by omega),hnl]
   rfl
  ·have hnn:l.log≠[]:=fun e=>hz0 (by rw [← hLe,e];rfl)
   rw [if_neg (by omega),← nb_length,nb_prevOf hnn]
   exact sumE_len _)
 have HSUM:Hid (∀a2 cp2 P0,nb P0=nb (prevOf l.log)→(a2=none→cp2=0)→ ∀V,BytesAt V a2 bs→Laid V→Calls Tryz.prog 62 #[.agg #[.int .i64 (d:Int),.int .i64 ((L:Int)+1),.int .i64 (kd:Int),.int .i64 (dy:Int),.slice a2 n cp2,.string P0]] V fun e w'=> ∃u:ByteArray,e= .returned (.tuple #[.string u,.int .i64 0])∧nb u=sumE (newE l d kd dy bs)∧u.size=32∧Below V.heap.size V w'):=hid (fun a2 cp2 P0 hP hnil V hBV hLV=>by
  have e0:((L+1:Nat):Int)=(L:Int)+1:=Int.natCast_add L 1
  have e1:(⟨(d:Int),((L+1:Nat):Int),(kd:Int),(dy:Int),bs,P0⟩:Ent)=newE l d kd dy bs:=by
   unfold newE
   rw [hLe,HPV.o P0 hP,e0]
  have h1:=sum_ok d (L+1) kd dy a2 n cp2 P0 bs hn hnil (HVE.o P0 hP) (sumE (newE l d kd dy bs)) (by rw [e1]) V hBV hLV
  rw [e0] at h1
  exact h1)
 have HYC:Hid (∀(a2:Option Addr) (cp2:Nat),(⟨newE l d kd dy bs,a2,cp2⟩:EV).cells=[.int .i64 (d:Int),.int .i64 ((L:Int)+1),.int .i64 (kd:Int),.int .i64 (dy:Int),.slice a2 n cp2,.string (prevOf l.log)]):=hid (fun a2 cp2=>by
  unfold EV.cells newE
  simp only
  rw [hLe,hn])
 have HBY:=hid hB
 have HNL:=hid hn
 have HO:=hid hO
 have HL:=hid hL
 have HTG:=hid h.tag
 have hnb:n≤69632:=hn2
 have hng: ¬(69632:Int)<(n:Int):=by omega
 have hnf:(4096:Int)≤(L:Int):=by omega
 have hw1:wrap64 ((L:Int)+1)=(L:Int)+1:=IntWalk.wrap64_in _ ⟨by omega,by omega⟩
 have HDY:Hid (∀e,l.log.getLast? =some e→e.day≤(dy:Int)):=hid hday
 have HD:Hid (d<ls.length∧ls.length≤12∧0<s):=hid ⟨hd,hl,h0⟩
 have HCE:Hid (∀V,Below w.heap.size w V→V.cell? ⟨p,2,none⟩=some (.slice (some ⟨b,0,none⟩) gs.length cap)∧V.cell? ⟨b,d,none⟩=some (.pointer (some ⟨g,0,none⟩))∧V.cell? ⟨g,1,none⟩=some (.slice al L cl)∧V.cell? ⟨g,2,none⟩=some (.slice sl L cs)):=hid (fun V hV=>by
  have k: ∀{q j:Nat} {y:Value},w.cell? ⟨q,j,none⟩=some y→V.cell? ⟨q,j,none⟩=some y:=fun h=>(hV.cell (World.block_lt_of_cell? w _ h)).trans h
  exact ⟨k HC2.o,k HCK.o,k (line_cells HRW.o).2.1,k (line_cells HRW.o).2.2.1⟩)
 clear h hpt hln hx1 hx2 hx3 hx4 hLe hfull hck hg hll hday hdg hd hl hB hn hO hL hn2 hcl hcm hnl hsl hcs hSS hns hk hy hca hnil h0
 obtain ⟨PV,hPV⟩:=ex_eq (prevOf l.log)
 have HPE:=hid hPV
 rw [hPV] at HPV HVE HYC
 clear hPV
 go_enter Tryz.func139,Tryz.ntmps139
 go_upto_region 1 with fail
 refine wp_over (fun W=>Hid (W.heap[w.heap.size]? =some (.cells #[.int .i64 0,.int .i64 0,.int .i64 0,.int .i64 0,.slice none 0 0,.string ByteArray.empty] 92 (0,0)))∧Hid (Below w.heap.size w W)∧Hid (W.heap.size=w.heap.size+1)) ⟨heap_alloc_new _ _,(Below.refl _ _).alloc (Nat.le_refl _) _,by show _=_;simp⟩ ?_
 rintro W ⟨HZN,HB1,HW1⟩
 obtain ⟨N,hN⟩:=ex_eq w.heap.size
 have HN:=hid hN
 rw [hN] at HZN HB1 HW1 HCE ⊢
 clear hN
 have HHB:Hid (∀V,Below N w V→Calls Tryz.prog 154 #[.pointer (some ⟨p,0,none⟩),.int .i64 (d:Int)] V fun e w'=>e= .returned (.bool true)∧V=w'):=hid (fun V hV=>by
  have h:=has_any (d:Int) V ⟨_,_,HS.o.later (by rw [HN.o];exact hV)⟩ (by have:=HD.o;omega)
  rwa [decide_eq_true ⟨by omega,by have:=HD.o;omega⟩] at h)
 have HSF:Hid (∀(X:Nat) (a2:Option Addr) (cp2:Nat) (U:World),U.heap[g]? =some (.cells (lineRow l.pub (.slice al L cl) (.slice sl L cs) (l.sealed':Int) hx l.fork.isSome f0 f1 f2 f3 f4 f5 f6 f7 f8 f9 f10 f11 f12 f13 f14) 222 (0,0))→U.heap[X]? =some (.cells #[.int .i64 (d:Int),.int .i64 ((L:Int)+1),.int .i64 (kd:Int),.int .i64 (dy:Int),.slice a2 n cp2,.string PV] 92 (0,0))→(U.cell? ⟨g,1,none⟩=some (.slice al L cl)∧U.cell? ⟨X,0,none⟩=some (.int .i64 (d:Int))∧U.cell? ⟨X,1,none⟩=some (.int .i64 ((L:Int)+1))∧U.cell? ⟨X,2,none⟩=some (.int .i64 (kd:Int))∧U.cell? ⟨X,3,none⟩=some (.int .i64 (dy:Int))∧U.cell? ⟨X,4,none⟩=some (.slice a2 n cp2)∧U.cell? ⟨X,5,none⟩=some (.string PV)∧ ∀i,U.frozen? ⟨g,i,none⟩=false)):=hid (fun X a2 cp2 U h1 h2=>by
  obtain ⟨_,k1,_,_,_,_,kf⟩:=line_cells h1
  obtain ⟨e0,e1,e2,e3,e4,e5⟩:=row6 h2
  exact ⟨k1,e0,e1,e2,e3,e4,e5,kf⟩)
 obtain ⟨c2,ck,l1,l2⟩:=HCE.o _ HB1.o
 go_upto_region 7 with (first
  | (go_at_call 154
     (refine (HHB.o _ HB1.o).mono ?_)
     rintro e w2 ⟨rfl,rfl⟩)
  | (go_at_call 142
     (with_reducible refine (HWK.o _).mono ?_)
     rintro e w2 ⟨rfl,rfl⟩)
  | (go_at_call 142
     (with_reducible refine (HWY.o _).mono ?_)
     rintro e w2 ⟨rfl,rfl⟩))
 go_upto_region 8 with (first
  | (go_at_call 217
     (refine (cloneBytes_any a n c bs HNL.o (by omega) _ (HBY.o.later (by rw [HN.o];exact HB1.o))).mono ?_)
     rintro e w2 ⟨a2,cp2,rfl,hn2,hb2,hg2,h2⟩
     have HN2:=hid hn2
     have HBB:=hid hb2
     have HG2:Hid (∀ad,a2=some ad→N+1≤ad.block):=hid (fun ad e=>by have:=hg2 ad e;have:=HW1.o;omega)
     have H2:=hid h2
     clear hn2 hb2 hg2 h2 c2 ck l1 l2))
 refine wp_over (fun V=>Hid (V.heap[w2.heap.size]? =some (.cells #[.int .i64 (d:Int),.int .i64 ((L:Int)+1),.int .i64 (kd:Int),.int .i64 (dy:Int),.slice a2 n cp2,.string ByteArray.empty] 92 (0,0)))∧Hid (Below w2.heap.size w2 V)∧Hid (V.heap.size=w2.heap.size+1)) ⟨heap_alloc_new _ _,(Below.refl _ w2).alloc (Nat.le_refl _) _,by show _=_;simp⟩ ?_
 rintro V ⟨HX,HBV0,HVS⟩
 have HXN:Hid (N+1≤w2.heap.size):=hid (by have:=H2.o.size;have:=HW1.o;omega)
 have HBV:Hid (Below N w V):=hid (HB1.o.trans ((H2.o.trans (HBV0.o.mono H2.o.size)).mono (by have:=HW1.o;omega)))
 have HZV:Hid (V.heap[N]? =some (.cells #[.int .i64 0,.int .i64 0,.int .i64 0,.int .i64 0,.slice none 0 0,.string ByteArray.empty] 92 (0,0))):=hid ((HBV0.o.block N (by have:=HXN.o;omega)).trans ((H2.o.block N (by have:=HW1.o;omega)).trans HZN.o))
 have HBYV:=hid (HBB.o.later HBV0.o)
 have HA2:Hid (bs≠[]→ ∀ad,a2=some ad→N+1≤ad.block∧ad.block<w2.heap.size):=hid (fun hne ad e=>⟨HG2.o ad e,HBB.o.blk ad e hne⟩)
 obtain ⟨X,hX⟩:=ex_eq w2.heap.size
 rw [hX] at HX HVS HXN HA2 ⊢
 clear hX HBV0 HZN HB1 HW1 HBB HG2 H2 HBY
 have fX:=cells6 HX.o
 obtain ⟨x0,x1,x2,x3,x4,x5⟩:=row6 HX.o
 have hz:L≠0:=by omega
 obtain ⟨m,hm⟩: ∃m,L=m+1:=⟨L - 1,by omega⟩
 have HMX:Hid (m<xs.length):=hid (by
  have h1:=congrArg List.length HXE.o
  rw [List.length_map,HLE.o] at h1
  omega)
 have HML:Hid (m<l.log.length):=hid (by rw [HLE.o];omega)
 have HLM:Hid (l.log.getLast? =some (l.log[m]'HML.o)):=hid (by
  rw [List.getLast?_eq_getElem?,show l.log.length - 1=m by have:=HLE.o;omega,lE HML.o])
 have HXM:Hid ((xs[m]'HMX.o).e=l.log[m]'HML.o):=hid (by
  have h1:=congrArg (fun q=>q[m]?) HXE.o
  simp only [List.getElem?_map,lE HMX.o,lE HML.o,Option.map_some] at h1
  exact Option.some.inj h1)
 have hgz:(0:Int)<(L:Int):=by omega
 have hw2:wrap64 ((L:Int) - 1)=(m:Int):=by rw [IntWalk.wrap64_in _ ⟨by omega,by omega⟩];omega
 have hml:(m:Int)<(L:Int):=by omega
 have hm0:(0:Int)≤(m:Int):=by omega
 obtain ⟨hnx,_,_,he,_,_,_,hcell⟩:=sixes_cells (f:=EV.cells) (fun _=>rfl) (own_later HXO.o (by rw [HN.o];exact HBV.o))
 obtain ⟨b5,hb5,_,hj⟩:=hcell m HMX.o
 injection he with e1 e1b e1c
 rw [← e1] at hb5
 have r3:V.cell? ⟨b5,m*6+3,none⟩=some (.int .i64 (xs[m]'HMX.o).e.day):=hj 3 (by decide)
 obtain ⟨y3,hy3⟩:=ex_eq (xs[m]'HMX.o).e.day
 have hdy3: ¬(dy:Int)<y3:=by
  have:=HDY.o _ HLM.o
  rw [← HXM.o,hy3] at this
  omega
 rw [hy3] at r3
 obtain ⟨sa,sc,he2,_,_,hSS,_,_⟩:=strs_of_own (own_later HSO.o (by rw [HN.o];exact HBV.o))
 obtain ⟨b6,o6,hb6,hs6⟩: ∃b o,sa=some ⟨b,o,none⟩∧ ∀i,i<ss.length→V.cell? ⟨b,o+i,none⟩=some (.string (ss.getD i ByteArray.empty)):=by
  rcases hSS with h | h
  ·have:=HSL.o;rw [h] at this;simp at this;omega
  ·exact h
 injection he2 with e2 e2b e2c
 rw [← e2] at hb6
 have r5:=hs6 m (by rw [HSL.o];omega)
 have HPM:Hid (ss.getD m ByteArray.empty=PV):=hid (HPV.o _ (by
  rw [← HPE.o,nb_prevOf (fun e=>by have:=HML.o;rw [e] at this;simp at this)]
  have h1:=congrArg (fun q=>q[m]?) HSE.o
  simp only [List.getElem?_map,lE (show m<ss.length by rw [HSL.o];omega),lE HML.o,Option.map_some] at h1
  have h2:=Option.some.inj h1
  rw [lD,lE (show m<ss.length by rw [HSL.o];omega),Option.getD_some,h2,List.getLast_eq_getElem]
  congr 1
  congr 1
  rw [HLE.o];omega))
 rw [HPM.o] at r5
 clear hcell hj e1 hs6 hSS e2 hy3 hnx e1b e1c e2b e2c
 obtain ⟨k2,kk,l1,l2⟩:=HCE.o _ HBV.o
 rw [hb5] at l1
 rw [hb6] at l2
 have HBX:=hid hb5
 have HBX2:=hid hb6
 clear hb5 hb6
 go_upto_region 12 with fail
 refine wp_over (fun V=>Hid (V.heap[X]? =some (.cells #[.int .i64 (d:Int),.int .i64 ((L:Int)+1),.int .i64 (kd:Int),.int .i64 (dy:Int),.slice a2 n cp2,.string PV] 92 (0,0)))∧Hid (Below N w V)∧Hid (V.heap[N]? =some (.cells #[.int .i64 0,.int .i64 0,.int .i64 0,.int .i64 0,.slice none 0 0,.string ByteArray.empty] 92 (0,0)))∧Hid (BytesAt V a2 bs)∧Hid (X+1≤V.heap.size)) ⟨heap_setCell_same _ X 5 _ _ _ HX.o,HBV.o.setCell (p:=⟨X,5,none⟩) (by show N≤X;have:=HXN.o;omega) _,(Below.heap_setCell _ _ _ _ (by show N≠X;have:=HXN.o;omega)).trans HZV.o,bytes_ne HBYV.o (Chg.setCell1 (M:=fun k _=>k=X) _ _ _ _ rfl) (fun hne ad e i h=>by have:=(HA2.o hne ad e).2;omega),hid (by rw [show (V.setCell ⟨X,5,none⟩ (Value.string PV)).heap.size=V.heap.size by simp [World.setCell],HVS.o];exact Nat.le_refl _)⟩ ?_
 clear fX x0 x1 x2 x3 x4 x5 hgz hw2 hml hm0 r3 hdy3 r5 k2 kk l1 l2 HBX HBX2 HPM HXM HLM HML HMX hm hz
 clear HX HBV HZV HBYV HVS
 rintro V1 ⟨HX,HBV,HZV,HBYV,HVS⟩
 have fz:=cells6 HZV.o
 obtain ⟨z0,z1,z2,z3,z4,z5⟩:=row6 HZV.o
 go_wp2_with fail
 (try simp only [Exit.inBlock,Exit.then])
 refine bodyPost_ret (results_cell_row_tmp (p:=10) (u:=11) rfl _ _ N 92 #[.int .i64 0,.int .i64 0,.int .i64 0,.int .i64 0,.slice none 0 0,.string ByteArray.empty] (0,0) _ (by rfl) (put6_row6 HZV.o) Tryz.underlying92 rfl (by kernel_rfl)) rfl ?_
 refine ⟨rfl,?_⟩
 rw [HN.o]
 exact below6 HBV.o (Nat.le_refl _)
end Go.Proofs.YtndlihclgdkpaaaGreatDoor

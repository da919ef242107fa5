/- gossip: the other ways of Seal. -/
import Derived.Test.YtndlihclgdkpaaaGreatDoorGg
import Derived.Test.YtndlihclgdkpaaaGreatDoorGse
set_option linter.unusedVariables false
set_option linter.unusedSimpArgs false
open Go.Lib (hid)
set_option maxHeartbeats 2000000
set_option maxRecDepth 100000
namespace Go.Proofs.YtndlihclgdkpaaaGreatDoor
open Go.RowKit
open Kit (Chg)
open Sha (v)
open Go.Proofs.YtndlihclgdkpaaaGreatDoor.One

theorem seal_empty {G:Nat→Nat} {s p N0:Nat} {B H:Int} {ls:List Lin} {SB g0 b t next:Nat} {seed pk:ByteArray} (d:Nat) (hd:d<ls.length) (hd11:d≤11) (hl:ls.length≤12) (h0:7<s) (hpk:ls[d].pub=pk) (hne:ls[d].log=[])
    (w:World) (h:StoreAt w G s p B H ls) (hO:Own w G N0) (hSg:SgIn w N0 SB g0 b t seed pk next) (hg0:G g0=7) (hL:Laid w):
    Calls Tryz.prog 140 #[.pointer (some ⟨p,0,none⟩),.int .i64 (d:Int),.pointer (some ⟨g0,0,none⟩)] w fun e w'=>e= .returned (.tuple #[.agg #[.int .i64 0,.int .i64 0,.string ByteArray.empty,.int .i64 0,.slice none 0 0,.slice none 0 0],.int .i64 4])∧Below w.heap.size w w':=by
 obtain ⟨vr,gs,h⟩:=h
 have HS:=hid h
 obtain ⟨_,a0,cap,rfl,hca,hnil,hpt⟩:=ptrs_of_own h.lines
 have hdg:d<gs.length:=by rw [h.len];exact hd
 obtain ⟨b0,rfl,hck⟩:=hpt d hdg
 obtain ⟨vl,vs,ss,hx,f0,f1,f2,f3,f4,f5,f6,f7,f8,f9,f10,f11,f12,f13,f14,hln⟩:=line_at h d hd
 obtain ⟨xs,hx1,hx2,hx3,hx4⟩:=hln.log
 obtain ⟨_,al,cl,rfl,_,_,_,_⟩:=sixes_cells (fun _=>rfl) hx2
 have HRW:=hid hln.row
 rw [hne] at HRW
 have HC2:Hid (w.cell? ⟨p,2,none⟩=some (.slice (some ⟨b0,0,none⟩) gs.length cap)):=hid (store_cells h.row).2.2.1
 have HCK:=hid hck
 have hdi:(d:Int)<(gs.length:Int):=by omega
 obtain ⟨g,hg⟩:=ex_eq (gs.getD d 0)
 rw [hg] at HCK HRW
 have HD:Hid (d<ls.length∧ls.length≤12):=hid ⟨hd,hl⟩
 have HCE:Hid (∀V,Below w.heap.size w V→V.cell? ⟨p,2,none⟩=some (.slice (some ⟨b0,0,none⟩) gs.length cap)∧V.cell? ⟨b0,d,none⟩=some (.pointer (some ⟨g,0,none⟩))∧V.cell? ⟨g,1,none⟩=some (.slice al 0 cl)):=hid (fun V hV=>by
  obtain ⟨_,k1,_⟩:=line_cells HRW.o
  have k: ∀{q j:Nat} {y:Value},w.cell? ⟨q,j,none⟩=some y→V.cell? ⟨q,j,none⟩=some y:=fun h=>(hV.cell (World.block_lt_of_cell? w _ h)).trans h
  exact ⟨k HC2.o,k HCK.o,k k1⟩)
 clear h hpt hln hck hg hdg hO hL hca hnil h0 hSg hg0 hpk hx1 hx2 hx3 hx4
 go_enter Tryz.func140,Tryz.ntmps140
 go_upto_region 1 with fail
 refine wp_over (fun W=>Hid (W.heap[w.heap.size]? =some (.cells #[.int .i64 0,.int .i64 0,.string ByteArray.empty,.int .i64 0,.slice none 0 0,.slice none 0 0] 94 (0,0)))∧Hid (Below w.heap.size w W)∧Hid (W.heap.size=w.heap.size+1)) ⟨heap_alloc_new _ _,(Below.refl _ _).alloc (Nat.le_refl _) _,by show _=_;simp⟩ ?_
 rintro W ⟨HZN,HB1,HW1⟩
 obtain ⟨N,hN⟩:=ex_eq w.heap.size
 have HN:=hid hN
 rw [hN] at HZN HB1 HW1 HCE ⊢
 clear hN
 have HHB:Hid (∀V,Below N w V→Calls Tryz.prog 154 #[.pointer (some ⟨p,0,none⟩),.int .i64 (d:Int)] V fun e w'=>e= .returned (.bool true)∧V=w'):=hid (fun V hV=>by
  have h:=has_any (d:Int) V ⟨_,_,HS.o.later (by rw [HN.o];exact hV)⟩ (by have:=HD.o;omega)
  rwa [decide_eq_true ⟨by omega,by have:=HD.o;omega⟩] at h)
 obtain ⟨k2,kb,l1⟩:=HCE.o _ HB1.o
 have fz:=cells6 HZN.o
 obtain ⟨r0,r1,r2,r3,r4,r5⟩:=row6 HZN.o
 go_wp2_with (first
  | (go_at_call 154
     (with_reducible refine (HHB.o _ HB1.o).mono ?_)
     rintro e w2 ⟨rfl,rfl⟩))
 (try simp only [Exit.inBlock,Exit.then])
 refine bodyPost_ret (results_cell_row_tmp (p:=6) (u:=7) rfl _ _ N 94 #[.int .i64 0,.int .i64 0,.string ByteArray.empty,.int .i64 0,.slice none 0 0,.slice none 0 0] (0,0) _ (by rfl) (put6_row6 HZN.o) Tryz.underlying94 rfl (by kernel_rfl)) rfl ?_
 refine ⟨rfl,?_⟩
 rw [HN.o]
 exact below6 HB1.o (Nat.le_refl _)
theorem seal_same {G:Nat→Nat} {s p N0:Nat} {B H:Int} {ls:List Lin} {SB g0 b t next:Nat} {seed pk:ByteArray} (d:Nat) (hd:d<ls.length) (hd11:d≤11) (hl:ls.length≤12) (h0:7<s) (hpk:ls[d].pub=pk) (hne:ls[d].log≠[]) (hse:ls[d].sealed'=ls[d].log.length) (hmax:ls[d].log.length≤4096) (hsm:ls[d].head.ps.length≤100000000∧ls[d].head.qs.length≤100000000)
    (w:World) (h:StoreAt w G s p B H ls) (hO:Own w G N0) (hSg:SgIn w N0 SB g0 b t seed pk next) (hg0:G g0=7) (hL:Laid w):
    Calls Tryz.prog 140 #[.pointer (some ⟨p,0,none⟩),.int .i64 (d:Int),.pointer (some ⟨g0,0,none⟩)] w fun e w'=> ∃(x:HV),e= .returned (.tuple #[.agg #[.int .i64 x.h.dev,.int .i64 x.h.seq,.string x.h.sum,.int .i64 x.h.idx,.slice x.a1 x.h.ps.length x.c1,.slice x.a2 x.h.qs.length x.c2],.int .i64 0])∧Below w.heap.size w w':=by
 obtain ⟨vr,gs,h⟩:=h
 have HS:=hid h
 obtain ⟨_,a0,cap,rfl,hca,hnil,hpt⟩:=ptrs_of_own h.lines
 have hdg:d<gs.length:=by rw [h.len];exact hd
 obtain ⟨b0,rfl,hck⟩:=hpt d hdg
 obtain ⟨vl,vs,ss,hx,f0,f1,f2,f3,f4,f5,f6,f7,f8,f9,f10,f11,f12,f13,f14,hln⟩:=line_at h d hd
 obtain ⟨l,hll⟩: ∃l,l=ls[d]:=⟨_,rfl⟩
 rw [← hll] at hln
 rw [← hll] at hpk hne hse hmax
 have HLN:=hid hln
 rw [← hll] at hsm
 have HSM:Hid (hx.h.ps.length≤100000000∧hx.h.qs.length≤100000000):=hid (by rw [hln.head];exact hsm)
 clear hsm
 obtain ⟨xs,hx1,hx2,hx3,hx4⟩:=hln.log
 obtain ⟨hnxs,al,cl,rfl,hcl,hcm,hnl,hnc⟩:=sixes_cells (fun _=>rfl) hx2
 obtain ⟨sl,cs,rfl,hsl,hcs,hSS,hns,hnb⟩:=strs_of_own hln.sums
 clear hx1 hx2 hx3 hx4 hnxs hnc hnb
 obtain ⟨L,hLe⟩:=ex_eq l.log.length
 rw [hLe] at hse hmax hcl hsl
 have HLE:=hid hLe
 have hL0:0<L:=by rw [← hLe];exact List.length_pos_iff.2 hne
 obtain ⟨m,hm⟩: ∃m,L=m+1:=⟨L - 1,by omega⟩
 have HML:Hid (m<l.log.length):=hid (by omega)
 have HPS:Hid ((prevOf l.log).size=32):=hid (by rw [← nb_length,nb_prevOf hne];exact sumE_len _)
 have hPM:ss.getD m ByteArray.empty=prevOf l.log:=nb_inj (by
  rw [nb_prevOf hne]
  have h1:=congrArg (fun q=>q[m]?) hln.sumE
  simp only [List.getElem?_map,lE (show m<ss.length by omega),lE HML.o,Option.map_some] at h1
  have h2:=Option.some.inj h1
  rw [lD,lE (show m<ss.length by omega),Option.getD_some,h2,List.getLast_eq_getElem]
  congr 1
  congr 1
  omega)
 obtain ⟨b6,o6,rfl,hs6⟩: ∃b o,sl=some ⟨b,o,none⟩∧ ∀i,i<ss.length→w.cell? ⟨b,o+i,none⟩=some (.string (ss.getD i ByteArray.empty)):=by
  rcases hSS with h | h
  ·rw [h] at hsl;simp at hsl;omega
  ·exact h
 have hc6:=hs6 m (by omega)
 rw [hPM] at hc6
 obtain ⟨PV,hPV⟩:=ex_eq (prevOf l.log)
 rw [hPV] at hc6 HPS
 have HRW:Hid (w.heap[gs.getD d 0]? =some (.cells (lineRow l.pub (.slice al L cl) (.slice (some ⟨b6,o6,none⟩) L cs) (l.sealed':Int) hx l.fork.isSome f0 f1 f2 f3 f4 f5 f6 f7 f8 f9 f10 f11 f12 f13 f14) 222 (0,0))):=hid (by rw [← hLe];exact hln.row)
 have HST6:Hid (b6≠g0):=hid (fun e=>by
  have h1:(Value.slice (some ⟨b6,o6,none⟩) l.log.length cs).ownBlock=some b6:=by
   rcases hln.sums.2 with ⟨hh,_⟩ | ⟨g',cap',cur,hh,_⟩
   ·cases hh
   ·injection hh with hh _ _
    injection hh with hh
    injection hh with e1 e2
    rw [e1,e2];rfl
  have:=hln.stag b6 h1
  rw [e,hg0] at this
  omega)
 have HB0:Hid (b0≠g0):=hid (fun e=>by
  have h1:(Value.slice (some ⟨b0,0,none⟩) gs.length cap).ownBlock=some b0:=rfl
  have:=h.ltag b0 h1
  rw [e,hg0] at this
  omega)
 obtain ⟨g,hg⟩:=ex_eq (gs.getD d 0)
 have HGE:=hid hg
 rw [hg] at hck HRW
 have HGT:Hid (G g=s+1+d):=hid (by rw [← hg];exact hln.tag)
 have HGN:Hid (g≠g0):=hid (fun e=>by have:=HGT.o;rw [e,hg0] at this;omega)
 have HPN:Hid (p≠g0):=hid (fun e=>by have:=h.tag;rw [e,hg0] at this;omega)
 have HC2:Hid (w.cell? ⟨p,2,none⟩=some (.slice (some ⟨b0,0,none⟩) gs.length cap)):=hid (store_cells h.row).2.2.1
 have HCK:=hid hck
 have HC6:=hid hc6
 have hdi:(d:Int)<(gs.length:Int):=by omega
 have HO:=hid hO
 have HL:=hid hL
 have HSG:=hid hSg
 have HG0:=hid hg0
 have HD:Hid (d<ls.length∧ls.length≤12∧7<s):=hid ⟨hd,hl,h0⟩
 have hse2: ¬((l.sealed':Nat):Int)<(L:Int):=by omega
 have HLM:Hid (L≤4096):=hid hmax
 have hgz:((L:Int)==0)=false:=by rw [beq_eq_false_iff_ne];omega
 have hw2:wrap64 ((L:Int) - 1)=(m:Int):=by rw [IntWalk.wrap64_in _ ⟨by omega,by omega⟩];omega
 have hml:(m:Int)<(L:Int):=by omega
 have hm0:(0:Int)≤(m:Int):=by omega
 have HPK:Hid (l.pub=pk):=hid hpk
 have HPE:=hid hPV
 have HCT:Hid (count b 32≤1000∧t≤8):=hid ⟨count_max hSg.bits,hSg.height⟩
 have HBT:Hid (Bits b):=hid hSg.bits
 have HCE:Hid (∀V,Chg (fun q i=>q=g0∧i=6) w V→V.cell? ⟨p,2,none⟩=some (.slice (some ⟨b0,0,none⟩) gs.length cap)∧V.cell? ⟨b0,d,none⟩=some (.pointer (some ⟨g,0,none⟩))∧V.cell? ⟨g,0,none⟩=some (.string pk)∧V.cell? ⟨g,1,none⟩=some (.slice al L cl)∧V.cell? ⟨g,2,none⟩=some (.slice (some ⟨b6,o6,none⟩) L cs)∧V.cell? ⟨g,3,none⟩=some (.int .i64 ((l.sealed':Nat):Int))∧V.cell? ⟨b6,o6+m,none⟩=some (.string PV)):=hid (fun V hV=>by
  obtain ⟨k0,k1,k2,k3,_⟩:=line_cells HRW.o
  rw [HPK.o] at k0
  exact ⟨hV.cell HC2.o (fun e=>HPN.o e.1),hV.cell HCK.o (fun e=>HB0.o e.1),hV.cell k0 (fun e=>HGN.o e.1),hV.cell k1 (fun e=>HGN.o e.1),hV.cell k2 (fun e=>HGN.o e.1),hV.cell k3 (fun e=>HGN.o e.1),hV.cell HC6.o (fun e=>HST6.o e.1)⟩)
 clear h hpt hln hLe hck hg hll hdg hd hl hO hL hcl hcm hnl hsl hcs hSS hns hca hnil h0 hSg hg0 hpk hne hse hmax hPV hPM hs6 hc6 hL0 hm
 go_enter Tryz.func140,Tryz.ntmps140
 go_upto_region 1 with fail
 refine wp_over (fun W=>Hid (W.heap[w.heap.size]? =some (.cells #[.int .i64 0,.int .i64 0,.string ByteArray.empty,.int .i64 0,.slice none 0 0,.slice none 0 0] 94 (0,0)))∧Hid (Below w.heap.size w W)∧Hid (W.heap.size=w.heap.size+1)) ⟨heap_alloc_new _ _,(Below.refl _ _).alloc (Nat.le_refl _) _,by show _=_;simp⟩ ?_
 rintro W ⟨HZN,HB1,HW1⟩
 obtain ⟨N,hN⟩:=ex_eq w.heap.size
 have HN:=hid hN
 rw [hN] at HZN HB1 HW1 ⊢
 clear hN
 have HBC:Hid (∀V,Below N w V→Chg (fun q i=>q=g0∧i=6) w V):=hid (fun V hV=>by rw [← HN.o] at hV;exact Chg.of_below hV)
 have HHB:Hid (∀V,Below N w V→Calls Tryz.prog 154 #[.pointer (some ⟨p,0,none⟩),.int .i64 (d:Int)] V fun e w'=>e= .returned (.bool true)∧V=w'):=hid (fun V hV=>by
  have h:=has_any (d:Int) V ⟨_,_,HS.o.later (by rw [HN.o];exact hV)⟩ (by have:=HD.o;omega)
  rwa [decide_eq_true ⟨by omega,by have:=HD.o;omega⟩] at h)
 obtain ⟨k2,kb,l0,l1,l2,l3,l6⟩:=HCE.o _ (HBC.o _ HB1.o)
 go_upto_region 7 with (first
  | (go_at_call 154
     (with_reducible refine (HHB.o _ HB1.o).mono ?_)
     rintro e w2 ⟨rfl,rfl⟩))
 have HSA:Hid (SignerAt W.drew SB g0 b t seed pk next):=hid ((HSG.o.later (by rw [HN.o];exact HB1.o.drew)).at)
 refine Kit.wp_region_gplan (fun V=>V.cell? ⟨g,0,none⟩=some (.string pk)) [(true,0),(true,2),(true,3),(true,4),(true,5),(false,1),(true,6)] (by kernel_rfl) (by kernel_rfl) (by kernel_rfl) (by kernel_rfl) l0 ?_
 iterate 5 (refine Kit.ghd (h:= ?_))
 refine Kit.gplan_op (by rfl) (by rfl) fun K hK=> ?_
 go_simp
 go_at_call 24
 refine (signerPublic_any _ HSA.o).mono ?_
 rintro e w3 ⟨rfl,rfl⟩
 refine hK _ _ l0 ?_
 clear hK K
 iterate 1 (refine Kit.ghd (h:= ?_))
 refine Kit.gdn (h:=?_)
 obtain ⟨VD,hVD⟩:=ex_eq W.drew
 have HB2:Hid (Below N w VD):=hid (by rw [← hVD];exact HB1.o.drew)
 have HZ2:Hid (VD.heap[N]? =some (.cells #[.int .i64 0,.int .i64 0,.string ByteArray.empty,.int .i64 0,.slice none 0 0,.slice none 0 0] 94 (0,0))):=hid (by rw [← hVD];exact HZN.o)
 have HW2:Hid (VD.heap.size=N+1):=hid (by rw [← hVD];exact HW1.o)
 rw [hVD]
 clear hVD k2 kb l0 l1 l2 l3 l6 HSA
 obtain ⟨k2,kb,l0,l1,l2,l3,l6⟩:=HCE.o _ (HBC.o _ HB2.o)
 have HG9:Hid (VD.heap[g]? =some (.cells (lineRow l.pub (.slice al L cl) (.slice (some ⟨b6,o6,none⟩) L cs) (l.sealed':Int) hx l.fork.isSome f0 f1 f2 f3 f4 f5 f6 f7 f8 f9 f10 f11 f12 f13 f14) 222 (0,0))):=hid ((HB2.o.block g (by rw [← HN.o];exact (gS HRW.o).1)).trans HRW.o)
 have HOK:Hid (hx.ok VD G):=hid (HLN.o.hok.step (Step.of_below (by rw [HN.o];exact HB2.o) G (fun _=>False)) (fun h=>h))
 obtain ⟨⟨hd1,hq1,sm1,ix1,ps,qs⟩,a1,c1,a2,c2⟩:=hx
 have HPP:Hid (StrsAt VD a1 ps):=hid HOK.o.1
 have HQQ:Hid (StrsAt VD a2 qs):=hid HOK.o.2.1
 have HS1:Hid (ps.length≤100000000∧qs.length≤100000000):=HSM
 obtain ⟨_,_,_,_,⟨g4,g5,g6,g7,g8,g9⟩,_,gf⟩:=line_cells HG9.o
 simp only at g4 g5 g6 g7 g8 g9
 go_upto_region 17 with (first
  | (go_at_call 147
     (with_reducible refine (cloneHead_any hd1 hq1 sm1 ix1 a1 ps.length c1 a2 qs.length c2 ps qs rfl rfl HS1.o.1 HS1.o.2 VD HPP.o HQQ.o).mono ?_)
     rintro e w10 ⟨a5,cp5,a6,cp6,rfl,_,_,hp10,hq10,hb5,hb6,h10⟩
     have H10:Hid (Below N w w10):=hid (HB2.o.trans (h10.mono (by rw [HW2.o];omega)))
     have HN10:=hid ((h10.block N (gS HZ2.o).1).trans HZ2.o)
     clear hp10 hq10 hb5 hb6 h10 g4 g5 g6 g7 g8 g9 gf k2 kb l0 l1 l2 l3 l6
     obtain ⟨z0,z1,z2,z3,z4,z5⟩:=row6 HN10.o
     have zf:=cells6 HN10.o))
 refine bodyPost_ret (results_cell_row_tmp (p:=6) (u:=7) rfl _ _ N 94 #[.int .i64 hd1,.int .i64 hq1,.string sm1,.int .i64 ix1,.slice a5 ps.length cp5,.slice a6 qs.length cp6] (0,0) _ (by rfl) (put6_row6 HN10.o) Tryz.underlying94 rfl (by kernel_rfl)) rfl ?_
 refine ⟨⟨⟨hd1,hq1,sm1,ix1,ps,qs⟩,a5,cp5,a6,cp6⟩,rfl,?_⟩
 rw [HN.o]
 exact below6 H10.o (Nat.le_refl _)
theorem seal_spent {G:Nat→Nat} {s p N0:Nat} {B H:Int} {ls:List Lin} {SB g0 b t:Nat} {seed pk:ByteArray} (d:Nat) (hd:d<ls.length) (hd11:d≤11) (hl:ls.length≤12) (h0:7<s) (hpk:ls[d].pub=pk) (hne:ls[d].log≠[]) (hse:ls[d].sealed'<ls[d].log.length) (hmax:ls[d].log.length≤4096)
    (w:World) (h:StoreAt w G s p B H ls) (hO:Own w G N0) (hSg:SgIn w N0 SB g0 b t seed pk (2 ^ t)) (hg0:G g0=7) (hL:Laid w):
    Calls Tryz.prog 140 #[.pointer (some ⟨p,0,none⟩),.int .i64 (d:Int),.pointer (some ⟨g0,0,none⟩)] w fun e w'=>e= .returned (.tuple #[.agg #[.int .i64 0,.int .i64 0,.string ByteArray.empty,.int .i64 0,.slice none 0 0,.slice none 0 0],.int .i64 12])∧Below w.heap.size w w':=by
 obtain ⟨vr,gs,h⟩:=h
 have HS:=hid h
 obtain ⟨_,a0,cap,rfl,hca,hnil,hpt⟩:=ptrs_of_own h.lines
 have hdg:d<gs.length:=by rw [h.len];exact hd
 obtain ⟨b0,rfl,hck⟩:=hpt d hdg
 obtain ⟨vl,vs,ss,hx,f0,f1,f2,f3,f4,f5,f6,f7,f8,f9,f10,f11,f12,f13,f14,hln⟩:=line_at h d hd
 obtain ⟨l,hll⟩: ∃l,l=ls[d]:=⟨_,rfl⟩
 rw [← hll] at hln
 rw [← hll] at hpk hne hse hmax
 have HLN:=hid hln
 obtain ⟨xs,hx1,hx2,hx3,hx4⟩:=hln.log
 obtain ⟨hnxs,al,cl,rfl,hcl,hcm,hnl,hnc⟩:=sixes_cells (fun _=>rfl) hx2
 obtain ⟨sl,cs,rfl,hsl,hcs,hSS,hns,hnb⟩:=strs_of_own hln.sums
 clear hx1 hx2 hx3 hx4 hnxs hnc hnb
 obtain ⟨L,hLe⟩:=ex_eq l.log.length
 rw [hLe] at hse hmax hcl hsl
 have HLE:=hid hLe
 have hL0:0<L:=by rw [← hLe];exact List.length_pos_iff.2 hne
 obtain ⟨m,hm⟩: ∃m,L=m+1:=⟨L - 1,by omega⟩
 have HML:Hid (m<l.log.length):=hid (by omega)
 have HPS:Hid ((prevOf l.log).size=32):=hid (by rw [← nb_length,nb_prevOf hne];exact sumE_len _)
 have hPM:ss.getD m ByteArray.empty=prevOf l.log:=nb_inj (by
  rw [nb_prevOf hne]
  have h1:=congrArg (fun q=>q[m]?) hln.sumE
  simp only [List.getElem?_map,lE (show m<ss.length by omega),lE HML.o,Option.map_some] at h1
  have h2:=Option.some.inj h1
  rw [lD,lE (show m<ss.length by omega),Option.getD_some,h2,List.getLast_eq_getElem]
  congr 1
  congr 1
  omega)
 obtain ⟨b6,o6,rfl,hs6⟩: ∃b o,sl=some ⟨b,o,none⟩∧ ∀i,i<ss.length→w.cell? ⟨b,o+i,none⟩=some (.string (ss.getD i ByteArray.empty)):=by
  rcases hSS with h | h
  ·rw [h] at hsl;simp at hsl;omega
  ·exact h
 have hc6:=hs6 m (by omega)
 rw [hPM] at hc6
 obtain ⟨PV,hPV⟩:=ex_eq (prevOf l.log)
 rw [hPV] at hc6 HPS
 have HRW:Hid (w.heap[gs.getD d 0]? =some (.cells (lineRow l.pub (.slice al L cl) (.slice (some ⟨b6,o6,none⟩) L cs) (l.sealed':Int) hx l.fork.isSome f0 f1 f2 f3 f4 f5 f6 f7 f8 f9 f10 f11 f12 f13 f14) 222 (0,0))):=hid (by rw [← hLe];exact hln.row)
 have HST6:Hid (b6≠g0):=hid (fun e=>by
  have h1:(Value.slice (some ⟨b6,o6,none⟩) l.log.length cs).ownBlock=some b6:=by
   rcases hln.sums.2 with ⟨hh,_⟩ | ⟨g',cap',cur,hh,_⟩
   ·cases hh
   ·injection hh with hh _ _
    injection hh with hh
    injection hh with e1 e2
    rw [e1,e2];rfl
  have:=hln.stag b6 h1
  rw [e,hg0] at this
  omega)
 have HB0:Hid (b0≠g0):=hid (fun e=>by
  have h1:(Value.slice (some ⟨b0,0,none⟩) gs.length cap).ownBlock=some b0:=rfl
  have:=h.ltag b0 h1
  rw [e,hg0] at this
  omega)
 obtain ⟨g,hg⟩:=ex_eq (gs.getD d 0)
 have HGE:=hid hg
 rw [hg] at hck HRW
 have HGT:Hid (G g=s+1+d):=hid (by rw [← hg];exact hln.tag)
 have HGN:Hid (g≠g0):=hid (fun e=>by have:=HGT.o;rw [e,hg0] at this;omega)
 have HPN:Hid (p≠g0):=hid (fun e=>by have:=h.tag;rw [e,hg0] at this;omega)
 have HC2:Hid (w.cell? ⟨p,2,none⟩=some (.slice (some ⟨b0,0,none⟩) gs.length cap)):=hid (store_cells h.row).2.2.1
 have HCK:=hid hck
 have HC6:=hid hc6
 have hdi:(d:Int)<(gs.length:Int):=by omega
 have HO:=hid hO
 have HL:=hid hL
 have HSG:=hid hSg
 have HG0:=hid hg0
 have HD:Hid (d<ls.length∧ls.length≤12∧7<s):=hid ⟨hd,hl,h0⟩
 have hse2:((l.sealed':Nat):Int)<(L:Int):=by omega
 have HLM:Hid (L≤4096):=hid hmax
 have hgz:((L:Int)==0)=false:=by rw [beq_eq_false_iff_ne];omega
 have hw2:wrap64 ((L:Int) - 1)=(m:Int):=by rw [IntWalk.wrap64_in _ ⟨by omega,by omega⟩];omega
 have hml:(m:Int)<(L:Int):=by omega
 have hm0:(0:Int)≤(m:Int):=by omega
 have HPK:Hid (l.pub=pk):=hid hpk
 have HPE:=hid hPV
 have HCT:Hid (count b 32≤1000∧t≤8):=hid ⟨count_max hSg.bits,hSg.height⟩
 have HBT:Hid (Bits b):=hid hSg.bits
 have HCE:Hid (∀V,Chg (fun q i=>q=g0∧i=6) w V→V.cell? ⟨p,2,none⟩=some (.slice (some ⟨b0,0,none⟩) gs.length cap)∧V.cell? ⟨b0,d,none⟩=some (.pointer (some ⟨g,0,none⟩))∧V.cell? ⟨g,0,none⟩=some (.string pk)∧V.cell? ⟨g,1,none⟩=some (.slice al L cl)∧V.cell? ⟨g,2,none⟩=some (.slice (some ⟨b6,o6,none⟩) L cs)∧V.cell? ⟨g,3,none⟩=some (.int .i64 ((l.sealed':Nat):Int))∧V.cell? ⟨b6,o6+m,none⟩=some (.string PV)):=hid (fun V hV=>by
  obtain ⟨k0,k1,k2,k3,_⟩:=line_cells HRW.o
  rw [HPK.o] at k0
  exact ⟨hV.cell HC2.o (fun e=>HPN.o e.1),hV.cell HCK.o (fun e=>HB0.o e.1),hV.cell k0 (fun e=>HGN.o e.1),hV.cell k1 (fun e=>HGN.o e.1),hV.cell k2 (fun e=>HGN.o e.1),hV.cell k3 (fun e=>HGN.o e.1),hV.cell HC6.o (fun e=>HST6.o e.1)⟩)
 clear h hpt hln hLe hck hg hll hdg hd hl hO hL hcl hcm hnl hsl hcs hSS hns hca hnil h0 hSg hg0 hpk hne hse hmax hPV hPM hs6 hc6 hL0 hm
 go_enter Tryz.func140,Tryz.ntmps140
 go_upto_region 1 with fail
 refine wp_over (fun W=>Hid (W.heap[w.heap.size]? =some (.cells #[.int .i64 0,.int .i64 0,.string ByteArray.empty,.int .i64 0,.slice none 0 0,.slice none 0 0] 94 (0,0)))∧Hid (Below w.heap.size w W)∧Hid (W.heap.size=w.heap.size+1)) ⟨heap_alloc_new _ _,(Below.refl _ _).alloc (Nat.le_refl _) _,by show _=_;simp⟩ ?_
 rintro W ⟨HZN,HB1,HW1⟩
 obtain ⟨N,hN⟩:=ex_eq w.heap.size
 have HN:=hid hN
 rw [hN] at HZN HB1 HW1 ⊢
 clear hN
 have HBC:Hid (∀V,Below N w V→Chg (fun q i=>q=g0∧i=6) w V):=hid (fun V hV=>by rw [← HN.o] at hV;exact Chg.of_below hV)
 have HHB:Hid (∀V,Below N w V→Calls Tryz.prog 154 #[.pointer (some ⟨p,0,none⟩),.int .i64 (d:Int)] V fun e w'=>e= .returned (.bool true)∧V=w'):=hid (fun V hV=>by
  have h:=has_any (d:Int) V ⟨_,_,HS.o.later (by rw [HN.o];exact hV)⟩ (by have:=HD.o;omega)
  rwa [decide_eq_true ⟨by omega,by have:=HD.o;omega⟩] at h)
 obtain ⟨k2,kb,l0,l1,l2,l3,l6⟩:=HCE.o _ (HBC.o _ HB1.o)
 go_upto_region 7 with (first
  | (go_at_call 154
     (with_reducible refine (HHB.o _ HB1.o).mono ?_)
     rintro e w2 ⟨rfl,rfl⟩))
 have HSA:Hid (SignerAt W.drew SB g0 b t seed pk (2 ^ t)):=hid ((HSG.o.later (by rw [HN.o];exact HB1.o.drew)).at)
 refine Kit.wp_region_gplan (fun V=>V.cell? ⟨g,0,none⟩=some (.string pk)) [(true,0),(true,2),(true,3),(true,4),(true,5),(false,1),(true,6)] (by kernel_rfl) (by kernel_rfl) (by kernel_rfl) (by kernel_rfl) l0 ?_
 iterate 5 (refine Kit.ghd (h:= ?_))
 refine Kit.gplan_op (by rfl) (by rfl) fun K hK=> ?_
 go_simp
 go_at_call 24
 refine (signerPublic_any _ HSA.o).mono ?_
 rintro e w3 ⟨rfl,rfl⟩
 refine hK _ _ l0 ?_
 clear hK K
 iterate 1 (refine Kit.ghd (h:= ?_))
 refine Kit.gdn (h:=?_)
 obtain ⟨VD,hVD⟩:=ex_eq W.drew
 have HB2:Hid (Below N w VD):=hid (by rw [← hVD];exact HB1.o.drew)
 have HZ2:Hid (VD.heap[N]? =some (.cells #[.int .i64 0,.int .i64 0,.string ByteArray.empty,.int .i64 0,.slice none 0 0,.slice none 0 0] 94 (0,0))):=hid (by rw [← hVD];exact HZN.o)
 have HW2:Hid (VD.heap.size=N+1):=hid (by rw [← hVD];exact HW1.o)
 rw [hVD]
 clear hVD k2 kb l0 l1 l2 l3 l6 HSA
 obtain ⟨k2,kb,l0,l1,l2,l3,l6⟩:=HCE.o _ (HBC.o _ HB2.o)
 go_upto_region 11 with fail
 refine wp_over (fun V=>Hid (V.heap[VD.heap.size]? =some (.cells #[.int .i64 (d:Int),.int .i64 (L:Int),.string PV,.int .i64 0,.slice none 0 0,.slice none 0 0] 94 (0,0)))∧Hid (Below VD.heap.size VD V)∧Hid (V.heap.size=VD.heap.size+1)) ⟨heap_alloc_new _ _,(Below.refl _ _).alloc (Nat.le_refl _) _,by show _=_;simp⟩ ?_
 clear k2 kb l0 l1 l2 l3 l6
 rintro V3 ⟨HX3,HBV3,HW3⟩
 obtain ⟨X,hX⟩:=ex_eq VD.heap.size
 have HXN:Hid (N+1=X):=hid (by rw [← hX,HW2.o])
 have HN3:Hid (V3.heap[N]? =some (.cells #[.int .i64 0,.int .i64 0,.string ByteArray.empty,.int .i64 0,.slice none 0 0,.slice none 0 0] 94 (0,0))):=hid ((HBV3.o.block N (by rw [HW2.o];omega)).trans HZ2.o)
 have HB3:Hid (Below N w V3):=hid (HB2.o.trans (HBV3.o.mono (by rw [HW2.o];omega)))
 rw [hX] at HX3 HW3 ⊢
 clear hX HBV3 HZ2 HW2 HB2 HZN HB1 HW1
 obtain ⟨x0,x1,x2,x3,x4,x5⟩:=row6 HX3.o
 have HLV3:Hid (Laid V3):=hid (HL.o.later (B:=N) HB3.o (by rw [HN.o];exact Nat.le_refl _))
 have HSV3:Hid (∀V,Below V3.heap.size V3 V→SignerAt V SB g0 b t seed pk (2 ^ t)∧Laid V):=hid (fun V hV=>⟨((HSG.o.later (by rw [HN.o];exact HB3.o)).later hV).at,HLV3.o.later hV (Nat.le_refl _)⟩)
 have HDG:=hid (fun w hL=>digest_ok d L PV HPS.o hd11 (by have:=HLM.o;omega) 0 none 0 0 none 0 0 _ rfl w hL)
 obtain ⟨T,hT⟩:=ex_eq (headDg d L (nb PV))
 rw [hT] at HDG
 have HTE:=hid hT
 clear hT
 go_upto_region 12 with (first
  | (go_at_call 158
     (with_reducible refine (HDG.o _ HLV3.o).mono ?_)
     rintro e w4 ⟨u4,rfl,hu4,hz4,h4⟩
     have HU4:=hid hu4
     have HZ4:=hid hz4
     have H4:=hid h4
     clear hu4 hz4 h4)
  | (go_at_call 91
     (with_reducible refine (signerSign_spent u4 HZ4.o w4 (HSV3.o w4 H4.o).1).mono ?_)
     rintro e w5 ⟨rfl,h5⟩
     have H5:Hid (Below V3.heap.size V3 w5):=hid (H4.o.trans (h5.mono H4.o.size))
     clear h5 x0 x1 x2 x3 x4 x5
     have HZ5:Hid (w5.heap[N]? =some (.cells #[.int .i64 0,.int .i64 0,.string ByteArray.empty,.int .i64 0,.slice none 0 0,.slice none 0 0] 94 (0,0))):=hid ((H5.o.block N (gS HN3.o).1).trans HN3.o)
     have HB5:Hid (Below N w w5):=hid (HB3.o.trans (H5.o.mono (by have:=HW3.o;have:=HXN.o;omega)))
     have HS5:Hid (N<w5.heap.size):=hid (gS HZ5.o).1))
 refine wp_over (fun V=>Hid (V.heap[N]? =some (.cells #[.int .i64 0,.int .i64 0,.string ByteArray.empty,.int .i64 0,.slice none 0 0,.slice none 0 0] 94 (0,0)))∧Hid (Below N w V)) ⟨(Below.heap_alloc _ _ _ HS5.o).trans HZ5.o,HB5.o.alloc (Nat.le_of_lt HS5.o) _⟩ ?_
 rintro V6 ⟨HZ6,HB6⟩
 have fz:=cells6 HZ6.o
 obtain ⟨r0,r1,r2,r3,r4,r5⟩:=row6 HZ6.o
 go_wp2_with fail
 (try simp only [Exit.inBlock,Exit.then])
 refine bodyPost_ret (results_cell_row_tmp (p:=6) (u:=7) rfl _ _ N 94 #[.int .i64 0,.int .i64 0,.string ByteArray.empty,.int .i64 0,.slice none 0 0,.slice none 0 0] (0,0) _ (by rfl) (put6_row6 HZ6.o) Tryz.underlying94 rfl (by kernel_rfl)) rfl ?_
 refine ⟨rfl,?_⟩
 rw [HN.o]
 exact below6 HB6.o (Nat.le_refl _)
end Go.Proofs.YtndlihclgdkpaaaGreatDoor

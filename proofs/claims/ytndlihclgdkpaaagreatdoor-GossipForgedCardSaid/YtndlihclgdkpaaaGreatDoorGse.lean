/- gossip: Seal. -/
import Derived.Test.YtndlihclgdkpaaaGreatDoorGh
import Derived.Test.YtndlihclgdkpaaaGreatDoorGsi
set_option linter.unusedVariables false
set_option linter.unusedSimpArgs false
open Go.Lib (hid)
namespace Go.Proofs.YtndlihclgdkpaaaGreatDoor
open Go.RowKit
open Kit (Chg)
open Sha (v)
open Go.Proofs.YtndlihclgdkpaaaGreatDoor.One

theorem count_max {b:Nat} (hB:Bits b):count b 32≤1000:=by
 rcases hB with rfl | rfl | rfl | rfl<;> decide+kernel
theorem strs_set {w:World} {X i:Nat} {a:Option Addr} {ss:List ByteArray} {x y:Value} (h:StrsAt w a ss) (hc:w.cell? ⟨X,i,none⟩=some y) (hy: ∀s,y≠ .string s):StrsAt (w.setCell ⟨X,i,none⟩ x) a ss:=by
 rcases h with h | ⟨b,o,e,hs⟩
 ·exact .inl h
 ·refine .inr ⟨b,o,e,fun j hj=>(World.cell?_setCell_other _ _ _ _ (fun e2=> ?_)).trans (hs j hj)⟩
  have h1:=hs j hj
  rw [← e2,hc] at h1
  injection h1 with h1
  exact hy _ h1
def TagZ (s d:Nat):Nat→Prop:=fun q=>TagS s d q∨q=7
def sealL (l:Lin) (h:Hd):Lin:={ l with sealed':=l.log.length,head:=h }
set_option maxRecDepth 100000 in
set_option maxHeartbeats 2000000 in
theorem seal_ok {G:Nat→Nat} {s p N0:Nat} {B H:Int} {ls:List Lin} {SB g0 b t next:Nat} {seed pk:ByteArray} (d:Nat) (hd:d<ls.length) (hd11:d≤11) (hl:ls.length≤12) (h0:7<s) (hnx:next<2 ^ t) (hpk:ls[d].pub=pk) (hne:ls[d].log≠[]) (hse:ls[d].sealed'<ls[d].log.length) (hmax:ls[d].log.length≤4096)
    (w:World) (h:StoreAt w G s p B H ls) (hO:Own w G N0) (hSg:SgIn w N0 SB g0 b t seed pk next) (hg0:G g0=7) (hL:Laid w):
    Calls Tryz.prog 140 #[.pointer (some ⟨p,0,none⟩),.int .i64 (d:Int),.pointer (some ⟨g0,0,none⟩)] w fun e w'=> ∃(x:HV),e= .returned (.tuple #[.agg #[.int .i64 x.h.dev,.int .i64 x.h.seq,.string x.h.sum,.int .i64 x.h.idx,.slice x.a1 x.h.ps.length x.c1,.slice x.a2 x.h.qs.length x.c2],.int .i64 0])∧
     x.h.dev=(d:Int)∧x.h.seq=((ls[d].log.length:Nat):Int)∧x.h.sum=prevOf ls[d].log∧x.h.idx=(next:Int)∧x.h.ps.map nb=sigParts b (nb seed) next (headDg d ls[d].log.length (nb (prevOf ls[d].log)))∧x.h.qs.map nb=sigPath b (nb seed) t next∧
     x.ok w' G∧StoreAt w' G s p B H (ls.set d (sealL ls[d] x.h))∧Own w' G N0∧Step G G (TagZ s d) w w'∧SgIn w' N0 SB g0 b t seed pk (next+1)∧(∀k,k<N0→k≠g0→w'.heap[k]? =w.heap[k]?):=by
 obtain ⟨vr,gs,h⟩:=h
 have HS:=hid h
 obtain ⟨_,a0,cap,rfl,hca,hnil,hpt⟩:=ptrs_of_own h.lines
 have hdg:d<gs.length:=by rw [h.len];exact hd
 obtain ⟨b0,rfl,hck⟩:=hpt d hdg
 obtain ⟨vl,vs,ss,hx,f0,f1,f2,f3,f4,f5,f6,f7,f8,f9,f10,f11,f12,f13,f14,hln⟩:=line_at h d hd
 obtain ⟨l,hll⟩: ∃l,l=ls[d]:=⟨_,rfl⟩
 rw [← hll] at hln
 rw [← hll] at hpk hne hse hmax ⊢
 have HLN:=hid hln
 obtain ⟨xs,hx1,hx2,hx3,hx4⟩:=hln.log
 obtain ⟨hnxs,al,cl,rfl,hcl,hcm,hnl,hnc⟩:=sixes_cells (fun _=>rfl) hx2
 obtain ⟨sl,cs,rfl,hsl,hcs,hSS,hns,hnb⟩:=strs_of_own hln.sums
 clear hx1 hx2 hx3 hx4 hnxs hnc hnb
 obtain ⟨L,hLe⟩:=ex_eq l.log.length
 rw [hLe] at hse hmax hcl hsl ⊢
 have HLE:=hid hLe
 have hL0:0<L:=by rw [← hLe];exact List.length_pos_iff.2 hne
 obtain ⟨m,hm⟩: ∃m,L=m+1:=⟨L - 1,by omega⟩
 have HML:Hid (m<l.log.length):=hid (by omega)
 have HPS:Hid ((prevOf l.log).size=32):=hid (by rw [← nb_length,nb_prevOf hne];exact sumE_len _)
 have hPM:ss.getD m ByteArray.empty=prevOf l.log:=nb_inj (by
  rw [nb_prevOf hne]
  have h1:=congrArg (fun q=>q[m]?) hln.sumE
  simp only [List.getElem?_map,lE (show m<ss.length by omega),lE HML.o,Option.map_some] at h1
  have h2:=Option.some.inj h1
  rw [lD,lE (show m<ss.length by omega),Option.getD_some,h2,List.getLast_eq_getElem]
  congr 1
  congr 1
  omega)
 obtain ⟨b6,o6,rfl,hs6⟩: ∃b o,sl=some ⟨b,o,none⟩∧ ∀i,i<ss.length→w.cell? ⟨b,o+i,none⟩=some (.string (ss.getD i ByteArray.empty)):=by
  rcases hSS with h | h
  ·rw [h] at hsl;simp at hsl;omega
  ·exact h
 have hc6:=hs6 m (by omega)
 rw [hPM] at hc6
 obtain ⟨PV,hPV⟩:=ex_eq (prevOf l.log)
 rw [hPV] at hc6 HPS ⊢
 have HRW:Hid (w.heap[gs.getD d 0]? =some (.cells (lineRow l.pub (.slice al L cl) (.slice (some ⟨b6,o6,none⟩) L cs) (l.sealed':Int) hx l.fork.isSome f0 f1 f2 f3 f4 f5 f6 f7 f8 f9 f10 f11 f12 f13 f14) 222 (0,0))):=hid (by rw [← hLe];exact hln.row)
 have HST6:Hid (b6≠g0):=hid (fun e=>by
  have h1:(Value.slice (some ⟨b6,o6,none⟩) l.log.length cs).ownBlock=some b6:=by
   rcases hln.sums.2 with ⟨hh,_⟩ | ⟨g',cap',cur,hh,_⟩
   ·cases hh
   ·injection hh with hh _ _
    injection hh with hh
    injection hh with e1 e2
    rw [e1,e2];rfl
  have:=hln.stag b6 h1
  rw [e,hg0] at this
  omega)
 have HB0:Hid (b0≠g0):=hid (fun e=>by
  have h1:(Value.slice (some ⟨b0,0,none⟩) gs.length cap).ownBlock=some b0:=rfl
  have:=h.ltag b0 h1
  rw [e,hg0] at this
  omega)
 obtain ⟨g,hg⟩:=ex_eq (gs.getD d 0)
 have HGE:=hid hg
 rw [hg] at hck HRW
 have HGT:Hid (G g=s+1+d):=hid (by rw [← hg];exact hln.tag)
 have HGN:Hid (g≠g0):=hid (fun e=>by have:=HGT.o;rw [e,hg0] at this;omega)
 have HPN:Hid (p≠g0):=hid (fun e=>by have:=h.tag;rw [e,hg0] at this;omega)
 have HC2:Hid (w.cell? ⟨p,2,none⟩=some (.slice (some ⟨b0,0,none⟩) gs.length cap)):=hid (store_cells h.row).2.2.1
 have HCK:=hid hck
 have HC6:=hid hc6
 have hdi:(d:Int)<(gs.length:Int):=by omega
 have HO:=hid hO
 have HL:=hid hL
 have HSG:=hid hSg
 have HG0:=hid hg0
 have HNX:=hid hnx
 have HD:Hid (d<ls.length∧ls.length≤12∧7<s):=hid ⟨hd,hl,h0⟩
 have hse2:((l.sealed':Nat):Int)<(L:Int):=by omega
 have HLM:Hid (L≤4096):=hid hmax
 have hgz:((L:Int)==0)=false:=by rw [beq_eq_false_iff_ne];omega
 have hw2:wrap64 ((L:Int) - 1)=(m:Int):=by rw [IntWalk.wrap64_in _ ⟨by omega,by omega⟩];omega
 have hml:(m:Int)<(L:Int):=by omega
 have hm0:(0:Int)≤(m:Int):=by omega
 have HPK:Hid (l.pub=pk):=hid hpk
 have HPE:=hid hPV
 have HCT:Hid (count b 32≤1000∧t≤8):=hid ⟨count_max hSg.bits,hSg.height⟩
 have HBT:Hid (Bits b):=hid hSg.bits
 have HCE:Hid (∀V,Chg (fun q i=>q=g0∧i=6) w V→V.cell? ⟨p,2,none⟩=some (.slice (some ⟨b0,0,none⟩) gs.length cap)∧V.cell? ⟨b0,d,none⟩=some (.pointer (some ⟨g,0,none⟩))∧V.cell? ⟨g,0,none⟩=some (.string pk)∧V.cell? ⟨g,1,none⟩=some (.slice al L cl)∧V.cell? ⟨g,2,none⟩=some (.slice (some ⟨b6,o6,none⟩) L cs)∧V.cell? ⟨g,3,none⟩=some (.int .i64 ((l.sealed':Nat):Int))∧V.cell? ⟨b6,o6+m,none⟩=some (.string PV)):=hid (fun V hV=>by
  obtain ⟨k0,k1,k2,k3,_⟩:=line_cells HRW.o
  rw [HPK.o] at k0
  exact ⟨hV.cell HC2.o (fun e=>HPN.o e.1),hV.cell HCK.o (fun e=>HB0.o e.1),hV.cell k0 (fun e=>HGN.o e.1),hV.cell k1 (fun e=>HGN.o e.1),hV.cell k2 (fun e=>HGN.o e.1),hV.cell k3 (fun e=>HGN.o e.1),hV.cell HC6.o (fun e=>HST6.o e.1)⟩)
 clear h hpt hln hLe hck hg hll hdg hd hl hO hL hcl hcm hnl hsl hcs hSS hns hca hnil h0 hSg hg0 hnx hpk hne hse hmax hPV hPM hs6 hc6 hL0 hm
 go_enter Tryz.func140,Tryz.ntmps140
 go_upto_region 1 with fail
 refine wp_over (fun W=>Hid (W.heap[w.heap.size]? =some (.cells #[.int .i64 0,.int .i64 0,.string ByteArray.empty,.int .i64 0,.slice none 0 0,.slice none 0 0] 94 (0,0)))∧Hid (Below w.heap.size w W)∧Hid (W.heap.size=w.heap.size+1)) ⟨heap_alloc_new _ _,(Below.refl _ _).alloc (Nat.le_refl _) _,by show _=_;simp⟩ ?_
 rintro W ⟨HZN,HB1,HW1⟩
 obtain ⟨N,hN⟩:=ex_eq w.heap.size
 have HN:=hid hN
 rw [hN] at HZN HB1 HW1 ⊢
 clear hN
 have HBC:Hid (∀V,Below N w V→Chg (fun q i=>q=g0∧i=6) w V):=hid (fun V hV=>by rw [← HN.o] at hV;exact Chg.of_below hV)
 have HHB:Hid (∀V,Below N w V→Calls Tryz.prog 154 #[.pointer (some ⟨p,0,none⟩),.int .i64 (d:Int)] V fun e w'=>e= .returned (.bool true)∧V=w'):=hid (fun V hV=>by
  have h:=has_any (d:Int) V ⟨_,_,HS.o.later (by rw [HN.o];exact hV)⟩ (by have:=HD.o;omega)
  rwa [decide_eq_true ⟨by omega,by have:=HD.o;omega⟩] at h)
 obtain ⟨k2,kb,l0,l1,l2,l3,l6⟩:=HCE.o _ (HBC.o _ HB1.o)
 go_upto_region 7 with (first
  | (go_at_call 154
     (with_reducible refine (HHB.o _ HB1.o).mono ?_)
     rintro e w2 ⟨rfl,rfl⟩))
 have HSA:Hid (SignerAt W.drew SB g0 b t seed pk next):=hid ((HSG.o.later (by rw [HN.o];exact HB1.o.drew)).at)
 refine Kit.wp_region_gplan (fun V=>V.cell? ⟨g,0,none⟩=some (.string pk)) [(true,0),(true,2),(true,3),(true,4),(true,5),(false,1),(true,6)] (by kernel_rfl) (by kernel_rfl) (by kernel_rfl) (by kernel_rfl) l0 ?_
 iterate 5 (refine Kit.ghd (h:= ?_))
 refine Kit.gplan_op (by rfl) (by rfl) fun K hK=> ?_
 go_simp
 go_at_call 24
 refine (signerPublic_any _ HSA.o).mono ?_
 rintro e w3 ⟨rfl,rfl⟩
 refine hK _ _ l0 ?_
 clear hK K
 iterate 1 (refine Kit.ghd (h:= ?_))
 refine Kit.gdn (h:=?_)
 obtain ⟨VD,hVD⟩:=ex_eq W.drew
 have HB2:Hid (Below N w VD):=hid (by rw [← hVD];exact HB1.o.drew)
 have HZ2:Hid (VD.heap[N]? =some (.cells #[.int .i64 0,.int .i64 0,.string ByteArray.empty,.int .i64 0,.slice none 0 0,.slice none 0 0] 94 (0,0))):=hid (by rw [← hVD];exact HZN.o)
 have HW2:Hid (VD.heap.size=N+1):=hid (by rw [← hVD];exact HW1.o)
 rw [hVD]
 clear hVD k2 kb l0 l1 l2 l3 l6 HSA
 obtain ⟨k2,kb,l0,l1,l2,l3,l6⟩:=HCE.o _ (HBC.o _ HB2.o)
 go_upto_region 11 with fail
 refine wp_over (fun V=>Hid (V.heap[VD.heap.size]? =some (.cells #[.int .i64 (d:Int),.int .i64 (L:Int),.string PV,.int .i64 0,.slice none 0 0,.slice none 0 0] 94 (0,0)))∧Hid (Below VD.heap.size VD V)∧Hid (V.heap.size=VD.heap.size+1)) ⟨heap_alloc_new _ _,(Below.refl _ _).alloc (Nat.le_refl _) _,by show _=_;simp⟩ ?_
 clear k2 kb l0 l1 l2 l3 l6
 rintro V3 ⟨HX3,HBV3,HW3⟩
 obtain ⟨X,hX⟩:=ex_eq VD.heap.size
 have HXN:Hid (N+1=X):=hid (by rw [← hX,HW2.o])
 have HN3:Hid (V3.heap[N]? =some (.cells #[.int .i64 0,.int .i64 0,.string ByteArray.empty,.int .i64 0,.slice none 0 0,.slice none 0 0] 94 (0,0))):=hid ((HBV3.o.block N (by rw [HW2.o];omega)).trans HZ2.o)
 have HB3:Hid (Below N w V3):=hid (HB2.o.trans (HBV3.o.mono (by rw [HW2.o];omega)))
 rw [hX] at HX3 HW3 ⊢
 clear hX HBV3 HZ2 HW2 HB2 HZN HB1 HW1
 obtain ⟨x0,x1,x2,x3,x4,x5⟩:=row6 HX3.o
 have HLV3:Hid (Laid V3):=hid (HL.o.later (B:=N) HB3.o (by rw [HN.o];exact Nat.le_refl _))
 have HSV3:Hid (∀V,Below V3.heap.size V3 V→SignerAt V SB g0 b t seed pk next∧Laid V):=hid (fun V hV=>⟨((HSG.o.later (by rw [HN.o];exact HB3.o)).later hV).at,HLV3.o.later hV (Nat.le_refl _)⟩)
 have HDG:=hid (fun w hL=>digest_ok d L PV HPS.o hd11 (by have:=HLM.o;omega) 0 none 0 0 none 0 0 _ rfl w hL)
 obtain ⟨T,hT⟩:=ex_eq (headDg d L (nb PV))
 rw [hT] at HDG
 have HTE:=hid hT
 clear hT
 go_upto_region 14 with (first
  | (go_at_call 158
     (with_reducible refine (HDG.o _ HLV3.o).mono ?_)
     rintro e w4 ⟨u4,rfl,hu4,hz4,h4⟩
     have HU4:=hid hu4
     have HZ4:=hid hz4
     have H4:=hid h4
     clear hu4 hz4 h4)
  | (go_at_call 91
     (with_reducible refine (signerSign_ok u4 HZ4.o HNX.o w4 (HSV3.o w4 H4.o).1 (HSV3.o w4 H4.o).2).mono ?_)
     rintro e w5 ⟨xg,ps,qs,rfl,hx5,hp5,hq5,hs5,hc5⟩
     obtain ⟨a1,n1,c1,a2,n2,c2,rfl,hn1,hS1,hn2,hS2⟩:=hx5
     have HP5:=hid hp5
     have HQ5:=hid hq5
     have HS5:=hid hs5
     have HC5:=hid hc5
     have HN1:=hid hn1
     have HN2:=hid hn2
     have HS1:=hid hS1
     have HS2:=hid hS2
     clear hp5 hq5 hs5 hc5 hn1 hn2 hS1 hS2 x0 x1 x2 x3 x4 x5))
 have HSI5:Hid (Chg (fun q i=>q=g0∧i=6) w w5):=hid (((HBC.o _ HB3.o).trans (Chg.of_below H4.o)).trans HC5.o)
 have HGO:Hid (∀k,k<w.heap.size→k≠g0→w5.heap[k]? =w.heap[k]?):=hid (fun k hk hne=>HSI5.o.other k hk (fun i hi=>hne hi.1))
 have HG0N:Hid (g0<N):=hid (by rw [← HN.o];exact (HSG.o.at).lt)
 have HX5:Hid (w5.heap[X]? =some (.cells #[.int .i64 (d:Int),.int .i64 (L:Int),.string PV,.int .i64 0,.slice none 0 0,.slice none 0 0] 94 (0,0))):=hid ((HC5.o.other X (by have:=H4.o.size;have:=HW3.o;omega) (fun i hi=>by have:=HG0N.o;have:=HXN.o;omega)).trans ((H4.o.block X (by have:=HW3.o;omega)).trans HX3.o))
 have HN5:Hid (w5.heap[N]? =some (.cells #[.int .i64 0,.int .i64 0,.string ByteArray.empty,.int .i64 0,.slice none 0 0,.slice none 0 0] 94 (0,0))):=hid ((HC5.o.other N (by have:=H4.o.size;have:=HW3.o;have:=HXN.o;omega) (fun i hi=>by have:=HG0N.o;omega)).trans ((H4.o.block N (by have:=HW3.o;have:=HXN.o;omega)).trans HN3.o))
 have HG5:Hid (w5.heap[g]? =some (.cells (lineRow l.pub (.slice al L cl) (.slice (some ⟨b6,o6,none⟩) L cs) (l.sealed':Int) hx l.fork.isSome f0 f1 f2 f3 f4 f5 f6 f7 f8 f9 f10 f11 f12 f13 f14) 222 (0,0))):=hid ((HGO.o g (gS HRW.o).1 HGN.o).trans HRW.o)
 have HZ5:Hid (X+1≤w5.heap.size):=hid (by have:=H4.o.size;have:=HC5.o.size;have:=HW3.o;omega)
 refine wp_over (fun V=>Hid (V.heap[w5.heap.size]? =some (.cells #[.int .i64 (next:Int),.slice a1 n1 c1,.slice a2 n2 c2] 45 (0,0)))∧Hid (Below w5.heap.size w5 V)) ⟨heap_alloc_new _ _,(Below.refl _ _).alloc (Nat.le_refl _) _⟩ ?_
 rintro V6 ⟨HY6,HB6⟩
 have HX6:=hid ((HB6.o.block X (by have:=HZ5.o;omega)).trans HX5.o)
 have HN6:=hid ((HB6.o.block N (by have:=HZ5.o;have:=HXN.o;omega)).trans HN5.o)
 have HGL:Hid (g<N):=hid (by rw [← HN.o];exact (gS HRW.o).1)
 have HG6:=hid ((HB6.o.block g (by have:=HZ5.o;have:=HXN.o;have:=HGL.o;omega)).trans HG5.o)
 have HP6:=hid (HS1.o.later HB6.o)
 have HQ6:=hid (HS2.o.later HB6.o)
 have HSI6:Hid (Chg (fun q i=>(q=g0∧i=6)∨q=g∨N≤q) w V6):=hid ((HSI5.o.mono fun _ _ _ e=> .inl e).trans (Chg.of_below HB6.o))
 obtain ⟨Y,hY⟩:=ex_eq w5.heap.size
 rw [hY] at HY6 ⊢
 clear hY
 obtain ⟨x0,x1,x2,x3,x4,x5⟩:=row6 HX6.o
 have xf:=cells6 HX6.o
 have y0:V6.cell? ⟨Y,0,none⟩=some (.int .i64 (next:Int)):=cr HY6.o
 have y1:V6.cell? ⟨Y,1,none⟩=some (.slice a1 n1 c1):=cr HY6.o
 have y2:V6.cell? ⟨Y,2,none⟩=some (.slice a2 n2 c2):=cr HY6.o
 go_upto_region 15 with fail
 have HX7:Hid ((((V6.setCell ⟨X,3,none⟩ (.int .i64 (next:Int))).setCell ⟨X,4,none⟩ (.slice a1 n1 c1)).setCell ⟨X,5,none⟩ (.slice a2 n2 c2)).heap[X]? =some (.cells #[.int .i64 (d:Int),.int .i64 (L:Int),.string PV,.int .i64 (next:Int),.slice a1 n1 c1,.slice a2 n2 c2] 94 (0,0))):=
  hid (heap_setCell_same _ X 5 #[.int .i64 (d:Int),.int .i64 (L:Int),.string PV,.int .i64 (next:Int),.slice a1 n1 c1,.slice none 0 0] _ _ (heap_setCell_same _ X 4 #[.int .i64 (d:Int),.int .i64 (L:Int),.string PV,.int .i64 (next:Int),.slice none 0 0,.slice none 0 0] _ _ (heap_setCell_same _ X 3 _ _ _ HX6.o)))
 have HC7:Hid (Chg (fun k _=>k=X) V6 (((V6.setCell ⟨X,3,none⟩ (.int .i64 (next:Int))).setCell ⟨X,4,none⟩ (.slice a1 n1 c1)).setCell ⟨X,5,none⟩ (.slice a2 n2 c2))):=hid ((((Chg.refl (fun k _=>k=X) V6).setCell (b:=X) (o:=3) _ rfl).setCell (b:=X) (o:=4) _ rfl).setCell (b:=X) (o:=5) _ rfl)
 have hsets: ∀{a ss},StrsAt V6 a ss→StrsAt (((V6.setCell ⟨X,3,none⟩ (.int .i64 (next:Int))).setCell ⟨X,4,none⟩ (.slice a1 n1 c1)).setCell ⟨X,5,none⟩ (.slice a2 n2 c2)) a ss:=fun h=>
  strs_set (strs_set (strs_set h x3 (fun s e=>by cases e)) (set_other x4 (by decide)) (fun s e=>by cases e)) (set_other (set_other x5 (by decide)) (by decide)) (fun s e=>by cases e)
 have HP7:=hid (hsets HP6.o)
 have HQ7:=hid (hsets HQ6.o)
 clear hsets x0 x1 x2 x3 x4 x5 xf y0 y1 y2
 obtain ⟨V7,hV7⟩:=ex_eq (((V6.setCell ⟨X,3,none⟩ (.int .i64 (next:Int))).setCell ⟨X,4,none⟩ (.slice a1 n1 c1)).setCell ⟨X,5,none⟩ (.slice a2 n2 c2))
 rw [hV7] at HX7 HC7 HP7 HQ7 ⊢
 clear hV7
 have HN7:=hid ((HC7.o.other N (gS HN6.o).1 (fun _ e=>by have:=HXN.o;omega)).trans HN6.o)
 have HG7:=hid ((HC7.o.other g (gS HG6.o).1 (fun _ e=>by have:=HXN.o;have:=HGL.o;omega)).trans HG6.o)
 have HSI7:=hid (HSI6.o.trans (HC7.o.mono fun q _ _ e=> .inr (.inr (by have:=HXN.o;omega))))
 have HPL:Hid (n1≤100000000∧n2≤100000000):=hid (by
  have h1:=congrArg List.length HP5.o
  have h2:=congrArg List.length HQ5.o
  rw [List.length_map,sigParts_len b HBT.o _ _ _ (by rw [nb_length];exact HZ4.o)] at h1
  rw [List.length_map,sigPath_len] at h2
  have:=HCT.o;have:=HN1.o;have:=HN2.o
  omega)
 obtain ⟨x0,x1,x2,x3,x4,x5⟩:=row6 HX7.o
 obtain ⟨_,_,_,g3,⟨g4,g5,g6,g7,g8,g9⟩,_,gf⟩:=line_cells HG7.o
 go_upto_region 16 with (first
  | (go_at_call 147
     (with_reducible refine (cloneHead_any (d:Int) (L:Int) PV (next:Int) a1 n1 c1 a2 n2 c2 ps qs HN1.o HN2.o HPL.o.1 HPL.o.2 V7 HP7.o HQ7.o).mono ?_)
     rintro e w8 ⟨a7,cp7,a8,cp8,rfl,_,_,hp8,hq8,hb7,hb8,h8⟩
     have HP8:=hid hp8
     have HQ8:=hid hq8
     have HA7:=hid hb7
     have HA8:=hid hb8
     have H8:=hid h8
     have HG8:=hid ((h8.block g (gS HG7.o).1).trans HG7.o)
     have HN8:=hid ((h8.block N (gS HN7.o).1).trans HN7.o)
     clear hp8 hq8 hb7 hb8 h8 x0 x1 x2 x3 x4 x5 g3 g4 g5 g6 g7 g8 g9 gf
     obtain ⟨_,_,_,g3,⟨g4,g5,g6,g7,g8,g9⟩,_,gf⟩:=line_cells HG8.o))
 have e1:=HN1.o
 have e2:=HN2.o
 subst e1
 subst e2
 have HG9:Hid ((((((((w8.setCell ⟨g,4,none⟩ (.int .i64 (d:Int))).setCell ⟨g,5,none⟩ (.int .i64 (L:Int))).setCell ⟨g,6,none⟩ (.string PV)).setCell ⟨g,7,none⟩ (.int .i64 (next:Int))).setCell ⟨g,8,none⟩ (.slice a7 ps.length cp7)).setCell ⟨g,9,none⟩ (.slice a8 qs.length cp8)).setCell ⟨g,3,none⟩ (.int .i64 (L:Int))).heap[g]? =some (.cells (lineRow l.pub (.slice al L cl) (.slice (some ⟨b6,o6,none⟩) L cs) (L:Int) ⟨⟨(d:Int),(L:Int),PV,(next:Int),ps,qs⟩,a7,cp7,a8,cp8⟩ l.fork.isSome f0 f1 f2 f3 f4 f5 f6 f7 f8 f9 f10 f11 f12 f13 f14) 222 (0,0))):=
  hid (heap_setCell_same _ g 3 _ _ _ (heap_setCell_same _ g 9 _ _ _ (heap_setCell_same _ g 8 _ _ _ (heap_setCell_same _ g 7 _ _ _ (heap_setCell_same _ g 6 _ _ _ (heap_setCell_same _ g 5 _ _ _ (heap_setCell_same w8 g 4 _ _ _ HG8.o)))))))
 have HC9:Hid (Chg (fun k _=>k=g) w8 (((((((w8.setCell ⟨g,4,none⟩ (.int .i64 (d:Int))).setCell ⟨g,5,none⟩ (.int .i64 (L:Int))).setCell ⟨g,6,none⟩ (.string PV)).setCell ⟨g,7,none⟩ (.int .i64 (next:Int))).setCell ⟨g,8,none⟩ (.slice a7 ps.length cp7)).setCell ⟨g,9,none⟩ (.slice a8 qs.length cp8)).setCell ⟨g,3,none⟩ (.int .i64 (L:Int)))):=
  hid (((((((Chg.refl (fun k _=>k=g) w8).setCell (b:=g) (o:=4) _ rfl).setCell (b:=g) (o:=5) _ rfl).setCell (b:=g) (o:=6) _ rfl).setCell (b:=g) (o:=7) _ rfl).setCell (b:=g) (o:=8) _ rfl).setCell (b:=g) (o:=9) _ rfl |>.setCell (b:=g) (o:=3) _ rfl)
 clear g3 g4 g5 g6 g7 g8 g9 gf
 obtain ⟨V9,hV9⟩:=ex_eq (((((((w8.setCell ⟨g,4,none⟩ (.int .i64 (d:Int))).setCell ⟨g,5,none⟩ (.int .i64 (L:Int))).setCell ⟨g,6,none⟩ (.string PV)).setCell ⟨g,7,none⟩ (.int .i64 (next:Int))).setCell ⟨g,8,none⟩ (.slice a7 ps.length cp7)).setCell ⟨g,9,none⟩ (.slice a8 qs.length cp8)).setCell ⟨g,3,none⟩ (.int .i64 (L:Int)))
 rw [hV9] at HG9 HC9 ⊢
 clear hV9
 have HSZ7:Hid (X+1≤V7.heap.size):=hid (gS HX7.o).1
 have HP9:Hid (StrsAt V9 a7 ps):=hid (HP8.o.keep HC9.o (fun ad e _ i h=>by have:=HA7.o ad e;have:=HSZ7.o;have:=HXN.o;have:=HGL.o;omega))
 have HQ9:Hid (StrsAt V9 a8 qs):=hid (HQ8.o.keep HC9.o (fun ad e _ i h=>by have:=HA8.o ad e;have:=HSZ7.o;have:=HXN.o;have:=HGL.o;omega))
 have HN9:=hid ((HC9.o.other N (gS HN8.o).1 (fun _ e=>by have:=HGL.o;omega)).trans HN8.o)
 have HSI9:=hid ((HSI7.o.trans (Chg.of_below H8.o)).trans (HC9.o.mono fun q _ _ e=> .inr (.inl e)))
 have HSZ9:Hid (V7.heap.size≤V9.heap.size):=hid (Nat.le_trans H8.o.size HC9.o.size)
 obtain ⟨_,_,_,g3,⟨g4,g5,g6,g7,g8,g9⟩,_,gf⟩:=line_cells HG9.o
 simp only at g4 g5 g6 g7 g8 g9
 go_upto_region 17 with (first
  | (go_at_call 147
     (with_reducible refine (cloneHead_any (d:Int) (L:Int) PV (next:Int) a7 ps.length cp7 a8 qs.length cp8 ps qs rfl rfl HPL.o.1 HPL.o.2 V9 HP9.o HQ9.o).mono ?_)
     rintro e w10 ⟨a5,cp5,a6,cp6,rfl,_,_,hp10,hq10,hb5,hb6,h10⟩
     have HP10:=hid hp10
     have HQ10:=hid hq10
     have HA5:=hid hb5
     have HA6:=hid hb6
     have H10:=hid h10
     have HN10:=hid ((h10.block N (gS HN9.o).1).trans HN9.o)
     clear hp10 hq10 hb5 hb6 h10 g3 g4 g5 g6 g7 g8 g9 gf
     obtain ⟨z0,z1,z2,z3,z4,z5⟩:=row6 HN10.o
     have zf:=cells6 HN10.o))
 refine bodyPost_ret (results_cell_row_tmp (p:=6) (u:=7) rfl _ _ N 94 #[.int .i64 (d:Int),.int .i64 (L:Int),.string PV,.int .i64 (next:Int),.slice a5 ps.length cp5,.slice a6 qs.length cp6] (0,0) _ (by rfl) (put6_row6 HN10.o) Tryz.underlying94 rfl (by kernel_rfl)) rfl ?_
 have HCW:=chg6 (M:=fun k _=>k=N) (x0:= .int .i64 (d:Int)) (x1:= .int .i64 (L:Int)) (x2:= .string PV) (x3:= .int .i64 (next:Int)) (x4:= .slice a5 ps.length cp5) (x5:= .slice a6 qs.length cp6) (Chg.refl (fun k _=>k=N) w10) (fun _=>rfl)
 obtain ⟨WF,hWF⟩:=ex_eq ((((((w10.setCell ⟨N,0,none⟩ (.int .i64 (d:Int))).setCell ⟨N,1,none⟩ (.int .i64 (L:Int))).setCell ⟨N,2,none⟩ (.string PV)).setCell ⟨N,3,none⟩ (.int .i64 (next:Int))).setCell ⟨N,4,none⟩ (.slice a5 ps.length cp5)).setCell ⟨N,5,none⟩ (.slice a6 qs.length cp6))
 rw [hWF] at HCW ⊢
 clear hWF zf z0 z1 z2 z3 z4 z5
 have hNw:=HN.o
 have hcv:Chg (fun k _=>k=N) V9 WF:=(Chg.of_below H10.o).trans HCW
 have hgN:=HGL.o
 have hXN:=HXN.o
 have hs7:=HSZ7.o
 have hs9:=HSZ9.o
 have hall:Chg (fun q i=>(q=g0∧i=6)∨q=g∨N≤q) w WF:=HSI9.o.trans (hcv.mono fun q _ _ e=> .inr (.inr (by omega)))
 have hstep:Step G G (TagZ s d) w WF:=⟨hall.mono fun q i hq e=>by
  rcases e with e | e | e
  ·exact .inr (by rw [e.1];exact HG0.o)
  ·exact .inl (.inl (by rw [e];exact HGT.o))
  ·omega,fun _ _=>rfl⟩
 have hs0:=HD.o.2.2
 have hz0: ¬TagZ s d 0:=fun e=>by
  rcases e with e | e
  ·exact TagS.ne0 (by omega) e
  ·omega
 have hln:=HLN.o
 have hother: ∀k,k<N0→k≠g0→WF.heap[k]? =w.heap[k]? :=fun k hk hne=>by
  have hO:=HO.o
  refine hall.other k (Nat.lt_of_lt_of_le hk hO.size) (fun i e=> ?_)
  rcases e with e | e | e
  ·exact hne e.1
  ·have:=HGT.o
   rcases hO.lo k hk with h | h
   ·rw [e] at h;omega
   ·rw [e] at h;omega
  ·have:=hO.size;omega
 have hsi:SgIn WF N0 SB g0 b t seed pk (next+1):=by
  have h1:=HSG.o.later (by rw [hNw];exact HB3.o)
  have h2:=h1.later H4.o
  have h3:=(h2.sign HS5.o HC5.o).1
  have hwx: ∀k,k<w5.heap.size→k≠g→k≠N→k≠X→WF.heap[k]? =w5.heap[k]? :=fun k hk k1 k2 k3=>by
   have hz5:w5.heap.size≤V6.heap.size:=HB6.o.size
   have e1:V6.heap[k]? =w5.heap[k]? :=HB6.o.block k hk
   have e2:V7.heap[k]? =V6.heap[k]? :=HC7.o.other k (by omega) (fun i e=>k3 e)
   have hz7:V6.heap.size≤V7.heap.size:=HC7.o.size
   have e3:w8.heap[k]? =V7.heap[k]? :=H8.o.block k (by omega)
   have hz8:V7.heap.size≤w8.heap.size:=H8.o.size
   have e4:V9.heap[k]? =w8.heap[k]? :=HC9.o.other k (by omega) (fun i e=>k1 e)
   have e5:WF.heap[k]? =V9.heap[k]? :=hcv.other k (by omega) (fun i e=>k2 e)
   exact e5.trans (e4.trans (e3.trans (e2.trans e1)))
  have hsz5:w5.heap.size≤WF.heap.size:=by
   have h1:=HB6.o.size
   have h2:=HC7.o.size
   have h3:=HC9.o.size
   have h4:=H8.o.size
   have h5:=hcv.size
   omega
  have hN0:=HO.o.size
  have hgk: ∀k,k<N0→k≠g:=fun k hk e=>by
   have:=HGT.o
   rcases HO.o.lo k hk with h | h
   ·rw [e] at h;omega
   ·rw [e] at h;omega
  have hw5:=HZ5.o
  exact h3.step hsz5 (fun k hk=> .inl (hwx k (by omega) (hgk k hk) (by omega) (by omega))) (hwx g0 (by have:=HG0N.o;omega) (fun e=>HGN.o e.symm) (by have:=HG0N.o;omega) (by have:=HG0N.o;omega))
 refine ⟨⟨⟨(d:Int),(L:Int),PV,(next:Int),ps,qs⟩,a5,cp5,a6,cp6⟩,rfl,rfl,rfl,rfl,rfl,?_,HQ5.o,⟨?_,?_,fun _ ad e=> ?_,fun _ ad e=> ?_⟩,⟨.slice (some ⟨b0,0,none⟩) gs.length cap,gs,?_⟩,⟨HO.o.lo,fun k hk=>HO.o.hi k (Nat.le_trans hall.size hk),Nat.le_trans HO.o.size hall.size⟩,hstep,hsi,hother⟩
 ·rw [HP5.o,HU4.o,← HTE.o]
 ·exact (HP10.o.keep HCW (fun ad e _ i h=>by have:=HA5.o ad e;omega))
 ·exact (HQ10.o.keep HCW (fun ad e _ i h=>by have:=HA6.o ad e;omega))
 ·exact HO.o.hi _ (by have:=HA5.o ad e;omega)
 ·exact HO.o.hi _ (by have:=HA6.o ad e;omega)
 ·refine HS.o.putT d _ hstep hz0 (fun e=>by rcases e with e | e;(unfold TagS at e;omega);omega) (fun i hi hne e=>by
     have:=HD.o
     rcases e with e | e
     ·unfold TagS at e;omega
     ·omega) (by
     rw [HGE.o]
     have hkeep: ∀{e size n:Nat} {v:Value} {ys:List Value},w.ownsRow 0 e size v n ys→e≠ 222 →(∀q,v.ownBlock=some q→G q=s+1+d)→WF.ownsRow 0 e size v n ys:=fun hr he ht=>ownsRow_keepM hr hall (fun q hq i e1=>by
      rcases e1 with e1 | e1 | e1
      ·have:=ht q hq
       rw [e1.1,HG0.o] at this
       omega
      ·rw [e1] at hq
       exact not_row_of hr HRW.o he.symm hq.symm
      ·have:=(hr.lt q hq).2
       omega)
     obtain ⟨ys,y1,y2,y3,y4⟩:=hln.log
     refine ⟨.slice al l.log.length cl,.slice (some ⟨b6,o6,none⟩) l.log.length cs,ss,⟨⟨(d:Int),(L:Int),PV,(next:Int),ps,qs⟩,a7,cp7,a8,cp8⟩,f0,f1,f2,f3,f4,f5,f6,f7,f8,f9,f10,f11,f12,f13,f14,⟨?_,HGT.o,⟨ys,y1,hkeep y2 (by decide) y3,y3,fun y hy=>(y4 y hy).step hstep hz0⟩,hkeep hln.sums (by decide) hln.stag,hln.stag,hln.sumE,rfl,⟨?_,?_,fun _ ad e=> ?_,fun _ ad e=> ?_⟩,hln.fork.step hstep hz0⟩⟩
     ·rw [HLE.o]
      have h1:=(hcv.other g (by omega) (fun _ e=>by omega)).trans HG9.o
      show WF.heap[g]? =some (.cells (lineRow l.pub (.slice al L cl) (.slice (some ⟨b6,o6,none⟩) L cs) ((l.log.length:Nat):Int) _ l.fork.isSome f0 f1 f2 f3 f4 f5 f6 f7 f8 f9 f10 f11 f12 f13 f14) 222 (0,0))
      rw [HLE.o]
      exact h1
     ·exact ((HP9.o.later H10.o).keep HCW (fun ad e _ i h=>by have:=HA7.o ad e;omega))
     ·exact ((HQ9.o.later H10.o).keep HCW (fun ad e _ i h=>by have:=HA8.o ad e;omega))
     ·exact HO.o.hi _ (by have:=HA7.o ad e;omega)
     ·exact HO.o.hi _ (by have:=HA8.o ad e;omega))
end Go.Proofs.YtndlihclgdkpaaaGreatDoor

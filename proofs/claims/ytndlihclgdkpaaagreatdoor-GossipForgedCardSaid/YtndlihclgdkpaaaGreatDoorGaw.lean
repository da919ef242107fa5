/- awake of layer 46: the chapter's examples hold. -/
import Derived.Test.YtndlihclgdkpaaaGreatDoorGsm
import Derived.Test.YtndlihclgdkpaaaGreatDoorGse
import Derived.Test.YtndlihclgdkpaaaGreatDoorGmv
set_option linter.unusedVariables false
set_option linter.unusedSimpArgs false
open Go.Lib (hid)
namespace Go.Proofs.YtndlihclgdkpaaaGreatDoor
open Go.RowKit
open Kit (Chg)
open Sha (v)
open Go.Proofs.YtndlihclgdkpaaaGreatDoor.One

theorem sigPub_len4 (seed:List Nat):(sigPub 4 seed 0).length=32:=by
 unfold sigPub
 exact Mrk.root_len 0 _ (sigLeaves_len _ _ _) (sigLeaves_32 _ _ _)
theorem vec_cell0 {w:World} {base bl n c z:Nat} {zs:List Nat} (h:w.ownsRow base 3 1 (.slice (some ⟨bl,0,none⟩) n c) n (natV (z::zs))):w.cell? ⟨bl,0,none⟩=some (.int .i64 (z:Int)):=by
 rcases h.2 with ⟨e,_⟩ | ⟨g,cap,cur,e,_,h2,_,_,_,h6⟩
 ·cases e
 ·injection e with e
  injection e with e
  injection e with e
  subst e
  rw [cell_of_row _ _ _ _ _ _ h2]
  have h7:=congrArg (fun q=>q[0]?) h6
  simp only [List.getElem?_take] at h7
  split at h7
  ·rw [Array.getElem?_toList] at h7
   rw [h7]
   rfl
  ·rename_i hn
   have:=h.1
   simp [natV] at this
   omega
theorem vector2 {G:Nat→Nat} {s p:Nat} {B H:Int} {l0 l1:Lin} (V:World) (h:StoreAt V G s p B H [l0,l1]):Calls Tryz.prog 65 #[.pointer (some ⟨p,0,none⟩)] V fun e w'=> ∃bl:Nat,e= .returned (.slice (some ⟨bl,0,none⟩) 2 2)∧w'.cell? ⟨bl,0,none⟩=some (.int .i64 (l0.sealed':Int))∧Below V.heap.size V w':=by
 refine (vector_any V h (show 2≤1000 by decide)).mono ?_
 rintro e w' ⟨bl,L,rfl,hL,ho,_,hb⟩
 have h2:L=2:=hL.symm
 subst h2
 exact ⟨bl,rfl,vec_cell0 ho,hb⟩
theorem goodS0 (a b:ByteArray):GoodS 4 0 [lin0 a,lin0 b]:=by
 have h0: ∀(d:Int) (p:ByteArray),GoodL 4 0 d (lin0 p):=fun d p=>⟨fun i hi=>by exact absurd hi (Nat.not_lt_zero _),Nat.zero_le _,Nat.zero_le _,fun h=>absurd rfl h,fun f hf=>by cases hf⟩
 refine ⟨fun i hi=> ?_,fun l hl=> ?_⟩
 ·have:i=0∨i=1:=by simp at hi;omega
  rcases this with rfl | rfl
  ·exact h0 _ a
  ·exact h0 _ b
 ·have:l=lin0 a∨l=lin0 b:=by simpa using hl
  rcases this with rfl | rfl
  ·exact ⟨Nat.zero_le _,Nat.zero_le _⟩
  ·exact ⟨Nat.zero_le _,Nat.zero_le _⟩
theorem own_srcH {w:World} {base n c b:Nat} {ys:List HV} (h:w.ownsRow base 94 6 (.slice (some ⟨b,0,none⟩) n c) n (hvs ys)): ∀j u,(hvs ys)[j]? =some u→w.cell? ((⟨b,0,none⟩:Addr).add j)=some u:=fun j u hu=>by
 have hn:ys.length=n:=by have:=h.1;rw [hvs_len] at this;omega
 have hj:j<ys.length*6:=by
  have:=(List.getElem?_eq_some_iff.1 hu).1
  rwa [hvs_len] at this
 obtain ⟨_,a',cap,he,_,_,_,h8⟩:=sixes_cells (f:=HV.cells) (fun _=>rfl) h
 injection he with e1 e2 e3
 obtain ⟨b',hb',_,hc⟩:=h8 (j/6) (by omega)
 rw [← e1] at hb'
 injection hb' with hb'
 injection hb' with hb'
 subst hb'
 have h1:=sixes_get (f:=HV.cells) (fun _=>rfl) ys (j/6) (by omega) (j % 6) (Nat.mod_lt _ (by decide))
 have h2:=hc (j % 6) (Nat.mod_lt _ (by decide))
 rw [show j/6*6+j % 6=j by omega] at h1 h2
 rw [add_none,Nat.zero_add,h2,← h1]
 exact hu
def E1:Ent:=⟨0,1,9,5,[109],ByteArray.empty⟩
theorem aw_find {h:Hd} (hd:h.dev=0) (hq:h.seq=1) (hs:nb h.sum=sumE E1):findL [] (givenOf [E1]) h=some (0,[E1]):=by
 have hg:givenOf [E1] (sumE E1)=some E1:=by
  have h1:=givenOf_snoc [] E1 (sumE E1)
  rw [List.nil_append,if_pos ⟨by rfl,rfl⟩] at h1
  exact h1
 have hb:back [] (givenOf [E1]) 0 1 (sumE E1) []=some (0,[E1]):=by
  rw [back,if_neg (by simp),hg]
  simp only
  rw [if_pos ⟨rfl,rfl⟩,back]
 unfold findL
 rw [if_neg (by rw [hq];decide),hd,hq,hs,show (1:Int).toNat=1 from rfl,hb]
 rfl
theorem aw_merge {pk:ByteArray} {l1:Lin} {h:Hd} (hd:h.dev=0) (hq:h.seq=1) (hs:nb h.sum=sumE E1):mergeL ([lin0 pk,l1][0]'(show 0<2 by decide)) (givenOf [E1]) h=(⟨pk,[E1],1,h,none⟩,1):=by
 show mergeL (lin0 pk) (givenOf [E1]) h=_
 unfold mergeL
 rw [show (lin0 pk).log=[] from rfl,aw_find hd hq hs]
 simp only
 rw [show h.seq.toNat=1 by rw [hq];rfl]
 rfl
def L1 (pk:ByteArray):Lin:=⟨pk,[E1],0,Hd.zero,none⟩
def G0 (g0:Nat):Nat→Nat:=fun q=>if q=g0 then 7 else 0
theorem strs2_at {w:World} {a b:ByteArray} {n:Nat} (h:w.heap[n]? =some (.cells #[.string a,.string b] 9 (0,0))):StrsAt w (some ⟨n,0,none⟩) [a,b]:=by
 refine .inr ⟨n,0,rfl,fun i hi=> ?_⟩
 obtain ⟨c0,c1⟩:=row2 h
 have:i=0∨i=1:=by simp at hi;omega
 rcases this with rfl | rfl
 ·exact c0
 ·exact c1
theorem ints2_at {w:World} {n:Nat} (h:w.heap[n]? =some (.cells #[.int .i64 0,.int .i64 0] 3 (0,0))):IntsAt w (some ⟨n,0,none⟩) [0,0]:=by
 refine .inr ⟨n,0,rfl,fun i hi=> ?_⟩
 obtain ⟨c0,c1⟩:=row2 h
 have:i=0∨i=1:=by simp at hi;omega
 rcases this with rfl | rfl
 ·exact c0
 ·exact c1

set_option maxRecDepth 100000 in
set_option maxHeartbeats 4000000 in
theorem awake46 (w:World) (hL:Laid w) (h4:3≤w.heap.size):Calls Tryz.prog 52 #[] w fun e w'=>e= .returned (.bool true)∧Below w.heap.size w w':=by
 have HL:=hid hL
 have hB4:Bits 4:=by unfold Bits;omega
 have HNW:Hid (∀(u:ByteArray) (V:World),u.size=32→Laid V→Calls Tryz.prog 16 #[.agg #[.int .i64 4,.int .i64 0],.string u] V fun e w'=> ∃g pk,e= .returned (.tuple #[.pointer (some ⟨g,0,none⟩),.int .i64 0])∧SignerAt w' V.heap.size g 4 0 u pk 0∧Below V.heap.size V w'):=hid (fun u V hu hL=>signerNew_ok 4 0 hB4 (by decide) (by decide) u hu V hL)
 have HSV:Hid (SV 4 0):=hid (by unfold SV;omega)
 have HK1:Hid (∀V,Calls Tryz.prog 138 #[.int .u8 110] V fun e w'=> ∃u:ByteArray,e= .returned (.string u)∧nb u=keyB 110∧u.size=32∧Below V.heap.size V w'):=hid (fun V=>key_any 110 (by decide) V)
 have HK2:Hid (∀V,Calls Tryz.prog 138 #[.int .u8 98] V fun e w'=> ∃u:ByteArray,e= .returned (.string u)∧nb u=keyB 98∧u.size=32∧Below V.heap.size V w'):=hid (fun V=>key_any 98 (by decide) V)
 clear hL hB4
 go_enter Tryz.func52,Tryz.ntmps52
 go_upto_region 2 with fail
 refine wp_over (fun W=>Hid (W.heap[w.heap.size]? =some (.cells #[.int .i64 4,.int .i64 0] 23 (0,0)))∧Hid (Below w.heap.size w W)∧Hid (W.heap.size=w.heap.size+1)) ⟨heap_alloc_new _ _,(Below.refl _ _).alloc (Nat.le_refl _) _,by show _=_;simp⟩ ?_
 rintro W1 ⟨HX1,HB1,HZ1⟩
 obtain ⟨N0,hN0⟩:=ex_eq w.heap.size
 have HN0:=hid hN0
 have H4:Hid (3≤N0):=hid (by omega)
 rw [hN0] at HX1 HB1 HZ1 ⊢
 clear hN0 h4
 have HXS:Hid (∀W:World,W.heap[N0]? =W1.heap[N0]? →W.cell? ⟨N0,0,none⟩=some (.int .i64 4)∧W.cell? ⟨N0,1,none⟩=some (.int .i64 0)):=hid (fun W h=>row2 (h.trans HX1.o))
 have HBL:Hid (∀W,Below N0 w W→Laid W):=hid (fun W hW=>Laid.low HL.o hW H4.o)
 have HNL:Hid (N0<W1.heap.size):=hid (by have:=HZ1.o;omega)
 refine Kit.wp_region_gplan (fun W=>W.cell? ⟨N0,0,none⟩=some (.int .i64 4)∧W.cell? ⟨N0,1,none⟩=some (.int .i64 0)) [(true,0),(false,1),(false,2),(true,3),(true,4),(true,5),(true,6),(true,7)] (by kernel_rfl) (by kernel_rfl) (by kernel_rfl) (by kernel_rfl) (HXS.o W1.drew rfl) ?_
 obtain ⟨x0,x1⟩:=HXS.o W1.drew rfl
 iterate 1 (refine Kit.ghd (h:= ?_))
 refine Kit.gplan_op (by rfl) (by rfl) fun K' hK=> ?_
 go_simp
 go_at_call 138
 with_reducible refine (HK1.o _).mono ?_
 rintro e w2 ⟨u1,rfl,hu1,hz1,hb2⟩
 have HU1:=hid hu1
 have HUZ1:=hid hz1
 have HB2:Hid (Below W1.heap.size W1 w2):=hid ((Below.refl _ W1).drew.trans hb2)
 clear hu1 hz1 hb2 x0 x1
 refine hK _ _ (HXS.o w2 (HB2.o.block N0 HNL.o)) ?_
 clear hK K'
 refine Kit.gplan_op (by rfl) (by rfl) fun K' hK=> ?_
 go_simp
 have HBW2:Hid (Below N0 w w2):=hid (HB1.o.trans (HB2.o.mono (by have:=HNL.o;omega)))
 go_at_call 16
 with_reducible refine (HNW.o u1 w2 HUZ1.o (HBL.o _ HBW2.o)).mono ?_
 rintro e w3 ⟨g0,pk,rfl,hsg,hb3⟩
 have HSG:=hid hsg
 have HB3:=hid hb3
 clear hsg hb3
 have HB13:Hid (Below W1.heap.size W1 w3):=hid (HB2.o.trans (HB3.o.mono HB2.o.size))
 refine hK _ _ (HXS.o w3 (HB13.o.block N0 HNL.o)) ?_
 clear hK K'
 iterate 5 (refine Kit.ghd (h:= ?_))
 refine Kit.gdn (h:=?_)
 have HBW3:Hid (Below N0 w w3):=hid (HB1.o.trans (HB13.o.mono (by have:=HNL.o;omega)))
 have HX3:Hid (w3.heap[N0]? =W1.heap[N0]?):=hid (HB13.o.block N0 HNL.o)
 obtain ⟨N1,hN1⟩:=ex_eq w3.heap.size
 have HN1:=hid hN1
 have HGB:Hid (N0<g0):=hid (by have:=HSG.o.base;have:=HB2.o.size;have:=HNL.o;omega)
 have HG0:Hid (g0<N1∧N0<N1):=hid (by rw [← hN1];exact ⟨HSG.o.lt,by have:=HNL.o;have:=HB13.o.size;omega⟩)
 have HO3:Hid (Own w3 (G0 g0) N1):=hid ⟨fun k hk=>by unfold G0;split<;> simp,fun k hk=>by unfold G0;rw [if_neg (by have:=HG0.o.1;omega)],by omega⟩
 have HSI:Hid (SgIn w3 N1 w2.heap.size g0 4 0 u1 pk 0):=hid (by rw [← hN1];exact SgIn.of HSG.o)
 have HPK:Hid (nb pk=sigPub 4 (nb u1) 0∧pk.size=32):=hid ⟨HSG.o.pk,by rw [← nb_length,HSG.o.pk];exact sigPub_len4 _⟩
 obtain ⟨SB,hSB⟩:=ex_eq w2.heap.size
 rw [hSB] at HSI
 clear hSB hN1 HB13 HB2 HBW2 HB3
 have HLF:Hid (∀V,SgIn V N1 SB g0 4 0 u1 pk 0→Calls Tryz.prog 74 #[.pointer (some ⟨g0,0,none⟩)] V fun e w'=>e= .returned (.int .i64 1)∧Below V.heap.size V w'):=hid (fun V hV=>signerLeft_any V hV.at)
 go_upto_region 5 with (first
  | (go_at_call 74
     (with_reducible refine (HLF.o w3 HSI.o).mono ?_)
     rintro e w4 ⟨rfl,hb4⟩
     have HB4:=hid hb4
     clear hb4))
 have HX4:Hid (w4.heap[N0]? =W1.heap[N0]?):=hid ((HB4.o.block N0 (by have:=HG0.o;have:=HO3.o.size;omega)).trans HX3.o)
 have HO4:Hid (Own w4 (G0 g0) N1):=hid (HO3.o.later HB4.o.size)
 have HS4:Hid (SgIn w4 N1 SB g0 4 0 u1 pk 0):=hid (HSI.o.later HB4.o)
 have HW4:Hid (Below N0 w w4):=hid (HBW3.o.trans (HB4.o.mono (by have:=HG0.o;have:=HO3.o.size;omega)))
 have HO4Z:Hid (N1≤w4.heap.size):=hid HO4.o.size
 clear HSI HO3 HX3 HBW3 HB4 HSG HX1
 obtain ⟨U4,hU4⟩:=ex_eq w4.drew
 have HXU:Hid (U4.heap[N0]? =W1.heap[N0]?):=hid (by rw [← hU4];exact HX4.o)
 have HOU:Hid (Own U4 (G0 g0) N1):=hid (by rw [← hU4];exact HO4.o.later (Nat.le_refl _))
 have HSU:Hid (SgIn U4 N1 SB g0 4 0 u1 pk 0):=hid (by rw [← hU4];exact HS4.o.later (Below.refl _ _).drew)
 have HWU:Hid (Below N0 w U4):=hid (by rw [← hU4];exact HW4.o.drew)
 have HUB:Hid (Below w4.heap.size w4 U4):=hid (by rw [← hU4];exact (Below.refl _ _).drew)
 have HNU:Hid (N0<U4.heap.size):=hid (by have:=HG0.o;have:=HOU.o.size;omega)
 obtain ⟨x0,x1⟩:=HXS.o U4 HXU.o
 refine Kit.wp_region_gplan (fun W=>W.cell? ⟨N0,0,none⟩=some (.int .i64 4)∧W.cell? ⟨N0,1,none⟩=some (.int .i64 0)) [(true,0),(true,4),(false,1),(false,2),(false,3),(false,5),(true,6),(true,7),(true,8),(true,9),(true,10)] (by kernel_rfl) (by kernel_rfl) (by kernel_rfl) (by kernel_rfl) (by rw [hU4];exact ⟨x0,x1⟩) ?_
 rw [hU4]
 clear hU4
 iterate 2 (refine Kit.ghd (h:= ?_))
 refine Kit.gplan_op (by rfl) (by rfl) fun K' hK=> ?_
 go_simp
 go_at_call 24
 with_reducible refine (signerPublic_any U4 HSU.o.at).mono ?_
 rintro e w5 ⟨rfl,rfl⟩
 refine hK _ _ ⟨x0,x1⟩ ?_
 clear hK K' x0 x1
 refine Kit.gplan_op (by rfl) (by rfl) fun K' hK=> ?_
 go_simp
 go_at_call 138
 with_reducible refine (HK2.o U4).mono ?_
 rintro e w6 ⟨v1,rfl,hu2,hz2,hb6⟩
 have HVZ1:=hid hz2
 have HB6:Hid (Below U4.heap.size U4 w6):=hid hb6
 clear hu2 hz2 hb6
 refine hK _ _ (HXS.o w6 ((HB6.o.block N0 HNU.o).trans HXU.o)) ?_
 clear hK K'
 refine Kit.gplan_op (by rfl) (by rfl) fun K' hK=> ?_
 go_simp
 have HA6:Hid (Below U4.heap.size U4 (w6.alloc (.cells #[.string pk,.string v1] 9))):=hid (HB6.o.alloc HB6.o.size _)
 have HR6:Hid ((w6.alloc (.cells #[.string pk,.string v1] 9)).heap[w6.heap.size]? =some (.cells #[.string pk,.string v1] 9 (0,0))):=hid (heap_alloc_new w6 _)
 obtain ⟨W6,hW6⟩:=ex_eq (w6.alloc (.cells #[.string pk,.string v1] 9))
 obtain ⟨Y6,hY6⟩:=ex_eq w6.heap.size
 rw [hW6] at HA6 HR6 ⊢
 rw [hY6] at HR6 ⊢
 clear hW6 hY6
 refine hK _ _ (HXS.o W6 ((HA6.o.block N0 HNU.o).trans HXU.o)) ?_
 clear hK K'
 refine Kit.gplan_op (by rfl) (by rfl) fun K' hK=> ?_
 go_simp
 have HNS:=hid (storeNew_ok (G:=G0 g0) (s:=8) (N:=N1) HSV.o (some ⟨Y6,0,none⟩) 2 2 [pk,v1] rfl (by decide) (by decide) (fun x hx=>by
  rcases List.mem_cons.1 hx with h | h
  ·rw [h];exact HPK.o.2
  ·rw [List.mem_singleton.1 h];exact HVZ1.o) W6 (strs2_at HR6.o) (HOU.o.later HA6.o.size) (by decide) (fun q=>by unfold G0;split<;> omega))
 go_at_call 57
 with_reducible refine HNS.o.mono ?_
 rintro e w8 ⟨p1,G1,rfl,hst,hown,htag,hlim,hb7⟩
 have HST1:Hid (StoreAt w8 G1 8 p1 4 0 [lin0 pk,lin0 v1]):=hid hst
 have HO8:Hid (Own w8 G1 N1):=hid hown
 have HT1:Hid (∀q,q<W6.heap.size→G1 q=(G0 g0) q):=hid htag
 have HLM1:Hid (∀q,G1 q<8+20):=hid hlim
 have HB7:Hid (Below W6.heap.size W6 w8):=hid hb7
 clear hst hown htag hlim hb7 HNS
 have HU7:Hid (Below U4.heap.size U4 w8):=hid (HA6.o.trans (HB7.o.mono HA6.o.size))
 refine hK _ _ (HXS.o w8 ((HU7.o.block N0 HNU.o).trans HXU.o)) ?_
 clear hK K'
 iterate 5 (refine Kit.ghd (h:= ?_))
 refine Kit.gdn (h:=?_)
 have HX8:Hid (w8.heap[N0]? =W1.heap[N0]?):=hid ((HU7.o.block N0 HNU.o).trans HXU.o)
 have HS8:Hid (SgIn w8 N1 SB g0 4 0 u1 pk 0):=hid (HSU.o.later HU7.o)
 have HW8:Hid (Below N0 w w8):=hid (HWU.o.trans (HU7.o.mono (Nat.le_of_lt HNU.o)))
 have HV1:Hid (Below w4.heap.size w4 w8):=hid (HUB.o.trans (HU7.o.mono HUB.o.size))
 have HTG1:Hid (∀q,q<w4.heap.size→G1 q=(G0 g0) q):=hid (fun q hq=>HT1.o q (by have:=HA6.o.size;have:=HUB.o.size;omega))
 clear HXU HOU HSU HWU HUB HNU HB6 HA6 HR6 HT1 HB7 HU7 HX4 HO4 HS4 HW4
 have HO4S:Hid (w8.heap.size ≥ w4.heap.size∧N1≤w4.heap.size):=hid ⟨HV1.o.size,HO4Z.o⟩
 have HO8S:Hid (N1≤w8.heap.size):=hid HO8.o.size
 go_upto_region 6 with fail
 obtain ⟨U8,hU8⟩:=ex_eq w8.drew
 have HXU:Hid (U8.heap[N0]? =W1.heap[N0]?):=hid (by rw [← hU8];exact HX8.o)
 have HOU:Hid (Own U8 (G1) N1):=hid (by rw [← hU8];exact HO8.o.later (Nat.le_refl _))
 have HSU:Hid (SgIn U8 N1 SB g0 4 0 u1 pk 0):=hid (by rw [← hU8];exact HS8.o.later (Below.refl _ _).drew)
 have HWU:Hid (Below N0 w U8):=hid (by rw [← hU8];exact HW8.o.drew)
 have HUB:Hid (Below w8.heap.size w8 U8):=hid (by rw [← hU8];exact (Below.refl _ _).drew)
 have HNU:Hid (N0<U8.heap.size):=hid (by have:=HG0.o;have:=HOU.o.size;omega)
 obtain ⟨x0,x1⟩:=HXS.o U8 HXU.o
 refine Kit.wp_region_gplan (fun W=>W.cell? ⟨N0,0,none⟩=some (.int .i64 4)∧W.cell? ⟨N0,1,none⟩=some (.int .i64 0)) [(true,0),(true,4),(false,1),(false,2),(false,3),(false,5),(true,6),(true,7),(true,8),(true,9),(true,10)] (by kernel_rfl) (by kernel_rfl) (by kernel_rfl) (by kernel_rfl) (by rw [hU8];exact ⟨x0,x1⟩) ?_
 rw [hU8]
 clear hU8
 iterate 2 (refine Kit.ghd (h:= ?_))
 refine Kit.gplan_op (by rfl) (by rfl) fun K' hK=> ?_
 go_simp
 go_at_call 24
 with_reducible refine (signerPublic_any U8 HSU.o.at).mono ?_
 rintro e w5 ⟨rfl,rfl⟩
 refine hK _ _ ⟨x0,x1⟩ ?_
 clear hK K' x0 x1
 refine Kit.gplan_op (by rfl) (by rfl) fun K' hK=> ?_
 go_simp
 go_at_call 138
 with_reducible refine (HK2.o U8).mono ?_
 rintro e w6 ⟨v2,rfl,hu2,hz2,hb6⟩
 have HVZ2:=hid hz2
 have HB6:Hid (Below U8.heap.size U8 w6):=hid hb6
 clear hu2 hz2 hb6
 refine hK _ _ (HXS.o w6 ((HB6.o.block N0 HNU.o).trans HXU.o)) ?_
 clear hK K'
 refine Kit.gplan_op (by rfl) (by rfl) fun K' hK=> ?_
 go_simp
 have HA6:Hid (Below U8.heap.size U8 (w6.alloc (.cells #[.string pk,.string v2] 9))):=hid (HB6.o.alloc HB6.o.size _)
 have HR6:Hid ((w6.alloc (.cells #[.string pk,.string v2] 9)).heap[w6.heap.size]? =some (.cells #[.string pk,.string v2] 9 (0,0))):=hid (heap_alloc_new w6 _)
 obtain ⟨W6,hW6⟩:=ex_eq (w6.alloc (.cells #[.string pk,.string v2] 9))
 obtain ⟨Y6,hY6⟩:=ex_eq w6.heap.size
 rw [hW6] at HA6 HR6 ⊢
 rw [hY6] at HR6 ⊢
 clear hW6 hY6
 refine hK _ _ (HXS.o W6 ((HA6.o.block N0 HNU.o).trans HXU.o)) ?_
 clear hK K'
 refine Kit.gplan_op (by rfl) (by rfl) fun K' hK=> ?_
 go_simp
 have HNS:=hid (storeNew_ok (G:=G1) (s:=60) (N:=N1) HSV.o (some ⟨Y6,0,none⟩) 2 2 [pk,v2] rfl (by decide) (by decide) (fun x hx=>by
  rcases List.mem_cons.1 hx with h | h
  ·rw [h];exact HPK.o.2
  ·rw [List.mem_singleton.1 h];exact HVZ2.o) W6 (strs2_at HR6.o) (HOU.o.later HA6.o.size) (by decide) (fun q=>by have:=HLM1.o q;omega))
 go_at_call 57
 with_reducible refine HNS.o.mono ?_
 rintro e w9 ⟨p2,G2,rfl,hst,hown,htag,hlim,hb7⟩
 have HST2:Hid (StoreAt w9 G2 60 p2 4 0 [lin0 pk,lin0 v2]):=hid hst
 have HO9:Hid (Own w9 G2 N1):=hid hown
 have HT2:Hid (∀q,q<W6.heap.size→G2 q=(G1) q):=hid htag
 have HLM2:Hid (∀q,G2 q<60+20):=hid hlim
 have HB7:Hid (Below W6.heap.size W6 w9):=hid hb7
 clear hst hown htag hlim hb7 HNS
 have HU7:Hid (Below U8.heap.size U8 w9):=hid (HA6.o.trans (HB7.o.mono HA6.o.size))
 refine hK _ _ (HXS.o w9 ((HU7.o.block N0 HNU.o).trans HXU.o)) ?_
 clear hK K'
 iterate 5 (refine Kit.ghd (h:= ?_))
 refine Kit.gdn (h:=?_)
 have HX9:Hid (w9.heap[N0]? =W1.heap[N0]?):=hid ((HU7.o.block N0 HNU.o).trans HXU.o)
 have HS9:Hid (SgIn w9 N1 SB g0 4 0 u1 pk 0):=hid (HSU.o.later HU7.o)
 have HW9:Hid (Below N0 w w9):=hid (HWU.o.trans (HU7.o.mono (Nat.le_of_lt HNU.o)))
 have HV2:Hid (Below w8.heap.size w8 w9):=hid (HUB.o.trans (HU7.o.mono HUB.o.size))
 have HTG2:Hid (∀q,q<w8.heap.size→G2 q=(G1) q):=hid (fun q hq=>HT2.o q (by have:=HA6.o.size;have:=HUB.o.size;omega))
 clear HXU HOU HSU HWU HUB HNU HB6 HA6 HR6 HT2 HB7 HU7 HX8 HO8 HS8 HW8
 have HS1T:Hid (StoreAt w9 G2 8 p1 4 0 [lin0 pk,lin0 v1]):=hid (HST1.o.step (T:=fun _=>False) ⟨Chg.of_below HV2.o,HTG2.o⟩ (fun h=>h) (fun _ _ h=>h))
 have HST2':Hid (StoreAt w9 G2 60 p2 4 0 [lin0 pk,lin0 v2]):=HST2
 have HG2S:Hid (G2 g0=7):=hid (by
  have h1:=HTG2.o g0 (by have:=HG0.o;have:=HO8S.o;omega)
  have h2:=HTG1.o g0 (by have:=HG0.o;have:=HO4S.o;omega)
  rw [h1,h2];unfold G0;rw [if_pos rfl])
 have HG2Z:Hid (∀k,k≤N0→G2 k=0):=hid (fun k hk=>by
  have h1:=HTG2.o k (by have:=HG0.o;have:=HO8S.o;omega)
  have h2:=HTG1.o k (by have:=HG0.o;have:=HO4S.o;omega)
  rw [h1,h2];unfold G0;rw [if_neg (by have:=HGB.o;omega)])
 clear HST1 HST2 HV1 HV2 HTG1 HTG2 HLM1 HLM2 HVZ1 HVZ2 HO4S HO8S
 have HAP:Hid (∀(V:World) (a:Option Addr) (c:Nat),BytesAt V a [109]→StoreAt V G2 8 p1 4 0 [lin0 pk,lin0 v1]→Own V G2 N1→Laid V→Calls Tryz.prog 139 #[.pointer (some ⟨p1,0,none⟩),.int .i64 0,.int .i64 9,.int .i64 5,.slice a 1 c] V fun e w'=> ∃(a9:Option Addr) (cp9:Nat) (G':Nat→Nat),e= .returned (.tuple #[.agg #[.int .i64 0,.int .i64 1,.int .i64 9,.int .i64 5,.slice a9 1 cp9,.string { data:= #[] }],.int .i64 0])∧
     StoreAt w' G' 8 p1 4 0 [L1 pk,lin0 v1]∧Own w' G' N1∧Step G2 G' (TagS 8 0) V w'∧(∀q,G' q=G2 q∨(8≤G' q∧G' q≤8+50))∧(a9=none→cp9=0)∧BytesAt w' a9 [109]∧(∀ad,a9=some ad→V.heap.size≤ad.block∧G' ad.block=0)):=hid (fun V a c hB hS hO hL=>append_ok (G:=G2) (s:=8) (p:=p1) (N0:=N1) (B:=4) (H:=0) (ls:=[lin0 pk,lin0 v1]) 0 9 5 (show 0<2 by decide) (by decide) (by decide) (by decide) a 1 c [109] rfl (by decide) (fun e he=>by cases he) (show 0<4096 by decide) (show 2≤12 by decide) (by decide) V hB hS hO hL)
 go_upto_region 9 with fail
 have hcl:=conv_lit w9 #[.int .u8 109] 1 1
 have HBY9:Hid (BytesAt (w9.alloc (.cells #[.int .u8 109] 5 (1,2))) (some ⟨w9.heap.size,0,none⟩) [109]):=hid (lit_alloc (bs:=[109]) rfl (by decide) (by decide))
 have HA9:Hid (Below w9.heap.size w9 (w9.alloc (.cells #[.int .u8 109] 5 (1,2)))):=hid ((Below.refl _ _).alloc (Nat.le_refl _) _)
 have HA9S:Hid (StoreAt (w9.alloc (.cells #[.int .u8 109] 5 (1,2))) G2 8 p1 4 0 [lin0 pk,lin0 v1]):=hid (HS1T.o.later HA9.o)
 have HA9O:Hid (Own (w9.alloc (.cells #[.int .u8 109] 5 (1,2))) G2 N1):=hid (HO9.o.later HA9.o.size)
 have HN09:Hid (N0<w9.heap.size):=hid (by have:=HG0.o;have:=HO9.o.size;omega)
 have HA9L:Hid (Laid (w9.alloc (.cells #[.int .u8 109] 5 (1,2)))):=hid (HBL.o _ (HW9.o.trans (HA9.o.mono (Nat.le_of_lt HN09.o))))
 go_upto_region 10 with (first
  | (go_at_call 139
     (with_reducible refine (HAP.o (w9.alloc (.cells #[.int .u8 109] 5 (1,2))) (some ⟨w9.heap.size,0,none⟩) 1 HBY9.o HA9S.o HA9O.o HA9L.o).mono ?_)
     rintro e w10 ⟨a9,cp9,G3,rfl,hst,hown,hstep,hcond,hnil,hby,had⟩
     have HST:=hid hst
     have HOW:=hid hown
     have HSP:=hid hstep
     have HCD:=hid hcond
     have HNI:=hid hnil
     have HBY:=hid hby
     have HAD:=hid had
     clear hst hown hstep hcond hnil hby had hcl))
 refine wp_over (fun V=>Hid (V.heap[w10.heap.size]? =some (.cells #[.int .i64 0,.int .i64 1,.int .i64 9,.int .i64 5,.slice a9 1 cp9,.string { data:= #[] }] 92 (0,0)))∧Hid (Below w10.heap.size w10 V)) ⟨heap_alloc_new _ _,(Below.refl _ _).alloc (Nat.le_refl _) _⟩ ?_
 rintro W10 ⟨HE10,HB10⟩
 obtain ⟨X8,hX8⟩:=ex_eq w10.heap.size
 have HX8:=hid hX8
 have HX8T:Hid (G3 X8=0):=hid (HOW.o.hi X8 (by omega))
 rw [hX8] at HE10 ⊢
 clear hX8
 have HST1:Hid (StoreAt W10 G3 8 p1 4 0 [L1 pk,lin0 v1]):=hid (HST.o.later HB10.o)
 have HST2:Hid (StoreAt W10 G3 60 p2 4 0 [lin0 pk,lin0 v2]):=hid (((HST2'.o.later HA9.o).step HSP.o (by unfold TagS;omega) (fun i hi=>by unfold TagS;have:i≤2:=hi;omega)).later HB10.o)
 have HSG0:Hid (SgIn W10 N1 SB g0 4 0 u1 pk 0):=hid (((HS9.o.later HA9.o).store HA9O.o HSP.o (by unfold TagS;omega) (by unfold TagS;omega)).later HB10.o)
 have HOW0:Hid (Own W10 G3 N1):=hid (HOW.o.later HB10.o.size)
 have HWW:Hid (Below N0 w W10):=hid ((HW9.o.trans (HA9.o.mono (Nat.le_of_lt HN09.o))).trans ((HSP.o.below HA9O.o (by unfold TagS;omega) (by unfold TagS;omega)).mono (by have:=HG0.o;omega) |>.trans (HB10.o.mono (by have:=HOW.o.size;have:=HG0.o;omega))))
 have HXN:Hid (W10.heap[N0]? =W1.heap[N0]?):=hid ((HB10.o.block N0 (by have:=HOW.o.size;have:=HG0.o;omega)).trans (((HSP.o.below HA9O.o (by unfold TagS;omega) (by unfold TagS;omega)).block N0 HG0.o.2).trans ((HA9.o.block N0 HN09.o).trans HX9.o)))
 have HBY8:Hid (BytesAt W10 a9 [109]):=hid (HBY.o.later HB10.o)
 have HTG3:Hid (∀q,q<N1→G3 q=G2 q):=hid (fun q hq=>HSP.o.tag q (by have:=HA9O.o.size;omega))
 have HG3:Hid (G3 g0=7∧ ∀k,k≤N0→G3 k=0):=hid ⟨(HTG3.o g0 HG0.o.1).trans HG2S.o,fun k hk=>(HTG3.o k (by have:=HG0.o;omega)).trans (HG2Z.o k hk)⟩
 have HAD8:Hid (∀ad,a9=some ad→G3 ad.block=0):=hid (fun ad e=>(HAD.o ad e).2)
 clear HST HST2' HS9 HOW HW9 HX9 HBY HB10 HAP HA9 HA9S HA9O HA9L HBY9 HS1T HSP HCD HN09 HG2S HG2Z HO9 HAD HTG3 HX8
 obtain ⟨e0,e1,e2,e3,e4,e5⟩:=row6 HE10.o
 go_upto_region 12 with (first
  | (go_at_call 65
     (with_reducible refine (vector2 w11 (HST1.o.later HB11.o)).mono ?_)
     rintro e w12 ⟨bl12,rfl,hc12,hb12⟩
     have hc12':w12.cell? ⟨bl12,0,none⟩=some (.int .i64 0):=hc12
     have HB12:=hid (HB11.o.trans (hb12.mono HB11.o.size))
     clear hb12 hc12)
  | (go_at_call 65
     (with_reducible refine (vector2 W10 HST1.o).mono ?_)
     rintro e w11 ⟨bl11,rfl,hc11,hb11⟩
     have HB11:Hid (Below W10.heap.size W10 w11):=hid hb11
     clear hb11 hc11 e0 e1 e2 e3 e4 e5))
 clear hc12'
 have HT1:Hid (StoreAt w12 G3 8 p1 4 0 [L1 pk,lin0 v1]):=hid (HST1.o.later HB12.o)
 have HT2:Hid (StoreAt w12 G3 60 p2 4 0 [lin0 pk,lin0 v2]):=hid (HST2.o.later HB12.o)
 have HSGB:Hid (SgIn w12 N1 SB g0 4 0 u1 pk 0):=hid (HSG0.o.later HB12.o)
 have HOWB:Hid (Own w12 G3 N1):=hid (HOW0.o.later HB12.o.size)
 have HN0W:Hid (N0<W10.heap.size∧X8<W10.heap.size):=hid ⟨by have:=HOW0.o.size;have:=HG0.o;omega,(gS HE10.o).1⟩
 have HWW2:Hid (Below N0 w w12):=hid (HWW.o.trans (HB12.o.mono (Nat.le_of_lt HN0W.o.1)))
 have HXN2:Hid (w12.heap[N0]? =W1.heap[N0]?):=hid ((HB12.o.block N0 HN0W.o.1).trans HXN.o)
 have HE12:Hid (w12.heap[X8]? =W10.heap[X8]?):=hid (HB12.o.block X8 HN0W.o.2)
 have HBY12:Hid (BytesAt w12 a9 [109]):=hid (HBY8.o.later HB12.o)
 have HL12:Hid (Laid w12):=hid (HBL.o _ HWW2.o)
 clear HST1 HST2 HSG0 HOW0 HWW HXN HBY8 HB11 HB12
 have HSEL:Hid (∀V,StoreAt V G3 8 p1 4 0 [L1 pk,lin0 v1]→Own V G3 N1→SgIn V N1 SB g0 4 0 u1 pk 0→Laid V→Calls Tryz.prog 140 #[.pointer (some ⟨p1,0,none⟩),.int .i64 0,.pointer (some ⟨g0,0,none⟩)] V fun e w'=> ∃(x:HV),e= .returned (.tuple #[.agg #[.int .i64 x.h.dev,.int .i64 x.h.seq,.string x.h.sum,.int .i64 x.h.idx,.slice x.a1 x.h.ps.length x.c1,.slice x.a2 x.h.qs.length x.c2],.int .i64 0])∧
     x.h.dev=0∧x.h.seq=1∧x.h.sum=prevOf [E1]∧x.h.idx=0∧x.h.ps.map nb=sigParts 4 (nb u1) 0 (headDg 0 1 (nb (prevOf [E1])))∧x.h.qs.map nb=sigPath 4 (nb u1) 0 0∧
     x.ok w' G3∧StoreAt w' G3 8 p1 4 0 [sealL (L1 pk) x.h,lin0 v1]∧Own w' G3 N1∧Step G3 G3 (TagZ 8 0) V w'∧SgIn w' N1 SB g0 4 0 u1 pk 1∧(∀k,k<N1→k≠g0→w'.heap[k]? =V.heap[k]?)):=hid (fun V hS hO hG hL=>seal_ok (G:=G3) (s:=8) (p:=p1) (N0:=N1) (B:=4) (H:=0) (ls:=[L1 pk,lin0 v1]) (SB:=SB) (g0:=g0) (b:=4) (t:=0) (next:=0) (seed:=u1) (pk:=pk) 0 (show 0<2 by decide) (by decide) (show 2≤12 by decide) (by decide) (by decide) rfl (fun h=>by cases h) (show 0<1 by decide) (show 1≤4096 by decide) V hS hO hG HG3.o.1 hL)
 go_upto_region 13 with (first
  | (go_at_call 140
     (with_reducible refine (HSEL.o w12 HT1.o HOWB.o HSGB.o HL12.o).mono ?_)
     rintro e w13 ⟨x,rfl,hdev,hseq,hsum,hidx,hps,hqs,hok,hst,hown,hstep,hsg,hheap⟩
     have HXD:=hid hdev
     have HXQ:=hid hseq
     have HXS':=hid hsum
     have HXI:=hid hidx
     have HXP:=hid hps
     have HXQ2:=hid hqs
     have HXO:=hid hok
     have HST:=hid hst
     have HOW:=hid hown
     have HSP:=hid hstep
     have HSG:=hid hsg
     have HHP:=hid hheap
     clear hdev hseq hsum hidx hps hqs hok hst hown hstep hsg hheap))
 refine wp_over (fun V=>Hid (V.heap[w13.heap.size]? =some (.cells #[.int .i64 x.h.dev,.int .i64 x.h.seq,.string x.h.sum,.int .i64 x.h.idx,.slice x.a1 x.h.ps.length x.c1,.slice x.a2 x.h.qs.length x.c2] 94 (0,0)))∧Hid (Below w13.heap.size w13 V)) ⟨heap_alloc_new _ _,(Below.refl _ _).alloc (Nat.le_refl _) _⟩ ?_
 rintro W13 ⟨HH13,HB13⟩
 obtain ⟨XA,hXA⟩:=ex_eq w13.heap.size
 have HXAT:Hid (G3 XA=0):=hid (HOW.o.hi XA (by omega))
 rw [hXA] at HH13 ⊢
 clear hXA
 have hT0: ¬TagZ 8 0 0:=by unfold TagZ TagS;omega
 have hT2: ∀i,i≤2→ ¬TagZ 8 0 (60+i):=fun i hi=>by unfold TagZ TagS;omega
 have HT1':Hid (StoreAt W13 G3 8 p1 4 0 [sealL (L1 pk) x.h,lin0 v1]):=hid (HST.o.later HB13.o)
 have HT2':Hid (StoreAt W13 G3 60 p2 4 0 [lin0 pk,lin0 v2]):=hid ((HT2.o.step HSP.o hT0 hT2).later HB13.o)
 have HSG':Hid (SgIn W13 N1 SB g0 4 0 u1 pk 1):=hid (HSG.o.later HB13.o)
 have HOW':Hid (Own W13 G3 N1):=hid (HOW.o.later HB13.o.size)
 have HC13:Hid (Below N0 w12 w13):=hid (HSP.o.chg.below (by have:=HOWB.o.size;have:=HG0.o;omega) (fun k i hk h=>hT0 (by rw [HG3.o.2 k (Nat.le_of_lt hk)] at h;exact h)))
 have HN13:Hid (N1≤w13.heap.size):=hid HOW.o.size
 have HWW3:Hid (Below N0 w W13):=hid ((HWW2.o.trans HC13.o).trans (HB13.o.mono (by have:=HN13.o;have:=HG0.o;omega)))
 have HXN3:Hid (W13.heap[N0]? =W1.heap[N0]?):=hid ((HB13.o.block N0 (by have:=HN13.o;have:=HG0.o;omega)).trans ((HHP.o N0 HG0.o.2 (by have:=HGB.o;omega)).trans HXN2.o))
 have HSW:Hid (w12.heap.size≤w13.heap.size∧X8<w12.heap.size):=hid ⟨HSP.o.chg.size,by rw [HE10.o] at HE12;exact (gS HE12.o).1⟩
 have HE13:Hid (W13.heap[X8]? =some (.cells #[.int .i64 0,.int .i64 1,.int .i64 9,.int .i64 5,.slice a9 1 cp9,.string { data:= #[] }] 92 (0,0))):=hid ((HB13.o.block X8 (by have:=HSW.o;omega)).trans ((HSP.o.chg.other X8 HSW.o.2 (fun i h=>hT0 (by rw [HX8T.o] at h;exact h))).trans (HE12.o.trans HE10.o)))
 have HBY13:Hid (BytesAt W13 a9 [109]):=hid ((bytes_step HBY12.o (fun _ ad e=>HAD8.o ad e) HSP.o hT0).1.later HB13.o)
 have HXO':Hid (x.ok W13 G3):=hid (HXO.o.step (Step.of_below HB13.o G3 (fun _=>False)) (fun h=>h))
 have HPL:Hid (x.h.ps.length≤100000000∧x.h.qs.length≤100000000):=hid (by
  have h1:=congrArg List.length HXP.o
  have h2:=congrArg List.length HXQ2.o
  rw [List.length_map,sigParts_len 4 (by unfold Bits;omega) _ _ _ (headDg_len _ _ _)] at h1
  rw [List.length_map,sigPath_len] at h2
  have h3:=count_max (b:=4) (by unfold Bits;omega)
  omega)
 clear hT0 hT2 HT1 HT2 HSGB HOWB HWW2 HXN2 HE12 HBY12 HL12 HST HOW HSP HSG HHP HC13 HSEL HE10 HXO HB13
 have HMI:=hid (missing_ok (G:=G3) (s:=8) (p:=p1) (B:=4) (H:=0) (ls:=[sealL (L1 pk) x.h,lin0 v1]) (some ⟨W13.heap.size,0,none⟩) 2 2 [0,0] rfl (show 2≤2 by decide) (show 2≤12 by decide) (fun l hl=>by
  rcases List.mem_cons.1 hl with h | h
  ·subst h
   exact ⟨(show 1≤4096 by decide),Nat.le_refl _,(fun e he=>by rw [List.mem_singleton.1 he];decide),HPL.o.1,HPL.o.2⟩
  ·rw [List.mem_singleton.1 h]
   exact ⟨Nat.zero_le 4096,Nat.zero_le 0,(fun e (he:e ∈ [])=>by cases he),Nat.zero_le 100000000,Nat.zero_le 100000000⟩) (W13.alloc (.cells #[.int .i64 0,.int .i64 0] 3)) (ints2_at (heap_alloc_new W13 _)) (HT1'.o.later ((Below.refl _ _).alloc (Nat.le_refl _) _)))
 have HA13:Hid (Below W13.heap.size W13 (W13.alloc (.cells #[.int .i64 0,.int .i64 0] 3))):=hid ((Below.refl _ _).alloc (Nat.le_refl _) _)
 go_upto_region 14 with (first
  | (go_at_call 58
     (with_reducible refine HMI.o.mono ?_)
     rintro e w14 ⟨v7,v8,xs,ys,rfl,hgot,hxs,hys,hb14⟩
     have HGOT:=hid hgot
     have HXE:Hid (xs.map EV.e=[E1]):=hid (hxs.trans rfl)
     have HYE:Hid (ys.map HV.h=[x.h]):=hid (hys.trans rfl)
     have HB14:Hid (Below W13.heap.size W13 w14):=hid (HA13.o.trans (hb14.mono HA13.o.size))
     clear hgot hxs hys hb14))
 obtain ⟨x1,hx1,hxe⟩: ∃x1,xs=[x1]∧x1.e=E1:=by
  have h:=HXE.o
  cases xs with
  | nil=>cases h
  | cons a r=>cases r with
    | nil=>exact ⟨a,rfl,(List.cons.inj h).1⟩
    | cons b r=>cases (List.cons.inj h).2
 obtain ⟨y1,hy1,hye⟩: ∃y1,ys=[y1]∧y1.h=x.h:=by
  have h:=HYE.o
  cases ys with
  | nil=>cases h
  | cons a r=>cases r with
    | nil=>exact ⟨a,rfl,(List.cons.inj h).1⟩
    | cons b r=>cases (List.cons.inj h).2
 subst hx1
 subst hy1
 have HXE1:=hid hxe
 have HYE1:=hid hye
 obtain ⟨b7,c7,e7⟩:=own_some HGOT.o.es (show 0<1 by decide)
 subst e7
 obtain ⟨b8,c8,e8⟩:=own_some HGOT.o.hs (show 0<1 by decide)
 subst e8
 clear HMI HXE HYE hxe hye
 have hNE:=HGOT.o.ne x1 (List.mem_singleton.2 rfl)
 have hNH:=HGOT.o.nh y1 (List.mem_singleton.2 rfl)
 have HSZ:Hid (N1≤W13.heap.size∧XA<W13.heap.size∧X8<W13.heap.size∧N0<W13.heap.size):=hid ⟨HOW'.o.size,(gS HH13.o).1,(gS HE13.o).1,by have:=HOW'.o.size;have:=HG0.o;omega⟩
 have HX1O:Hid (x1.ok w14 G3∧x1.e.body.length≤1000000000):=hid ⟨⟨hNE.1,hNE.2.1,fun _ ad e=>HOW'.o.hi _ (by have:=hNE.2.2 ad e;have:=HA13.o.size;omega)⟩,by rw [HXE1.o];decide⟩
 have HY1O:Hid (y1.ok w14 G3∧SmallH y1.h):=hid ⟨⟨hNH.1,hNH.2.1,fun _ ad e=>HOW'.o.hi _ (by have:=hNH.2.2.1 ad e;have:=HA13.o.size;omega),fun _ ad e=>HOW'.o.hi _ (by have:=hNH.2.2.2 ad e;have:=HA13.o.size;omega)⟩,by rw [HYE1.o];exact HPL.o⟩
 have HB1:Hid (BytesAt w14 x1.a [109]∧BytesAt w14 a9 [109]):=hid ⟨by have:=hNE.2.1;rw [HXE1.o] at this;exact this,HBY13.o.later HB14.o⟩
 have HHX:Hid (w14.heap[XA]? =some (.cells #[.int .i64 x.h.dev,.int .i64 1,.string x.h.sum,.int .i64 x.h.idx,.slice x.a1 x.h.ps.length x.c1,.slice x.a2 x.h.qs.length x.c2] 94 (0,0))):=hid (by have h:=(HB14.o.block XA HSZ.o.2.1).trans HH13.o;rw [HXQ.o] at h;exact h)
 have HE14:=hid ((HB14.o.block X8 HSZ.o.2.2.1).trans HE13.o)
 have HSRC:Hid (∀j u,(evs [x1])[j]? =some u→w14.cell? ⟨b7,0+j,none⟩=some u):=hid (fun j u hj=>by have:=own_src HGOT.o.es j u hj;rwa [add_none] at this)
 have HSRH:Hid (∀j u,(hvs [y1])[j]? =some u→w14.cell? ⟨b8,0+j,none⟩=some u):=hid (fun j u hj=>by have:=own_srcH HGOT.o.hs j u hj;rwa [add_none] at this)
 have HS14:Hid (∀V,Below w14.heap.size w14 V→V.cell? ⟨XA,1,none⟩=some (.int .i64 1)∧(V.cell? ⟨b7,0,none⟩=some (.int .i64 0)∧V.cell? ⟨b7,1,none⟩=some (.int .i64 1)∧V.cell? ⟨b7,2,none⟩=some (.int .i64 9)∧V.cell? ⟨b7,3,none⟩=some (.int .i64 5)∧V.cell? ⟨b7,4,none⟩=some (.slice x1.a 1 x1.c)∧V.cell? ⟨b7,5,none⟩=some (.string { data:= #[] }))∧(V.cell? ⟨X8,0,none⟩=some (.int .i64 0)∧V.cell? ⟨X8,1,none⟩=some (.int .i64 1)∧V.cell? ⟨X8,2,none⟩=some (.int .i64 9)∧V.cell? ⟨X8,3,none⟩=some (.int .i64 5)∧V.cell? ⟨X8,4,none⟩=some (.slice a9 1 cp9)∧V.cell? ⟨X8,5,none⟩=some (.string { data:= #[] }))):=hid (fun V hV=>by
  have hc: ∀j u,(evs [x1])[j]? =some u→V.cell? ⟨b7,0+j,none⟩=some u:=fun j u hj=>(hV.cell (World.block_lt_of_cell? w14 _ (HSRC.o j u hj))).trans (HSRC.o j u hj)
  have he:evs [x1]=[.int .i64 0,.int .i64 1,.int .i64 9,.int .i64 5,.slice x1.a 1 x1.c,.string { data:= #[] }]:=by
   unfold evs sixes sixes EV.cells
   rw [HXE1.o]
   rfl
  rw [he] at hc
  exact ⟨(row6 ((hV.block XA (gS HHX.o).1).trans HHX.o)).2.1,⟨hc 0 _ rfl,hc 1 _ rfl,hc 2 _ rfl,hc 3 _ rfl,hc 4 _ rfl,hc 5 _ rfl⟩,row6 ((hV.block X8 (gS HE14.o).1).trans HE14.o)⟩)
 clear hNE hNH
 have HSM:Hid (∀V,BytesAt V x1.a [109]→BytesAt V a9 [109]→Calls Tryz.prog 60 #[.agg #[.int .i64 0,.int .i64 1,.int .i64 9,.int .i64 5,.slice x1.a 1 x1.c,.string { data:= #[] }],.agg #[.int .i64 0,.int .i64 1,.int .i64 9,.int .i64 5,.slice a9 1 cp9,.string { data:= #[] }]] V fun e w'=>e= .returned (.bool true)∧Below V.heap.size V w'):=hid (fun V h1 h2=>by
  have h:=same46_any 0 1 9 5 x1.a 1 x1.c { data:= #[] } [109] rfl 0 1 9 5 a9 1 cp9 { data:= #[] } [109] rfl V h1 h2
  rwa [(sameE_iff _ _).2 rfl] at h)
 have HBD:Hid (Below w14.heap.size w14 w14.drew):=hid (Below.refl _ _).drew
 obtain ⟨g1,⟨q0,q1,q2,q3,q4,q5⟩,e0,e1,e2,e3,e4,e5⟩:=HS14.o w14.drew HBD.o
 refine Kit.wp_region_gplan (fun V=>V.cell? ⟨XA,1,none⟩=some (.int .i64 1)∧(V.cell? ⟨b7,0,none⟩=some (.int .i64 0)∧V.cell? ⟨b7,1,none⟩=some (.int .i64 1)∧V.cell? ⟨b7,2,none⟩=some (.int .i64 9)∧V.cell? ⟨b7,3,none⟩=some (.int .i64 5)∧V.cell? ⟨b7,4,none⟩=some (.slice x1.a 1 x1.c)∧V.cell? ⟨b7,5,none⟩=some (.string { data:= #[] }))∧(V.cell? ⟨X8,0,none⟩=some (.int .i64 0)∧V.cell? ⟨X8,1,none⟩=some (.int .i64 1)∧V.cell? ⟨X8,2,none⟩=some (.int .i64 9)∧V.cell? ⟨X8,3,none⟩=some (.int .i64 5)∧V.cell? ⟨X8,4,none⟩=some (.slice a9 1 cp9)∧V.cell? ⟨X8,5,none⟩=some (.string { data:= #[] }))) [(true,0),(true,1),(true,2),(true,3),(true,4),(true,5),(true,6),(true,7),(true,8),(true,9),(true,10),(true,11),(true,12),(true,13),(true,14),(true,15),(true,16),(true,17),(true,18),(true,19),(true,20),(true,21),(true,22),(true,23),(true,24),(true,25),(false,26),(true,27),(true,28)] (by kernel_rfl) (by kernel_rfl) (by kernel_rfl) (by kernel_rfl) ⟨g1,⟨q0,q1,q2,q3,q4,q5⟩,e0,e1,e2,e3,e4,e5⟩ ?_
 iterate 26 (refine Kit.ghd (h:= ?_))
 refine Kit.gplan_op (by rfl) (by rfl) fun K' hK=> ?_
 go_simp
 go_at_call 60
 with_reducible refine (HSM.o w14.drew (HB1.o.1.later HBD.o) (HB1.o.2.later HBD.o)).mono ?_
 rintro e w15 ⟨rfl,hb15⟩
 have HB15:Hid (Below w14.heap.size w14 w15):=hid (HBD.o.trans hb15)
 clear hb15 g1 q0 q1 q2 q3 q4 q5 e0 e1 e2 e3 e4 e5
 refine hK _ _ (HS14.o w15 HB15.o) ?_
 clear hK K'
 iterate 2 (refine Kit.ghd (h:= ?_))
 refine Kit.gdn (h:=?_)
 go_upto_region 16 with fail
 have HNG:Hid (3≤N1):=hid (by have:=HG0.o;have:=H4.o;omega)
 have B15:Hid (Below W13.heap.size W13 w15):=hid (HB14.o.trans (HB15.o.mono HB14.o.size))
 have T2_1:Hid (StoreAt w15 G3 60 p2 4 0 [lin0 pk,lin0 v2]):=hid (HT2'.o.later B15.o)
 have OW_1:Hid (Own w15 G3 N1):=hid (HOW'.o.later B15.o.size)
 have WW_1:Hid (Below N0 w w15):=hid (HWW3.o.trans (B15.o.mono (Nat.le_of_lt HSZ.o.2.2.2)))
 have SG_1:Hid (SgIn w15 N1 SB g0 4 0 u1 pk 1):=hid (HSG'.o.later B15.o)
 have XN_1:Hid (w15.heap[N0]? =W1.heap[N0]?):=hid ((B15.o.block N0 HSZ.o.2.2.2).trans HXN3.o)
 have SRC1:=fun j u hj=>(HB15.o.cell (World.block_lt_of_cell? w14 _ (HSRC.o j u hj))).trans (HSRC.o j u hj)
 have SRH1:Hid (∀j u,(hvs [y1])[j]? =some u→w15.cell? ⟨b8,0+j,none⟩=some u):=hid (fun j u hj=>(HB15.o.cell (World.block_lt_of_cell? w14 _ (HSRH.o j u hj))).trans (HSRH.o j u hj))
 have XOK1:x1.ok w15 G3∧x1.e.body.length≤1000000000:=⟨HX1O.o.1.step (Step.of_below HB15.o G3 (fun _=>False)) (fun h=>h),HX1O.o.2⟩
 have YOK1:Hid (y1.ok w15 G3∧SmallH y1.h):=hid ⟨HY1O.o.1.step (Step.of_below HB15.o G3 (fun _=>False)) (fun h=>h),HY1O.o.2⟩
 have HHX1:=hid ((HB15.o.block XA (gS HHX.o).1).trans HHX.o)
 have HXT:Hid (x.ok w15 G3):=hid (HXO'.o.step (Step.of_below B15.o G3 (fun _=>False)) (fun h=>h))
 have BT:Hid (G3 b7=0∧G3 b8=0∧G3 XA=0∧(∀k,k≤N0→G3 k=0)):=hid ⟨HOW'.o.hi _ (by have:=(HGOT.o.es.lt b7 rfl).1;have:=HA13.o.size;omega),HOW'.o.hi _ (by have:=(HGOT.o.hs.lt b8 rfl).1;have:=HA13.o.size;omega),HXAT.o,HG3.o.2⟩
 have HMG1:=hid (storeMerge_any (G:=G3) (s:=60) (p:=p2) (N0:=N1) (B:=4) (H:=0) (ls:=[lin0 pk,lin0 v2]) [x1] [] (some ⟨b7,0,none⟩) c7 1 none 0 0 rfl rfl (by decide) (by decide) (show 2≤12 by decide) (by decide) HNG.o (goodS0 pk v2) w15 (.inr ⟨b7,0,rfl,SRC1⟩) (.inl ⟨rfl,rfl⟩) (fun y hy=>by rw [List.mem_singleton.1 hy];exact XOK1) (fun y hy=>by cases hy) T2_1.o OW_1.o (HBL.o _ WW_1.o))
 have XK1:=hid XOK1
 have SC1:=hid SRC1
 clear SRC1 XOK1
 go_upto_region 17 with (first
  | (go_at_call 61
     (with_reducible refine HMG1.o.mono ?_)
     rintro e w16 ⟨G4,hs4,gr4,rfl,hperm,hgr,hst,hown,hstep,hcond⟩
     have HPM:=hid hperm
     have HGR:=hid hgr
     have HST:=hid hst
     have OW_2:Hid (Own w16 G4 N1):=hid hown
     have HSP:=hid hstep
     have HCD:=hid hcond
     clear hperm hgr hst hown hstep hcond))
 have hs0:hs4=[]:=List.Perm.eq_nil HPM.o
 subst hs0
 have hg0:gr4=0:=HGR.o
 subst hg0
 have T2_2:Hid (StoreAt w16 G4 60 p2 4 0 [lin0 pk,lin0 v2]):=HST
 have hM0: ¬MT 60 0:=by unfold MT;omega
 have hM7: ¬MT 60 7:=by unfold MT;omega
 have C16:Hid (∀b,b<w15.heap.size→G3 b=0→w16.heap[b]? =w15.heap[b]?):=hid (fun b hb h0=>HSP.o.chg.other b hb (fun i h=>hM0 (by rw [h0] at h;exact h)))
 have SG_2:Hid (SgIn w16 N1 SB g0 4 0 u1 pk 1):=hid (SG_1.o.store OW_1.o HSP.o hM0 hM7)
 have WW_2:Hid (Below N0 w w16):=hid (WW_1.o.trans ((HSP.o.below OW_1.o hM0 hM7).mono (Nat.le_of_lt HG0.o.2)))
 have XN_2:Hid (w16.heap[N0]? =W1.heap[N0]?):=hid (((HSP.o.below OW_1.o hM0 hM7).block N0 HG0.o.2).trans XN_1.o)
 have HHX2:=hid ((C16.o XA (gS HHX1.o).1 BT.o.2.2.1).trans HHX1.o)
 have XOK2:x1.ok w16 G4∧x1.e.body.length≤1000000000:=⟨XK1.o.1.step HSP.o hM0,XK1.o.2⟩
 have YOK2:y1.ok w16 G4∧SmallH y1.h:=⟨YOK1.o.1.step HSP.o hM0,YOK1.o.2⟩
 have HXT2:Hid (x.ok w16 G4):=hid (HXT.o.step HSP.o hM0)
 have SRC2: ∀j u,(evs [x1])[j]? =some u→w16.cell? ⟨b7,0+j,none⟩=some u:=fun j u hj=>HSP.o.chg.cell (SC1.o j u hj) (fun h=>hM0 (by rw [BT.o.1] at h;exact h))
 have SRH2: ∀j u,(hvs [y1])[j]? =some u→w16.cell? ⟨b8,0+j,none⟩=some u:=fun j u hj=>HSP.o.chg.cell (SRH1.o j u hj) (fun h=>hM0 (by rw [BT.o.2.1] at h;exact h))
 have HMG2:=hid (storeMerge_any (G:=G4) (s:=60) (p:=p2) (N0:=N1) (B:=4) (H:=0) (ls:=[lin0 pk,lin0 v2]) [x1] [y1] (some ⟨b7,0,none⟩) c7 1 (some ⟨b8,0,none⟩) c8 1 rfl rfl (by decide) (by decide) (show 2≤12 by decide) (by decide) HNG.o (goodS0 pk v2) w16 (.inr ⟨b7,0,rfl,SRC2⟩) (.inr ⟨b8,0,rfl,SRH2⟩) (fun y hy=>by rw [List.mem_singleton.1 hy];exact XOK2) (fun y hy=>by rw [List.mem_singleton.1 hy];exact ⟨YOK2.1,YOK2.2.big⟩) T2_2.o OW_2.o (HBL.o _ WW_2.o))
 have HSG3:Hid (SignedH 4 0 (nb pk) x.h):=hid ⟨⟨by rw [HXD.o];decide,by rw [HXD.o];decide,by rw [HXQ.o];decide,by rw [HXQ.o];decide,by rw [HXS'.o,← nb_length,nb_prevOf (fun h=>by cases h)];exact sumE_len _⟩,by
  rw [HPK.o.1,HXD.o,HXQ.o,HXI.o,HXP.o,HXQ2.o,HXS'.o]
  exact sigAcc_sign 4 (by unfold Bits;omega) (by decide) (nb u1) 0 0 (by decide) (by decide) _ (headDg_len _ _ _)⟩
 have HMRG:Hid (foldM 4 0 (givenOf ([x1].map EV.e)) [lin0 pk,lin0 v2] [x.h]=([⟨pk,[E1],1,x.h,none⟩,lin0 v2],1)):=hid (by
  show foldM 4 0 (givenOf [x1.e]) [lin0 pk,lin0 v2] ([]++[x.h])=_
  rw [HXE1.o,foldM_snoc,show foldM 4 0 (givenOf [E1]) [lin0 pk,lin0 v2] []=([lin0 pk,lin0 v2],0) from rfl]
  simp only
  rw [stepM_in (ls:=[lin0 pk,lin0 v2]) (d:=0) HXD.o (show 0<2 by decide) HSG3.o,aw_merge HXD.o HXQ.o (by rw [HXS'.o,nb_prevOf (fun h=>by cases h)];rfl)]
  rfl)
 have HTG4:Hid (∀q,q<w15.heap.size→G4 q=G3 q):=hid HSP.o.tag
 clear hM0 hM7 HST HSP HCD HGR HPM XOK2 YOK2 SRC2 SRH2
 go_upto_region 18 with (first
  | (go_at_call 61
     (with_reducible refine HMG2.o.mono ?_)
     rintro e w17 ⟨G5,hs5,gr5,rfl,hperm,hgr,hst,hown,hstep,hcond⟩
     have HPM:=hid hperm
     have HGR:=hid hgr
     have HST:=hid hst
     have HSP:=hid hstep
     clear hperm hgr hst hown hstep hcond))
 have hs5e:hs5=[x.h]:=by have:=HPM.o;rw [show [y1].map HV.h=[x.h] by rw [List.map_singleton,HYE1.o]] at this;exact List.perm_singleton.1 this
 subst hs5e
 have hg1:gr5=1:=by rw [HGR.o,HMRG.o]
 subst hg1
 have HST3:Hid (StoreAt w17 G5 60 p2 4 0 [⟨pk,[E1],1,x.h,none⟩,lin0 v2]):=hid (by have:=HST.o;rw [HMRG.o] at this;exact this)
 have hM0: ¬MT 60 0:=by unfold MT;omega
 have hM7: ¬MT 60 7:=by unfold MT;omega
 have BT2:Hid (G4 XA=0):=hid ((HTG4.o XA (gS HHX1.o).1).trans BT.o.2.2.1)
 have SG_3:Hid (SgIn w17 N1 SB g0 4 0 u1 pk 1):=hid (SG_2.o.store OW_2.o HSP.o hM0 hM7)
 have WW_3:Hid (Below N0 w w17):=hid (WW_2.o.trans ((HSP.o.below OW_2.o hM0 hM7).mono (Nat.le_of_lt HG0.o.2)))
 have XN_3:Hid (w17.heap[N0]? =W1.heap[N0]?):=hid (((HSP.o.below OW_2.o hM0 hM7).block N0 HG0.o.2).trans XN_2.o)
 have HHX3:=hid ((HSP.o.chg.other XA (gS HHX2.o).1 (fun i h=>hM0 (by rw [BT2.o] at h;exact h))).trans HHX2.o)
 have HXT3:Hid (x.ok w17 G5):=hid (HXT2.o.step HSP.o hM0)
 clear hM0 hM7
 have HN7:Hid (N0<w17.heap.size∧XA<w17.heap.size∧N1≤w17.heap.size):=hid ⟨by have:=OW_2.o.size;have:=HSP.o.chg.size;have:=HG0.o;omega,(gS HHX3.o).1,by have:=OW_2.o.size;have:=HSP.o.chg.size;omega⟩
 have HS18:Hid (∀V,Below w17.heap.size w17 V→(V.cell? ⟨N0,0,none⟩=some (.int .i64 4)∧V.cell? ⟨N0,1,none⟩=some (.int .i64 0))∧(V.cell? ⟨XA,0,none⟩=some (.int .i64 x.h.dev)∧V.cell? ⟨XA,1,none⟩=some (.int .i64 1)∧V.cell? ⟨XA,2,none⟩=some (.string x.h.sum)∧V.cell? ⟨XA,3,none⟩=some (.int .i64 x.h.idx)∧V.cell? ⟨XA,4,none⟩=some (.slice x.a1 x.h.ps.length x.c1)∧V.cell? ⟨XA,5,none⟩=some (.slice x.a2 x.h.qs.length x.c2))):=hid (fun V hV=>⟨HXS.o V ((hV.block N0 HN7.o.1).trans XN_3.o),row6 ((hV.block XA HN7.o.2.1).trans HHX3.o)⟩)
 have HVF:Hid (∀V,Below w17.heap.size w17 V→Calls Tryz.prog 64 #[.string pk,.agg #[.int .i64 4,.int .i64 0],.agg #[.int .i64 x.h.dev,.int .i64 1,.string x.h.sum,.int .i64 x.h.idx,.slice x.a1 x.h.ps.length x.c1,.slice x.a2 x.h.qs.length x.c2]] V fun e w'=>e= .returned (.bool true)∧Below V.heap.size V w'):=hid (fun V hV=>by
  have h1:=HXT3.o.step (Step.of_below hV G5 (fun _=>False)) (fun h=>h)
  have h:=verifyH_any pk 4 0 x (by have:=HPL.o;omega) (by have:=HPL.o;omega) V h1.1 h1.2.1 (HBL.o _ (WW_3.o.trans (hV.mono (Nat.le_of_lt HN7.o.1))))
  rw [decide_eq_true HSG3.o,HXQ.o] at h
  exact h)
 have HD17:Hid (Below w17.heap.size w17 w17.drew):=hid (Below.refl _ _).drew
 refine Kit.wp_region_gplan (fun V=>(V.cell? ⟨N0,0,none⟩=some (.int .i64 4)∧V.cell? ⟨N0,1,none⟩=some (.int .i64 0))∧(V.cell? ⟨XA,0,none⟩=some (.int .i64 x.h.dev)∧V.cell? ⟨XA,1,none⟩=some (.int .i64 1)∧V.cell? ⟨XA,2,none⟩=some (.string x.h.sum)∧V.cell? ⟨XA,3,none⟩=some (.int .i64 x.h.idx)∧V.cell? ⟨XA,4,none⟩=some (.slice x.a1 x.h.ps.length x.c1)∧V.cell? ⟨XA,5,none⟩=some (.slice x.a2 x.h.qs.length x.c2))) [(true,0),(true,1),(true,2),(true,3),(true,4),(true,5),(true,6),(true,7),(true,8),(true,9),(true,10),(true,11),(true,12),(true,13),(true,14),(true,15),(false,16),(true,17),(true,18),(true,19),(true,20),(true,21),(false,22),(true,23),(false,24),(true,25),(true,26),(true,27),(true,28),(true,30),(true,31),(false,29),(false,32),(true,33),(true,34)] (by kernel_rfl) (by kernel_rfl) (by kernel_rfl) (by kernel_rfl) (HS18.o _ HD17.o) ?_
 iterate 16 (refine Kit.ghd (h:= ?_))
 refine Kit.gplan_op (by rfl) (by rfl) fun K' hK=> ?_
 go_simp
 go_at_call 65
 with_reducible refine (vector2 w17.drew (HST3.o.later HD17.o)).mono ?_
 rintro e w18 ⟨bl18,rfl,_,hb18⟩
 have HB18:Hid (Below w17.heap.size w17 w18):=hid (HD17.o.trans hb18)
 clear hb18
 refine hK _ _ (HS18.o w18 HB18.o) ?_
 clear hK K'
 iterate 5 (refine Kit.ghd (h:= ?_))
 refine Kit.gplan_op (by rfl) (by rfl) fun K' hK=> ?_
 go_simp
 go_at_call 65
 with_reducible refine (vector2 w18 (HST3.o.later HB18.o)).mono ?_
 rintro e w19 ⟨bl19,rfl,hc19,hb19⟩
 have hc19':w19.cell? ⟨bl19,0,none⟩=some (.int .i64 1):=hc19
 have HB19:Hid (Below w17.heap.size w17 w19):=hid (HB18.o.trans (hb19.mono HB18.o.size))
 clear hb19 hc19
 refine hK _ _ (HS18.o w19 HB19.o) ?_
 clear hK K'
 iterate 1 (refine Kit.ghd (h:= ?_))
 refine Kit.gplan_op (by rfl) (by rfl) fun K' hK=> ?_
 go_simp
 refine hK _ _ (HS18.o w19 HB19.o) ?_
 clear hK K' hc19'
 iterate 6 (refine Kit.ghd (h:= ?_))
 refine Kit.gplan_op (by rfl) (by rfl) fun K' hK=> ?_
 go_simp
 have HSN19:Hid (SgIn w19 N1 SB g0 4 0 u1 pk 1):=hid (SG_3.o.later HB19.o)
 go_at_call 24
 with_reducible refine (signerPublic_any w19 HSN19.o.at).mono ?_
 rintro e w20 ⟨rfl,rfl⟩
 refine hK _ _ (HS18.o w19 HB19.o) ?_
 clear hK K'
 refine Kit.gplan_op (by rfl) (by rfl) fun K' hK=> ?_
 go_simp
 go_at_call 64
 with_reducible refine (HVF.o w19 HB19.o).mono ?_
 rintro e w20 ⟨rfl,hb20⟩
 have HB20:Hid (Below w17.heap.size w17 w20):=hid (HB19.o.trans (hb20.mono HB19.o.size))
 clear hb20
 refine hK _ _ (HS18.o w20 HB20.o) ?_
 clear hK K'
 iterate 2 (refine Kit.ghd (h:= ?_))
 refine Kit.gdn (h:=?_)
 go_wp2_with fail
 go_ret
 exact ⟨rfl,by rw [HN0.o];exact WW_3.o.trans (HB20.o.mono (Nat.le_of_lt HN7.o.1))⟩
end Go.Proofs.YtndlihclgdkpaaaGreatDoor

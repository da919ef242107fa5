/- The law GossipEncodes. -/
import Derived.Test.YtmeimbnfgdnlbaaGreatDoorLgd
import Derived.Test.YtmeimbnfgdnlbaaGreatDoorRgq
import Derived.Test.YtmeimbnfgdnlbaaGreatDoorOpg
set_option linter.unusedVariables false
set_option linter.unusedSimpArgs false
open Go.Lib (hid)
namespace Go.Proofs.YtmeimbnfgdnlbaaGreatDoor
open Go.ChangeShapes Go.WideShapes Go.ChangeAt Go.RowKit
open Kit (Chg)
open Sha (v)
open Go.Proofs.YtmeimbnfgdnlbaaGreatDoor.One

set_option maxRecDepth 100000 in
theorem open_entV {H:Type} {enc:TypeId × Value→H} {W:World} {r:Reach} {b0:Nat} {v:Value} {d:DataW H} {p:List MemPlace} (hv:Value.okWide Tryz.prog W r b0 31 v) (h:DataW.Trod enc Tryz.prog W 0 (fun _=>true) true 31 v d p):
    ∃(e:Ent) (a:Option Addr) (n c:Nat),v= .agg #[.int .i64 e.dev,.int .i64 e.seq,.int .i64 e.kind,.int .i64 e.day,.slice a n c,.string e.prev]∧e.body.length=n∧(a=none→c=0)∧BytesAt W a e.body:=by
 have hF:= Tryz.fieldsEnt
 cases hu: Tryz.prog.underlying 31 with
 | none=>rw [hu] at hF;simp at hF
 | some td=>
   rw [hu] at hF
   cases td with
   | struct fields=>
     obtain ⟨cs,rfl,hsz⟩:=okWide_struct hu hv
     obtain ⟨fuel,hf⟩:=h
     obtain ⟨cl⟩:=cs
     have hl:cl.length=6:=hsz.trans cellsEnt
     obtain ⟨e,a,n,c,h1,h2,h3,h4⟩:=open_ent fuel cl _ hf hl
     exact ⟨e,a,n,c,by rw [h4],h1,h2,h3⟩
   | _=>simp at hF
set_option maxRecDepth 100000 in
set_option maxHeartbeats 4000000 in
theorem walk_GossipEncodes (dv sq kd dy:Int) (a:Option Addr) (n c:Nat) (p:ByteArray) (bs:List Nat) (w:World) (hn:bs.length=n) (hnil:a=none→c=0) (hB:BytesAt w a bs) (hL:Laid w):
    Calls Tryz.prog 7 #[.agg #[.int .i64 dv,.int .i64 sq,.int .i64 kd,.int .i64 dy,.slice a n c,.string p]] w fun e w'=>e= .returned (.bool true)∧Below w.heap.size w w':=by
 have HB:=hid hB
 have HLD:=hid hL
 have HN:=hid hn
 have HNIL:=hid hnil
 have HAW:Hid (∀V,Below w.heap.size w V→Calls Tryz.prog 9 #[] V fun e w'=>e= .returned (.bool true)∧Below V.heap.size V w'):=hid (fun V h=>awake46 V (HLD.o.later h (Nat.le_refl _)) (HLD.o.later h (Nat.le_refl _)).least)
 have HVB:=hid (fun w=>refValidE_any dv sq kd dy a n c p bs hn w)
 have HEB:=hid (fun hv w=>encode_bad dv sq kd dy a n c p bs hn hv w)
 have HSB:=hid (fun hv w=>sum_bad dv sq kd dy a n c p bs hn hv w)
 have HVE:=hid (validE_iff ⟨dv,sq,kd,dy,bs,p⟩)
 obtain ⟨VB,hVB⟩:=ex_eq (validE ⟨dv,sq,kd,dy,bs,p⟩)
 rw [hVB] at HVB HEB HSB HVE
 clear hB hL hn hnil hVB
 go_enter Tryz.func7,Tryz.ntmps7
 go_upto_region 1 with fail
 refine wp_over (fun W=>Hid (W.heap[w.heap.size]? =some (.cells #[.int .i64 dv,.int .i64 sq,.int .i64 kd,.int .i64 dy,.slice a n c,.string p] 31 (0,0)))∧Hid (Below w.heap.size w W)∧Hid (W.heap.size=w.heap.size+1)) ⟨heap_alloc_new _ _,(Below.refl _ _).alloc (Nat.le_refl _) _,by show _=_;simp⟩ ?_
 rintro W ⟨HG,HBW,HW⟩
 obtain ⟨M,hM⟩:=ex_eq w.heap.size
 rw [hM] at HG HBW HW ⊢
 have HM:=hid hM
 clear hM
 have HRW:Hid (∀V,Below (M+1) W V→V.heap[M]? =some (.cells #[.int .i64 dv,.int .i64 sq,.int .i64 kd,.int .i64 dy,.slice a n c,.string p] 31 (0,0))):=hid (fun V h=>(h.block M (Nat.lt_succ_self _)).trans HG.o)
 have HBE:Hid (∀V,Below (M+1) W V→Below w.heap.size w V):=hid (fun V h=>by rw [HM.o];exact HBW.o.trans (h.mono (Nat.le_succ M)))
 have HST:Hid (∀V V',Below (M+1) W V→Below V.heap.size V V'→Below (M+1) W V'):=hid (fun V V' h h'=>h.trans (h'.mono (by have:=h.size;have:=HW.o;omega)))
 have HR0:Hid (Below (M+1) W W):=hid (Below.refl _ _)
 obtain ⟨c0,c1,c2,c3,c4,c5⟩:=row6 HG.o
 by_cases h3:139264<n
 ·have h3i:(139264:Int)<(n:Int):=by omega
  have h1i:(100:Int)<(n:Int):=by omega
  have h2i: ¬(n:Int)≤69632:=by omega
  clear h3
  go_wp2_with (first
   | (go_at_call 9
      (with_reducible refine (HAW.o _ (HBE.o _ HR0.o)).mono ?_)
      rintro e w2 ⟨rfl,h2⟩
      have H2:Hid (Below (M+1) W w2):=hid (HST.o _ _ HR0.o h2)
      clear h2 c0 c1 c2 c3 c4 c5
      obtain ⟨c0,c1,c2,c3,c4,c5⟩:=row6 (HRW.o _ H2.o)))
  go_ret
  exact ⟨by first | rfl | simp,HBE.o _ H2.o⟩
 have h3i: ¬(139264:Int)<(n:Int):=by omega
 by_cases h1:100<n∧n≤69632
 ·have h1i:(100:Int)<(n:Int):=by omega
  have h2i:(n:Int)≤69632:=by omega
  clear h3 h1
  go_wp2_with (first
   | (go_at_call 9
      (with_reducible refine (HAW.o _ (HBE.o _ HR0.o)).mono ?_)
      rintro e w2 ⟨rfl,h2⟩
      have H2:Hid (Below (M+1) W w2):=hid (HST.o _ _ HR0.o h2)
      clear h2 c0 c1 c2 c3 c4 c5
      obtain ⟨c0,c1,c2,c3,c4,c5⟩:=row6 (HRW.o _ H2.o)))
  go_ret
  exact ⟨by first | rfl | simp,HBE.o _ H2.o⟩
 cases VB
 ·have HEB1:Hid (∀w,Calls Tryz.prog 32 #[.agg #[.int .i64 dv,.int .i64 sq,.int .i64 kd,.int .i64 dy,.slice a n c,.string p]] w fun e w'=>e= .returned (.tuple #[.slice none 0 0,.int .i64 1])∧Below w.heap.size w w'):=hid (fun w=>HEB.o rfl w)
  have HSB1:Hid (∀w,Calls Tryz.prog 22 #[.agg #[.int .i64 dv,.int .i64 sq,.int .i64 kd,.int .i64 dy,.slice a n c,.string p]] w fun e w'=>e= .returned (.tuple #[.string ByteArray.empty,.int .i64 1])∧Below w.heap.size w w'):=hid (fun w=>HSB.o rfl w)
  by_cases h4:100<n
  ·have h1i:(100:Int)<(n:Int):=by omega
   have h2i: ¬(n:Int)≤69632:=by omega
   clear h3 h1 h4
   go_wp2_with (first
    | (go_at_call 9
       (with_reducible refine (HAW.o _ (HBE.o _ HR0.o)).mono ?_)
       rintro e w2 ⟨rfl,h2⟩
       have H2:Hid (Below (M+1) W w2):=hid (HST.o _ _ HR0.o h2)
       clear h2 c0 c1 c2 c3 c4 c5
       obtain ⟨c0,c1,c2,c3,c4,c5⟩:=row6 (HRW.o _ H2.o))
    | (go_at_call 32
       (with_reducible refine (HEB1.o _).mono ?_)
       rintro e w3 ⟨rfl,h3⟩
       have H3:Hid (Below (M+1) W w3):=hid (HST.o _ _ H2.o h3)
       clear h3 c0 c1 c2 c3 c4 c5
       obtain ⟨c0,c1,c2,c3,c4,c5⟩:=row6 (HRW.o _ H3.o))
    | (go_at_call 22
       (with_reducible refine (HSB1.o _).mono ?_)
       rintro e w4 ⟨rfl,h4⟩
       have H4:Hid (Below (M+1) W w4):=hid (HST.o _ _ H3.o h4)
       clear h4 c0 c1 c2 c3 c4 c5
       obtain ⟨c0,c1,c2,c3,c4,c5⟩:=row6 (HRW.o _ H4.o))
    | (go_at_call 33
       (with_reducible refine (HVB.o _).mono ?_)
       rintro e w5 ⟨rfl,h5⟩
       have H5:Hid (Below (M+1) W w5):=hid (HST.o _ _ H4.o h5)
       clear h5 c0 c1 c2 c3 c4 c5))
   go_ret
   exact ⟨by first | rfl | simp,HBE.o _ H5.o⟩
  ·have h1i: ¬(100:Int)<(n:Int):=by omega
   clear h3 h1 h4
   go_wp2_with (first
    | (go_at_call 9
       (with_reducible refine (HAW.o _ (HBE.o _ HR0.o)).mono ?_)
       rintro e w2 ⟨rfl,h2⟩
       have H2:Hid (Below (M+1) W w2):=hid (HST.o _ _ HR0.o h2)
       clear h2 c0 c1 c2 c3 c4 c5
       obtain ⟨c0,c1,c2,c3,c4,c5⟩:=row6 (HRW.o _ H2.o))
    | (go_at_call 32
       (with_reducible refine (HEB1.o _).mono ?_)
       rintro e w3 ⟨rfl,h3⟩
       have H3:Hid (Below (M+1) W w3):=hid (HST.o _ _ H2.o h3)
       clear h3 c0 c1 c2 c3 c4 c5
       obtain ⟨c0,c1,c2,c3,c4,c5⟩:=row6 (HRW.o _ H3.o))
    | (go_at_call 22
       (with_reducible refine (HSB1.o _).mono ?_)
       rintro e w4 ⟨rfl,h4⟩
       have H4:Hid (Below (M+1) W w4):=hid (HST.o _ _ H3.o h4)
       clear h4 c0 c1 c2 c3 c4 c5
       obtain ⟨c0,c1,c2,c3,c4,c5⟩:=row6 (HRW.o _ H4.o))
    | (go_at_call 33
       (with_reducible refine (HVB.o _).mono ?_)
       rintro e w5 ⟨rfl,h5⟩
       have H5:Hid (Below (M+1) W w5):=hid (HST.o _ _ H4.o h5)
       clear h5 c0 c1 c2 c3 c4 c5))
   go_ret
   exact ⟨by first | rfl | simp,HBE.o _ H5.o⟩
 have hvv:=HVE.o.1 rfl
 have HVV:=hid hvv
 have h1i: ¬(100:Int)<(n:Int):=by
  have h5:bs.length≤69632:=hvv.body
  rw [HN.o] at h5
  omega
 have hn5:n≤100:=by omega
 clear h3 h1
 obtain ⟨d0,rfl⟩: ∃d:Nat,dv=(d:Int):=⟨dv.toNat,by have:=hvv.dev0;simp only at this;omega⟩
 obtain ⟨d1,rfl⟩: ∃d:Nat,sq=(d:Int):=⟨sq.toNat,by have:=hvv.seq0;simp only at this;omega⟩
 obtain ⟨d2,rfl⟩: ∃d:Nat,kd=(d:Int):=⟨kd.toNat,by have:=hvv.kind0;simp only at this;omega⟩
 obtain ⟨d3,rfl⟩: ∃d:Nat,dy=(d:Int):=⟨dy.toNat,by have:=hvv.day0;simp only at this;omega⟩
 have HDD:Hid (d0<9223372036854775808∧d1<9223372036854775808∧d2<9223372036854775808∧d3<9223372036854775808∧p.size≤100000):=hid (by
  obtain ⟨h1,h2,h3,h4,h5,h6,h7,h8,h9,h10⟩:=hvv
  simp only at h1 h2 h3 h4 h5 h6 h7 h8 h9 h10
  have:p.size≤32:=by rw [h10];split<;> omega
  omega)
 have HEC:=hid (fun w h=>encode_ok d0 d1 d2 d3 a n c p bs HN.o HNIL.o HVV.o _ rfl w h)
 have HSC:=hid (fun w h hL=>sum_ok d0 d1 d2 d3 a n c p bs HN.o HNIL.o HVV.o _ rfl w h hL)
 have HRC:=hid (fun w h=>refEnc46_any d0 d1 d2 d3 a n c p bs HN.o ⟨HDD.o.1,HDD.o.2.1,HDD.o.2.2.1,HDD.o.2.2.2.1⟩ (by omega) HDD.o.2.2.2.2 _ rfl w h)
 have HRS:=hid (fun w h=>refSum46_any d0 d1 d2 d3 a n c p bs HN.o ⟨HDD.o.1,HDD.o.2.1,HDD.o.2.2.1,HDD.o.2.2.2.1⟩ (by omega) HDD.o.2.2.2.2 _ rfl w h)
 have HDE:=hid (rdEnt_enc _ HVV.o)
 have HEL:=hid (encE_len HVV.o)
 obtain ⟨E,hE⟩:=ex_eq (encE ⟨(d0:Int),(d1:Int),(d2:Int),(d3:Int),bs,p⟩)
 rw [hE] at HEC HRC HDE HEL
 obtain ⟨T,hT⟩:=ex_eq (sumE ⟨(d0:Int),(d1:Int),(d2:Int),(d3:Int),bs,p⟩)
 rw [hT] at HSC HRS
 clear hvv hE hT HEB HSB
 obtain ⟨t,ht⟩:=ex_eq (strB E)
 have HCV:Hid (∀W ad cap L',E.length=L'→BytesAt W ad E→(convert 29 9 (.slice ad L' cap)).run Tryz.prog W= .ok (.string t) W):=hid (fun W ad cap L' h hB=>by subst h;rw [← ht];exact conv_bytes hB cap)
 clear ht
 go_upto_region 10 with (first
  | (go_at_call 9
     (with_reducible refine (HAW.o _ (HBE.o _ HR0.o)).mono ?_)
     rintro e w2 ⟨rfl,h2⟩
     have H2:Hid (Below (M+1) W w2):=hid (HST.o _ _ HR0.o h2)
     clear h2 c0 c1 c2 c3 c4 c5
     obtain ⟨c0,c1,c2,c3,c4,c5⟩:=row6 (HRW.o _ H2.o))
  | (go_at_call 32
     (with_reducible refine (HEC.o _ (HB.o.later (HBE.o _ H2.o))).mono ?_)
     rintro e w3 ⟨ad,L,cap,rfl,hl,_,hb,hnl,_,h3⟩
     have HL:=hid hl
     have HEB:=hid hb
     have HNL:=hid hnl
     have H3:Hid (Below (M+1) W w3):=hid (HST.o _ _ H2.o h3)
     clear hl hb hnl h3 c0 c1 c2 c3 c4 c5
     obtain ⟨c0,c1,c2,c3,c4,c5⟩:=row6 (HRW.o _ H3.o))
  | (go_at_call 22
     (with_reducible refine (HSC.o _ (HB.o.later (HBE.o _ H3.o)) (HLD.o.later (HBE.o _ H3.o) (Nat.le_refl _))).mono ?_)
     rintro e w4 ⟨u,rfl,hu,_,h4⟩
     have HU:=hid hu
     have H34:=hid h4
     have H4:Hid (Below (M+1) W w4):=hid (HST.o _ _ H3.o h4)
     clear hu h4 c0 c1 c2 c3 c4 c5
     obtain ⟨c0,c1,c2,c3,c4,c5⟩:=row6 (HRW.o _ H4.o))
  | (go_at_call 33
     (with_reducible refine (HVB.o _).mono ?_)
     rintro e w5 ⟨rfl,h5⟩
     have H45:=hid h5
     have H5:Hid (Below (M+1) W w5):=hid (HST.o _ _ H4.o h5)
     clear h5 c0 c1 c2 c3 c4 c5)
  | (go_at_call 34
     (with_reducible refine (decode_any ad L cap E HL.o (by have:=HL.o;have:=HEL.o;omega) HNL.o w5 ((HEB.o.later H34.o).later H45.o)).mono ?_)
     rintro e w6 ⟨hout,h6⟩
     have H56:=hid h6
     have H6:Hid (Below (M+1) W w6):=hid (HST.o _ _ H5.o h6)
     clear h6
     have hgood: ∃(ab:Option Addr) (cb:Nat),e= .returned (.tuple #[.agg #[.int .i64 (d0:Int),.int .i64 (d1:Int),.int .i64 (d2:Int),.int .i64 (d3:Int),.slice ab n cb,.string p],.int .i64 0])∧BytesAt w6 ab bs:=by
      have h1:=HDE.o.1
      rcases hout with ⟨_,_,ab,L2,cb,he,hlen,hby,_⟩ | ⟨hno,_⟩
      ·unfold EntRd.ent at h1
       injection h1 with e1 e2 e3 e4 e5 e6
       rw [e1,e2,e3,e4,e6] at he
       rw [e5] at hby hlen
       rw [HN.o] at hlen
       subst hlen
       exact ⟨ab,cb,he,hby⟩
      ·exact absurd ⟨HDE.o.2,by rw [h1];exact (validE_iff _).2 HVV.o⟩ hno
     obtain ⟨ab,cb,rfl,hby⟩:=hgood
     have HBY:=hid hby
     clear hout hby))
 refine wp_over (fun V=>Hid (V.heap[w6.heap.size]? =some (.cells #[.int .i64 (d0:Int),.int .i64 (d1:Int),.int .i64 (d2:Int),.int .i64 (d3:Int),.slice ab n cb,.string p] 31 (0,0)))∧Hid (Below w6.heap.size w6 V)∧Hid (V.heap.size=w6.heap.size+1)) ⟨heap_alloc_new _ _,(Below.refl _ _).alloc (Nat.le_refl _) _,by show _=_;simp⟩ ?_
 rintro Y ⟨HJ,HYB,HYS⟩
 obtain ⟨J,hJ⟩:=ex_eq w6.heap.size
 have HJE:=hid hJ
 rw [hJ] at HJ HYB HYS ⊢
 clear hJ
 have HJM:Hid (M+1≤J):=hid (by have:=H6.o.size;have:=HW.o;have:=HJE.o;omega)
 have HY:Hid (Below (M+1) W Y):=hid (H6.o.trans (HYB.o.mono HJM.o))
 have HYE:Hid (∀V,Below (J+1) Y V→Below (M+1) W V):=hid (fun V h=>HY.o.trans (h.mono (by have:=HJM.o;omega)))
 have HYT:Hid (∀V V',Below (J+1) Y V→Below V.heap.size V V'→Below (J+1) Y V'):=hid (fun V V' h h'=>h.trans (h'.mono (by have:=h.size;have:=HYS.o;omega)))
 have HEY:Hid (BytesAt Y ad E):=hid ((((HEB.o.later H34.o).later H45.o).later H56.o).later (by rw [HJE.o];exact HYB.o))
 have HBYY:Hid (BytesAt Y ab bs):=hid (HBY.o.later (by rw [HJE.o];exact HYB.o))
 have HYW:Hid (∀V,Below (J+1) Y V→Below Y.heap.size Y V):=hid (fun V h=>by rw [HYS.o];exact h)
 have HSS:Hid (∀V,Below (J+1) Y V→(V.cell? ⟨M,0,none⟩=some (.int .i64 (d0:Int))∧V.cell? ⟨M,1,none⟩=some (.int .i64 (d1:Int))∧V.cell? ⟨M,2,none⟩=some (.int .i64 (d2:Int))∧V.cell? ⟨M,3,none⟩=some (.int .i64 (d3:Int))∧V.cell? ⟨M,4,none⟩=some (.slice a n c)∧V.cell? ⟨M,5,none⟩=some (.string p)∧V.cell? ⟨J,0,none⟩=some (.int .i64 (d0:Int))∧V.cell? ⟨J,1,none⟩=some (.int .i64 (d1:Int))∧V.cell? ⟨J,2,none⟩=some (.int .i64 (d2:Int))∧V.cell? ⟨J,3,none⟩=some (.int .i64 (d3:Int))∧V.cell? ⟨J,4,none⟩=some (.slice ab n cb)∧V.cell? ⟨J,5,none⟩=some (.string p)∧(convert 29 9 (.slice ad L cap)).run Tryz.prog V= .ok (.string t) V)):=hid (fun V h=>by
  obtain ⟨e0,e1,e2,e3,e4,e5⟩:=row6 (HRW.o V (HYE.o V h))
  obtain ⟨g0,g1,g2,g3,g4,g5⟩:=row6 ((h.block J (Nat.lt_succ_self _)).trans HJ.o)
  exact ⟨e0,e1,e2,e3,e4,e5,g0,g1,g2,g3,g4,g5,HCV.o V ad cap L HL.o (HEY.o.later (HYW.o V h))⟩)
 have HK0:Hid (Below (J+1) Y Y.drew):=hid (Below.refl _ _).drew
 have HSM:Hid (∀V,Below (J+1) Y V→Calls Tryz.prog 20 #[.agg #[.int .i64 (d0:Int),.int .i64 (d1:Int),.int .i64 (d2:Int),.int .i64 (d3:Int),.slice ab n cb,.string p],.agg #[.int .i64 (d0:Int),.int .i64 (d1:Int),.int .i64 (d2:Int),.int .i64 (d3:Int),.slice a n c,.string p]] V fun e w'=>e= .returned (.bool true)∧Below V.heap.size V w'):=hid (fun V h=>by
  have h1:=same46_any (d0:Int) (d1:Int) (d2:Int) (d3:Int) ab n cb p bs HN.o (d0:Int) (d1:Int) (d2:Int) (d3:Int) a n c p bs HN.o V (HBYY.o.later (HYW.o V h)) (HB.o.later (HBE.o _ (HYE.o V h)))
  rw [(sameE_iff _ _).2 rfl] at h1
  exact h1)
 refine Kit.wp_region_gplan (fun V=>V.cell? ⟨M,0,none⟩=some (.int .i64 (d0:Int))∧V.cell? ⟨M,1,none⟩=some (.int .i64 (d1:Int))∧V.cell? ⟨M,2,none⟩=some (.int .i64 (d2:Int))∧V.cell? ⟨M,3,none⟩=some (.int .i64 (d3:Int))∧V.cell? ⟨M,4,none⟩=some (.slice a n c)∧V.cell? ⟨M,5,none⟩=some (.string p)∧V.cell? ⟨J,0,none⟩=some (.int .i64 (d0:Int))∧V.cell? ⟨J,1,none⟩=some (.int .i64 (d1:Int))∧V.cell? ⟨J,2,none⟩=some (.int .i64 (d2:Int))∧V.cell? ⟨J,3,none⟩=some (.int .i64 (d3:Int))∧V.cell? ⟨J,4,none⟩=some (.slice ab n cb)∧V.cell? ⟨J,5,none⟩=some (.string p)∧(convert 29 9 (.slice ad L cap)).run Tryz.prog V= .ok (.string t) V) [(true,0),(true,1),(true,2),(true,3),(true,4),(true,5),(false,6),(false,7),(true,8),(true,9),(true,10),(true,11),(true,12),(true,13),(true,14),(true,15),(true,16),(false,17),(true,18),(true,19),(true,20),(true,21),(true,22),(true,23),(true,24),(true,25),(true,26),(false,27),(true,28),(true,29)] (by kernel_rfl) (by kernel_rfl) (by kernel_rfl) (by kernel_rfl) (HSS.o _ HK0.o) ?_
 iterate 6 (refine Kit.ghd (h:= ?_))
 refine Kit.gplan_op (by rfl) (by rfl) fun K hK=> ?_
 go_simp
 go_at_call 35
 with_reducible refine (HRC.o _ (HB.o.later (HBE.o _ (HYE.o _ HK0.o)))).mono ?_
 rintro e y1 ⟨ar,Lr,cr,rfl,hl,_,hb,_,h1⟩
 have HK1:Hid (Below (J+1) Y y1):=hid (HYT.o _ _ HK0.o h1)
 have hcv1:=HCV.o y1 ar cr Lr hl hb
 clear hl hb h1
 refine hK _ _ (HSS.o _ HK1.o) ?_
 clear hK K
 refine Kit.gplan_op (by rfl) (by rfl) fun K hK=> ?_
 go_simp
 refine hK _ _ (HSS.o _ HK1.o) ?_
 clear hK K hcv1
 iterate 9 (refine Kit.ghd (h:= ?_))
 refine Kit.gplan_op (by rfl) (by rfl) fun K hK=> ?_
 go_simp
 go_at_call 36
 with_reducible refine (HRS.o _ (HB.o.later (HBE.o _ (HYE.o _ HK1.o)))).mono ?_
 rintro e y2 ⟨u2,rfl,hu2,h2⟩
 have HK2:Hid (Below (J+1) Y y2):=hid (HYT.o _ _ HK1.o h2)
 obtain rfl:u2=u:=nb_inj (hu2.trans HU.o.symm)
 clear hu2 h2
 refine hK _ _ (HSS.o _ HK2.o) ?_
 clear hK K
 iterate 9 (refine Kit.ghd (h:= ?_))
 refine Kit.gplan_op (by rfl) (by rfl) fun K hK=> ?_
 go_simp
 go_at_call 20
 with_reducible refine (HSM.o _ HK2.o).mono ?_
 rintro e y3 ⟨rfl,h3⟩
 have HK3:Hid (Below (J+1) Y y3):=hid (HYT.o _ _ HK2.o h3)
 clear h3
 refine hK _ _ (HSS.o _ HK3.o) ?_
 clear hK K
 iterate 2 (refine Kit.ghd (h:= ?_))
 refine Kit.gplan_done ?_
 (try simp only [Act.put,List.setIfInBounds_toArray,List.set_cons_zero,List.set_cons_succ])
 go_wp2_with fail
 go_ret
 exact ⟨by first | rfl | simp,HBE.o _ (HYE.o _ HK3.o)⟩
end Go.Proofs.YtmeimbnfgdnlbaaGreatDoor

/- The law GossipForks. -/
import Derived.Test.YtgfdghoaodlcdaaGreatDoorWfs
import Derived.Test.YtgfdghoaodlcdaaGreatDoorWpy
import Derived.Test.YtgfdghoaodlcdaaGreatDoorOpo
import Derived.Test.YtgfdghoaodlcdaaGreatDoorOpn
import Derived.Test.YtgfdghoaodlcdaaGreatDoorGaw
set_option linter.unusedVariables false
set_option linter.unusedSimpArgs false
open Go.Lib (hid)
namespace Go.Proofs.YtgfdghoaodlcdaaGreatDoor
open Go.RowKit
open Kit (Chg)
open Sha (v)
open Go.Proofs.YtgfdghoaodlcdaaGreatDoor.One

set_option maxRecDepth 100000 in
set_option maxHeartbeats 8000000 in
theorem walk_GossipForks (B H:Int) (a:Option Addr) (c L:Nat) (ys:List OpV) (w:World) (hLe:ys.length=L) (hO:OpsAt w a ys) (hL:Laid w):
    Calls Tryz.prog 13 #[.agg #[.int .i64 B,.int .i64 H],.slice a L c] w fun e w'=>e= .returned (.bool true)∧Below w.heap.size w w':=by
 have HO:=hid hO
 have HLE:=hid hLe
 have HLD:=hid hL
 have H3W:Hid (3≤w.heap.size):=hid hL.low3
 have HAW:Hid (∀V,Below w.heap.size w V→Calls Tryz.prog 52 #[] V fun e w'=>e= .returned (.bool true)∧Below V.heap.size V w'):=hid (fun V h=>awake46 V (HLD.o.later h (Nat.le_refl _)) (HLD.o.later h (Nat.le_refl _)).low3)
 clear hO hLe hL
 go_enter Tryz.func13,Tryz.ntmps13
 go_upto_region 1 with fail
 refine wp_over (fun V=>Hid (V.heap[w.heap.size]? =some (.cells #[.int .i64 B,.int .i64 H] 23 (0,0)))∧Hid (Below w.heap.size w V)∧Hid (V.heap.size=w.heap.size+1)) ⟨heap_alloc_new _ _,(Below.refl _ _).alloc (Nat.le_refl _) _,by show _=_;simp⟩ ?_
 rintro W ⟨HRW,HB,HWS⟩
 obtain ⟨M,hM⟩:=ex_eq w.heap.size
 have HM:=hid hM
 rw [hM] at HRW HB HWS ⊢
 clear hM
 have HBE:Hid (∀V,Below (M+1) W V→Below M w V):=hid (fun V h=>HB.o.trans (h.mono (Nat.le_succ _)))
 have HSC:Hid (∀V,Below (M+1) W V→V.cell? ⟨M,0,none⟩=some (.int .i64 B)∧V.cell? ⟨M,1,none⟩=some (.int .i64 H)):=hid (fun V h=>row2 ((h.block M (Nat.lt_succ_self _)).trans HRW.o))
 have HST:Hid (∀V V',Below (M+1) W V→Below V.heap.size V V'→Below (M+1) W V'):=hid (fun V V' h h'=>h.trans (h'.mono (by have:=h.size;have:=HWS.o;omega)))
 clear HRW HB
 go_upto_region 3 with (first
  | (go_at_call 52
     (with_reducible refine (HAW.o _ (by rw [HM.o];exact HBE.o _ (Below.refl _ _))).mono ?_)
     rintro e w2 ⟨rfl,h2⟩
     have H2:Hid (Below (M+1) W w2):=hid (HST.o _ _ (Below.refl _ _) h2)
     clear h2))
 obtain ⟨s0,s1⟩:=HSC.o _ H2.o
 by_cases hn:SV B H∧H≤2
 rotate_left
 ·have HNB:=hid (fun V=>newWorld_bad B H hn V)
  clear hn
  go_wp2_with (first
   | (go_at_call 53
      (with_reducible refine (HNB.o _).mono ?_)
      rintro e w3 ⟨rfl,h3⟩
      have H3:Hid (Below (M+1) W w3):=hid (HST.o _ _ H2.o h3)
      clear h3))
  go_ret
  exact ⟨rfl,by rw [HM.o];exact HBE.o _ H3.o⟩
 obtain ⟨hsv,hh2⟩:=hn
 obtain ⟨b,t,rfl,rfl,hb,hb4,_⟩:=sv_of hsv
 have HBB:Hid (b≤4∧t≤2):=hid ⟨hb4,by omega⟩
 have HNW:Hid (∀V,Below (M+1) W V→Calls Tryz.prog 53 #[.agg #[.int .i64 (b:Int),.int .i64 (t:Int)]] V fun e w'=> ∃P:Nat,e= .returned (.tuple #[.pointer (some ⟨P,0,none⟩),.bool true])∧NewW V w' b t P):=hid (fun V h=>newWorld_ok b t hb hb4 HBB.o.2 V (HLD.o.later (by rw [HM.o];exact HBE.o V h) (Nat.le_refl _)) (by have:=(HBE.o V h).size;have:=H3W.o;have:=HM.o;have:=h.size;have:=HWS.o;omega))
 clear hsv hh2 hb hb4
 by_cases h14:L≤14
 rotate_left
 ·have h14i:(14:Int)<(L:Int):=by omega
  clear h14
  go_wp2_with (first
   | (go_at_call 53
      (with_reducible refine (HNW.o _ H2.o).mono ?_)
      rintro e w3 ⟨P,rfl,hw⟩
      have H3:Hid (Below (M+1) W w3):=hid (by obtain ⟨_,_,_,_,_,_,_,_,_,_,_,_,_,hb3⟩:=hw;exact HST.o _ _ H2.o hb3)
      clear hw))
  go_ret
  exact ⟨rfl,by rw [HM.o];exact HBE.o _ H3.o⟩
 have h14i: ¬(14:Int)<(L:Int):=by omega
 go_upto_region 4 with (first
  | (go_at_call 53
     (with_reducible refine (HNW.o _ H2.o).mono ?_)
     rintro e w3 ⟨P,rfl,hw⟩
     have HNWW:=hid hw
     clear hw s0 s1))
 obtain ⟨G,N,pks,sds,gs,ps,vp,vs,vt,hwd,_,hNN,hPP,hb3⟩:=HNWW.o
 obtain ⟨hz1,at_,ct,rfl,hz2,hz3,hpt⟩:=ptrs_of_own hwd.sto
 obtain ⟨bt,rfl,hz4⟩:=hpt 0 (by rw [hwd.tlen];decide)
 obtain ⟨bp,cp,hvp⟩:=own_some hwd.pub (by decide)
 subst hvp
 have H3:Hid (Below (M+1) W w3):=hid (HST.o _ _ H2.o hb3)
 have HPM:Hid (M<P):=hid (by have:=H2.o.size;have:=HWS.o;omega)
 have HW3:Hid (∃G lss nx,WI w3 G N P b t pks sds gs ps lss nx (.slice (some ⟨bp,0,none⟩) 3 cp) vs (.slice (some ⟨bt,0,none⟩) 3 ct)):=hid ⟨G,_,_,⟨hwd,fun i hi=>goodS_new pks,fun i hi=>by rw [List.length_map];exact hwd.plen,fun i hi d hd hh=>by rw [List.getElem_map];show pks[d]'(by rw [hwd.plen];exact hd)=_;rw [lD,lE (by rw [hwd.plen];exact hd)];rfl,HLD.o.later (by rw [HM.o];exact HBE.o _ H3.o) (Nat.le_refl _),by have:=H2.o.size;have:=HWS.o;have:=H3W.o;have:=HM.o;omega,by have:=H2.o.size;have:=HWS.o;have:=H3W.o;have:=HM.o;omega⟩⟩
 have HP3:Hid (P<w3.heap.size):=hid hwd.lt
 clear hwd hNN hPP hb3 hz1 hz2 hz3 hz4 hpt HNWW HNW HAW
 go_upto_region 7 with fail
 go_loopw [7] (fun z wr=> ∃k:Nat,k≤L∧z= .int .i64 (k:Int)∧Hid (∃G lss nx,WI wr G N P b t pks sds gs ps lss nx (.slice (some ⟨bp,0,none⟩) 3 cp) vs (.slice (some ⟨bt,0,none⟩) 3 ct))∧Hid (Below P w3 wr)) (fun z _=>L - (intOf z).toNat)
 case atStart=>exact ⟨0,Nat.zero_le _,rfl,HW3,hid (Below.refl _ _)⟩
 case round=>
  obtain ⟨k,hk,rfl,HX,HR⟩:=hrel
  rename World=>wo
  have HME:Hid (∀V,Below P w3 V→Below (M+1) W V):=hid (fun V h=>H3.o.trans (h.mono HPM.o))
  by_cases hlt:k<L
  rotate_left
  ·have hki: ¬(k:Int)<(L:Int):=by omega
   go_wp2_with fail
   go_ret
   exact ⟨rfl,by rw [HM.o];exact HBE.o _ (HME.o _ HR.o)⟩
  have hki:(k:Int)<(L:Int):=by omega
  obtain ⟨G,lss,nx,hX⟩:=HX.o
  have HWI:=hid hX
  clear HX hX
  have HYL:Hid (k<ys.length):=hid (by rw [HLE.o];exact hlt)
  have HOW:=hid (HO.o.low (w':=wo) (by rw [HM.o];exact HBE.o _ (HME.o _ HR.o)))
  obtain ⟨ba,oa,ha,hop⟩: ∃b o,a=some ⟨b,o,none⟩∧OpAt wo b (o+k*9) (ys[k]'HYL.o):=by
   rcases HOW.o with h | ⟨b,o,h1,h2⟩
   ·have:=HYL.o;rw [h] at this;simp at this
   ·exact ⟨b,o,h1,h2 k HYL.o⟩
  subst ha
  obtain ⟨y,hy⟩: ∃y,y=ys[k]'HYL.o:=⟨_,rfl⟩
  rw [← hy] at hop
  clear hy
  obtain ⟨kind,at0,to0,dv0,en,dy,ab,cb,bs,d1,d2⟩:=y
  obtain ⟨hnil,hBY,hcl⟩:=hop
  obtain ⟨n,hn⟩:=ex_eq bs.length
  have HN:=hid hn
  have HBY:=hid hBY
  have x0:=hcl 0 (by decide)
  have x1:=hcl 1 (by decide)
  have x2:=hcl 2 (by decide)
  have x3:=hcl 3 (by decide)
  have x4:=hcl 4 (by decide)
  have x5:=hcl 5 (by decide)
  have x6:=hcl 6 (by decide)
  have x7:=hcl 7 (by decide)
  have x8:=hcl 8 (by decide)
  simp only [OpV.cells,hn,Nat.add_zero] at x0 x1 x2 x3 x4 x5 x6 x7 x8
  clear hnil hBY hcl hn
  go_upto_region 10 with fail
  refine wp_over (fun V=>Hid (V.heap[wo.heap.size]? =some (.cells #[.int .i64 kind,.int .i64 at0,.int .i64 to0,.int .i64 dv0,.int .i64 en,.int .i64 dy,.slice ab n cb,.int .i64 d1,.int .i64 d2] 101 (0,0)))∧Hid (Below wo.heap.size wo V)∧Hid (V.heap.size=wo.heap.size+1)) ⟨heap_alloc_new _ _,(Below.refl _ _).alloc (Nat.le_refl _) _,by show _=_;simp⟩ ?_
  rintro W1 ⟨HX1,HB1,HZ1⟩
  obtain ⟨J,hJ⟩:=ex_eq wo.heap.size
  have HJ:=hid hJ
  rw [hJ] at HX1 HB1 HZ1 ⊢
  clear hJ x0 x1 x2 x3 x4 x5 x6 x7 x8
  have HPJ:Hid (P<J):=hid (by have:=HWI.o.wd.lt;have:=HJ.o;omega)
  have HPB:Hid (∀V,Below J wo V→Below P w3 V):=hid (fun V h=>HR.o.trans (h.mono (Nat.le_of_lt HPJ.o)))
  have HBY1:Hid (∀V,Below J wo V→BytesAt V ab bs):=hid (fun V h=>HBY.o.later (by rw [HJ.o];exact h))
  have HVD:=hid (fun V=>wvalid_any kind at0 to0 dv0 en dy ab n cb d1 d2 V)
  obtain ⟨x0,x1,x2,x3,x4,x5,x6,x7,x8⟩:=row9 HX1.o
  by_cases hv:(0≤at0∧at0<3)∧(0≤to0∧to0<3)∧(0≤dv0∧dv0<3)∧(n:Int)≤100
  rotate_left
  ·rw [decide_eq_false hv] at HVD
   clear hv
   go_wp2_with (first
    | (go_at_call 54
       (with_reducible refine (HVD.o _).mono ?_)
       rintro e w4 ⟨rfl,h4⟩
       have H4:Hid (Below J wo w4):=hid (HB1.o.trans (h4.mono (by have:=HZ1.o;omega)))
       clear h4 x0 x1 x2 x3 x4 x5 x6 x7 x8))
   go_roundw
   case rel=>exact ⟨k+1,hlt,by go_num,hid ⟨G,lss,nx,HWI.o.later (by rw [HJ.o];exact H4.o)⟩,hid (HPB.o _ H4.o)⟩
   case measure=>simp [intOf];omega
  rw [decide_eq_true hv] at HVD
  obtain ⟨⟨p1,p2⟩,⟨p3,p4⟩,⟨p5,p6⟩,p7⟩:=hv
  obtain ⟨i0,rfl⟩: ∃i:Nat,at0=(i:Int):=⟨at0.toNat,by omega⟩
  obtain ⟨i1,rfl⟩: ∃i:Nat,to0=(i:Int):=⟨to0.toNat,by omega⟩
  obtain ⟨dd,rfl⟩: ∃i:Nat,dv0=(i:Int):=⟨dv0.toNat,by omega⟩
  have HD:Hid (i0<3∧i1<3∧dd<3∧n≤69632):=hid ⟨by omega,by omega,by omega,by omega⟩
  have hk1:(i1:Int)<3:=p4
  clear p1 p2 p3 p4 p5 p6 p7
  have HOP:Hid (∀V,Below (J+1) W1 V→V.cell? ⟨J,0,none⟩=some (.int .i64 kind)∧V.cell? ⟨J,1,none⟩=some (.int .i64 (i0:Int))∧V.cell? ⟨J,2,none⟩=some (.int .i64 (i1:Int))∧V.cell? ⟨J,3,none⟩=some (.int .i64 (dd:Int))∧V.cell? ⟨J,4,none⟩=some (.int .i64 en)∧V.cell? ⟨J,5,none⟩=some (.int .i64 dy)∧V.cell? ⟨J,6,none⟩=some (.slice ab n cb)∧V.cell? ⟨J,7,none⟩=some (.int .i64 d1)∧V.cell? ⟨J,8,none⟩=some (.int .i64 d2)):=hid (fun V h=>row9 ((h.block J (Nat.lt_succ_self _)).trans HX1.o))
  have HJB:Hid (∀V,Below (J+1) W1 V→Below J wo V):=hid (fun V h=>HB1.o.trans (h.mono (Nat.le_succ _)))
  go_upto_region 11 with (first
   | (go_at_call 54
      (with_reducible refine (HVD.o _).mono ?_)
      rintro e w4 ⟨rfl,h4⟩
      have H4:Hid (Below (J+1) W1 w4):=hid (by rw [← HZ1.o];exact h4)
      clear h4 x0 x1 x2 x3 x4 x5 x6 x7 x8))
  have HWC:Hid (∀V,Below J wo V→(V.cell? ⟨P,2,none⟩=some (.slice (some ⟨bp,0,none⟩) 3 cp)∧V.cell? ⟨P,4,none⟩=some (.slice (some ⟨bt,0,none⟩) 3 ct))∧(∀i,i<3→V.cell? ⟨bt,i,none⟩=some (.pointer (some ⟨ps.getD i 0,0,none⟩)))∧ ∀i,i<3→V.cell? ⟨bp,i,none⟩=some (.string (pks.getD i ByteArray.empty))):=hid (fun V h=>by
   have h1:=HWI.o.later (by rw [HJ.o];exact h)
   obtain ⟨_,_,c2,_,c4,_⟩:=world_cells h1.wd.row
   refine ⟨⟨c2,c4⟩,fun i hi=> ?_,fun i hi=> ?_⟩
   ·obtain ⟨_,a',c',he,_,_,hpt⟩:=ptrs_of_own h1.wd.sto
    obtain ⟨b',hb',hc⟩:=hpt i (by rw [h1.wd.tlen];exact hi)
    injection he with e1 e2 e3
    rw [← e1] at hb'
    injection hb' with hb'
    injection hb' with hb'
    rw [hb']
    exact hc
   ·exact pub_cell h1.wd.pub (by rw [h1.wd.plen];exact hi))
  obtain ⟨p1,hp1⟩:=ex_eq (ps.getD i1 0)
  have HP1:=hid hp1
  clear hp1
  have H4D:Hid (Below (J+1) W1 w4.drew):=hid H4.o.drew
  obtain ⟨WD,hWD⟩:=ex_eq w4.drew
  rw [hWD] at H4D
  refine Kit.wp_region_gplan (fun V=>(V.cell? ⟨P,4,none⟩=some (.slice (some ⟨bt,0,none⟩) 3 ct)∧V.cell? ⟨bt,i1,none⟩=some (.pointer (some ⟨p1,0,none⟩)))∧V.cell? ⟨J,2,none⟩=some (.int .i64 (i1:Int))) [(true,0),(true,1),(true,2),(true,3),(true,4),(true,5),(true,6),(true,7),(true,8)] (by kernel_rfl) (by kernel_rfl) (by kernel_rfl) (by kernel_rfl) (by rw [hWD];exact ⟨⟨(HWC.o _ (HJB.o _ H4D.o)).1.2,by rw [← HP1.o];exact (HWC.o _ (HJB.o _ H4D.o)).2.1 i1 HD.o.2.1⟩,(HOP.o _ H4D.o).2.2.1⟩) ?_
  rw [hWD]
  clear hWD
  iterate 9 (refine Kit.ghd (h:= ?_))
  refine Kit.gdn (h:=?_)
  have HWV:Hid (∀V,Below J wo V→WI V G N P b t pks sds gs ps lss nx (.slice (some ⟨bp,0,none⟩) 3 cp) vs (.slice (some ⟨bt,0,none⟩) 3 ct)):=hid (fun V h=>HWI.o.later (by rw [HJ.o];exact h))
  have HVEC:Hid (∀V,Below J wo V→Calls Tryz.prog 65 #[.pointer (some ⟨p1,0,none⟩)] V fun e w'=> ∃bl:Nat,e= .returned (.slice (some ⟨bl,0,none⟩) 3 3)∧(∀j,j<3→w'.cell? ⟨bl,j,none⟩=some (.int .i64 ((sdAt (lss i1) j:Nat):Int)))∧V.heap.size≤bl∧bl<w'.heap.size∧Below V.heap.size V w'):=hid (fun V h=>by rw [← HP1.o];exact (HWV.o V h).vector HD.o.2.1)
  have HLOG:Hid (∀V,Below J wo V→ ∀j:Nat,j<3→Calls Tryz.prog 63 #[.pointer (some ⟨p1,0,none⟩),.int .i64 (j:Int)] V fun e w'=> ∃bl L:Nat,e= .returned (.slice (some ⟨bl,0,none⟩) L L)∧(logAt (lss i1) j).length=L∧NLog w' V.heap.size (some ⟨bl,0,none⟩) (logAt (lss i1) j)∧Below V.heap.size V w'):=hid (fun V h j hj=>by rw [← HP1.o];exact (HWV.o V h).log HD.o.2.1 hj)
  obtain ⟨X,hX⟩:=ex_eq WD.heap.size
  have HXE:=hid hX
  have HXJ:Hid (J+1≤X):=hid (by have:=H4D.o.size;have:=HZ1.o;omega)
  go_upto_region 13 with fail
  refine wp_over (fun V=>Hid (V.ownsRow WD.heap.size 111 1 (.slice (some ⟨WD.heap.size,0,none⟩) 0 0) 0 [])∧Hid (Below WD.heap.size WD V)∧Hid (V.heap.size=WD.heap.size+1)) ⟨own_none0 _ _ _,(Below.refl _ _).alloc (Nat.le_refl _) _,by show _=_;simp⟩ ?_
  rintro W5 ⟨HO5,HB5,HZ5⟩
  rw [hX] at HO5 HB5 HZ5
  try rw [hX]
  clear hX
  have HJX:Hid (∀V,Below X WD V→Below (J+1) W1 V):=hid (fun V h=>H4D.o.trans (h.mono HXJ.o))
  go_upto_region 15 with (first
   | (go_at_call 65
      (with_reducible refine (HVEC.o _ (HJB.o _ (HJX.o _ HB5.o))).mono ?_)
      rintro e w6 ⟨bv,rfl,hc6,hb6,hs6,h6⟩
      have HC6:=hid hc6
      have HV6:Hid (X<bv∧bv<w6.heap.size):=hid ⟨by have:=HZ5.o;omega,hs6⟩
      have H6:Hid (Below X WD w6):=hid (HB5.o.trans (h6.mono (by have:=HZ5.o;omega)))
      have HO6:=hid (own_later HO5.o h6)
      clear hc6 hb6 hs6 h6))
  go_loopw [12,10] (fun z v10 wr=> ∃j:Nat,j≤3∧z= .int .i64 (j:Int)∧Hid (∃os:List CutL,os.length=j∧wr.ownsRow X 111 1 v10 j (os.map CutL.val)∧ ∀(i:Nat) (h:i<os.length),os[i].n=sdAt (lss i1) i∧LSt wr X v10 (some ⟨os[i].bl,0,none⟩) (logAt (lss i1) i))∧Hid (Below X WD wr)∧Hid (∀i,i<3→wr.cell? ⟨bv,i,none⟩=some (.int .i64 ((sdAt (lss i1) i:Nat):Int)))∧Hid (bv<wr.heap.size∧X<wr.heap.size∧ ∀q,v10.ownBlock=some q→q≠bv)) (fun z _ _=>3 - (intOf z).toNat)
  case atStart=>exact ⟨0,by decide,rfl,hid ⟨[],rfl,HO6.o,fun i h=>absurd h (by simp)⟩,H6,HC6,hid ⟨HV6.o.2,Nat.lt_trans HV6.o.1 HV6.o.2,fun q h=>by have h2:X=q:=Option.some.inj h;have:=HV6.o.1;omega⟩⟩
  case round=>
   obtain ⟨j,hj,rfl,HOS,HRX,HCV,HVO⟩:=hrel
   rename World=>wq
   by_cases hj3:j<3
   ·have hj3i:(j:Int)<3:=by omega
    obtain ⟨s,hs⟩:=ex_eq (sdAt (lss i1) j)
    have HSS:=hid hs
    have c1:=HCV.o j hj3
    rw [hs] at c1
    have HSL:Hid (s≤(logAt (lss i1) j).length∧(logAt (lss i1) j).length≤4096):=hid (by rw [← hs];exact HWI.o.sd HD.o.2.1 hj3)
    clear hs
    go_upto_region 18 with (first
     | (go_at_call 63
        (with_reducible refine (HLOG.o _ (HJB.o _ (HJX.o _ HRX.o)) j hj3).mono ?_)
        rintro e w8 ⟨b5,L5,rfl,hL5,hn5,h8⟩
        have HN5:=hid hn5
        have HL5:=hid hL5
        have H8:=hid h8
        clear hn5 hL5 h8 c1))
    have c1:=h8cell HCV.o H8.o hj3
    rw [HSS.o] at c1
    have hLs: ¬(L5:Int)<(s:Int):=by have:=HSL.o;have:=HL5.o;omega
    have hslc: ∀V,(Instr.slice 111 (.slice (some ⟨b5,0,none⟩) L5 L5) none (some (.int .i64 (s:Int))) none).run Tryz.prog V= .ok (.slice (some ⟨b5,0,none⟩) s L5) V:=fun V=>by
     have h1:=sliceE_h (some ⟨b5,0,none⟩) L5 L5 s (by omega) V
     rw [sub6_zero] at h1
     exact h1
    obtain ⟨os,hos,hrow,hall⟩:=HOS.o
    have HROW:=hid hrow
    have HALL:=hid hall
    have HOL:=hid hos
    clear hos hrow hall HOS
    go_upto_region 16 with (first
     | (at_builtin
        refine app_cut (w0:=w8) rfl _ _ rfl X u10 j os (by rfl) (own_later HROW.o H8.o) (by have:=HRX.o.size;have:=H8.o.size;have:=HXE.o;omega) (by omega) ⟨b5,s,L5⟩ 1 (by rfl) ?_
        intro v' w9 ho9 hg9 hat9
        have HO9:=hid ho9
        have HG9:=hid hg9
        have HAT:=hid hat9
        clear ho9 hg9 hat9 c1 hslc))
    have HCS:=hid (cut_step (L5:=L5) (lg:=fun i=>logAt (lss i1) i) (sd:=fun i=>sdAt (lss i1) i) HROW.o HOL.o HALL.o (Nat.le_of_lt HVO.o.2.1) H8.o (by rw [HOL.o] at*;exact HN5.o) HSS.o HG9.o HAT.o HCV.o HVO.o)
    go_wp2_with fail
    go_roundw
    case rel=>exact ⟨j+1,hj3,by go_num,hid ⟨os++[⟨b5,s,L5⟩],by rw [List.length_append,HOL.o];rfl,HO9.o,HCS.o.1⟩,hid (HRX.o.trans HCS.o.2.1),hid HCS.o.2.2.1,hid HCS.o.2.2.2⟩
    case measure=>simp [intOf];omega
   ·have hj3i: ¬(j:Int)<3:=by omega
    have hje:j=3:=by omega
    obtain ⟨os,hos,hrow,hall⟩:=HOS.o
    rw [hje] at hos hrow
    clear hje
    have HALL:=hid hall
    have HOL:=hid hos
    have HROW0:=hid hrow
    obtain ⟨hz0,ao,co,hu,hcut⟩:=cuts_of_own hrow
    clear hz0
    obtain ⟨bo,hbo,hcx⟩:=hcut 0 (by rw [HOL.o];decide)
    clear hcx
    subst hbo
    subst hu
    clear hos hrow hall hcut HOS
    have HJQ:Hid (Below J wo wq):=hid (HJB.o _ (HJX.o _ HRX.o))
    have HPL:=hid (play_any wq (HWV.o _ HJQ.o) HBB.o.1 kind i0 i1 dd HD.o.1 HD.o.2.1 HD.o.2.2.1 en dy ab n cb bs HN.o HD.o.2.2.2 (HBY1.o _ HJQ.o) d1 d2)
    obtain ⟨x0,x1,x2,x3,x4,x5,x6,x7,x8⟩:=HOP.o _ (HJX.o _ HRX.o)
    go_upto_region 22 with (first
     | (go_at_call 56
        (with_reducible refine HPL.o.mono ?_)
        rintro e w10 ⟨m,er,rfl,ho⟩
        have HPO:=hid ho
        clear ho x0 x1 x2 x3 x4 x5 x6 x7 x8))
    obtain ⟨G',lss',nx',hW',hst,hkp,_⟩:=HPO.o
    have HW10:=hid hW'
    have HKP:Hid (∀j,j<3→sdAt (lss i1) j≤sdAt (lss' i1) j∧(logAt (lss' i1) j).take (sdAt (lss i1) j)=(logAt (lss i1) j).take (sdAt (lss i1) j)):=hid (fun j hj=>(hkp i1 HD.o.2.1).at (by rw [HWI.o.len i1 HD.o.2.1];exact hj))
    have HG0:Hid (∀k,X≤k→G k=0):=hid (fun k hk=>HWI.o.wd.own.hi k (by have:=HJ.o;have:=HXJ.o;omega))
    have HP10:Hid (Below P w3 w10):=hid ((HPB.o _ HJQ.o).trans (PlayO.belowP (HWV.o _ HJQ.o) HPO.o))
    have HF10:Hid (∀j,j<3→w10.cell? ⟨bv,j,none⟩=some (.int .i64 ((sdAt (lss i1) j:Nat):Int))∧ ∃bl cc:Nat,w10.cell? ⟨bo,j,none⟩=some (.slice (some ⟨bl,0,none⟩) (sdAt (lss i1) j) cc)∧NLog w10 X (some ⟨bl,0,none⟩) (logAt (lss i1) j)):=hid (fun j hj=>by
     have hjo:j<os.length:=by rw [HOL.o];exact hj
     refine ⟨hst.chg.cell (HCV.o j hj) (fun hm=>by have:=HG0.o bv (Nat.le_of_lt HV6.o.1);omega),os[j].bl,os[j].c,?_,((HALL.o j hjo).2.log).chg hst.chg (fun k i hk _ hm=>by have:=HG0.o k hk;omega)⟩
     have hrow:=ownsRow_keepM HROW0.o hst.chg (fun g hg i hm=>by have:=HG0.o g (HROW0.o.lt g hg).1;omega)
     obtain ⟨_,a9,c9,h9,hc9⟩:=cuts_of_own hrow
     injection h9 with e1 e2 e3
     obtain ⟨b9,h8,h7⟩:=hc9 j hjo
     rw [← e1] at h8
     injection h8 with h8
     injection h8 with h8
     rw [h8,h7]
     unfold CutL.val
     rw [(HALL.o j hjo).1])
    have HLOG2:Hid (∀V,Below w10.heap.size w10 V→ ∀j:Nat,j<3→Calls Tryz.prog 63 #[.pointer (some ⟨p1,0,none⟩),.int .i64 (j:Int)] V fun e w'=> ∃bl L:Nat,e= .returned (.slice (some ⟨bl,0,none⟩) L L)∧(logAt (lss' i1) j).length=L∧NLog w' V.heap.size (some ⟨bl,0,none⟩) (logAt (lss' i1) j)∧Below V.heap.size V w'):=hid (fun V h j hj=>by rw [← HP1.o];exact (HW10.o.later h).log HD.o.2.1 hj)
    have hvec:=HW10.o.vector HD.o.2.1
    rw [HP1.o] at hvec
    have HVEC2:=hid hvec
    clear hvec
    have hfk:=fun V (h:Below w10.heap.size w10 V)=>(HW10.o.later h).forks HD.o.2.1
    rw [HP1.o] at hfk
    have HFK:=hid hfk
    have HPX:Hid (P<w10.heap.size):=hid HW10.o.wd.lt
    have HWC2:Hid (∀V,Below w10.heap.size w10 V→V.cell? ⟨P,2,none⟩=some (.slice (some ⟨bp,0,none⟩) 3 cp)∧ ∀i,i<3→V.cell? ⟨bp,i,none⟩=some (.string (pks.getD i ByteArray.empty))):=hid (fun V h=>by
     have h1:=HW10.o.later h
     obtain ⟨_,_,c2,_,_,_⟩:=world_cells h1.wd.row
     exact ⟨c2,fun i hi=>pub_cell h1.wd.pub (by rw [h1.wd.plen];exact hi)⟩)
    clear hW' hst hkp hfk HROW0 HALL HCV
    go_upto_region 24 with (first
     | (go_at_call 65
        (with_reducible refine HVEC2.o.mono ?_)
        rintro e w11 ⟨bn,rfl,hc11,hb11,hs11,h11⟩
        have HC11:=hid hc11
        have H11:=hid h11
        clear hc11 hb11 hs11 h11))
    have HT11:Hid (∀V,Below w11.heap.size w11 V→Below w10.heap.size w10 V):=hid (fun V h=>H11.o.trans (h.mono H11.o.size))
    go_loopw [15] (fun z wr=> ∃j:Nat,j≤3∧z= .int .i64 (j:Int)∧Hid (Below w11.heap.size w11 wr)) (fun z _=>3 - (intOf z).toNat)
    case atStart=>exact ⟨0,by decide,rfl,hid (Below.refl _ _)⟩
    case round=>
     obtain ⟨j,hj,rfl,HR2⟩:=hrel
     rename World=>wp
     by_cases hj3:j<3
     ·have hj3i:(j:Int)<3:=by omega
      obtain ⟨hf1,bl,cc,hf2,hf3⟩:=HF10.o j hj3
      have hg1:=HC11.o j hj3
      have HSD:=hid (HW10.o.sd HD.o.2.1 hj3)
      have HKJ:=hid (HKP.o j hj3)
      have HSD0:=hid (HWI.o.sd HD.o.2.1 hj3)
      obtain ⟨s,hs⟩:=ex_eq (sdAt (lss i1) j)
      obtain ⟨s',hs'⟩:=ex_eq (sdAt (lss' i1) j)
      rw [hs] at hf1 hf2 HKJ HSD0
      rw [hs'] at hg1 HSD HKJ
      have HS27:Hid (∀V,Below w11.heap.size w11 V→V.cell? ⟨bn,j,none⟩=some (.int .i64 (s':Int))∧V.cell? ⟨bv,j,none⟩=some (.int .i64 (s:Int))∧V.cell? ⟨bo,j,none⟩=some (.slice (some ⟨bl,0,none⟩) s cc)):=hid (fun V h=>⟨(h.cell (World.block_lt_of_cell? _ _ hg1)).trans hg1,((HT11.o V h).cell (World.block_lt_of_cell? _ _ hf1)).trans hf1,((HT11.o V h).cell (World.block_lt_of_cell? _ _ hf2)).trans hf2⟩)
      have HNO:Hid (∀V,Below w11.heap.size w11 V→EntsAt V (some ⟨bl,0,none⟩) (logAt (lss i1) j)):=hid (fun V h=>(hf3.later (HT11.o V h)).ents)
      clear hf1 hf2 hf3 hg1 hs hs'
      go_upto_region 27 with (first
       | (go_at_call 63
          (with_reducible refine (HLOG2.o _ (HT11.o _ HR2.o) j hj3).mono ?_)
          rintro e w12 ⟨b7,L7,rfl,hL7,hn7,h12⟩
          have HN7:=hid hn7
          have HL7:=hid hL7
          have H12:Hid (Below w11.heap.size w11 w12):=hid (HR2.o.trans (h12.mono HR2.o.size))
          clear hn7 hL7 h12))
      have HD12:Hid (Below w12.heap.size w12 w12.drew):=hid (Below.refl _ _).drew
      obtain ⟨VW,hVW⟩:=ex_eq w12.drew
      rw [hVW] at HD12
      have H12D:Hid (Below w11.heap.size w11 VW):=hid (H12.o.trans (HD12.o.mono H12.o.size))
      have hLs: ¬(L7:Int)<(s':Int):=by have:=HSD.o;have:=HL7.o;omega
      have hss: ¬(s':Int)<(s:Int):=by have:=HKJ.o.1;omega
      have hslc: ∀V,(Instr.slice 111 (.slice (some ⟨b7,0,none⟩) L7 L7) none (some (.int .i64 (s:Int))) none).run Tryz.prog V= .ok (.slice (some ⟨b7,0,none⟩) s L7) V:=fun V=>by
       have h1:=sliceE_h (some ⟨b7,0,none⟩) L7 L7 s (by have:=HSD.o;have:=HL7.o;have:=HKJ.o.1;omega) V
       rw [sub6_zero] at h1
       exact h1
      have hE1:EntsAt VW (some ⟨b7,0,none⟩) ((logAt (lss' i1) j).take s):=by
       have h1:=ents_sub (cap:=L7) (HN7.o.later HD12.o).ents (by rw [HL7.o];exact Nat.le_refl _) 0 s
       rw [sub6_zero,List.drop_zero] at h1
       exact h1
      have hE2:EntsAt VW (some ⟨bl,0,none⟩) ((logAt (lss i1) j).take s):=by
       have h1:=ents_sub (cap:=(logAt (lss i1) j).length) (HNO.o VW H12D.o) (Nat.le_refl _) 0 s
       rw [sub6_zero,List.drop_zero] at h1
       exact h1
      have HSM:Hid (Calls Tryz.prog 67 #[.slice (some ⟨b7,0,none⟩) s L7,.slice (some ⟨bl,0,none⟩) s cc] VW fun e w'=>e= .returned (.bool true)∧Below VW.heap.size VW w'):=hid (by
       have h1:=sameAll_any (some ⟨b7,0,none⟩) L7 s _ (by rw [List.length_take];have:=HSD.o;have:=HKJ.o.1;omega) (some ⟨bl,0,none⟩) cc s _ (by rw [List.length_take];have:=HSD0.o;omega) (by have:=HSD0.o;omega) VW hE1 hE2
       rw [HKJ.o.2,sameAllE_refl] at h1
       exact h1)
      clear hE1 hE2
      refine Kit.wp_region_gplan (fun V=>V.cell? ⟨bn,j,none⟩=some (.int .i64 (s':Int))∧V.cell? ⟨bv,j,none⟩=some (.int .i64 (s:Int))∧V.cell? ⟨bo,j,none⟩=some (.slice (some ⟨bl,0,none⟩) s cc)) [(true,0),(true,1),(true,2),(true,3),(true,4),(true,5),(true,6),(true,7),(true,8),(true,9),(true,10),(true,11),(true,12),(true,13),(true,14),(true,15),(true,16),(true,17),(true,18),(true,19),(true,20),(true,21),(true,22),(true,23),(true,24),(true,25),(true,26),(true,27),(true,28),(true,29),(true,30),(true,31),(true,32),(true,33),(true,34),(true,35),(true,36),(true,37),(true,38),(false,39),(true,40),(true,41)] (by kernel_rfl) (by kernel_rfl) (by kernel_rfl) (by kernel_rfl) (by rw [hVW];exact HS27.o _ H12D.o) ?_
      rw [hVW]
      clear hVW
      iterate 39 (refine Kit.ghd (h:= ?_))
      refine Kit.gplan_op (by rfl) (by rfl) fun K hK=> ?_
      go_simp
      go_at_call 67
      with_reducible refine HSM.o.mono ?_
      rintro e w14 ⟨rfl,h14'⟩
      have H14:Hid (Below w11.heap.size w11 w14):=hid (H12D.o.trans (h14'.mono H12D.o.size))
      clear h14'
      refine hK _ _ (HS27.o _ H14.o) ?_
      clear hK K
      iterate 2 (refine Kit.ghd (h:= ?_))
      refine Kit.gdn (h:=?_)
      go_wp2_with fail
      go_roundw
      case rel=>exact ⟨j+1,hj3,by go_num,H14⟩
      case measure=>simp [intOf];omega
     ·have hj3i: ¬(j:Int)<3:=by omega
      go_upto_region 30 with (first
       | (go_at_call 66
          (with_reducible refine (HFK.o _ (HT11.o _ HR2.o)).mono ?_)
          rintro e w13 ⟨vf,xs,rfl,hof,hxs,hok,h13⟩
          have HOF:=hid hof
          have HXS:=hid hxs
          have HOK:=hid hok
          have H13:Hid (Below w10.heap.size w10 w13):=hid ((HT11.o _ HR2.o).trans (h13.mono (HT11.o _ HR2.o).size))
          clear hof hxs hok h13))
      obtain ⟨hz1,af,cf,hvf,hcells⟩:=fvs_cells HOF.o
      clear hz1
      obtain ⟨nf,hnf⟩:=ex_eq xs.length
      have HNF:=hid hnf
      have HXC:=hid hcells
      subst hvf
      rw [hnf]
      clear hnf hcells
      have HPV:Hid (∀V,Below w13.heap.size w13 V→Below w10.heap.size w10 V):=hid (fun V h=>H13.o.trans (h.mono H13.o.size))
      have HMS:Hid (∀V,Below w13.heap.size w13 V→V.cell? ⟨M,0,none⟩=some (.int .i64 (b:Int))∧V.cell? ⟨M,1,none⟩=some (.int .i64 (t:Int))):=hid (fun V h=>HSC.o V (HME.o V (HP10.o.trans ((HPV.o V h).mono (Nat.le_of_lt HPX.o)))))
      go_upto_region 31 with fail
      go_loopw [18] (fun z wr=> ∃q:Nat,q≤nf∧z= .int .i64 (q:Int)∧Hid (Below w13.heap.size w13 wr)) (fun z _=>nf - (intOf z).toNat)
      case atStart=>exact ⟨0,Nat.zero_le _,rfl,hid (Below.refl _ _)⟩
      case round=>
       obtain ⟨q,hq,rfl,HR3⟩:=hrel
       rename World=>wz
       by_cases hqn:q<nf
       rotate_left
       ·have hqi: ¬(q:Int)<(nf:Int):=by omega
        go_wp2_with fail
        go_roundw
        case rel=>exact ⟨k+1,hlt,by go_num,hid ⟨G',lss',nx',HW10.o.later (HPV.o _ HR3.o)⟩,hid (HP10.o.trans ((HPV.o _ HR3.o).mono (Nat.le_of_lt HPX.o)))⟩
        case measure=>simp [intOf];omega
       have hnf3:nf≤3:=by have h1:=HXS.o.1;have h2:=HNF.o;omega
       have hqi:(q:Int)<(nf:Int):=by omega
       have HQL:Hid (q<xs.length):=hid (by rw [HNF.o];exact hqn)
       obtain ⟨bf,hbf,hbl,hcl⟩:=HXC.o q HQL.o
       have HPR:Hid (∀r,q=r+1→ ∃dp:Int,dp<(xs[q]'HQL.o).dev∧w13.cell? ⟨bf,r*15,none⟩=some (.int .i64 dp)):=hid (fun r hr=>by
        have hr2:r<xs.length:=by have:=HQL.o;omega
        obtain ⟨b9,h9,_,hc9⟩:=HXC.o r hr2
        rw [hbf] at h9
        injection h9 with h9
        injection h9 with h9
        have h8:=hc9 0 (by decide)
        subst hr
        exact ⟨_,HXS.o.2.2 r HQL.o,by rw [h9];exact h8⟩)
       subst hbf
       obtain ⟨d,hd3,hdv,hfk,hm0,hm1⟩:=HXS.o.2.1 q HQL.o
       have hok:=HOK.o _ (List.getElem_mem HQL.o)
       obtain ⟨x,hx⟩: ∃x,x=xs[q]'HQL.o:=⟨_,rfl⟩
       rw [← hx] at hcl hdv hfk hm0 hm1 hok HPR
       clear hx hbl
       obtain ⟨dvx,es0,es1,a0,c0,a1,c1,x0,x1⟩:=x
       simp only at hdv hm0 hm1 HPR
       subst hdv
       obtain ⟨L0,hL0⟩:=ex_eq es0.length
       obtain ⟨L1,hL1⟩:=ex_eq es1.length
       obtain ⟨m0,hm0'⟩:=ex_eq x0.h.ps.length
       obtain ⟨n0,hn0'⟩:=ex_eq x0.h.qs.length
       obtain ⟨m1,hm1'⟩:=ex_eq x1.h.ps.length
       obtain ⟨n1,hn1'⟩:=ex_eq x1.h.qs.length
       obtain ⟨pk,hpk⟩:=ex_eq (pks.getD d ByteArray.empty)
       rw [hpk] at hfk
       rw [hL0] at hm0
       rw [hL1] at hm1
       have HVF:Hid (∀V,Below w13.heap.size w13 V→Calls Tryz.prog 68 #[.string pk,.agg #[.int .i64 (b:Int),.int .i64 (t:Int)],.agg #[.int .i64 (d:Int),.slice a0 L0 c0,.slice a1 L1 c1,.int .i64 x0.h.dev,.int .i64 x0.h.seq,.string x0.h.sum,.int .i64 x0.h.idx,.slice x0.a1 m0 x0.c1,.slice x0.a2 n0 x0.c2,.int .i64 x1.h.dev,.int .i64 x1.h.seq,.string x1.h.sum,.int .i64 x1.h.idx,.slice x1.a1 m1 x1.c1,.slice x1.a2 n1 x1.c2]] V fun e w'=>e= .returned (.bool true)∧Below V.heap.size V w'):=hid (fun V h=>by
        have hk:=hok.later h
        have h1:=verifyFork_any pk (b:Int) (t:Int) (d:Int) a0 c0 L0 es0 hL0 a1 c1 L1 es1 hL1 x0 x1 hm0 hm1 V hk.1 hk.2.1 hk.2.2.1 hk.2.2.2 (HW10.o.later (HPV.o V h)).laid
        have h2:forkE (b:Int) (t:Int) (nb pk) ⟨(d:Int),es0,es1,x0.h,x1.h⟩=true:=hfk
        rw [h2] at h1
        unfold forkVal at h1
        rw [hm0',hn0',hm1',hn1'] at h1
        exact h1)
       have HS34:Hid (∀V,Below w13.heap.size w13 V→(V.cell? ⟨M,0,none⟩=some (.int .i64 (b:Int))∧V.cell? ⟨M,1,none⟩=some (.int .i64 (t:Int)))∧(V.cell? ⟨P,2,none⟩=some (.slice (some ⟨bp,0,none⟩) 3 cp)∧V.cell? ⟨bp,d,none⟩=some (.string pk))∧V.cell? ⟨bf,q*15,none⟩=some (.int .i64 (d:Int))∧V.cell? ⟨bf,q*15+1,none⟩=some (.slice a0 L0 c0)∧V.cell? ⟨bf,q*15+2,none⟩=some (.slice a1 L1 c1)∧V.cell? ⟨bf,q*15+3,none⟩=some (.int .i64 x0.h.dev)∧V.cell? ⟨bf,q*15+4,none⟩=some (.int .i64 x0.h.seq)∧V.cell? ⟨bf,q*15+5,none⟩=some (.string x0.h.sum)∧V.cell? ⟨bf,q*15+6,none⟩=some (.int .i64 x0.h.idx)∧V.cell? ⟨bf,q*15+7,none⟩=some (.slice x0.a1 m0 x0.c1)∧V.cell? ⟨bf,q*15+8,none⟩=some (.slice x0.a2 n0 x0.c2)∧V.cell? ⟨bf,q*15+9,none⟩=some (.int .i64 x1.h.dev)∧V.cell? ⟨bf,q*15+10,none⟩=some (.int .i64 x1.h.seq)∧V.cell? ⟨bf,q*15+11,none⟩=some (.string x1.h.sum)∧V.cell? ⟨bf,q*15+12,none⟩=some (.int .i64 x1.h.idx)∧V.cell? ⟨bf,q*15+13,none⟩=some (.slice x1.a1 m1 x1.c1)∧V.cell? ⟨bf,q*15+14,none⟩=some (.slice x1.a2 n1 x1.c2)):=hid (fun V h=>by
        have hh: ∀j,j<15→V.cell? ⟨bf,q*15+j,none⟩=(FV.cells ⟨(d:Int),es0,es1,a0,c0,a1,c1,x0,x1⟩)[j]? :=fun j hj=>by
         have h1:w13.cell? ⟨bf,q*15+j,none⟩=some ((FV.cells ⟨(d:Int),es0,es1,a0,c0,a1,c1,x0,x1⟩)[j]'hj):=(hcl j hj).trans (lE hj)
         rw [← hcl j hj]
         exact h.cell (World.block_lt_of_cell? _ _ h1)
        obtain ⟨k1,k2⟩:=HMS.o V h
        obtain ⟨k3,k4⟩:=HWC2.o V (HPV.o V h)
        have k5:=k4 d hd3
        rw [hpk] at k5
        refine ⟨⟨k1,k2⟩,⟨k3,k5⟩,?_⟩
        have g1:=hh 1 (by decide)
        have g2:=hh 2 (by decide)
        have g7:=hh 7 (by decide)
        have g8:=hh 8 (by decide)
        have g13:=hh 13 (by decide)
        have g14:=hh 14 (by decide)
        simp only [FV.cells] at g1 g2 g7 g8 g13 g14
        rw [hL0] at g1
        rw [hL1] at g2
        rw [hm0'] at g7
        rw [hn0'] at g8
        rw [hm1'] at g13
        rw [hn1'] at g14
        exact ⟨hh 0 (by decide),g1,g2,hh 3 (by decide),hh 4 (by decide),hh 5 (by decide),hh 6 (by decide),g7,g8,hh 9 (by decide),hh 10 (by decide),hh 11 (by decide),hh 12 (by decide),g13,g14⟩)
       have HD3:Hid (d<3):=hid hd3
       have hdn: ¬(d:Int)<0:=by omega
       have hd2: ¬(2:Int)<(d:Int):=by omega
       have hd3i:(d:Int)<3:=by omega
       clear hcl hfk hok hL0 hL1 hm0' hn0' hm1' hn1' hpk hm0 hm1 hd3
       obtain ⟨_,_,e0,_⟩:=HS34.o _ HR3.o
       go_upto_region 34 with fail
       clear e0
       have HDD:Hid (Below w13.heap.size w13 wz.drew):=hid HR3.o.drew
       obtain ⟨VZ,hVZ⟩:=ex_eq wz.drew
       rw [hVZ] at HDD
       by_cases hq0:0<q
       ·have hq0i:(0:Int)<(q:Int):=by omega
        obtain ⟨r,hr⟩: ∃r,q=r+1:=⟨q - 1,by omega⟩
        obtain ⟨dp,hdp,hcp⟩:=HPR.o r hr
        have hge: ¬(d:Int)≤dp:=by omega
        have hwr:IntKind.i64.wrap ((q:Int) - 1)=(r:Int):=by
         have h1:=HXS.o.1
         have h2:=HNF.o
         rw [IntKind.wrap_i64]
         omega
        have hri:(r:Int)<(nf:Int):=by omega
        have HCP:Hid (∀V,Below w13.heap.size w13 V→V.cell? ⟨bf,r*15,none⟩=some (.int .i64 dp)):=hid (fun V h=>(h.cell (World.block_lt_of_cell? _ _ hcp)).trans hcp)
        clear hcp hdp hr
        refine Kit.wp_region_gplan (fun V=>V.cell? ⟨bf,r*15,none⟩=some (.int .i64 dp)∧(V.cell? ⟨M,0,none⟩=some (.int .i64 (b:Int))∧V.cell? ⟨M,1,none⟩=some (.int .i64 (t:Int)))∧(V.cell? ⟨P,2,none⟩=some (.slice (some ⟨bp,0,none⟩) 3 cp)∧V.cell? ⟨bp,d,none⟩=some (.string pk))∧V.cell? ⟨bf,q*15,none⟩=some (.int .i64 (d:Int))∧V.cell? ⟨bf,q*15+1,none⟩=some (.slice a0 L0 c0)∧V.cell? ⟨bf,q*15+2,none⟩=some (.slice a1 L1 c1)∧V.cell? ⟨bf,q*15+3,none⟩=some (.int .i64 x0.h.dev)∧V.cell? ⟨bf,q*15+4,none⟩=some (.int .i64 x0.h.seq)∧V.cell? ⟨bf,q*15+5,none⟩=some (.string x0.h.sum)∧V.cell? ⟨bf,q*15+6,none⟩=some (.int .i64 x0.h.idx)∧V.cell? ⟨bf,q*15+7,none⟩=some (.slice x0.a1 m0 x0.c1)∧V.cell? ⟨bf,q*15+8,none⟩=some (.slice x0.a2 n0 x0.c2)∧V.cell? ⟨bf,q*15+9,none⟩=some (.int .i64 x1.h.dev)∧V.cell? ⟨bf,q*15+10,none⟩=some (.int .i64 x1.h.seq)∧V.cell? ⟨bf,q*15+11,none⟩=some (.string x1.h.sum)∧V.cell? ⟨bf,q*15+12,none⟩=some (.int .i64 x1.h.idx)∧V.cell? ⟨bf,q*15+13,none⟩=some (.slice x1.a1 m1 x1.c1)∧V.cell? ⟨bf,q*15+14,none⟩=some (.slice x1.a2 n1 x1.c2)) [(true,0),(true,1),(true,2),(true,3),(true,4),(true,5),(true,6),(true,7),(true,8),(true,9),(true,10),(true,11),(true,12),(true,13),(true,14),(true,15),(true,16),(true,17),(true,18),(true,19),(true,20),(true,21),(true,22),(true,23),(true,24),(true,25),(true,26),(true,27),(true,28),(true,29),(true,30),(true,31),(true,32),(false,33),(true,34),(true,35)] (by kernel_rfl) (by kernel_rfl) (by kernel_rfl) (by kernel_rfl) (by rw [hVZ];exact ⟨HCP.o _ HDD.o,HS34.o _ HDD.o⟩) ?_
        rw [hVZ]
        clear hVZ
        iterate 33 (refine Kit.ghd (h:= ?_))
        refine Kit.gplan_op (by rfl) (by rfl) fun K hK=> ?_
        go_simp
        go_at_call 68
        with_reducible refine (HVF.o _ HDD.o).mono ?_
        rintro e w15 ⟨rfl,h15⟩
        have H15:Hid (Below w13.heap.size w13 w15):=hid (HDD.o.trans (h15.mono HDD.o.size))
        clear h15
        refine hK _ _ ⟨HCP.o _ H15.o,HS34.o _ H15.o⟩ ?_
        clear hK K
        iterate 2 (refine Kit.ghd (h:= ?_))
        refine Kit.gdn (h:=?_)
        go_wp2_with fail
        go_roundw
        case rel=>exact ⟨q+1,hqn,by go_num,H15⟩
        case measure=>simp [intOf];omega
       ·have hq0i: ¬(0:Int)<(q:Int):=by omega
        refine Kit.wp_region_gplan (fun V=>(V.cell? ⟨M,0,none⟩=some (.int .i64 (b:Int))∧V.cell? ⟨M,1,none⟩=some (.int .i64 (t:Int)))∧(V.cell? ⟨P,2,none⟩=some (.slice (some ⟨bp,0,none⟩) 3 cp)∧V.cell? ⟨bp,d,none⟩=some (.string pk))∧V.cell? ⟨bf,q*15,none⟩=some (.int .i64 (d:Int))∧V.cell? ⟨bf,q*15+1,none⟩=some (.slice a0 L0 c0)∧V.cell? ⟨bf,q*15+2,none⟩=some (.slice a1 L1 c1)∧V.cell? ⟨bf,q*15+3,none⟩=some (.int .i64 x0.h.dev)∧V.cell? ⟨bf,q*15+4,none⟩=some (.int .i64 x0.h.seq)∧V.cell? ⟨bf,q*15+5,none⟩=some (.string x0.h.sum)∧V.cell? ⟨bf,q*15+6,none⟩=some (.int .i64 x0.h.idx)∧V.cell? ⟨bf,q*15+7,none⟩=some (.slice x0.a1 m0 x0.c1)∧V.cell? ⟨bf,q*15+8,none⟩=some (.slice x0.a2 n0 x0.c2)∧V.cell? ⟨bf,q*15+9,none⟩=some (.int .i64 x1.h.dev)∧V.cell? ⟨bf,q*15+10,none⟩=some (.int .i64 x1.h.seq)∧V.cell? ⟨bf,q*15+11,none⟩=some (.string x1.h.sum)∧V.cell? ⟨bf,q*15+12,none⟩=some (.int .i64 x1.h.idx)∧V.cell? ⟨bf,q*15+13,none⟩=some (.slice x1.a1 m1 x1.c1)∧V.cell? ⟨bf,q*15+14,none⟩=some (.slice x1.a2 n1 x1.c2)) [(true,0),(true,1),(true,2),(true,3),(true,4),(true,5),(true,6),(true,7),(true,8),(true,9),(true,10),(true,11),(true,12),(true,13),(true,14),(true,15),(true,16),(true,17),(true,18),(true,19),(true,20),(true,21),(true,22),(true,23),(true,24),(true,25),(true,26),(true,27),(true,28),(true,29),(true,30),(true,31),(true,32),(false,33),(true,34),(true,35)] (by kernel_rfl) (by kernel_rfl) (by kernel_rfl) (by kernel_rfl) (by rw [hVZ];exact HS34.o _ HDD.o) ?_
        rw [hVZ]
        clear hVZ
        iterate 33 (refine Kit.ghd (h:= ?_))
        refine Kit.gplan_op (by rfl) (by rfl) fun K hK=> ?_
        go_simp
        go_at_call 68
        with_reducible refine (HVF.o _ HDD.o).mono ?_
        rintro e w15 ⟨rfl,h15⟩
        have H15:Hid (Below w13.heap.size w13 w15):=hid (HDD.o.trans (h15.mono HDD.o.size))
        clear h15
        refine hK _ _ (HS34.o _ H15.o) ?_
        clear hK K
        iterate 2 (refine Kit.ghd (h:= ?_))
        refine Kit.gdn (h:=?_)
        go_wp2_with fail
        go_roundw
        case rel=>exact ⟨q+1,hqn,by go_num,H15⟩
        case measure=>simp [intOf];omega
end Go.Proofs.YtgfdghoaodlcdaaGreatDoor

/- The law GossipForged. -/
import Derived.Deep.Cut
import Derived.Test.YtndlihclgdkpaaaGreatDoorLgr
import Derived.Test.YtndlihclgdkpaaaGreatDoorFpl
import Derived.Test.YtndlihclgdkpaaaGreatDoorFst
import Derived.Test.YtndlihclgdkpaaaGreatDoorFsh
import Derived.Test.YtndlihclgdkpaaaGreatDoorWfs
import Derived.Test.YtndlihclgdkpaaaGreatDoorWpy
import Derived.Test.YtndlihclgdkpaaaGreatDoorOpo
import Derived.Test.YtndlihclgdkpaaaGreatDoorOpn
import Derived.Test.YtndlihclgdkpaaaGreatDoorOpv
import Derived.Test.YtndlihclgdkpaaaGreatDoorGaw
set_option linter.unusedVariables false
set_option linter.unusedSimpArgs false
open Go.Lib (hid)
namespace Go.Proofs.YtndlihclgdkpaaaGreatDoor
open Go.RowKit
open Kit (Chg)
open Sha (v)
open Go.Proofs.YtndlihclgdkpaaaGreatDoor.One

theorem three1 {w:World} {o0 o1 o2:Obj}:(((w.alloc o0).alloc o1).alloc o2).heap[w.heap.size]? =some o0:=(Below.heap_alloc _ _ _ (by simp;omega)).trans ((Below.heap_alloc _ _ _ (by simp)).trans (heap_alloc_new _ _))
theorem three2 {w:World} {o0 o1 o2:Obj}:(((w.alloc o0).alloc o1).alloc o2).heap[w.heap.size+1]? =some o1:=(Below.heap_alloc _ _ _ (by simp)).trans (by have h:=heap_alloc_new (w.alloc o0) o1;rwa [World.size_alloc] at h)
theorem three3 {w:World} {o0 o1 o2:Obj}:(((w.alloc o0).alloc o1).alloc o2).heap[w.heap.size+2]? =some o2:=by
 have h:=heap_alloc_new ((w.alloc o0).alloc o1) o2
 rwa [World.size_alloc,World.size_alloc] at h
theorem three4 {w:World} {o0 o1 o2:Obj}:Below w.heap.size w (((w.alloc o0).alloc o1).alloc o2):=(((Below.refl _ _).alloc (Nat.le_refl _) _).alloc (by simp) _).alloc (by simp;omega) _
theorem three5 {w:World} {o0 o1 o2:Obj}:(((w.alloc o0).alloc o1).alloc o2).heap.size=w.heap.size+3:=by rw [World.size_alloc,World.size_alloc,World.size_alloc]
theorem WI.keys {w:World} {G:Nat→Nat} {N P b t:Nat} {pks sds:List ByteArray} {gs ps:List Nat} {lss:Nat→List Lin} {nx:Nat→Nat} {vp vs vt:Value} (h:WI w G N P b t pks sds gs ps lss nx vp vs vt): ∀x ∈ pks,x.size=32:=fun x hx=>by
 obtain ⟨i,hi,rfl⟩:=List.getElem_of_mem hx
 obtain ⟨B,hs⟩:=h.wd.sg i (by rw [← h.wd.plen];exact hi)
 have h1:=congrArg List.length hs.pk
 rw [nb_length,lD,lE hi] at h1
 rw [show (some pks[i]).getD ByteArray.empty=pks[i] from rfl] at h1
 rw [h1]
 exact Mrk.root_len t _ (sigLeaves_len _ _ _) (sigLeaves_32 _ _ _)
theorem WI.pubs {w:World} {G:Nat→Nat} {N P b t bp cp:Nat} {pks sds:List ByteArray} {gs ps:List Nat} {lss:Nat→List Lin} {nx:Nat→Nat} {vs vt:Value} (h:WI w G N P b t pks sds gs ps lss nx (.slice (some ⟨bp,0,none⟩) 3 cp) vs vt):StrsAt w (some ⟨bp,0,none⟩) pks:=by
 obtain ⟨a,cap,he,_,_,h3,_⟩:=strs_of_own h.wd.pub
 injection he with e1 _ _
 rw [e1]
 exact h3
theorem signed_tiny {B H:Int} {pk:List Nat} {h:Hd} (hs:SignedH B H pk h):h.ps.length≤1000000∧h.qs.length≤1000000:=by
 obtain ⟨⟨hv,_,_,_,h1,_,h2,_⟩,_⟩:=hs.2
 obtain ⟨b,t,rfl,rfl,hb,_,ht⟩:=sv_of hv
 rw [List.length_map,Int.toNat_natCast] at h2
 rw [List.length_map] at h1
 have hc:count b 32≤1000:=by rcases hb with rfl | rfl | rfl | rfl<;> decide+kernel
 exact ⟨by omega,by omega⟩
set_option maxRecDepth 100000 in
set_option maxHeartbeats 8000000 in
theorem walk_GossipForged (B H:Int) (a:Option Addr) (c L:Nat) (ys:List OpV) (fr dv sq kd dy:Int) (ea:Option Addr) (n ec:Nat) (pv:ByteArray) (ebs:List Nat) (at0 hd hq:Int) (hs:ByteArray) (hi:Int) (a1:Option Addr) (m1 c1:Nat) (a2:Option Addr) (m2 c2:Nat) (hps hqs:List ByteArray) (w:World) (hLe:ys.length=L) (hO:OpsAt w a ys) (hn:ebs.length=n) (hnil:ea=none→ec=0) (hEB:BytesAt w ea ebs) (hm1:hps.length=m1) (hm2:hqs.length=m2) (hb1:m1<9223372036854775808) (hb2:m2<9223372036854775808) (hP:StrsAt w a1 hps) (hQ:StrsAt w a2 hqs) (hL:Laid w):
    Calls Tryz.prog 12 #[.agg #[.int .i64 B,.int .i64 H],.slice a L c,.int .i64 fr,.agg #[.int .i64 dv,.int .i64 sq,.int .i64 kd,.int .i64 dy,.slice ea n ec,.string pv],.int .i64 at0,.agg #[.int .i64 hd,.int .i64 hq,.string hs,.int .i64 hi,.slice a1 m1 c1,.slice a2 m2 c2]] w fun e w'=>e= .returned (.bool true)∧Below w.heap.size w w':=by
 have HO:=hid hO
 have HLE:=hid hLe
 have HLD:=hid hL
 have HEB:=hid hEB
 have HEN:=hid hn
 have HENI:=hid hnil
 have HHP:=hid (And.intro hP hQ)
 have HHM:=hid (And.intro hm1 hm2)
 have HHB:=hid (And.intro hb1 hb2)
 have H3W:Hid (3≤w.heap.size):=hid hL.low3
 have HAW:Hid (∀V,Below w.heap.size w V→Calls Tryz.prog 52 #[] V fun e w'=>e= .returned (.bool true)∧Below V.heap.size V w'):=hid (fun V h=>awake46 V (HLD.o.later h (Nat.le_refl _)) (HLD.o.later h (Nat.le_refl _)).low3)
 clear hO hLe hL hEB hn hnil hP hQ hm1 hm2 hb1 hb2
 go_enter Tryz.func12,Tryz.ntmps12
 go_upto_region 1 with fail
 refine wp_over (fun V=>Hid (V.heap[w.heap.size]? =some (.cells #[.int .i64 B,.int .i64 H] 23 (0,0)))∧Hid (V.heap[w.heap.size+1]? =some (.cells #[.int .i64 dv,.int .i64 sq,.int .i64 kd,.int .i64 dy,.slice ea n ec,.string pv] 92 (0,0)))∧Hid (V.heap[w.heap.size+2]? =some (.cells #[.int .i64 hd,.int .i64 hq,.string hs,.int .i64 hi,.slice a1 m1 c1,.slice a2 m2 c2] 94 (0,0)))∧Hid (Below w.heap.size w V)∧Hid (V.heap.size=w.heap.size+3)) ⟨three1,three2,three3,three4,three5⟩ ?_
 rintro W ⟨HRW,HRE,HRH,HB,HWS⟩
 obtain ⟨M,hM⟩:=ex_eq w.heap.size
 have HM:=hid hM
 rw [hM] at HRW HRE HRH HB HWS ⊢
 clear hM
 have HBE:Hid (∀V,Below (M+3) W V→Below M w V):=hid (fun V h=>HB.o.trans (h.mono (by omega)))
 have HSC:Hid (∀V,Below (M+3) W V→(V.cell? ⟨M,0,none⟩=some (.int .i64 B)∧V.cell? ⟨M,1,none⟩=some (.int .i64 H))):=hid (fun V h=>row2 ((h.block M (by omega)).trans HRW.o))
 have HEC:Hid (∀V,Below (M+3) W V→V.cell? ⟨M+1,0,none⟩=some (.int .i64 dv)∧V.cell? ⟨M+1,1,none⟩=some (.int .i64 sq)∧V.cell? ⟨M+1,2,none⟩=some (.int .i64 kd)∧V.cell? ⟨M+1,3,none⟩=some (.int .i64 dy)∧V.cell? ⟨M+1,4,none⟩=some (.slice ea n ec)∧V.cell? ⟨M+1,5,none⟩=some (.string pv)):=hid (fun V h=>row6 ((h.block (M+1) (by omega)).trans HRE.o))
 have HHC:Hid (∀V,Below (M+3) W V→V.cell? ⟨M+2,0,none⟩=some (.int .i64 hd)∧V.cell? ⟨M+2,1,none⟩=some (.int .i64 hq)∧V.cell? ⟨M+2,2,none⟩=some (.string hs)∧V.cell? ⟨M+2,3,none⟩=some (.int .i64 hi)∧V.cell? ⟨M+2,4,none⟩=some (.slice a1 m1 c1)∧V.cell? ⟨M+2,5,none⟩=some (.slice a2 m2 c2)):=hid (fun V h=>row6 ((h.block (M+2) (by omega)).trans HRH.o))
 have HST:Hid (∀V V',Below (M+3) W V→Below V.heap.size V V'→Below (M+3) W V'):=hid (fun V V' h h'=>h.trans (h'.mono (by have:=h.size;have:=HWS.o;omega)))
 clear HRW HRE HRH HB
 go_upto_region 3 with (first
  | (go_at_call 52
     (with_reducible refine (HAW.o _ (by rw [HM.o];exact HBE.o _ (Below.refl _ _))).mono ?_)
     rintro e w2 ⟨rfl,h2⟩
     have H2:Hid (Below (M+3) W w2):=hid (HST.o _ _ (Below.refl _ _) h2)
     clear h2))
 obtain ⟨s0,s1⟩:=HSC.o _ H2.o
 by_cases hn:SV B H∧H≤2
 rotate_left
 ·have HNB:=hid (fun V=>newWorld_bad B H hn V)
  clear hn
  go_wp2_with (first
   | (go_at_call 53
      (with_reducible refine (HNB.o _).mono ?_)
      rintro e w3 ⟨rfl,h3⟩
      have H3:Hid (Below (M+3) W w3):=hid (HST.o _ _ H2.o h3)
      clear h3))
  go_ret
  exact ⟨rfl,by rw [HM.o];exact HBE.o _ H3.o⟩
 obtain ⟨hsv,hh2⟩:=hn
 obtain ⟨b,t,rfl,rfl,hb,hb4,_⟩:=sv_of hsv
 have HSV:=hid hsv
 have HBB:Hid (b≤4∧t≤2):=hid ⟨hb4,by omega⟩
 have HNW:Hid (∀V,Below (M+3) W V→Calls Tryz.prog 53 #[.agg #[.int .i64 (b:Int),.int .i64 (t:Int)]] V fun e w'=> ∃P:Nat,e= .returned (.tuple #[.pointer (some ⟨P,0,none⟩),.bool true])∧NewW V w' b t P):=hid (fun V h=>newWorld_ok b t hb hb4 HBB.o.2 V (HLD.o.later (by rw [HM.o];exact HBE.o V h) (Nat.le_refl _)) (by have:=(HBE.o V h).size;have:=H3W.o;have:=HM.o;have:=h.size;have:=HWS.o;omega))
 clear hsv hh2 hb hb4
 go_upto_region 4 with (first
  | (go_at_call 53
     (with_reducible refine (HNW.o _ H2.o).mono ?_)
     rintro e w3 ⟨P,rfl,hw⟩
     have HNWW:=hid hw
     clear hw s0 s1))
 obtain ⟨G,N,pks,sds,gs,ps,vp,vs,vt,hwd,_,hNN,hPP,hb3⟩:=HNWW.o
 obtain ⟨hz1,at_,ct,rfl,hz2,hz3,hpt⟩:=ptrs_of_own hwd.sto
 obtain ⟨bt,rfl,hz4⟩:=hpt 0 (by rw [hwd.tlen];decide)
 obtain ⟨bp,cp,hvp⟩:=own_some hwd.pub (by decide)
 subst hvp
 have H3:Hid (Below (M+3) W w3):=hid (HST.o _ _ H2.o hb3)
 have HPM:Hid (M+2<P):=hid (by have:=H2.o.size;have:=HWS.o;omega)
 have HW3:Hid (∃G lss nx,WI w3 G N P b t pks sds gs ps lss nx (.slice (some ⟨bp,0,none⟩) 3 cp) vs (.slice (some ⟨bt,0,none⟩) 3 ct)∧ ∀i,i<3→ ∀l ∈ lss i,l.log.length≤0):=hid ⟨G,_,_,⟨hwd,fun i hi=>goodS_new pks,fun i hi=>by rw [List.length_map];exact hwd.plen,fun i hi d hd hh=>by rw [List.getElem_map];show pks[d]'(by rw [hwd.plen];exact hd)=_;rw [lD,lE (by rw [hwd.plen];exact hd)];rfl,HLD.o.later (by rw [HM.o];exact HBE.o _ H3.o) (Nat.le_refl _),by have:=H2.o.size;have:=HWS.o;have:=H3W.o;have:=HM.o;omega,by have:=H2.o.size;have:=HWS.o;have:=H3W.o;have:=HM.o;omega⟩,fun i hi l hl=>by obtain ⟨x,_,rfl⟩:=List.mem_map.1 hl;exact Nat.le_refl _⟩
 clear hwd hNN hPP hb3 hz1 hz2 hz3 hz4 hpt HNWW HNW HAW
 obtain ⟨e0,e1,e2,e3,e4,e5⟩:=HEC.o _ H3.o
 obtain ⟨h0,h1,h2,h3,h4,h5⟩:=HHC.o _ H3.o
 by_cases h14:L≤14
 rotate_left
 ·have h14i:(14:Int)<(L:Int):=by omega
  clear h14
  go_wp2_with fail
  go_ret
  exact ⟨rfl,by rw [HM.o];exact HBE.o _ H3.o⟩
 have h14i: ¬(14:Int)<(L:Int):=by omega
 by_cases hf0:fr<0
 ·go_wp2_with fail
  go_ret
  exact ⟨rfl,by rw [HM.o];exact HBE.o _ H3.o⟩
 by_cases hf2:2<fr
 ·go_wp2_with fail
  go_ret
  exact ⟨rfl,by rw [HM.o];exact HBE.o _ H3.o⟩
 by_cases hn1:(100:Int)<(n:Int)
 ·go_wp2_with fail
  go_ret
  exact ⟨rfl,by rw [HM.o];exact HBE.o _ H3.o⟩
 by_cases hm4:(400:Int)<(m1:Int)
 ·go_wp2_with fail
  go_ret
  exact ⟨rfl,by rw [HM.o];exact HBE.o _ H3.o⟩
 go_upto_region 7 with fail
 obtain ⟨i0,hi0⟩: ∃i:Nat,fr=(i:Int):=⟨fr.toNat,by omega⟩
 subst hi0
 have HI0:Hid (i0<3∧n≤100∧m1≤400):=hid ⟨by omega,by omega,by omega⟩
 have hi3:(i0:Int)<3:=by omega
 clear e0 e1 e2 e3 e4 e5 h0 h1 h2 h3 h4 h5 hf0 hf2 hn1 hm4
 have HME:Hid (∀V,Below P w3 V→Below (M+3) W V):=hid (fun V h=>H3.o.trans (h.mono HPM.o))
 go_loopw [15] (fun z wr=> ∃k:Nat,k≤L∧z= .int .i64 (k:Int)∧Hid (∃G lss nx,WI wr G N P b t pks sds gs ps lss nx (.slice (some ⟨bp,0,none⟩) 3 cp) vs (.slice (some ⟨bt,0,none⟩) 3 ct)∧ ∀i,i<3→ ∀l ∈ lss i,l.log.length≤k)∧Hid (Below P w3 wr)) (fun z _=>L - (intOf z).toNat)
 case atStart=>exact ⟨0,Nat.zero_le _,rfl,HW3,hid (Below.refl _ _)⟩
 case round=>
  obtain ⟨k,hk,rfl,HX,HR⟩:=hrel
  rename World=>wo
  by_cases hlt:k<L
  ·have hki:(k:Int)<(L:Int):=by omega
   obtain ⟨G,lss,nx,hX,hlen⟩:=HX.o
   have HWI:=hid hX
   have HLEN:=hid hlen
   clear HX hX hlen
   have HYL:Hid (k<ys.length):=hid (by rw [HLE.o];exact hlt)
   have HOW:=hid (HO.o.low (w':=wo) (by rw [HM.o];exact HBE.o _ (HME.o _ HR.o)))
   obtain ⟨ba,oa,ha,hop⟩: ∃b o,a=some ⟨b,o,none⟩∧OpAt wo b (o+k*9) (ys[k]'HYL.o):=by
    rcases HOW.o with h | ⟨b,o,h1,h2⟩
    ·have:=HYL.o;rw [h] at this;simp at this
    ·exact ⟨b,o,h1,h2 k HYL.o⟩
   subst ha
   obtain ⟨y,hy⟩: ∃y,y=ys[k]'HYL.o:=⟨_,rfl⟩
   rw [← hy] at hop
   clear hy
   obtain ⟨kind,at1,to1,dv1,en,dyo,ab,cb,bs,d1,d2⟩:=y
   obtain ⟨hnil,hBY,hcl⟩:=hop
   obtain ⟨nb0,hnb⟩:=ex_eq bs.length
   have HNB:=hid hnb
   have HBY:=hid hBY
   have HOP:Hid (∀V,Below wo.heap.size wo V→V.cell? ⟨ba,oa+k*9,none⟩=some (.int .i64 kind)∧V.cell? ⟨ba,oa+k*9+1,none⟩=some (.int .i64 at1)∧V.cell? ⟨ba,oa+k*9+2,none⟩=some (.int .i64 to1)∧V.cell? ⟨ba,oa+k*9+3,none⟩=some (.int .i64 dv1)∧V.cell? ⟨ba,oa+k*9+4,none⟩=some (.int .i64 en)∧V.cell? ⟨ba,oa+k*9+5,none⟩=some (.int .i64 dyo)∧V.cell? ⟨ba,oa+k*9+6,none⟩=some (.slice ab nb0 cb)∧V.cell? ⟨ba,oa+k*9+7,none⟩=some (.int .i64 d1)∧V.cell? ⟨ba,oa+k*9+8,none⟩=some (.int .i64 d2)):=hid (fun V h=>by
    have hh: ∀j,j<9→V.cell? ⟨ba,oa+k*9+j,none⟩=(OpV.cells ⟨kind,at1,to1,dv1,en,dyo,ab,cb,bs,d1,d2⟩)[j]? :=fun j hj=>by
     have h1:wo.cell? ⟨ba,oa+k*9+j,none⟩=some ((OpV.cells ⟨kind,at1,to1,dv1,en,dyo,ab,cb,bs,d1,d2⟩)[j]'hj):=(hcl j hj).trans (lE hj)
     rw [← hcl j hj]
     exact h.cell (World.block_lt_of_cell? _ _ h1)
    have g6:=hh 6 (by decide)
    simp only [OpV.cells] at g6
    rw [hnb] at g6
    exact ⟨hh 0 (by decide),hh 1 (by decide),hh 2 (by decide),hh 3 (by decide),hh 4 (by decide),hh 5 (by decide),g6,hh 7 (by decide),hh 8 (by decide)⟩)
   clear hnil hBY hcl hnb
   have HVD:=hid (fun V=>wvalid_any kind at1 to1 dv1 en dyo ab nb0 cb d1 d2 V)
   have HOD:=hid (fun V=>wown_any kind at1 to1 dv1 en dyo ab nb0 cb d1 d2 V)
   have HPO:Hid (P≤wo.heap.size):=hid (Nat.le_of_lt HWI.o.wd.lt)
   obtain ⟨x0,x1,x2,x3,x4,x5,x6,x7,x8⟩:=HOP.o _ (Below.refl _ _)
   by_cases hv:(0≤at1∧at1<3)∧(0≤to1∧to1<3)∧(0≤dv1∧dv1<3)∧(nb0:Int)≤100
   rotate_left
   ·rw [decide_eq_false hv] at HVD
    clear hv
    go_wp2_with (first
     | (go_at_call 54
        (with_reducible refine (HVD.o _).mono ?_)
        rintro e w4 ⟨rfl,h4⟩
        have H4:Hid (Below wo.heap.size wo w4):=hid h4
        clear h4 x0 x1 x2 x3 x4 x5 x6 x7 x8))
    go_roundw
    case rel=>exact ⟨k+1,hlt,by go_num,hid ⟨G,lss,nx,HWI.o.later H4.o,fun i hi l hl=>Nat.le_succ_of_le (HLEN.o i hi l hl)⟩,hid (HR.o.trans (H4.o.mono HPO.o))⟩
    case measure=>simp [intOf];omega
   rw [decide_eq_true hv] at HVD
   by_cases ho:kind=2∨dv1=at1
   rotate_left
   ·rw [decide_eq_false ho] at HOD
    clear hv ho
    go_wp2_with (first
     | (go_at_call 54
        (with_reducible refine (HVD.o _).mono ?_)
        rintro e w4 ⟨rfl,h4⟩
        have H4:Hid (Below wo.heap.size wo w4):=hid h4
        clear h4 x0 x1 x2 x3 x4 x5 x6 x7 x8
        obtain ⟨x0,x1,x2,x3,x4,x5,x6,x7,x8⟩:=HOP.o _ H4.o)
     | (go_at_call 55
        (with_reducible refine (HOD.o _).mono ?_)
        rintro e w5 ⟨rfl,h5⟩
        have H5:Hid (Below wo.heap.size wo w5):=hid (H4.o.trans (h5.mono H4.o.size))
        clear h5 x0 x1 x2 x3 x4 x5 x6 x7 x8))
    go_roundw
    case rel=>exact ⟨k+1,hlt,by go_num,hid ⟨G,lss,nx,HWI.o.later H5.o,fun i hi l hl=>Nat.le_succ_of_le (HLEN.o i hi l hl)⟩,hid (HR.o.trans (H5.o.mono HPO.o))⟩
    case measure=>simp [intOf];omega
   rw [decide_eq_true ho] at HOD
   clear ho
   obtain ⟨⟨p1,p2⟩,⟨p3,p4⟩,⟨p5,p6⟩,p7⟩:=hv
   obtain ⟨j0,rfl⟩: ∃i:Nat,at1=(i:Int):=⟨at1.toNat,by omega⟩
   obtain ⟨j1,rfl⟩: ∃i:Nat,to1=(i:Int):=⟨to1.toNat,by omega⟩
   obtain ⟨dd,rfl⟩: ∃i:Nat,dv1=(i:Int):=⟨dv1.toNat,by omega⟩
   have HD:Hid (j0<3∧j1<3∧dd<3∧nb0≤69632):=hid ⟨by omega,by omega,by omega,by omega⟩
   clear p1 p2 p3 p4 p5 p6 p7
   have HPL:Hid (∀V,Below wo.heap.size wo V→Calls Tryz.prog 56 #[.pointer (some ⟨P,0,none⟩),.agg #[.int .i64 kind,.int .i64 (j0:Int),.int .i64 (j1:Int),.int .i64 (dd:Int),.int .i64 en,.int .i64 dyo,.slice ab nb0 cb,.int .i64 d1,.int .i64 d2]] V fun e w'=> ∃(m er:Int),e= .returned (.tuple #[.int .i64 m,.int .i64 er])∧PlayO V w' G N P b t pks sds gs ps lss nx (.slice (some ⟨bp,0,none⟩) 3 cp) vs (.slice (some ⟨bt,0,none⟩) 3 ct)):=hid (fun V h=>play_any V (HWI.o.later h) HBB.o.1 kind j0 j1 dd HD.o.1 HD.o.2.1 HD.o.2.2.1 en dyo ab nb0 cb bs HNB.o HD.o.2.2.2 (HBY.o.later h) d1 d2)
   go_upto_region 8 with (first
    | (go_at_call 54
       (with_reducible refine (HVD.o _).mono ?_)
       rintro e w4 ⟨rfl,h4⟩
       have H4:Hid (Below wo.heap.size wo w4):=hid h4
       clear h4 x0 x1 x2 x3 x4 x5 x6 x7 x8
       obtain ⟨x0,x1,x2,x3,x4,x5,x6,x7,x8⟩:=HOP.o _ H4.o)
    | (go_at_call 55
       (with_reducible refine (HOD.o _).mono ?_)
       rintro e w5 ⟨rfl,h5⟩
       have H5:Hid (Below wo.heap.size wo w5):=hid (H4.o.trans (h5.mono H4.o.size))
       clear h5 x0 x1 x2 x3 x4 x5 x6 x7 x8
       obtain ⟨x0,x1,x2,x3,x4,x5,x6,x7,x8⟩:=HOP.o _ H5.o)
    | (go_at_call 56
       (with_reducible refine (HPL.o _ H5.o).mono ?_)
       rintro e w6 ⟨m,er,rfl,ho⟩
       have HPY:=hid (ho.before H5.o)
       clear ho x0 x1 x2 x3 x4 x5 x6 x7 x8))
   go_wp2_with fail
   go_roundw
   case rel=>
    have hbp:=PlayO.belowP HWI.o HPY.o
    obtain ⟨G',lss',nx',hW',hst,hkp,hlg⟩:=HPY.o
    exact ⟨k+1,hlt,by go_num,hid ⟨G',lss',nx',hW',hlg k HLEN.o⟩,hid (HR.o.trans hbp)⟩
   case measure=>simp [intOf];omega
  ·have hki: ¬(k:Int)<(L:Int):=by omega
   obtain ⟨G,lss,nx,hX,hlen⟩:=HX.o
   have HWI:=hid hX
   have HLEN:Hid (∀i,i<3→ ∀l ∈ lss i,l.log.length≤14):=hid (fun i hi l hl=>by have:=hlen i hi l hl;omega)
   clear HX hX hlen
   go_upto_region 11 with fail
   have HWV:Hid (∀V,Below wo.heap.size wo V→WI V G N P b t pks sds gs ps lss nx (.slice (some ⟨bp,0,none⟩) 3 cp) vs (.slice (some ⟨bt,0,none⟩) 3 ct)):=hid (fun V h=>HWI.o.later h)
   have HWC:Hid (∀V,Below wo.heap.size wo V→(V.cell? ⟨P,2,none⟩=some (.slice (some ⟨bp,0,none⟩) 3 cp)∧V.cell? ⟨P,4,none⟩=some (.slice (some ⟨bt,0,none⟩) 3 ct))∧(∀i,i<3→V.cell? ⟨bt,i,none⟩=some (.pointer (some ⟨ps.getD i 0,0,none⟩)))∧ ∀i,i<3→V.cell? ⟨bp,i,none⟩=some (.string (pks.getD i ByteArray.empty))):=hid (fun V h=>by
    have h1:=HWI.o.later h
    obtain ⟨_,_,c2,_,c4,_⟩:=world_cells h1.wd.row
    refine ⟨⟨c2,c4⟩,fun i hi=> ?_,fun i hi=> ?_⟩
    ·obtain ⟨_,a',c',he,_,_,hpt⟩:=ptrs_of_own h1.wd.sto
     obtain ⟨b',hb',hc⟩:=hpt i (by rw [h1.wd.tlen];exact hi)
     injection he with e1 e2 e3
     rw [← e1] at hb'
     injection hb' with hb'
     injection hb' with hb'
     rw [hb']
     exact hc
    ·exact pub_cell h1.wd.pub (by rw [h1.wd.plen];exact hi))
   have HPO:Hid (P<wo.heap.size):=hid HWI.o.wd.lt
   have HWM:Hid (∀V,Below wo.heap.size wo V→Below (M+3) W V):=hid (fun V h=>HME.o V (HR.o.trans (h.mono (Nat.le_of_lt HPO.o))))
   obtain ⟨p1,hp1⟩:=ex_eq (ps.getD i0 0)
   have HP1:=hid hp1
   clear hp1
   have HDO:Hid (Below wo.heap.size wo wo.drew):=hid (Below.refl _ _).drew
   obtain ⟨VD,hVD⟩:=ex_eq wo.drew
   rw [hVD] at HDO
   refine Kit.wp_region_gplan (fun V=>(V.cell? ⟨P,2,none⟩=some (.slice (some ⟨bp,0,none⟩) 3 cp))∧V.cell? ⟨M,0,none⟩=some (.int .i64 (b:Int))∧V.cell? ⟨M,1,none⟩=some (.int .i64 (t:Int))) [(true,0),(true,1),(true,2),(true,3),(true,4),(false,5),(true,6),(true,7),(true,8),(true,9),(true,10)] (by kernel_rfl) (by kernel_rfl) (by kernel_rfl) (by kernel_rfl) (by rw [hVD];exact ⟨(HWC.o _ HDO.o).1.1,HSC.o _ (HWM.o _ HDO.o)⟩) ?_
   rw [hVD]
   clear hVD
   have HNEW:=hid (storeNew_ok (G:=G) (s:=164) (N:=N) HSV.o (some ⟨bp,0,none⟩) cp 3 pks HWI.o.wd.plen (by decide) (by decide) HWI.o.keys VD (HWV.o _ HDO.o).pubs (HWV.o _ HDO.o).wd.own (by decide) HWI.o.wd.lim)
   iterate 5 (refine Kit.ghd (h:= ?_))
   refine Kit.gplan_op (by rfl) (by rfl) fun K hK=> ?_
   go_simp
   go_at_call 57
   with_reducible refine HNEW.o.mono ?_
   rintro e w7 ⟨pn,G2,rfl,hs7,ho7,hg7,hl7,hb7⟩
   have HS7:=hid hs7
   have HO7:=hid ho7
   have HG7:=hid hg7
   have HL7:=hid hl7
   have HB7:=hid hb7
   have H7:Hid (Below wo.heap.size wo w7):=hid (HDO.o.trans (hb7.mono HDO.o.size))
   clear hs7 ho7 hg7 hl7 hb7
   refine hK _ _ ⟨(HWC.o _ H7.o).1.1,HSC.o _ (HWM.o _ H7.o)⟩ ?_
   clear hK K
   iterate 5 (refine Kit.ghd (h:= ?_))
   refine Kit.gdn (h:=?_)
   have HMI:=hid ((HWV.o _ H7.o).missing i0 HI0.o.1 none 0 0 [] rfl (by decide) (.inl rfl))
   rw [HP1.o] at HMI
   obtain ⟨⟨_,x4⟩,x5,_⟩:=HWC.o _ H7.o
   have x6:=x5 i0 HI0.o.1
   rw [HP1.o] at x6
   clear x5
   go_upto_region 13 with (first
    | (go_at_call 58
       (with_reducible refine HMI.o.mono ?_)
       rintro e w8 ⟨v7,v8,xs,ys8,rfl,hgt,hxe,hye,hxl,hyl,hxb,hys,hb8⟩
       have HGT:=hid hgt
       have HXE:=hid hxe
       have HYE:=hid hye
       have HXB:=hid hxb
       have HYS:=hid hys
       have HYL:=hid hyl
       have HB8:=hid hb8
       have H8:Hid (Below wo.heap.size wo w8):=hid (H7.o.trans (hb8.mono H7.o.size))
       clear hgt hxe hye hxl hyl hxb hys hb8 x4 x6))
   obtain ⟨a7,c7,hv7,ho7⟩:=own_six (f:=EV.cells) (fun _=>rfl) HGT.o.es
   obtain ⟨a8,c8,hv8,ho8⟩:=own_six (f:=HV.cells) (fun _=>rfl) HGT.o.hs
   subst hv7
   subst hv8
   have HA7:=hid ho7
   have HA8:=hid ho8
   obtain ⟨nx7,hnx7⟩:=ex_eq xs.length
   obtain ⟨nh,hnh⟩:=ex_eq ys8.length
   have HNX:=hid hnx7
   have HNH:=hid hnh
   rw [hnx7,hnh]
   have hnh3:nh≤3:=by have:=HYL.o;omega
   clear ho7 ho8 hnx7 hnh
   go_upto_region 16 with fail
   go_loopw [21] (fun z wr=> ∃q:Nat,q≤nh∧z= .int .i64 (q:Int)∧Hid (Below w8.heap.size w8 wr)) (fun z _=>nh - (intOf z).toNat)
   case atStart=>exact ⟨0,Nat.zero_le _,rfl,hid (Below.refl _ _)⟩
   case round=>
    obtain ⟨q,hq',rfl,HRQ⟩:=hrel
    rename World=>wq
    have HW8:Hid (∀V,Below w8.heap.size w8 V→Below wo.heap.size wo V):=hid (fun V h=>H8.o.trans (h.mono H8.o.size))
    by_cases hqn:q<nh
    ·have hqi:(q:Int)<(nh:Int):=by omega
     have HQL:Hid (q<ys8.length):=hid (by rw [HNH.o];exact hqn)
     obtain ⟨b8,o8,ha8,hcl8⟩: ∃b o,a8=some ⟨b,o,none⟩∧ ∀j u,(sixes HV.cells ys8)[j]? =some u→w8.cell? ⟨b,o+j,none⟩=some u:=by
      rcases HA8.o with ⟨_,h⟩ | h
      ·have:=HQL.o;rw [h] at this;simp at this
      ·exact h
     subst ha8
     have HNE:=HGT.o.nh _ (List.getElem_mem HQL.o)
     have HSG:Hid ((ys8[q]'HQL.o).h.ps.length≤1000000∧(ys8[q]'HQL.o).h.qs.length≤1000000):=hid (by
      have h1:(ys8[q]'HQL.o).h ∈ missH (lss i0) [] 3:=by rw [← HYE.o];exact List.mem_map_of_mem (List.getElem_mem HQL.o)
      obtain ⟨i,hi,_,hne,he⟩:=missH_mem2 h1
      rw [he]
      exact signed_tiny (((HWI.o.good i0 HI0.o.1).good i hi).head hne).2.1)
     have hcq: ∀j,j<6→w8.cell? ⟨b8,o8+q*6+j,none⟩=(HV.cells (ys8[q]'HQL.o))[j]? :=fun j hj=>by
      have h1:=sixes_get (f:=HV.cells) (fun _=>rfl) ys8 q HQL.o j hj
      have h2:(HV.cells (ys8[q]'HQL.o))[j]? =some ((HV.cells (ys8[q]'HQL.o))[j]'hj):=lE hj
      rw [h2] at h1 ⊢
      rw [Nat.add_assoc]
      exact hcl8 _ _ h1
     obtain ⟨y,hy⟩: ∃y,y=ys8[q]'HQL.o:=⟨_,rfl⟩
     rw [← hy] at HNE HSG hcq
     clear hy hcl8
     obtain ⟨py,hpy⟩:=ex_eq y.h.ps.length
     obtain ⟨qy,hqy⟩:=ex_eq y.h.qs.length
     have HS18:Hid (∀V,Below w8.heap.size w8 V→(V.cell? ⟨M+2,0,none⟩=some (.int .i64 hd)∧V.cell? ⟨M+2,1,none⟩=some (.int .i64 hq)∧V.cell? ⟨M+2,2,none⟩=some (.string hs)∧V.cell? ⟨M+2,3,none⟩=some (.int .i64 hi)∧V.cell? ⟨M+2,4,none⟩=some (.slice a1 m1 c1)∧V.cell? ⟨M+2,5,none⟩=some (.slice a2 m2 c2))∧V.cell? ⟨b8,o8+q*6,none⟩=some (.int .i64 y.h.dev)∧V.cell? ⟨b8,o8+q*6+1,none⟩=some (.int .i64 y.h.seq)∧V.cell? ⟨b8,o8+q*6+2,none⟩=some (.string y.h.sum)∧V.cell? ⟨b8,o8+q*6+3,none⟩=some (.int .i64 y.h.idx)∧V.cell? ⟨b8,o8+q*6+4,none⟩=some (.slice y.a1 py y.c1)∧V.cell? ⟨b8,o8+q*6+5,none⟩=some (.slice y.a2 qy y.c2)):=hid (fun V h=>by
      have hh: ∀j,j<6→V.cell? ⟨b8,o8+q*6+j,none⟩=(HV.cells y)[j]? :=fun j hj=>by
       have h1:w8.cell? ⟨b8,o8+q*6+j,none⟩=some ((HV.cells y)[j]'hj):=(hcq j hj).trans (lE hj)
       rw [← hcq j hj]
       exact h.cell (World.block_lt_of_cell? _ _ h1)
      have g4:=hh 4 (by decide)
      have g5:=hh 5 (by decide)
      simp only [HV.cells] at g4 g5
      rw [hpy] at g4
      rw [hqy] at g5
      exact ⟨HHC.o _ (HWM.o _ (HW8.o _ h)),hh 0 (by decide),hh 1 (by decide),hh 2 (by decide),hh 3 (by decide),g4,g5⟩)
     have HSH:Hid (∀V,Below w8.heap.size w8 V→Calls Tryz.prog 59 #[.agg #[.int .i64 hd,.int .i64 hq,.string hs,.int .i64 hi,.slice a1 m1 c1,.slice a2 m2 c2],.agg #[.int .i64 y.h.dev,.int .i64 y.h.seq,.string y.h.sum,.int .i64 y.h.idx,.slice y.a1 py y.c1,.slice y.a2 qy y.c2]] V fun e w'=> ∃r:Bool,e= .returned (.bool r)∧Below V.heap.size V w'):=hid (fun V h=>sameHead_any hd hq hs hi a1 m1 c1 a2 m2 c2 hps hqs y.h.dev y.h.seq y.h.sum y.h.idx y.a1 py y.c1 y.a2 qy y.c2 y.h.ps y.h.qs HHM.o.1 HHM.o.2 hpy hqy (by rw [← hpy];exact HSG.o.1) (by rw [← hqy];exact HSG.o.2) V (HHP.o.1.later (by rw [HM.o];exact HBE.o _ (HWM.o _ (HW8.o _ h)))) (HHP.o.2.later (by rw [HM.o];exact HBE.o _ (HWM.o _ (HW8.o _ h)))) (HNE.later h).1 (HNE.later h).2.1)
     clear hcq HNE hpy hqy
     go_upto_region 18 with fail
     have HDQ:Hid (Below w8.heap.size w8 wq.drew):=hid HRQ.o.drew
     obtain ⟨VQ,hVQ⟩:=ex_eq wq.drew
     rw [hVQ] at HDQ
     refine Kit.wp_region_gplan (fun V=>(V.cell? ⟨M+2,0,none⟩=some (.int .i64 hd)∧V.cell? ⟨M+2,1,none⟩=some (.int .i64 hq)∧V.cell? ⟨M+2,2,none⟩=some (.string hs)∧V.cell? ⟨M+2,3,none⟩=some (.int .i64 hi)∧V.cell? ⟨M+2,4,none⟩=some (.slice a1 m1 c1)∧V.cell? ⟨M+2,5,none⟩=some (.slice a2 m2 c2))∧V.cell? ⟨b8,o8+q*6,none⟩=some (.int .i64 y.h.dev)∧V.cell? ⟨b8,o8+q*6+1,none⟩=some (.int .i64 y.h.seq)∧V.cell? ⟨b8,o8+q*6+2,none⟩=some (.string y.h.sum)∧V.cell? ⟨b8,o8+q*6+3,none⟩=some (.int .i64 y.h.idx)∧V.cell? ⟨b8,o8+q*6+4,none⟩=some (.slice y.a1 py y.c1)∧V.cell? ⟨b8,o8+q*6+5,none⟩=some (.slice y.a2 qy y.c2)) [(true,0),(true,1),(true,2),(true,3),(true,4),(false,5)] (by kernel_rfl) (by kernel_rfl) (by kernel_rfl) (by kernel_rfl) (by rw [hVQ];exact HS18.o _ HDQ.o) ?_
     rw [hVQ]
     clear hVQ
     iterate 5 (refine Kit.ghd (h:= ?_))
     refine Kit.gplan_op (by rfl) (by rfl) fun K hK=> ?_
     go_simp
     go_at_call 59
     with_reducible refine (HSH.o _ HDQ.o).mono ?_
     rintro e w9 ⟨r,rfl,h9⟩
     have H9:Hid (Below w8.heap.size w8 w9):=hid (HDQ.o.trans (h9.mono HDQ.o.size))
     clear h9
     refine hK _ _ (HS18.o _ H9.o) ?_
     clear hK K
     refine Kit.gdn (h:=?_)
     cases r
     ·go_wp2_with fail
      go_roundw
      case rel=>exact ⟨q+1,hqn,by go_num,H9⟩
      case measure=>simp [intOf];omega
     ·go_wp2_with fail
      go_ret
      exact ⟨rfl,by rw [HM.o];exact HBE.o _ (HWM.o _ (HW8.o _ H9.o))⟩
    ·have hqi: ¬(q:Int)<(nh:Int):=by omega
     go_upto_region 20 with fail
     go_cut [147] from 33 (fun c wx=>(c= .bool false∨c= .bool true∧Hid (0≤at0∧at0<(nx7:Int)))∧Hid (Below w8.heap.size w8 wx))
     case first=>
      as_aux_lemma=>
       have HDQ:Hid (Below w8.heap.size w8 wq.drew):=hid HRQ.o.drew
       obtain ⟨VZ,hVZ⟩:=ex_eq wq.drew
       rw [hVZ] at HDQ
       have HE20:Hid (∀V,Below w8.heap.size w8 V→V.cell? ⟨M+1,0,none⟩=some (.int .i64 dv)∧V.cell? ⟨M+1,1,none⟩=some (.int .i64 sq)∧V.cell? ⟨M+1,2,none⟩=some (.int .i64 kd)∧V.cell? ⟨M+1,3,none⟩=some (.int .i64 dy)∧V.cell? ⟨M+1,4,none⟩=some (.slice ea n ec)∧V.cell? ⟨M+1,5,none⟩=some (.string pv)):=hid (fun V h=>HEC.o _ (HWM.o _ (HW8.o _ h)))
       by_cases hat0:at0<0
       ·have hat0i: ¬(0:Int)≤at0:=by omega
        refine Kit.wp_region_hplan (fun V=>V.cell? ⟨M+1,0,none⟩=some (.int .i64 dv)∧V.cell? ⟨M+1,1,none⟩=some (.int .i64 sq)∧V.cell? ⟨M+1,2,none⟩=some (.int .i64 kd)∧V.cell? ⟨M+1,3,none⟩=some (.int .i64 dy)∧V.cell? ⟨M+1,4,none⟩=some (.slice ea n ec)∧V.cell? ⟨M+1,5,none⟩=some (.string pv)) [(true,0),(true,1),(true,2),(true,3),(true,4),(true,5),(true,6),(true,7),(true,8),(true,9),(true,10),(true,11),(true,12),(true,13),(false,14),(true,15),(true,16)] (by kernel_rfl) (by kernel_rfl) (by kernel_rfl) (by kernel_rfl) (by rw [hVZ];exact HE20.o _ HDQ.o) ?_
        rw [hVZ]
        clear hVZ
        iterate 14 (refine Kit.hhd (h:= ?_))
        refine Kit.hsk (h:=?_)
        iterate 2 (refine Kit.hhd (h:= ?_))
        refine Kit.hdn (h:=?_)
        (try go_wp2_with fail)
        go_meet
        case rel=>exact ⟨.inl (by first | rfl | simp),HDQ⟩
       have hat0i:(0:Int)≤at0:=by omega
       by_cases hat1:(nx7:Int)≤at0
       ·have hat1i: ¬at0<(nx7:Int):=by omega
        refine Kit.wp_region_hplan (fun V=>V.cell? ⟨M+1,0,none⟩=some (.int .i64 dv)∧V.cell? ⟨M+1,1,none⟩=some (.int .i64 sq)∧V.cell? ⟨M+1,2,none⟩=some (.int .i64 kd)∧V.cell? ⟨M+1,3,none⟩=some (.int .i64 dy)∧V.cell? ⟨M+1,4,none⟩=some (.slice ea n ec)∧V.cell? ⟨M+1,5,none⟩=some (.string pv)) [(true,0),(true,1),(true,2),(true,3),(true,4),(true,5),(true,6),(true,7),(true,8),(true,9),(true,10),(true,11),(true,12),(true,13),(false,14),(true,15),(true,16)] (by kernel_rfl) (by kernel_rfl) (by kernel_rfl) (by kernel_rfl) (by rw [hVZ];exact HE20.o _ HDQ.o) ?_
        rw [hVZ]
        clear hVZ
        iterate 14 (refine Kit.hhd (h:= ?_))
        refine Kit.hsk (h:=?_)
        iterate 2 (refine Kit.hhd (h:= ?_))
        refine Kit.hdn (h:=?_)
        (try go_wp2_with fail)
        go_meet
        case rel=>exact ⟨.inl (by first | rfl | simp),HDQ⟩
       have hat1i:at0<(nx7:Int):=by omega
       have HAT:=hid (And.intro hat0i hat1i)
       obtain ⟨ia,hia⟩: ∃i:Nat,at0=(i:Int):=⟨at0.toNat,by omega⟩
       subst hia
       have HIA:Hid (ia<xs.length):=hid (by rw [HNX.o];omega)
       clear hat0 hat1
       obtain ⟨b7,o7,ha7,hcl7⟩: ∃b o,a7=some ⟨b,o,none⟩∧ ∀j u,(sixes EV.cells xs)[j]? =some u→w8.cell? ⟨b,o+j,none⟩=some u:=by
        rcases HA7.o with ⟨_,h⟩ | h
        ·have:=HIA.o;rw [h] at this;simp at this
        ·exact h
       subst ha7
       have HNEX:=hid (HGT.o.ne _ (List.getElem_mem HIA.o))
       have hcx: ∀j,j<6→w8.cell? ⟨b7,o7+ia*6+j,none⟩=(EV.cells (xs[ia]'HIA.o))[j]? :=fun j hj=>by
        have h1:=sixes_get (f:=EV.cells) (fun _=>rfl) xs ia HIA.o j hj
        have h2:(EV.cells (xs[ia]'HIA.o))[j]? =some ((EV.cells (xs[ia]'HIA.o))[j]'hj):=lE hj
        rw [h2] at h1 ⊢
        rw [Nat.add_assoc]
        exact hcl7 _ _ h1
       obtain ⟨x,hx⟩: ∃x,x=xs[ia]'HIA.o:=⟨_,rfl⟩
       rw [← hx] at HNEX hcx
       clear hx hcl7
       obtain ⟨nbx,hnbx⟩:=ex_eq x.e.body.length
       have HNBX:=hid hnbx
       have HS20:Hid (∀V,Below w8.heap.size w8 V→(V.cell? ⟨M+1,0,none⟩=some (.int .i64 dv)∧V.cell? ⟨M+1,1,none⟩=some (.int .i64 sq)∧V.cell? ⟨M+1,2,none⟩=some (.int .i64 kd)∧V.cell? ⟨M+1,3,none⟩=some (.int .i64 dy)∧V.cell? ⟨M+1,4,none⟩=some (.slice ea n ec)∧V.cell? ⟨M+1,5,none⟩=some (.string pv))∧V.cell? ⟨b7,o7+ia*6,none⟩=some (.int .i64 x.e.dev)∧V.cell? ⟨b7,o7+ia*6+1,none⟩=some (.int .i64 x.e.seq)∧V.cell? ⟨b7,o7+ia*6+2,none⟩=some (.int .i64 x.e.kind)∧V.cell? ⟨b7,o7+ia*6+3,none⟩=some (.int .i64 x.e.day)∧V.cell? ⟨b7,o7+ia*6+4,none⟩=some (.slice x.a nbx x.c)∧V.cell? ⟨b7,o7+ia*6+5,none⟩=some (.string x.e.prev)):=hid (fun V h=>by
        have hh: ∀j,j<6→V.cell? ⟨b7,o7+ia*6+j,none⟩=(EV.cells x)[j]? :=fun j hj=>by
         have h1:w8.cell? ⟨b7,o7+ia*6+j,none⟩=some ((EV.cells x)[j]'hj):=(hcx j hj).trans (lE hj)
         rw [← hcx j hj]
         exact h.cell (World.block_lt_of_cell? _ _ h1)
        have g4:=hh 4 (by decide)
        simp only [EV.cells] at g4
        rw [hnbx] at g4
        exact ⟨HE20.o V h,hh 0 (by decide),hh 1 (by decide),hh 2 (by decide),hh 3 (by decide),g4,hh 5 (by decide)⟩)
       have HSM:Hid (∀V,Below w8.heap.size w8 V→ ∃r:Bool,Calls Tryz.prog 60 #[.agg #[.int .i64 x.e.dev,.int .i64 x.e.seq,.int .i64 x.e.kind,.int .i64 x.e.day,.slice x.a nbx x.c,.string x.e.prev],.agg #[.int .i64 dv,.int .i64 sq,.int .i64 kd,.int .i64 dy,.slice ea n ec,.string pv]] V fun e w'=>e= .returned (.bool r)∧Below V.heap.size V w'):=hid (fun V h=>⟨_,(same46_any x.e.dev x.e.seq x.e.kind x.e.day x.a nbx x.c x.e.prev x.e.body hnbx dv sq kd dy ea n ec pv ebs HEN.o V (HNEX.o.later h).2.1 (HEB.o.later (by rw [HM.o];exact HBE.o _ (HWM.o _ (HW8.o _ h))))).mono fun e w' hh=>hh⟩)
       clear hcx hnbx
       obtain ⟨r,hr⟩:=HSM.o _ HDQ.o
       have HRR:=hid hr
       clear hr
       refine Kit.wp_region_hplan (fun V=>(V.cell? ⟨M+1,0,none⟩=some (.int .i64 dv)∧V.cell? ⟨M+1,1,none⟩=some (.int .i64 sq)∧V.cell? ⟨M+1,2,none⟩=some (.int .i64 kd)∧V.cell? ⟨M+1,3,none⟩=some (.int .i64 dy)∧V.cell? ⟨M+1,4,none⟩=some (.slice ea n ec)∧V.cell? ⟨M+1,5,none⟩=some (.string pv))∧V.cell? ⟨b7,o7+ia*6,none⟩=some (.int .i64 x.e.dev)∧V.cell? ⟨b7,o7+ia*6+1,none⟩=some (.int .i64 x.e.seq)∧V.cell? ⟨b7,o7+ia*6+2,none⟩=some (.int .i64 x.e.kind)∧V.cell? ⟨b7,o7+ia*6+3,none⟩=some (.int .i64 x.e.day)∧V.cell? ⟨b7,o7+ia*6+4,none⟩=some (.slice x.a nbx x.c)∧V.cell? ⟨b7,o7+ia*6+5,none⟩=some (.string x.e.prev)) [(true,0),(true,1),(true,2),(true,3),(true,4),(true,5),(true,6),(true,7),(true,8),(true,9),(true,10),(true,11),(true,12),(true,13),(false,14),(true,15),(true,16)] (by kernel_rfl) (by kernel_rfl) (by kernel_rfl) (by kernel_rfl) (by rw [hVZ];exact HS20.o _ HDQ.o) ?_
       rw [hVZ]
       clear hVZ
       iterate 14 (refine Kit.hhd (h:= ?_))
       refine Kit.hplan_op (by rfl) (by rfl) fun K hK=> ?_
       go_simp
       go_at_call 60
       with_reducible refine HRR.o.mono ?_
       rintro e w10 ⟨rfl,h10⟩
       have H10:Hid (Below w8.heap.size w8 w10):=hid (HDQ.o.trans (h10.mono HDQ.o.size))
       clear h10
       refine hK _ _ (HS20.o _ H10.o) ?_
       clear hK K
       iterate 2 (refine Kit.hhd (h:= ?_))
       refine Kit.hdn (h:=?_)
       (try go_wp2_with fail)
       go_meet
       case rel=>
        cases r
        ·exact ⟨.inr ⟨by first | rfl | simp,HAT⟩,H10⟩
        ·exact ⟨.inl (by first | rfl | simp),H10⟩
     case rest=>
      obtain ⟨hc,HRC⟩:=hcut
      rename World=>wd
      -- the store beside the world
      have HPW:Hid (P<w8.heap.size):=hid (Nat.lt_of_lt_of_le HPO.o H8.o.size)
      have HG0:Hid (∀k,k≤P→G2 k=0):=hid (fun k hk=>by rw [HG7.o k (by have:=HDO.o.size;have:=HPO.o;omega)];exact HWI.o.lowP hk)
      have HG1:Hid (∀k,w7.heap.size≤k→G2 k=0):=hid (fun k hk=>HO7.o.hi k hk)
      have HGB:Hid (G2 bp=0):=hid (by
       have h1:bp<wo.heap.size:=(HWI.o.wd.pub.lt bp rfl).2
       rw [HG7.o bp (Nat.lt_of_lt_of_le h1 HDO.o.size)]
       exact HWI.o.wd.ptag bp rfl)
      have HN3:Hid (3≤N):=hid HWI.o.three
      have HL3:Hid ((pks.map lin0).length=3):=hid (by rw [List.length_map];exact HWI.o.wd.plen)
      have HS8:Hid (StoreAt w8 G2 164 pn (b:Int) (t:Int) (pks.map lin0)∧Own w8 G2 N):=hid ⟨HS7.o.later HB8.o,HO7.o.later HB8.o.size⟩
      have HSTO0:Hid (∃(G3:Nat→Nat) (ls1:List Lin),StoreAt wd G3 164 pn (b:Int) (t:Int) ls1∧Own wd G3 N∧GoodS (b:Int) (t:Int) ls1∧ls1.length=3∧(∀(i:Nat) (h:i<ls1.length),ls1[i].pub=pks.getD i ByteArray.empty)∧(∀l ∈ ls1,l.fork=none)∧Step G2 G3 (fun q=>164≤q) w8 wd):=hid ⟨G2,pks.map lin0,HS8.o.1.later HRC.o,HS8.o.2.later HRC.o.size,goodS_new pks,HL3.o,fun i h=>by
          rw [List.getElem_map]
          have h9:i<pks.length:=by simpa using h
          rw [lD,lE h9]
          rfl,fun l hl=>by obtain ⟨x,_,rfl⟩:=List.mem_map.1 hl;rfl,Step.of_below HRC.o G2 _⟩
      have HWDD:Hid (Below wo.heap.size wo wd):=hid (HW8.o _ HRC.o)
      obtain ⟨e0,e1,e2,e3,e4,e5⟩:=HEC.o _ (HWM.o _ HWDD.o)
      have HSTO1:Hid (∀V,Below wd.heap.size wd V→ ∃(G3:Nat→Nat) (ls1:List Lin),StoreAt V G3 164 pn (b:Int) (t:Int) ls1∧Own V G3 N∧GoodS (b:Int) (t:Int) ls1∧ls1.length=3∧(∀(i:Nat) (h:i<ls1.length),ls1[i].pub=pks.getD i ByteArray.empty)∧(∀l ∈ ls1,l.fork=none)∧Step G2 G3 (fun q=>164≤q) w8 V):=hid (fun V h=>by
       obtain ⟨G3,ls1,k1,k2,k3,k4,k5,k6,k7⟩:=HSTO0.o
       exact ⟨G3,ls1,k1.later h,k2.later h.size,k3,k4,k5,k6,k7.later h⟩)
      go_upto_if 147 with fail
      go_cut [] from 33 (fun wx=>Hid (∃(G3:Nat→Nat) (ls1:List Lin),StoreAt wx G3 164 pn (b:Int) (t:Int) ls1∧Own wx G3 N∧GoodS (b:Int) (t:Int) ls1∧ls1.length=3∧(∀(i:Nat) (h:i<ls1.length),ls1[i].pub=pks.getD i ByteArray.empty)∧(∀l ∈ ls1,l.fork=none)∧Step G2 G3 (fun q=>164≤q) w8 wx))
      case first=>
       rcases hc with rfl | ⟨rfl,HAT⟩
       ·go_wp2_with fail
        go_meet
        case rel=>exact hid (HSTO1.o wd (Below.refl _ _))
       ·as_aux_lemma=>
           obtain ⟨ia,hia⟩: ∃i:Nat,at0=(i:Int):=⟨at0.toNat,by have:=HAT.o;omega⟩
           subst hia
           have hat1i:(ia:Int)<(nx7:Int):=HAT.o.2
           have HIA:Hid (ia<xs.length):=hid (by rw [HNX.o];omega)
           obtain ⟨b7,o7,ha7,hcl7⟩: ∃b o,a7=some ⟨b,o,none⟩∧ ∀j u,(sixes EV.cells xs)[j]? =some u→w8.cell? ⟨b,o+j,none⟩=some u:=by
            rcases HA7.o with ⟨_,h⟩ | h
            ·have:=HIA.o;rw [h] at this;simp at this
            ·exact h
           subst ha7
           have HCL7:=hid hcl7
           have HNEX:=hid (HGT.o.ne _ (List.getElem_mem HIA.o))
           have hcx: ∀j,j<6→wd.cell? ⟨b7,o7+ia*6+j,none⟩=(EV.cells (xs[ia]'HIA.o))[j]? :=fun j hj=>by
            have h1:=sixes_get (f:=EV.cells) (fun _=>rfl) xs ia HIA.o j hj
            have h2:(EV.cells (xs[ia]'HIA.o))[j]? =some ((EV.cells (xs[ia]'HIA.o))[j]'hj):=lE hj
            rw [h2] at h1 ⊢
            have h3:=hcl7 _ _ h1
            rw [Nat.add_assoc]
            exact (HRC.o.cell (World.block_lt_of_cell? _ _ h3)).trans h3
           obtain ⟨x,hx⟩: ∃x,x=xs[ia]'HIA.o:=⟨_,rfl⟩
           have HXI:Hid (x=xs[ia]'HIA.o):=hid hx
           rw [← hx] at HNEX hcx
           clear hx hcl7
           have HXM:Hid (x.e ∈ missE (lss i0) [] 3):=hid (by rw [← HXE.o,HXI.o];exact List.mem_map_of_mem (List.getElem_mem HIA.o))
           have HDV:Hid (∃d:Nat,d<3∧x.e.dev=(d:Int)):=hid (by
            obtain ⟨i,hi,h3,h4,_⟩:=(missE_bef (HWI.o.good i0 HI0.o.1) 3 (by rw [HWI.o.len i0 HI0.o.1];exact Nat.le_refl _)).1 _ HXM.o
            exact ⟨i,h3,h4⟩)
           obtain ⟨⟨xd,xq,xk,xy,xb,xp⟩,xa,xc⟩:=x
           obtain ⟨d,hd3',hdd⟩:=HDV.o
           simp only at hdd
           subst hdd
           have HD3:=hid hd3'
           clear hd3'
           obtain ⟨nbx,hnbx⟩:=ex_eq xb.length
           have HNBX:=hid hnbx
           have o0:=hcx 0 (by decide)
           have o1:=hcx 1 (by decide)
           have o2:=hcx 2 (by decide)
           have o3:=hcx 3 (by decide)
           have o4:=hcx 4 (by decide)
           have o5:=hcx 5 (by decide)
           simp only [EV.cells,Nat.add_zero] at o0 o1 o2 o3 o4 o5
           rw [hnbx] at o4
           clear hcx hnbx
           go_upto_region 22 with fail
           refine wp_over (fun V=>Hid (V.heap[wd.heap.size]? =some (.cells #[.int .i64 (d:Int),.int .i64 xq,.int .i64 xk,.int .i64 xy,.slice xa nbx xc,.string xp] 92 (0,0)))∧Hid (Below wd.heap.size wd V)∧Hid (V.heap.size=wd.heap.size+1)) ⟨heap_alloc_new _ _,(Below.refl _ _).alloc (Nat.le_refl _) _,by show _=_;simp⟩ ?_
           rintro W1 ⟨HX1,HB1,HZ1⟩
           obtain ⟨Y,hY⟩:=ex_eq wd.heap.size
           have HY:=hid hY
           rw [hY] at HX1 HB1 HZ1 ⊢
           clear hY o0 o1 o2 o3 o4 o5
           have HDW:Hid (Below w8.heap.size w8 W1):=hid (HRC.o.trans (HB1.o.mono (by rw [← HY.o];exact HRC.o.size)))
           have H8Y:Hid (w8.heap.size≤Y):=hid (by rw [← HY.o];exact HRC.o.size)
           have HSRC:Hid (∀V,Below w8.heap.size w8 V→ ∀j u,(evs xs)[j]? =some u→V.cell? ((⟨b7,o7,none⟩:Addr).add j)=some u):=hid (fun V h j u hu=>by
            have h3:=HCL7.o j u hu
            rw [add_none]
            exact (h.cell (World.block_lt_of_cell? _ _ h3)).trans h3)
           have HO2:Hid ((W1.alloc (.cells #[] 92)).ownsRow W1.heap.size 92 6 (.slice (some ⟨W1.heap.size,0,none⟩) 0 0) 0 (evs [])):=hid (own_none0 _ _ _)
           have HB2:Hid (Below w8.heap.size w8 (W1.alloc (.cells #[] 92))):=hid (HDW.o.alloc HDW.o.size _)
           have HXL:Hid (nx7≤42):=hid (by
            have h1:=congrArg List.length HXE.o
            have h2:=missE_len (lss i0) [] 14 (HLEN.o i0 HI0.o.1) 3
            rw [List.length_map,HNX.o] at h1
            omega)
           go_upto_region 23 with (first
            | (at_builtin
               refine app_ents (w0:=W1.alloc (.cells #[] 92)) rfl _ _ rfl W1.heap.size (.slice (some ⟨W1.heap.size,0,none⟩) 0 0) 0 [] (by rfl) HO2.o (by simp) (by decide) ⟨b7,o7,none⟩ nx7 c7 xs (by rfl) HNX.o (by have:=HXL.o;omega) (HSRC.o _ HB2.o) (by have:=HIA.o;have:=HNX.o;omega) ?_
               intro bc cpc w22 ho22 hg22 hat22
               have HO22:=hid ho22
               have HG22:=hid hg22
               clear ho22 hg22 hat22))
           have HRS22:Hid (RowS EV.cells 92 w22 bc cpc xs∧W1.heap.size≤bc):=hid (by
            have h1:=HO22.o
            rw [List.nil_append,Nat.zero_add] at h1
            exact RowS.of h1 HNX.o)
           have HB22:Hid (Below w8.heap.size w8 w22):=hid (HB2.o.trans ((Chg.of_grown HG22.o (fun q _ e=>e.symm):Chg (fun q _=>some q=(Value.slice (some ⟨W1.heap.size,0,none⟩) 0 0).ownBlock) _ w22).below HB2.o.size (fun q i hq e=>by
            have h1:q=W1.heap.size:=Option.some.inj e
            have:=HDW.o.size
            omega)))
           (try simp only [Nat.zero_add])
           obtain ⟨r0,r1,r2,r3,r4,r5,hrx,f0,f1,f2,f3,f4,f5,lf⟩:=HRS22.o.1.six (fun _=>rfl) ia HIA.o
           clear hrx
           obtain ⟨e0,e1,e2,e3,e4,e5⟩:=HEC.o _ (HWM.o _ (HW8.o _ HB22.o))
           go_upto_region 24 with fail
           clear f0 f1 f2 f3 f4 f5 lf e0 e1 e2 e3 e4 e5
           obtain ⟨ze,hze⟩: ∃z:EV,z=⟨⟨dv,sq,kd,dy,ebs,pv⟩,ea,ec⟩:=⟨_,rfl⟩
           have HZE:=hid hze
           clear hze
           refine wp_over (fun V=>Hid (RowS EV.cells 92 V bc cpc (xs.set ia ze))∧Hid (Chg (fun q _=>q=bc) w22 V)) ⟨hid (HRS22.o.1.put (fun _=>rfl) ia HIA.o ze (by rw [HZE.o];show [_,_,_,_,Value.slice ea ebs.length ec,_]=_;rw [HEN.o])),hid (put6_chg _ _ _ _ _ _ _ _ _)⟩ ?_
           rintro W23 ⟨HR23,HC23⟩
           have HBC:Hid (w8.heap.size≤bc∧W1.heap.size≤bc):=hid ⟨by have:=HRS22.o.2;have:=HDW.o.size;omega,HRS22.o.2⟩
           have HB23:Hid (Below w8.heap.size w8 W23):=hid (HB22.o.trans (HC23.o.below HB22.o.size (fun k i hk e=>by have:=HBC.o;omega)))
           have HBY1:Hid (Below W1.heap.size W1 W23):=hid ((((Below.refl _ W1).alloc (Nat.le_refl _) _).trans ((Chg.of_grown HG22.o (fun q _ e=>e.symm):Chg (fun q _=>some q=(Value.slice (some ⟨W1.heap.size,0,none⟩) 0 0).ownBlock) _ w22).below (by simp) (fun q i hq e=>by
            have h1:q=W1.heap.size:=Option.some.inj e
            omega))).trans (HC23.o.below (by have:=HG22.o.size;simp at this;omega) (fun k i hk e=>by have:=HBC.o;omega)))
           have HWB:Hid (Below w.heap.size w W23):=hid (by rw [HM.o];exact HBE.o _ (HWM.o _ (HW8.o _ HB23.o)))
           have HLD23:Hid (Laid W23):=hid (HLD.o.later HWB.o (Nat.le_refl _))
           have HMG:=hid (storeMerge_any (G:=G2) (s:=164) (p:=pn) (N0:=N) (B:=(b:Int)) (H:=(t:Int)) (ls:=pks.map lin0) (xs.set ia ze) ys8 (some ⟨bc,0,none⟩) cpc nx7 a8 c8 nh (by rw [List.length_set];exact HNX.o) HNH.o (by have:=HXL.o;omega) (by omega) (by rw [HL3.o];decide) (by decide) HN3.o (goodS_new pks) W23 (.inr ⟨bc,0,rfl,fun j u hu=>by have h9:=HR23.o.src j u hu;rw [add_none] at h9;exact h9⟩) ((show HeadsAt w8 a8 ys8 from HA8.o).later HB23.o) (fun z hz=>by
            rcases set_mem hz with h | h
            ·have ne:=HGT.o.ne z h
             have h8:z.ok w8 G2:=⟨ne.1,ne.2.1,fun _ ad e=>HG1.o _ (ne.2.2 ad e)⟩
             exact ⟨h8.step (Step.of_below HB23.o G2 (fun _=>False)) (fun h=>h),HXB.o z h⟩
            ·rw [h,HZE.o]
             exact ⟨⟨HENI.o,HEB.o.later HWB.o,fun hb ad e=>HG0.o _ (by have:=HEB.o.blk ad e hb;have:=HPM.o;have:=HM.o;omega)⟩,by show ebs.length≤_;have:=HEN.o;have:=HI0.o.2.1;omega⟩) (fun y hy=>by
            have ne:=HGT.o.nh y hy
            have h8:y.ok w8 G2:=⟨ne.1,ne.2.1,fun _ ad e=>HG1.o _ (ne.2.2.1 ad e),fun _ ad e=>HG1.o _ (ne.2.2.2 ad e)⟩
            exact ⟨h8.step (Step.of_below HB23.o G2 (fun _=>False)) (fun h=>h),(HYS.o y hy).1.big⟩) (HS8.o.1.later HB23.o) (HS8.o.2.later HB23.o.size) HLD23.o)
           go_upto_region 25 with (first
            | (go_at_call 61
               (with_reducible refine HMG.o.mono ?_)
               rintro e w24 ⟨G4,hs4,gr,rfl,k1,k2,k3,k4,k5,k6⟩
               have HK1:=hid k1
               have HK3:=hid k3
               have HK4:=hid k4
               have HK5:=hid k5
               clear k1 k2 k3 k4 k5 k6))
           have HYL:Hid (Y<W23.heap.size∧G2 Y=0):=hid ⟨by have:=HBY1.o.size;have:=HZ1.o;omega,HG1.o Y (by have:=H8Y.o;have:=HB8.o.size;omega)⟩
           have HY24:Hid (∀V,Below w24.heap.size w24 V→V.heap[Y]? =some (.cells #[.int .i64 (d:Int),.int .i64 xq,.int .i64 xk,.int .i64 xy,.slice xa nbx xc,.string xp] 92 (0,0))):=hid (fun V h=>by
            have h1:=(HBY1.o.block Y (by have:=HZ1.o;omega)).trans HX1.o
            have h2:=(HK5.o.chg.other Y HYL.o.1 (fun i hm=>by have h3:=hm.1;rw [HYL.o.2] at h3;omega)).trans h1
            exact (h.block Y (gS h2).1).trans h2)
           have HBP24:Hid (Below P w8 w24):=hid ((HB23.o.mono (Nat.le_of_lt HPW.o)).trans (HK5.o.chg.below (by have:=HB23.o.size;have:=HPW.o;omega) (fun k i hk hm=>by
            have h3:=hm.1
            rw [HG0.o k (Nat.le_of_lt hk)] at h3
            omega)))
           have HW24:Hid (∀V,Below w24.heap.size w24 V→Below (M+3) W V):=hid (fun V h=>(HWM.o _ H8.o).trans ((HBP24.o.trans (h.mono (by have:=HBP24.o.size;have:=HPW.o;omega))).mono HPM.o))
           have HLD24:Hid (∀V,Below w24.heap.size w24 V→Laid V):=hid (fun V h=>HLD.o.later (by rw [HM.o];exact HBE.o _ (HW24.o V h)) (Nat.le_refl _))
           have HSO:Hid (∀V,Below w24.heap.size w24 V→Calls Tryz.prog 62 #[.agg #[.int .i64 (d:Int),.int .i64 xq,.int .i64 xk,.int .i64 xy,.slice xa nbx xc,.string xp]] V fun e w'=> ∃(u:ByteArray) (er:Int),e= .returned (.tuple #[.string u,.int .i64 er])∧(ValidE ⟨(d:Int),xq,xk,xy,xb,xp⟩→er=0∧nb u=sumE ⟨(d:Int),xq,xk,xy,xb,xp⟩)∧Below V.heap.size V w'):=hid (fun V h=>sum_gen ⟨(d:Int),xq,xk,xy,xb,xp⟩ xa nbx xc HNBX.o HNEX.o.1 V ((bytes_ne (HNEX.o.2.1.later HB23.o) HK5.o.chg (fun hb ad e i hm=>by
            have h3:=hm.1
            rw [HG1.o _ (HNEX.o.2.2 ad e)] at h3
            omega)).later h) (HLD24.o V h))
           have HSE:Hid (∀V,Below w24.heap.size w24 V→Calls Tryz.prog 62 #[.agg #[.int .i64 dv,.int .i64 sq,.int .i64 kd,.int .i64 dy,.slice ea n ec,.string pv]] V fun e w'=> ∃(u:ByteArray) (er:Int),e= .returned (.tuple #[.string u,.int .i64 er])∧(ValidE ⟨dv,sq,kd,dy,ebs,pv⟩→er=0∧nb u=sumE ⟨dv,sq,kd,dy,ebs,pv⟩)∧Below V.heap.size V w'):=hid (fun V h=>sum_gen ⟨dv,sq,kd,dy,ebs,pv⟩ ea n ec HEN.o HENI.o V (HEB.o.later (by rw [HM.o];exact HBE.o _ (HW24.o V h))) (HLD24.o V h))
           obtain ⟨q0,q1,q2,q3,q4,q5⟩:=row6 (HY24.o _ (Below.refl _ _))
           go_upto_region 26 with (first
            | (go_at_call 62
               (with_reducible refine (HSO.o _ (Below.refl _ _)).mono ?_)
               rintro e w25 ⟨u1,er1,rfl,hv1,h25⟩
               have HV1:=hid hv1
               have H25:=hid h25
               clear hv1 h25 q0 q1 q2 q3 q4 q5))
           obtain ⟨e0,e1,e2,e3,e4,e5⟩:=HEC.o _ (HW24.o _ H25.o)
           go_upto_region 27 with (first
            | (go_at_call 62
               (with_reducible refine (HSE.o _ H25.o).mono ?_)
               rintro e w26 ⟨u2,er2,rfl,hv2,h26⟩
               have HV2:=hid hv2
               have H26:Hid (Below w24.heap.size w24 w26):=hid (H25.o.trans (h26.mono H25.o.size))
               clear hv2 h26 e0 e1 e2 e3 e4 e5))
           have hgv: ∀s e,givenOf ((xs.set ia ze).map EV.e) s=some e→ValidE e∧sumE e=s:=fun s e he=>⟨(givenOf_some he).2.1,(givenOf_some he).2.2⟩
           have HGK:=hid (foldM_good2 (gv:=givenOf ((xs.set ia ze).map EV.e)) (B:=(b:Int)) (H:=(t:Int)) hgv (goodS_new pks) hs4)
           have HPW2:Hid (hs4.Pairwise (fun a b=>a.dev≠b.dev)):=hid ((List.Perm.pairwise_iff (fun h=>Ne.symm h) HK1.o).2 (by rw [HYE.o];exact (missH_one (HWI.o.good i0 HI0.o.1) 3 (by rw [HWI.o.len i0 HI0.o.1];exact Nat.le_refl _)).1))
           have HFN:Hid (∀l ∈ (foldM (b:Int) (t:Int) (givenOf ((xs.set ia ze).map EV.e)) (pks.map lin0) hs4).1,l.fork=none):=hid (foldM_nofork hs4 (pks.map lin0) 0 HPW2.o (fun i h=>by rw [List.getElem_map];exact ⟨rfl,fun _=>rfl⟩))
           have hchg:(xs.set ia ze).map EV.e=(missE (lss i0) [] 3).set ia ⟨dv,sq,kd,dy,ebs,pv⟩:=by rw [List.map_set,HXE.o,HZE.o]
           have HFR:Hid (∀(i:Nat) (h:i<(foldM (b:Int) (t:Int) (givenOf ((xs.set ia ze).map EV.e)) (pks.map lin0) hs4).1.length),FromH (missH (lss i0) [] 3) ((missE (lss i0) [] 3).set ia ⟨dv,sq,kd,dy,ebs,pv⟩) i ((foldM (b:Int) (t:Int) (givenOf ((xs.set ia ze).map EV.e)) (pks.map lin0) hs4).1[i])):=hid (by
            rw [hchg]
            exact foldM_from hs4 (pks.map lin0) 0 (goodS_new pks) (fun h hh=>by
             have h1:h ∈ ys8.map HV.h:=HK1.o.mem_iff.1 hh
             refine ⟨?_,by rw [← HYE.o];exact h1⟩
             obtain ⟨y,hy,rfl⟩:=List.mem_map.1 h1
             exact (HYS.o y hy).1) (fun i h=> .inl (by rw [List.getElem_map];rfl)))
           clear hgv hchg
           obtain ⟨ls2,hls2⟩:=ex_eq (foldM (b:Int) (t:Int) (givenOf ((xs.set ia ze).map EV.e)) (pks.map lin0) hs4).1
           rw [hls2] at HK3 HGK HFN HFR
           clear hls2
           have HL32:Hid (ls2.length=3):=hid (HGK.o.2.len.trans HL3.o)
           have HPB2:Hid (∀(i:Nat) (h:i<ls2.length),ls2[i].pub=pks.getD i ByteArray.empty):=hid (fun i h=>by
            have h9:i<(pks.map lin0).length:=by rw [HL3.o,← HL32.o];exact h
            rw [(HGK.o.2.line i h9 h).2.2,List.getElem_map]
            have h8:i<pks.length:=by simpa using h9
            rw [lD,lE h8]
            rfl)
           have HLG:=hid (store_log (HK3.o.later H26.o) HL32.o HGK.o.1 HD3.o)
           have HLA:Hid (logAt ls2 d=(ls2[d]'(by rw [HL32.o];exact HD3.o)).log):=hid (logAt_eq _)
           obtain ⟨LL,hLL⟩:=ex_eq (logAt ls2 d).length
           have HLL:=hid hLL
           rw [hLL] at HLG
           clear hLL
           obtain ⟨q0,q1,q2,q3,q4,q5⟩:=row6 (HY24.o _ H26.o)
           go_upto_region 28 with (first
            | (go_at_call 63
               (with_reducible refine HLG.o.mono ?_)
               rintro e w27 ⟨bl,rfl,h27⟩
               have H27:Hid (Below w24.heap.size w24 w27):=hid (H26.o.trans (h27.mono H26.o.size))
               clear h27 q0 q1 q2 q3 q4 q5))
           have HREL:Hid (∃(G3:Nat→Nat) (ls1:List Lin),StoreAt w27 G3 164 pn (b:Int) (t:Int) ls1∧Own w27 G3 N∧GoodS (b:Int) (t:Int) ls1∧ls1.length=3∧(∀(i:Nat) (h:i<ls1.length),ls1[i].pub=pks.getD i ByteArray.empty)∧(∀l ∈ ls1,l.fork=none)∧Step G2 G3 (fun q=>164≤q) w8 w27):=hid ⟨G4,ls2,HK3.o.later H27.o,HK4.o.later H27.o.size,HGK.o.1,HL32.o,HPB2.o,HFN.o,((Step.of_below HB23.o G2 _).trans (HK5.o.mono (fun q hq=>Nat.le_of_lt hq.1))).later H27.o⟩
           obtain ⟨q0,q1,q2,q3,q4,q5⟩:=row6 (HY24.o _ H27.o)
           by_cases hlen:xq≤(LL:Int)
           ·have hfs:=forged_sum (entry:=⟨dv,sq,kd,dy,ebs,pv⟩) (old:=⟨(d:Int),xq,xk,xy,xb,xp⟩) (at':=ia) (hs:=missH (lss i0) [] 3) (ls':=ls2) (HWI.o.good i0 HI0.o.1) (HWI.o.len i0 HI0.o.1) (by rw [← HXE.o,List.length_map];exact HIA.o) (by
               rw [List.getElem_of_eq HXE.o.symm,List.getElem_map,← HXI.o]) (fun h hh=>hh) (d:=d) rfl (by rw [HL32.o];exact HD3.o) (HFR.o d _) (by rw [← HLA.o,HLL.o];exact hlen)
            obtain ⟨hvo,hve,hse⟩:=hfs
            obtain ⟨hz1,hu1⟩:=HV1.o hvo
            obtain ⟨hz2,hu2⟩:=HV2.o hve
            have huu:u2=u1:=nb_inj (hu2.trans (hse.trans hu1.symm))
            subst hz1
            subst hz2
            subst huu
            clear hvo hve hse hu1 hu2
            go_wp2_with fail
            go_meet
            case rel=>exact HREL
           ·go_wp2_with fail
            go_meet
            case rel=>exact HREL
      case rest=>
       have HSTO:=hcut
       clear hcut
       rename World=>V30
       obtain ⟨G3,ls1,hst1,how1,hgd1,hl31,hpb1,hfk1,hsp1⟩:=HSTO.o
       have HSP1:=hid hsp1
       have HBP30:Hid (Below (P+1) w8 V30):=hid (HSP1.o.chg.below HPW.o (fun k i hk hm=>by have:=HG0.o k (by omega);omega))
       have HWP:Hid (Below P w3 V30):=hid (HR.o.trans ((H8.o.mono (Nat.le_of_lt HPO.o)).trans (HBP30.o.mono (Nat.le_succ _))))
       have HB30:Hid (Below (M+3) W V30):=hid (HME.o _ HWP.o)
       have HBW30:Hid (Below w.heap.size w V30):=hid (by rw [HM.o];exact HBE.o _ HB30.o)
       have HXO:Hid (∀x ∈ xs,x.ok V30 G3∧x.e.body.length≤1000000000):=hid (fun x hx=>by
        have ne:=HGT.o.ne x hx
        have h8:x.ok w8 G2:=⟨ne.1,ne.2.1,fun _ ad e=>HG1.o _ (ne.2.2 ad e)⟩
        exact ⟨h8.step HSP1.o (by omega),HXB.o x hx⟩)
       have HYO:Hid (HV.ok V30 G3 ⟨⟨hd,hq,hs,hi,hps,hqs⟩,a1,c1,a2,c2⟩):=hid (by
        have hw8:Below w.heap.size w w8:=by rw [HM.o];exact HBE.o _ (HWM.o _ H8.o)
        have hPM:w.heap.size≤P:=by have:=HPM.o;have:=HM.o;omega
        have h8:HV.ok w8 G2 ⟨⟨hd,hq,hs,hi,hps,hqs⟩,a1,c1,a2,c2⟩:=⟨HHP.o.1.later hw8,HHP.o.2.later hw8,fun hb ad e=>HG0.o _ (by have:=HHP.o.1.blk ad e hb;omega),fun hb ad e=>HG0.o _ (by have:=HHP.o.2.blk ad e hb;omega)⟩
        exact h8.step HSP1.o (by omega))
       have HXE30:Hid (EVsAt V30 a7 xs):=hid (by
        rcases HA7.o with h | ⟨b7,o7,h1,h2⟩
        ·exact .inl h
        ·refine .inr ⟨b7,o7,h1,fun j u hu=>HSP1.o.chg.cell (h2 j u hu) (fun hm=> ?_)⟩
         have h3:=HGT.o.es.lt b7 (by rw [h1];rfl)
         have h4:=HG1.o b7 h3.1
         omega)
       have HXL:Hid (nx7≤4096):=hid (by
        have h1:=congrArg List.length HXE.o
        have h2:=missE_len (lss i0) [] 14 (HLEN.o i0 HI0.o.1) 3
        rw [List.length_map,HNX.o] at h1
        omega)
       have hrow:V30.heap[P]? =w8.heap[P]? :=HBP30.o.block P (Nat.lt_succ_self _)
       obtain ⟨_,_,hcp,_⟩:=world_cells (hrow.trans (HWV.o _ H8.o).wd.row)
       go_step
       exact forged_rest b t N P M pn bp cp hd hq hs hi a1 m1 c1 a2 m2 c2 hps hqs HHM.o.1 HHM.o.2 HHB.o.1 HHB.o.2 xs a7 nx7 c7 HNX.o HXL.o pks G3 ls1 V30 hst1 how1 HN3.o hgd1 hl31 hpb1 hfk1 (by have:=HBP30.o.size;have:=HPW.o;omega) (fun k hk=>(HSP1.o.tag k (by have:=HPW.o;omega)).trans (HG0.o k (Nat.le_of_lt hk))) ⟨HHC.o _ HB30.o,HSC.o _ HB30.o,hcp⟩ (fun i hi=>HSP1.o.chg.cell (pub_cell (HWV.o _ H8.o).wd.pub (i:=i) (by rw [HWI.o.wd.plen];exact hi)) (fun hm=>by have:=HGB.o;omega)) (HHP.o.1.later HBW30.o) (HHP.o.2.later HBW30.o) (HLD.o.later HBW30.o (Nat.le_refl _)) HXO.o HYO.o HXE30.o (fun w'=>Below w.heap.size w w') (fun w' h=>by rw [HM.o];exact HBE.o _ (HME.o _ (HWP.o.trans h))) _ _ _ _ _ _ _ _ _ _ _ _ _ _ _ _ _ _ _ _ _ _ _ _ _ _ _ _ _ _ _ _ _ _ _ _ _ _ _ _ _ _ _ _ _ _ _ _ _ _ _ _ _ _ _ _ _ _ _ _ _ _ _ _ _ _ _ _ _ _ _ _ _ _ _ _ _ _ _ _ _ _ _ _ _ _ _ _ _ _ _ _ _ _ _ _ _ _ _ _ _ _ _ _ _ _ _ _ _ _ _ _ _ _ _ _ _ _ _ _ _ _ _ _ _ _ _ _ _ _ _ _ _ _ _ _ _ _ _ _ _ _ _ _ _ _ _ _ _ _ _ _ _ _ _ _ _ _ _ _ _ _ _ _ _ _ _ _ _ _ _ _ _ _ _ _ _ _ _ _ _ _ _ _ _ _ _ _ _ _ _ _ _ _ _ _ _ _ _ _ _ _ _ _ _ _ _ _ _ _ _ _ _ _ _ _ _ _ _ _ _ _ _ _ _ _ _ _ _ _ _ _ _ _ _ _ _ _ _ _ _ _ _ _ _ _ _ _ _ _ _ _ _ _ _ _ _ _ _ _ _ _ _ _ _ _ _ _ _ _

end Go.Proofs.YtndlihclgdkpaaaGreatDoor

/- receipt: Issue. -/
import Derived.Test.YtndlihclgdkpaaaGreatDoorGf
import Derived.Test.YtndlihclgdkpaaaGreatDoorGg
import Derived.Test.YtndlihclgdkpaaaGreatDoorGj
import Derived.Test.YtndlihclgdkpaaaGreatDoorGk
set_option linter.unusedVariables false
set_option linter.unusedSimpArgs false
open Go.Lib (hid)
namespace Go.Proofs.YtndlihclgdkpaaaGreatDoor
open Go.RowKit
open Kit (Chg)
open Sha (v)
open Go.Proofs.YtndlihclgdkpaaaGreatDoor.One

def zeroPr:Pr:=⟨0,ByteArray.empty,0,0⟩
def baseR (hol day ser L k:Nat) (p:Pr):Rc:=⟨(hol:Int),p.v,p.s,p.i,p.z,(day:Int),((ser+k:Nat):Int),(L:Int),(k:Int),ByteArray.empty,[],0,[],[]⟩
def baseV (hol day ser L k:Nat) (p:Pr):RcV:=⟨baseR hol day ser L k p,none,0,none,0,none,0⟩
def basesV (hol day ser L:Nat) (ps:List Pr) (k:Nat):List RcV:=(List.range k).map fun i=>baseV hol day ser L i (ps.getD i zeroPr)
theorem basesV_len (hol day ser L:Nat) (ps:List Pr) (k:Nat):(basesV hol day ser L ps k).length=k:=by simp [basesV]
theorem basesV_succ (hol day ser L:Nat) (ps:List Pr) (k:Nat):basesV hol day ser L ps (k+1)=basesV hol day ser L ps k++[baseV hol day ser L k (ps.getD k zeroPr)]:=by
 unfold basesV
 rw [List.range_succ,List.map_append]
 rfl
theorem set_nextG {α:Type} {vs:List α} {k L:Nat} (z y:α) (hv:vs.length=k) (hk:k<L):(vs++List.replicate (L - k) z).set k y=(vs++[y])++List.replicate (L - (k+1)) z:=by
 subst hv
 rw [List.set_append_right _ _ (Nat.le_refl _),Nat.sub_self,show L - vs.length=(L - (vs.length+1))+1 by omega,List.replicate_succ,List.set_cons_zero]
 simp
theorem getElem_rep {α:Type} {vs:List α} {k L:Nat} (z:α) (hv:vs.length=k) (hk:k<L) (h:k<(vs++List.replicate (L - k) z).length):(vs++List.replicate (L - k) z)[k]=z:=by
 subst hv
 rw [List.getElem_append_right (Nat.le_refl _)]
 simp
theorem getElem_mid {α:Type} {vs rs:List α} {k:Nat} {y:α} (hv:vs.length=k) (h:k<((vs++[y])++rs).length):((vs++[y])++rs)[k]=y:=by
 subst hv
 rw [List.getElem_append_left (by simp),List.getElem_append_right (Nat.le_refl _)]
 simp
theorem strV_cell {w:World} {b k:Nat} {ss:List ByteArray} {f:Nat × Nat} (h:w.heap[b]? =some (.cells (strV ss).toArray 9 f)) (hk:k<ss.length):w.cell? ⟨b,k,none⟩=some (.string ss[k]):=(cell_of_row _ _ _ _ _ _ h).trans (by
 unfold strV
 simp [hk])
def leavesP (hol day ser L:Nat) (ps:List Pr):List (List Nat):=(List.range L).map fun i=>leafR (baseR hol day ser L i (ps.getD i zeroPr))
theorem leavesP_of {hol day ser L:Nat} {ps:List Pr} {vs:List ByteArray} (hv:vs.length=L) (h: ∀i (h:i<vs.length),nb vs[i]=leafR (baseR hol day ser L i (ps.getD i zeroPr))∧vs[i].size=32):vs.map nb=leavesP hol day ser L ps:=by
 refine List.ext_getElem (by simp [leavesP,hv]) fun i h1 h2=> ?_
 rw [List.length_map] at h1
 simp only [List.getElem_map,leavesP,List.getElem_range]
 exact (h i h1).1
theorem SignerAt.row {w w':World} {B g b t next bo:Nat} {seed pk:ByteArray} {c:Array Value} {f:Nat × Nat} (h:SignerAt w B g b t seed pk next) (hc:Chg (fun q _=>q=bo) w w') (hq:w.heap[bo]? =some (.cells c 47 f)):SignerAt w' B g b t seed pk next:=by
 obtain ⟨gt,ls,hR,hT,hO⟩:=h.ex
 have hne:g≠bo:=fun e=>by
  subst e
  have h1:=hR.symm.trans hq
  injection h1 with h1
  injection h1 with _ h2
  exact absurd h2 (by decide)
 exact ⟨⟨gt,ls,(hc.other g (gS hR).1 (fun i e=>hne e)).trans hR,chg_tree hT hc (fun k i e=>e) hq (by decide) (by decide) (by decide),hO⟩,h.base,h.pk,h.bits,h.size,h.height,h.next⟩
theorem sg_base {hol day ser L k:Nat} {p:Pr} (h1:hol≤11) (h2:day≤999999) (h3:ser+k≤1099511627776) (h4:p.good=true):SgV (baseR hol day ser L k p):=by
 refine ⟨?_,?_,goodP_iff.1 h4,?_,?_,?_,?_⟩<;> simp only [baseR]<;> omega
def outR (hol day ser L:Nat) (ps:List Pr) (root:ByteArray) (si:Int) (pt sq:List ByteArray) (pth:Nat→List ByteArray) (k:Nat):Rc:={ baseR hol day ser L k (ps.getD k zeroPr) with root:=root,path:=pth k,si:=si,parts:=pt,sp:=sq }
def pthR (hol day ser L:Nat) (ps:List Pr) (k:Nat):List ByteArray:=(Mrk.pathM k (leavesP hol day ser L ps)).map strB
def RcV.off (x:RcV) (b:Nat):Prop:=(∀ad,x.a1=some ad→ad.block≠b)∧(∀ad,x.a2=some ad→ad.block≠b)∧(∀ad,x.a3=some ad→ad.block≠b)∧x.r.path.length≤x.c1
theorem RcV.ok.keep {w w':World} {b:Nat} {x:RcV} (h:x.ok w) (hc:Chg (fun q _=>q=b) w w') (ho:x.off b):x.ok w':=⟨h.n1,h.n2,h.n3,h.s1.keep hc (fun ad e _ i hm=>ho.1 ad e hm),h.s2.keep hc (fun ad e _ i hm=>ho.2.1 ad e hm),h.s3.keep hc (fun ad e _ i hm=>ho.2.2.1 ad e hm)⟩
theorem RowN.putAt {α:Type} {f:α→List Value} {n:Nat} {T:TypeId} (hf: ∀x,(f x).length=n) {w:World} {bl cap:Nat} {xs:List α} (h:RowN f n T w bl cap xs) (k:Nat) (hk:k<xs.length) (y:α) (j:Nat) (vs:List Value) (hj:j≤n) (hy:f y=(f xs[k]).take j++vs):RowN f n T (putL bl (k*n+j) vs w) bl cap (xs.set k y):=by
 obtain ⟨r,hg,h1,h2,h3⟩:=h
 refine ⟨r,?_,by rw [List.length_set];exact h1,h2,?_⟩
 ·have hl:((xs.take k).flatMap f++(f xs[k]).take j).length=k*n+j:=by rw [List.length_append,rw_len hf,List.length_take,List.length_take,hf,Nat.min_eq_left (by omega),Nat.min_eq_left hj]
  have e1:(xs.flatMap f++r)=((xs.take k).flatMap f++(f xs[k]).take j)++((f xs[k]).drop j++((xs.drop (k+1)).flatMap f++r)):=by
   have e2:=List.take_append_drop j (f xs[k])
   rw [rw_cut xs k hk]
   generalize (f xs[k]).take j=A,(f xs[k]).drop j=B at e2
   rw [← e2]
   simp only [List.append_assoc]
  rw [e1] at hg
  have h4:=putL_mid vs _ ((f xs[k]).drop j) _ w hg (by have:=hf y;rw [hy,List.length_append,List.length_take,hf,Nat.min_eq_left hj] at this;rw [List.length_drop,hf];omega)
  rw [hl] at h4
  rw [rw_set xs k hk y,hy]
  simpa only [List.append_assoc] using h4
 ·rw [List.length_append,rw_len hf] at h3 ⊢
  rw [List.length_set]
  exact h3
theorem putL_chgI {N:Nat}: ∀(vs:List Value) (i:Nat) (w:World),Chg (fun q x=>q=N∧i≤x∧x<i+vs.length) w (putL N i vs w)
 | [],i,w=>Chg.refl _ _
 | v::vs,i,w=>(Chg.setCell1 (M:=fun q x=>q=N∧i≤x∧x<i+(v::vs).length) w N i v ⟨rfl,Nat.le_refl _,by simp⟩).trans ((putL_chgI vs (i+1) _).mono (fun k x _ h=>⟨h.1,by omega,by have:=h.2.2;simp only [List.length_cons];omega⟩))
theorem StrsAt.putL_off {w:World} {a:Option Addr} {ss:List ByteArray} (h:StrsAt w a ss) (hz: ∀s ∈ ss,s.size=32) (N i:Nat) (vs:List Value) (hc: ∀j,j<vs.length→ ∀s:ByteArray,w.cell? ⟨N,i+j,none⟩=some (.string s)→s.size≠32):StrsAt (putL N i vs w) a ss:=by
 rcases h with h | ⟨b,o,e,h⟩
 ·exact .inl h
 ·refine .inr ⟨b,o,e,fun x hx=>(putL_chgI vs i w).cell (h x hx) ?_⟩
  rintro ⟨rfl,h1,h2⟩
  have h3:=h x hx
  rw [show o+x=i+(o+x - i) by omega] at h3
  exact hc _ (by omega) _ h3 (hz _ (by rw [lD,lE hx];exact List.getElem_mem _))
theorem Laid.low3' {w:World} (h:Laid w):3≤w.heap.size:=by
 have h1: 1 <w.heap.size:=World.block_lt_of_cell? w _ h.pad0
 have h2: 2 <w.heap.size:=World.block_lt_of_cell? w _ (h.kon 0 (by decide))
 omega
theorem map_strB (l:List ByteArray):(l.map nb).map strB=l:=by
 induction l with
 | nil=>rfl
 | cons x l ih=>rw [List.map_cons,List.map_cons,strB_nb,ih]
def batchP (b t:Nat) (sd:List Nat) (next hol day ser:Nat) (ps:List Pr):List Rc:=(List.range ps.length).map (outR hol day ser ps.length ps (strB (Mrk.rootM (leavesP hol day ser ps.length ps))) (next:Int) ((sigParts b sd next (batchR (Mrk.rootM (leavesP hol day ser ps.length ps)) ps.length)).map strB) ((sigPath b sd t next).map strB) (pthR hol day ser ps.length ps))
set_option maxRecDepth 100000 in
set_option maxHeartbeats 4000000 in
theorem issue_ok {B g b t next:Nat} {seed pk:ByteArray} (hol day ser:Nat) (a:Option Addr) (c L:Nat) (ps:List Pr) (hLe:ps.length=L) (hL1:1≤L) (hL9:L≤256) (hh:hol≤11) (hd:day≤999999) (hs:ser+(L - 1)≤1099511627776) (hg:allGood ps=true) (hn:next<2 ^ t) (hg3:3≤g) (w:World) (hS:SignerAt w B g b t seed pk next) (hLd:Laid w) (hP:PrsAt w a ps):
    Calls Tryz.prog 18 #[.pointer (some ⟨g,0,none⟩),.int .i64 (hol:Int),.int .i64 (day:Int),.int .i64 (ser:Int),.slice a L c] w fun e w'=> ∃bo xs,e= .returned (.tuple #[.slice (some ⟨bo,0,none⟩) L L,.int .i64 0])∧w.heap.size≤bo∧xs.map RcV.r=batchP b t (nb seed) next hol day ser ps∧(∀x ∈ xs,x.ok w'∧x.off bo)∧RowN RcV.cells 14 47 w' bo L xs∧SignerAt w' B g b t seed pk (next+1)∧Chg (fun q i=>q=g∧i=6) w w':=by
 have HW1:=hid (fun w=>withinR_any (hol:Int) 0 11 w)
 have HW2:=hid (fun w=>withinR_any (day:Int) 0 999999 w)
 have HW3:=hid (fun w=>withinR_any (L:Int) 1 256 w)
 rw [inB_iff.2 ⟨by omega,by omega⟩] at HW1 HW2 HW3
 have HCT:=hid (containsPr_any a c L ps hLe (by omega) w hP)
 rw [hg] at HCT
 have HLF:Hid (∀V,Below w.heap.size w V→Calls Tryz.prog 74 #[.pointer (some ⟨g,0,none⟩)] V fun e w'=>e= .returned (.int .i64 ((2 ^ t - next:Nat):Int))∧Below V.heap.size V w'):=hid (fun V h=>signerLeft_any V (hS.later h))
 obtain ⟨m,hm⟩:=ex_eq (2 ^ t - next)
 have hm0:((m:Int)==0)=false:=by rw [beq_eq_false_iff_ne];omega
 rw [hm] at HLF
 have HGP:Hid (∀k (h:k<ps.length),ps[k].good=true):=hid (fun k h=>(List.all_eq_true.1 hg) _ (List.getElem_mem h))
 have HHD:Hid (hol≤11∧day≤999999∧ser+(L - 1)≤1099511627776):=hid ⟨hh,hd,hs⟩
 have HLE:=hid hLe
 have HSG:=hid hS
 have HLD:=hid hLd
 have HPR:=hid hP
 have HNX:=hid hn
 have HG3:=hid hg3
 clear hg3
 have hs0: ¬(ser:Int)<0:=by omega
 have hs2: ¬(1099511627776:Int) - ((L:Int) - 1)<(ser:Int):=by omega
 have hs3:(ser:Int)≤1099511627776:=by omega
 have hmk1:=fun W=>mk_rcs L (by omega) W
 have hmk2:=fun W=>mk_strs L (by omega) W
 clear hLe hh hd hs hg hn hS hLd hP hm
 go_enter Tryz.func18,Tryz.ntmps18
 go_upto_region 9 with (first
  | (go_at_call 85
     (with_reducible refine (HW1.o _).mono ?_)
     rintro e w2 ⟨rfl,rfl⟩)
  | (go_at_call 85
     (with_reducible refine (HW2.o _).mono ?_)
     rintro e w2 ⟨rfl,rfl⟩)
  | (go_at_call 85
     (with_reducible refine (HW3.o _).mono ?_)
     rintro e w2 ⟨rfl,rfl⟩)
  | (go_at_call 86
     (with_reducible refine HCT.o.mono ?_)
     rintro e w6 ⟨rfl,h6⟩
     have H6:=hid h6
     clear h6)
  | (go_at_call 74
     (with_reducible refine (HLF.o _ H6.o).mono ?_)
     rintro e w7 ⟨rfl,h7⟩
     have H7:Hid (Below w.heap.size w w7):=hid (H6.o.trans (h7.mono H6.o.size))
     clear h7))
 go_upto_region 11 with fail
 refine wp_over (fun V=>Hid (V.heap[w7.heap.size]? =some (.cells ((List.replicate L zeroRV).flatMap RcV.cells).toArray 47 (0,0)))∧Hid (V.heap[w7.heap.size+1]? =some (.cells (strV (List.replicate L ByteArray.empty)).toArray 9 (0,0)))∧Hid (Below w7.heap.size w7 V)∧Hid (V.heap.size=w7.heap.size+2)) ⟨two_rows1,two_rows2,two_below,two_size⟩ ?_
 rintro W ⟨HG1,HG2,HB,HWS⟩
 obtain ⟨bo,hbo⟩:=ex_eq w7.heap.size
 obtain ⟨bl,hbl⟩:=ex_eq (w7.heap.size+1)
 have HBB:Hid (w7.heap.size=bo∧bl=bo+1):=hid ⟨hbo,by omega⟩
 have HWS:Hid (W.heap.size=bl+1):=hid (by have:=HWS.o;omega)
 rw [hbl] at HG2 ⊢
 rw [hbo] at HG1 HB ⊢
 have HR1:Hid (RowN RcV.cells 14 47 W bo L (basesV hol day ser L ps 0++List.replicate (L - 0) zeroRV)):=hid (mk_rows L (by omega) HG1.o)
 clear hbo hbl HG1
 clear hmk1 hmk2
 go_upto_region 12 with fail
 go_loopw [59] (fun y wr=> ∃k:Nat,k≤L∧y= .int .i64 (k:Int)∧Hid (RowN RcV.cells 14 47 wr bo L (basesV hol day ser L ps k++List.replicate (L - k) zeroRV))∧Hid (∃vs:List ByteArray,vs.length=k∧(∀i (h:i<vs.length),nb vs[i]=leafR (baseR hol day ser L i (ps.getD i zeroPr))∧vs[i].size=32)∧wr.heap[bl]? =some (.cells (strV (vs++List.replicate (L - k) ByteArray.empty)).toArray 9 (0,0)))∧Hid (Below bo w7 wr)∧Hid (bl+1≤wr.heap.size)) (fun y _=>L - (intOf y).toNat)
 case atStart=>exact ⟨0,Nat.zero_le _,rfl,HR1,hid ⟨[],rfl,fun i h=>by simp at h,HG2.o⟩,HB,hid (Nat.le_of_eq HWS.o.symm)⟩
 case round=>
  obtain ⟨k,hk,rfl,HRO,HRS,HRB,HRZ⟩:=hrel
  by_cases hlt:k<L
  rotate_left
  ·have hki: ¬(k:Int)<(L:Int):=by omega
   have hke:k=L:=by omega
   obtain ⟨vs,hv1,hv2,hv3⟩:=HRS.o
   have HBW:Hid (∀V,Below bo w7 V→Below w.heap.size w V):=hid (fun V h=>H7.o.trans (h.mono (by have:=H7.o.size;have:=HBB.o;omega)))
   have HV1:Hid (vs.length=L):=hid (hv1.trans hke)
   have HV32:Hid (∀s ∈ vs,s.size=32):=hid (fun s hs=>by
    obtain ⟨i,hi,rfl⟩:=List.mem_iff_getElem.1 hs
    exact (hv2 i hi).2)
   have HVN:Hid (vs.map nb=leavesP hol day ser L ps):=hid (leavesP_of (hv1.trans hke) hv2)
   have HR2:Hid (RowN RcV.cells 14 47 wr bo L (basesV hol day ser L ps L)):=hid (by have h:=HRO.o;rw [hke,Nat.sub_self,List.replicate_zero,List.append_nil] at h;exact h)
   rw [hke,Nat.sub_self,List.replicate_zero,List.append_nil] at hv3
   have HVS:Hid (StrsAt wr (some ⟨bl,0,none⟩) vs):=hid (strs_of_row (t:=9) hv3)
   have HLW:Hid (Laid wr):=hid (HLD.o.later (HBW.o _ HRB.o) (Nat.le_refl _))
   have HSW:Hid (SignerAt wr B g b t seed pk next):=hid (HSG.o.later (HBW.o _ HRB.o))
   have HWR:=HRB
   have HWZ:=HRZ
   clear hke hv1 hv2 hv3 HRO HRS HRB HRZ hk
   go_upto_region 18 with (first
    | (go_at_call 90
       (with_reducible refine (rootM_ok L hL1 hL9 (some ⟨bl,0,none⟩) L vs HV1.o (Nat.le_refl _) HV32.o _ HVS.o HLW.o).mono ?_)
       rintro e wa ⟨ro,rfl,hro,hz,ha⟩
       have HRO:=hid hro
       have HRZ:=hid hz
       have HA:=hid ha
       clear hro hz ha))
   have HBD:Hid (Calls Tryz.prog 92 #[.string ro,.int .i64 (L:Int)] wa fun e w'=> ∃u:ByteArray,e= .returned (.string u)∧nb u=batchR (nb ro) L∧u.size=32∧Below wa.heap.size wa w'):=hid (batch_ok ro HRZ.o L (by omega) _ rfl wa (HLW.o.later HA.o (Nat.le_refl _)))
   go_upto_region 19 with (first
    | (go_at_call 92
       (with_reducible refine HBD.o.mono ?_)
       rintro e wb ⟨dg,rfl,hdg,hz,hb⟩
       have HDG:=hid hdg
       have HDZ:=hid hz
       have HB2:Hid (Below wr.heap.size wr wb):=hid (HA.o.trans (hb.mono HA.o.size))
       clear hdg hz hb)
    | (go_at_call 91
       (with_reducible refine (signerSign_ok dg HDZ.o HNX.o _ (HSW.o.later HB2.o) (HLW.o.later HB2.o (Nat.le_refl _))).mono ?_)
       rintro e wc ⟨x,pt,sq,rfl,hx,hpt,hsq,hsg,hch⟩
       obtain ⟨aq,n2,c2,ar,n3,c3,rfl,hn2,hs2,hn3,hs3⟩:=hx
       have HPT:=hid hpt
       have HSQ:=hid hsq
       have HSC:=hid hsg
       have HCH:=hid hch
       have HN2:=hid hn2
       have HN3:=hid hn3
       have HS2:=hid hs2
       have HS3:=hid hs3
       clear hpt hsq hsg hch hn2 hn3 hs2 hs3))
   refine wp_over (fun V=>Hid (V.heap[wc.heap.size]? =some (.cells #[.int .i64 next,.slice aq n2 c2,.slice ar n3 c3] 45 (0,0)))∧Hid (Below wc.heap.size wc V)∧Hid (V.heap.size=wc.heap.size+1)) ⟨heap_alloc_new _ _,(Below.refl _ _).alloc (Nat.le_refl _) _,by show _=_;simp⟩ ?_
   rintro X ⟨HXG,HXB,HXZ⟩
   obtain ⟨N,hN⟩:=ex_eq wc.heap.size
   have HN:=hid hN
   rw [hN] at HXG HXZ ⊢
   clear hN
   have HGB:Hid (g<bo):=hid (by have:=HSG.o.lt;have:=H7.o.size;have:=HBB.o;omega)
   have HWC:Hid (wb.heap.size≤wc.heap.size):=hid HCH.o.size
   have HNN:Hid (n2≤269∧n3≤8∧(∀s ∈ pt,s.size=32)∧ ∀s ∈ sq,s.size=32):=hid (by
    have hb:=HSG.o.bits
    have e1:=congrArg List.length HPT.o
    have e2:=congrArg List.length HSQ.o
    rw [List.length_map,sigParts_len b hb _ _ _ (by rw [nb_length];exact HDZ.o)] at e1
    rw [List.length_map,sigPath_len] at e2
    refine ⟨by have:=HN2.o;have:=count_le (n:=32) hb (Nat.le_refl _);omega,by have:=HN3.o;have:=HSG.o.height;omega,fun s hs=> ?_,fun s hs=> ?_⟩
    ·have h:=sigParts_32 b (nb seed) next (nb dg) (nb s) (by rw [← HPT.o];exact List.mem_map_of_mem hs)
     rw [nb_length] at h
     exact h
    ·have h:=sigPath_32 b (nb seed) t next (nb s) (by rw [← HSQ.o];exact List.mem_map_of_mem hs)
     rw [nb_length] at h
     exact h)
   have HXR:Hid (RowN RcV.cells 14 47 X bo L (basesV hol day ser L ps L)):=hid (((HR2.o.later HB2.o).keep (HCH.o.other bo (by have:=HWZ.o;have:=HBB.o;have:=HB2.o.size;omega) (fun i e=>by have:=HGB.o;omega))).later HXB.o)
   have HXV:Hid (StrsAt X (some ⟨bl,0,none⟩) vs):=hid (((HVS.o.later HB2.o).keep HCH.o (fun ad e _ i h=>by cases e;have:=HGB.o;have:=HBB.o;simp only at h;omega)).later HXB.o)
   have HXS:=hid (HSC.o.later HXB.o)
   have HX2:=hid (HS2.o.later HXB.o)
   have HX3:=hid (HS3.o.later HXB.o)
   go_upto_region 20 with fail
   go_loopw [107] (fun y wq=> ∃k:Nat,k≤L∧y= .int .i64 (k:Int)∧Hid (∃dn:List RcV,dn.length=k∧dn.map RcV.r=(List.range k).map (outR hol day ser L ps ro (next:Int) pt sq (pthR hol day ser L ps))∧(∀x ∈ dn,x.ok wq∧x.off bo)∧RowN RcV.cells 14 47 wq bo L (dn++(basesV hol day ser L ps L).drop k))∧Hid (Chg (fun q _=>q=bo) X wq)∧Hid (StrsAt wq aq pt∧StrsAt wq ar sq)) (fun y _=>L - (intOf y).toNat)
   case atStart=>exact ⟨0,Nat.zero_le _,rfl,hid ⟨[],rfl,rfl,fun x h=>by simp at h,by simpa using HXR.o⟩,hid (Chg.refl _ _),hid ⟨HX2.o,HX3.o⟩⟩
   case round=>
    obtain ⟨k,hk,rfl,HDN,HDC,HDS⟩:=hrel
    by_cases hlt:k<L
    rotate_left
    ·have hki: ¬(k:Int)<(L:Int):=by omega
     have hke:k=L:=by omega
     go_wp2_with fail
     obtain ⟨dn,d1,d2,d3,d4⟩:=HDN.o
     rw [hke,List.drop_eq_nil_of_le (by rw [basesV_len];exact Nat.le_refl _),List.append_nil] at d4
     obtain ⟨r,hg,_⟩:=HXR.o
     have HB3:Hid (Below w.heap.size w wb):=hid (by have h:=HBW.o _ HWR.o;exact h.trans (HB2.o.mono h.size))
     go_ret2
     refine ⟨bo,rfl,by have:=H7.o.size;have:=HBB.o;omega,dn,?_,d3,d4,HXS.o.row HDC.o hg,?_⟩
     ·have e1:ro=strB (Mrk.rootM (leavesP hol day ser L ps)):=by rw [← HVN.o,← HRO.o,strB_nb]
      have e2:pt=(sigParts b (nb seed) next (batchR (Mrk.rootM (leavesP hol day ser L ps)) L)).map strB:=by rw [← HVN.o,← HRO.o,← HDG.o,← HPT.o,map_strB]
      have e3:sq=(sigPath b (nb seed) t next).map strB:=by rw [← HSQ.o,map_strB]
      rw [d2,hke]
      unfold batchP
      rw [HLE.o,← e1,← e2,← e3]
     ·refine ((((Chg.of_below HB3.o).trans (HCH.o.mono (fun k i _ h=>Or.inl h))).trans (Chg.of_below HXB.o)).trans (HDC.o.mono (fun k i _ h=>Or.inr h)):Chg (fun q i=>(q=g∧i=6)∨q=bo) w _).mono (fun k i hk h=>h.resolve_right (fun e=>by have:=H7.o.size;have:=HBB.o;omega))
    have hki:(k:Int)<(L:Int):=by omega
    have HXH:Hid (∃r,X.heap[bo]? =some (.cells r 47 (0,0))):=hid (by obtain ⟨r,hg,_⟩:=HXR.o;exact ⟨_,hg⟩)
    have HQV:Hid (StrsAt wr (some ⟨bl,0,none⟩) vs):=hid (HXV.o.keep HDC.o (fun ad e _ i h=>by cases e;have:=HBB.o;simp only at h;omega))
    have HQL:Hid (Laid wr):=hid (by
     have h1:Laid wb:=HLW.o.later HB2.o (Nat.le_refl _)
     have hw3:3≤wb.heap.size:=Laid.low3' h1
     have hb3:3≤bo:=by have:=Laid.low3' HLD.o;have:=H7.o.size;have:=HBB.o;omega
     refine h1.low (Chg.below (M:=fun q i=>(q=g∧i=6)∨q=bo) (((HCH.o.mono (fun k i _ h=>Or.inl h)).trans (Chg.of_below HXB.o)).trans (HDC.o.mono (fun k i _ h=>Or.inr h))) hw3 (fun k i hk h=> ?_)) (Nat.le_refl 3)
     rcases h with ⟨h,_⟩ | h
     ·have:=HG3.o;omega
     ·omega)
    go_upto_region 25 with (first
     | (go_at_call 93
        (with_reducible refine (mPath_ok (some ⟨bl,0,none⟩) L L vs HV1.o (Nat.le_refl _) hL9 HV32.o k hlt _ HQV.o HQL.o).mono ?_)
        rintro e wp ⟨pv,pm,pss,rfl,hpm,hp8,hpp,hpo,hp32,hpb⟩
        obtain ⟨ap,pc,rfl,hpl,hpc,hps,hpz,hpg⟩:=strs_of_own hpo
        have HPP:=hid hpp
        have HPB:=hid hpb
        have HPS:=hid hps
        have HPG:=hid hpg
        have HPM:=hid hpm
        have HP8:=hid hp8
        have HPC:=hid hpc
        clear hpp hpb hps hpg hpm hp8 hpo hp32 hpl hpc hpz))
    go_upto_region 27 with fail
    have HWP:Hid (Below wr.heap.size wr wp):=HPB
    have HNB:Hid (bo<N):=hid (by have:=HWC.o;have:=HN.o;have:=HBB.o;have:=HWZ.o;have:=HB2.o.size;omega)
    have HNG:Hid (wp.heap[N]? =some (.cells #[.int .i64 next,.slice aq n2 c2,.slice ar n3 c3] 45 (0,0))):=hid (by
     have h1:=(HDC.o.other N (by have:=HXZ.o;omega) (fun i e=>by have:=HNB.o;omega)).trans HXG.o
     exact (HPB.o.block N (gS h1).1).trans h1)
    obtain ⟨y0,y1,y2⟩:=rowS3 HNG.o
    have HCS:=hid (cloneSig_any (next:Int) aq n2 c2 ar n3 c3 pt sq HN2.o HN3.o (by have:=HNN.o;omega) (by have:=HNN.o;omega) wp (HDS.o.1.later HPB.o) (HDS.o.2.later HPB.o))
    have HRP:Hid (∃dn:List RcV,dn.length=k∧dn.map RcV.r=(List.range k).map (outR hol day ser L ps ro (next:Int) pt sq (pthR hol day ser L ps))∧(∀x ∈ dn,x.ok wr∧x.off bo)∧RowN RcV.cells 14 47 wr bo L (dn++(basesV hol day ser L ps L).drop k)):=HDN
    obtain ⟨dn,hd1,hd2,hd3,hd4⟩:=HRP.o
    have HD1:=hid hd1
    have HD2:=hid hd2
    have HD3:=hid hd3
    have HD4:=hid hd4
    clear hd1 hd2 hd3 hd4
    have HKB:Hid (k<(basesV hol day ser L ps L).length):=hid (by rw [basesV_len];exact hlt)
    have HKL:Hid (k<(dn++(basesV hol day ser L ps L).drop k).length):=hid (by have:=HKB.o;rw [List.length_append,HD1.o,List.length_drop];omega)
    have HGE:Hid ((dn++(basesV hol day ser L ps L).drop k)[k]'HKL.o=baseV hol day ser L k (ps.getD k zeroPr)):=hid (by
     rw [List.getElem_append_right (by rw [HD1.o];exact Nat.le_refl _)]
     simp [basesV,HD1.o])
    have HBO:Hid (bo<wr.heap.size):=hid HD4.o.lt
    go_upto_region 28 with (first
     | (go_at_call 94
        (with_reducible refine HCS.o.mono ?_)
        rintro e wd ⟨a7,d7,a8,d8,rfl,_,_,hb7,hb8,hg7,hg8,h9⟩
        have HB7:=hid hb7
        have HB8:=hid hb8
        have HG7:=hid hg7
        have HG8:=hid hg8
        have H9:=hid h9
        clear hb7 hb8 hg7 hg8 h9
        have HRD:Hid (RowN RcV.cells 14 47 wd bo L (dn++(basesV hol day ser L ps L).drop k)):=hid ((HD4.o.later HPB.o).later H9.o)
        have hc:=(HRD.o.cells RcV.len k HKL.o).1
        have hfz:=(HRD.o.cells RcV.len k HKL.o).2
        rw [HGE.o] at hc
        have z9:wd.cell? ⟨bo,k*14+9,none⟩=some (.string ByteArray.empty):=hc 9 (by decide)
        have z10:wd.cell? ⟨bo,k*14+10,none⟩=some (.slice none 0 0):=hc 10 (by decide)
        have z11:wd.cell? ⟨bo,k*14+11,none⟩=some (.int .i64 0):=hc 11 (by decide)
        have z12:wd.cell? ⟨bo,k*14+12,none⟩=some (.slice none 0 0):=hc 12 (by decide)
        have z13:wd.cell? ⟨bo,k*14+13,none⟩=some (.slice none 0 0):=hc 13 (by decide)
        clear hc y0 y1 y2))
    have HPE:Hid (pthR hol day ser L ps k=pss):=hid (by
     unfold pthR
     rw [← HVN.o,← HPP.o,map_strB])
    refine wp_over (fun U=>Hid (∃dn:List RcV,dn.length=k+1∧dn.map RcV.r=(List.range (k+1)).map (outR hol day ser L ps ro (next:Int) pt sq (pthR hol day ser L ps))∧(∀x ∈ dn,x.ok U∧x.off bo)∧RowN RcV.cells 14 47 U bo L (dn++(basesV hol day ser L ps L).drop (k+1)))∧Hid (Chg (fun q _=>q=bo) X U)∧Hid (StrsAt U aq pt∧StrsAt U ar sq)) ?_ ?_
    ·have hcu:Chg (fun q _=>q=bo) wd (putL bo (k*14+9) [.string ro,.slice ap pm pc,.int .i64 (next:Int),.slice a7 n2 d7,.slice a8 n3 d8] wd):=putL_chg (fun _=>rfl) _ _ wd (Chg.refl _ _)
     have hwd: ∀ad:Addr,wp.heap.size≤ad.block→ad.block≠bo:=fun ad h=>by have:=HBO.o;have:=HPB.o.size;omega
     have hoff: ∀j,j<([.string ro,.slice ap pm pc,.int .i64 (next:Int),.slice a7 n2 d7,.slice a8 n3 d8]:List Value).length→ ∀s:ByteArray,wd.cell? ⟨bo,k*14+9+j,none⟩=some (.string s)→s.size≠32:=fun j hj s hs=>by
      match j,hj with
      | 0,_=>rw [Nat.add_zero,z9] at hs;cases hs;decide
      | 1,_=>rw [show k*14+9+1=k*14+10 from rfl,z10] at hs;cases hs
      | 2,_=>rw [show k*14+9+2=k*14+11 from rfl,z11] at hs;cases hs
      | 3,_=>rw [show k*14+9+3=k*14+12 from rfl,z12] at hs;cases hs
      | 4,_=>rw [show k*14+9+4=k*14+13 from rfl,z13] at hs;cases hs
     refine ⟨hid ⟨dn++[⟨outR hol day ser L ps ro (next:Int) pt sq (pthR hol day ser L ps) k,ap,pc,a7,d7,a8,d8⟩],by rw [List.length_append,HD1.o];rfl,?_,?_,?_⟩,hid ?_,hid ⟨?_,?_⟩⟩
     ·rw [List.map_append,HD2.o,List.range_succ,List.map_append]
      rfl
     ·intro x hx
      rcases List.mem_append.1 hx with h | h
      ·obtain ⟨h1,h2⟩:=HD3.o x h
       exact ⟨((h1.later HPB.o).later H9.o).keep hcu h2,h2⟩
      ·rw [List.mem_singleton] at h
       subst h
       refine ⟨⟨?_,?_,?_,?_,?_,?_⟩,fun ad e=> ?_,fun ad e=>hwd ad (HG7.o ad e),fun ad e=>hwd ad (HG8.o ad e),?_⟩
       ·show (pthR hol day ser L ps k).length<_
        rw [HPE.o];have:=HP8.o;have:=HPM.o;omega
       ·show pt.length<_
        have:=HNN.o;have:=HN2.o;omega
       ·show sq.length<_
        have:=HNN.o;have:=HN3.o;omega
       ·show StrsAt _ ap (pthR hol day ser L ps k)
        rw [HPE.o]
        exact (HPS.o.later H9.o).keep hcu (fun ad e _ i h=>by have:=HPG.o ad e;have:=HBO.o;omega)
       ·exact HB7.o.keep hcu (fun ad e _ i h=>hwd ad (HG7.o ad e) h)
       ·exact HB8.o.keep hcu (fun ad e _ i h=>hwd ad (HG8.o ad e) h)
       ·have:=HPG.o ad e;have:=HBO.o;omega
       ·show (pthR hol day ser L ps k).length≤pc
        rw [HPE.o];have:=HPC.o;have:=HPM.o;omega
     ·have h:=HRD.o.putAt RcV.len k HKL.o ⟨outR hol day ser L ps ro (next:Int) pt sq (pthR hol day ser L ps) k,ap,pc,a7,d7,a8,d8⟩ 9 [.string ro,.slice ap pm pc,.int .i64 (next:Int),.slice a7 n2 d7,.slice a8 n3 d8] (by decide) (by
         rw [HGE.o]
         have e1:(pthR hol day ser L ps k).length=pm:=by rw [HPE.o];exact HPM.o.symm
         have e2:=HN2.o
         have e3:=HN3.o
         subst e2 e3
         rw [← e1]
         rfl)
      have e:(dn++(basesV hol day ser L ps L).drop k).set k ⟨outR hol day ser L ps ro (next:Int) pt sq (pthR hol day ser L ps) k,ap,pc,a7,d7,a8,d8⟩=(dn++[⟨outR hol day ser L ps ro (next:Int) pt sq (pthR hol day ser L ps) k,ap,pc,a7,d7,a8,d8⟩])++(basesV hol day ser L ps L).drop (k+1):=by
       rw [List.set_append_right _ _ (by rw [HD1.o];exact Nat.le_refl _),HD1.o,Nat.sub_self,List.drop_eq_getElem_cons HKB.o,List.set_cons_zero,List.append_assoc]
       rfl
      rw [e] at h
      exact h
     ·exact (HDC.o.trans ((Chg.of_below HPB.o).trans (Chg.of_below H9.o))).trans hcu
     ·exact StrsAt.putL_off ((HDS.o.1.later HPB.o).later H9.o) HNN.o.2.2.1 bo (k*14+9) [.string ro,.slice ap pm pc,.int .i64 (next:Int),.slice a7 n2 d7,.slice a8 n3 d8] hoff
     ·exact StrsAt.putL_off ((HDS.o.2.later HPB.o).later H9.o) HNN.o.2.2.2 bo (k*14+9) [.string ro,.slice ap pm pc,.int .i64 (next:Int),.slice a7 n2 d7,.slice a8 n3 d8] hoff
    clear z9 z10 z11 z12 z13 hfz
    rintro U ⟨HU1,HU2,HU3⟩
    go_wp2_with fail
    go_roundw
    case rel=>exact ⟨k+1,hlt,by go_num,HU1,HU2,HU3⟩
    case measure=>simp [intOf];omega
  have hki:(k:Int)<(L:Int):=by omega
  have HKP:Hid (k<ps.length):=hid (by rw [HLE.o];exact hlt)
  have HBW:Hid (∀V,Below bo w7 V→Below w.heap.size w V):=hid (fun V h=>H7.o.trans (h.mono (by have:=H7.o.size;have:=HBB.o;omega)))
  obtain ⟨b1,o1,rfl,g0,g1,g2,g3⟩:=(HPR.o.later (HBW.o _ HRB.o)).one k HKP.o
  obtain ⟨p,hp⟩:=ex_eq (ps[k]'HKP.o)
  have HPG:=hid (HGP.o k HKP.o)
  have HPD:Hid (ps.getD k zeroPr=p):=hid (by rw [lD,lE HKP.o];exact hp)
  rw [hp] at g0 g1 g2 g3 HPG
  clear hp
  obtain ⟨v,s,i,z⟩:=p
  simp only at g0 g1 g2 g3
  go_upto_region 14 with fail
  clear g0 g1 g2 g3
  refine wp_over (fun V=>Hid (V.heap[wr.heap.size]? =some (.cells #[.int .i64 v,.string s,.int .i64 i,.int .i64 z] 135 (0,0)))∧Hid (Below wr.heap.size wr V)∧Hid (V.heap.size=wr.heap.size+1)) ?_ ?_
  ·exact ⟨heap_alloc_new _ _,(Below.refl _ _).alloc (Nat.le_refl _) _,by show _=_;simp⟩
  rintro V ⟨HQ,HVB,HVS⟩
  have HRV:=hid (HRO.o.later HVB.o)
  obtain ⟨vs,hv1,hv2,hv3⟩:=HRS.o
  have HV1:=hid hv1
  have HV2:=hid hv2
  have HVR:Hid (V.heap[bl]? =some (.cells (strV (vs++List.replicate (L - k) ByteArray.empty)).toArray 9 (0,0))):=hid ((HVB.o.block bl (by have:=HRZ.o;omega)).trans hv3)
  have HV7:Hid (Below bo w7 V):=hid (HRB.o.trans (HVB.o.mono (by have:=HRZ.o;have:=HBB.o;omega)))
  have HVZ:Hid (bl+1≤V.heap.size):=hid (by have:=HRZ.o;have:=HVS.o;omega)
  clear hv1 hv2 hv3 HRO HRS HRB HRZ
  obtain ⟨q,hq⟩:=ex_eq wr.heap.size
  rw [hq] at HQ HVB HVS ⊢
  clear hq HVB HVS
  obtain ⟨t0,t1,t2,t3⟩:=row4 HQ.o
  have hkl:k<(basesV hol day ser L ps k++List.replicate (L - k) zeroRV).length:=by rw [List.length_append,basesV_len,List.length_replicate];omega
  obtain ⟨hc,hfz⟩:=HRV.o.cells RcV.len k hkl
  rw [getElem_rep zeroRV (basesV_len hol day ser L ps k) hlt hkl] at hc
  obtain ⟨e,he⟩:=ex_eq (ser+k)
  have hse:(ser:Int)+(k:Int)=(e:Int):=by omega
  have HE:=hid he
  clear he
  have HBV:Hid ((baseV hol day ser L k ⟨v,s,i,z⟩).cells=[.int .i64 (hol:Int),.int .i64 v,.string s,.int .i64 i,.int .i64 z,.int .i64 (day:Int),.int .i64 (e:Int),.int .i64 (L:Int),.int .i64 (k:Int),.string ByteArray.empty,.slice none 0 0,.int .i64 0,.slice none 0 0,.slice none 0 0]):=hid (by rw [← HE.o];rfl)
  have z0:V.cell? ⟨bo,k*14,none⟩=some (.int .i64 0):=hc 0 (by decide)
  have z1:V.cell? ⟨bo,k*14+1,none⟩=some (.int .i64 0):=hc 1 (by decide)
  have z2:V.cell? ⟨bo,k*14+2,none⟩=some (.string ByteArray.empty):=hc 2 (by decide)
  have z3:V.cell? ⟨bo,k*14+3,none⟩=some (.int .i64 0):=hc 3 (by decide)
  have z4:V.cell? ⟨bo,k*14+4,none⟩=some (.int .i64 0):=hc 4 (by decide)
  have z5:V.cell? ⟨bo,k*14+5,none⟩=some (.int .i64 0):=hc 5 (by decide)
  have z6:V.cell? ⟨bo,k*14+6,none⟩=some (.int .i64 0):=hc 6 (by decide)
  have z7:V.cell? ⟨bo,k*14+7,none⟩=some (.int .i64 0):=hc 7 (by decide)
  have z8:V.cell? ⟨bo,k*14+8,none⟩=some (.int .i64 0):=hc 8 (by decide)
  have z9:V.cell? ⟨bo,k*14+9,none⟩=some (.string ByteArray.empty):=hc 9 (by decide)
  have z10:V.cell? ⟨bo,k*14+10,none⟩=some (.slice none 0 0):=hc 10 (by decide)
  have z11:V.cell? ⟨bo,k*14+11,none⟩=some (.int .i64 0):=hc 11 (by decide)
  have z12:V.cell? ⟨bo,k*14+12,none⟩=some (.slice none 0 0):=hc 12 (by decide)
  have z13:V.cell? ⟨bo,k*14+13,none⟩=some (.slice none 0 0):=hc 13 (by decide)
  clear hc
  go_upto_region 15 with fail
  refine wp_over (fun U=>Hid (RowN RcV.cells 14 47 U bo L (basesV hol day ser L ps (k+1)++List.replicate (L - (k+1)) zeroRV))∧Hid (U.heap[bl]? =some (.cells (strV (vs++List.replicate (L - k) ByteArray.empty)).toArray 9 (0,0)))∧Hid (Below bo w7 U)∧Hid (bl+1≤U.heap.size)) ?_ ?_
  ·have h:=HRV.o.put RcV.len k hkl (baseV hol day ser L k ⟨v,s,i,z⟩)
   rw [set_nextG zeroRV _ (basesV_len hol day ser L ps k) hlt,HBV.o,← HPD.o,← basesV_succ] at h
   have h2:=putL_below (w0:=w7) (B:=bo) (Nat.le_refl bo) [.int .i64 (hol:Int),.int .i64 v,.string s,.int .i64 i,.int .i64 z,.int .i64 (day:Int),.int .i64 (e:Int),.int .i64 (L:Int),.int .i64 (k:Int),.string ByteArray.empty,.slice none 0 0,.int .i64 0,.slice none 0 0,.slice none 0 0] (k*14) V HV7.o
   have h3:Chg (fun q _=>q=bo) V (putL bo (k*14) [.int .i64 (hol:Int),.int .i64 v,.string s,.int .i64 i,.int .i64 z,.int .i64 (day:Int),.int .i64 (e:Int),.int .i64 (L:Int),.int .i64 (k:Int),.string ByteArray.empty,.slice none 0 0,.int .i64 0,.slice none 0 0,.slice none 0 0] V):=putL_chg (fun _=>rfl) _ _ V (Chg.refl _ _)
   exact ⟨h,(h3.other bl (by have:=HVZ.o;omega) (fun i hm=>by have:=HBB.o;omega)).trans HVR.o,h2,Nat.le_trans HVZ.o h3.size⟩
  clear hfz t0 t1 t2 t3 z0 z1 z2 z3 z4 z5 z6 z7 z8 z9 z10 z11 z12 z13
  rintro U ⟨HUO,HUS,HUB,HUZ⟩
  have HUC:Hid (RowN RcV.cells 14 47 U bo L ((basesV hol day ser L ps k++[baseV hol day ser L k ⟨v,s,i,z⟩])++List.replicate (L - (k+1)) zeroRV)):=hid (by have h:=HUO.o;rw [basesV_succ,HPD.o] at h;exact h)
  have hkl2:k<((basesV hol day ser L ps k++[baseV hol day ser L k ⟨v,s,i,z⟩])++List.replicate (L - (k+1)) zeroRV).length:=by rw [List.length_append,List.length_append,basesV_len];simp;omega
  have hc:=(HUC.o.cells RcV.len k hkl2).1
  rw [getElem_mid (basesV_len hol day ser L ps k) hkl2,HBV.o] at hc
  have z0:U.cell? ⟨bo,k*14,none⟩=some (.int .i64 (hol:Int)):=hc 0 (by decide)
  have z1:U.cell? ⟨bo,k*14+1,none⟩=some (.int .i64 v):=hc 1 (by decide)
  have z2:U.cell? ⟨bo,k*14+2,none⟩=some (.string s):=hc 2 (by decide)
  have z3:U.cell? ⟨bo,k*14+3,none⟩=some (.int .i64 i):=hc 3 (by decide)
  have z4:U.cell? ⟨bo,k*14+4,none⟩=some (.int .i64 z):=hc 4 (by decide)
  have z5:U.cell? ⟨bo,k*14+5,none⟩=some (.int .i64 (day:Int)):=hc 5 (by decide)
  have z6:U.cell? ⟨bo,k*14+6,none⟩=some (.int .i64 (e:Int)):=hc 6 (by decide)
  have z7:U.cell? ⟨bo,k*14+7,none⟩=some (.int .i64 (L:Int)):=hc 7 (by decide)
  have z8:U.cell? ⟨bo,k*14+8,none⟩=some (.int .i64 (k:Int)):=hc 8 (by decide)
  have z9:U.cell? ⟨bo,k*14+9,none⟩=some (.string ByteArray.empty):=hc 9 (by decide)
  have z10:U.cell? ⟨bo,k*14+10,none⟩=some (.slice none 0 0):=hc 10 (by decide)
  have z11:U.cell? ⟨bo,k*14+11,none⟩=some (.int .i64 0):=hc 11 (by decide)
  have z12:U.cell? ⟨bo,k*14+12,none⟩=some (.slice none 0 0):=hc 12 (by decide)
  have z13:U.cell? ⟨bo,k*14+13,none⟩=some (.slice none 0 0):=hc 13 (by decide)
  have HLS:Hid (SgV (⟨(hol:Int),v,s,i,z,(day:Int),(e:Int),(L:Int),(k:Int),ByteArray.empty,[],0,[],[]⟩:Rc)):=hid (by
   have h:=sg_base (hol:=hol) (day:=day) (ser:=ser) (L:=L) (k:=k) (p:=⟨v,s,i,z⟩) HHD.o.1 HHD.o.2.1 (by have:=HHD.o.2.2;omega) HPG.o
   unfold baseR at h
   rw [HE.o] at h
   exact h)
  have HTE:Hid (leafR (⟨(hol:Int),v,s,i,z,(day:Int),(e:Int),(L:Int),(k:Int),ByteArray.empty,[],0,[],[]⟩:Rc)=leafR (baseR hol day ser L k ⟨v,s,i,z⟩)):=hid (by unfold baseR;rw [HE.o])
  have HLC:Hid (Calls Tryz.prog 89 #[.agg #[.int .i64 (hol:Int),.int .i64 v,.string s,.int .i64 i,.int .i64 z,.int .i64 (day:Int),.int .i64 (e:Int),.int .i64 (L:Int),.int .i64 (k:Int),.string ByteArray.empty,.slice none 0 0,.int .i64 0,.slice none 0 0,.slice none 0 0]] U fun e w'=> ∃u:ByteArray,e= .returned (.string u)∧nb u=leafR (baseR hol day ser L k ⟨v,s,i,z⟩)∧u.size=32∧Below U.heap.size U w'):=hid (leafR_ok (hol:Int) v s i z (day:Int) (e:Int) (L:Int) (k:Int) ByteArray.empty none 0 0 0 none 0 0 none 0 0 [] [] [] HLS.o _ HTE.o U (HLD.o.later (HBW.o _ HUB.o) (Nat.le_refl _)))
  clear hc
  have hkv:k<(vs++List.replicate (L - k) ByteArray.empty).length:=by rw [List.length_append,HV1.o,List.length_replicate];omega
  go_upto_region 16 with (first
   | (go_at_call 89
      (with_reducible refine HLC.o.mono ?_)
      rintro e' wl ⟨u,rfl,hu,hz,hbl⟩
      have HU:=hid hu
      have HZ:=hid hz
      have HBL:=hid hbl
      have HLR:Hid (wl.heap[bl]? =some (.cells (strV (vs++List.replicate (L - k) ByteArray.empty)).toArray 9 (0,0))):=hid ((HBL.o.block bl (by have:=HUZ.o;omega)).trans HUS.o)
      have ys:=strV_cell HLR.o hkv
      have yf: ∀i,wl.frozen? ⟨bl,i,none⟩=false:=fun i=>frozen_of_row _ _ _ _ _ HLR.o
      clear hu hz hbl z0 z1 z2 z3 z4 z5 z6 z7 z8 z9 z10 z11 z12 z13))
  refine wp_over (fun X=>Hid (RowN RcV.cells 14 47 X bo L (basesV hol day ser L ps (k+1)++List.replicate (L - (k+1)) zeroRV))∧Hid (X.heap[bl]? =some (.cells (strV ((vs++[u])++List.replicate (L - (k+1)) ByteArray.empty)).toArray 9 (0,0)))∧Hid (Below bo w7 X)∧Hid (bl+1≤X.heap.size)) ?_ ?_
  ·have h1:=heap_setCell_same wl bl k _ 9 (.string u) HLR.o
   rw [strV_set,set_nextG ByteArray.empty u HV1.o hlt] at h1
   have h2:Chg (fun q _=>q=bl) wl (wl.setCell ⟨bl,k,none⟩ (.string u)):=Chg.setCell1 (M:=fun q _=>q=bl) wl bl k _ rfl
   have h3:=HBL.o.size
   exact ⟨(HUO.o.later HBL.o).keep (h2.other bo (by have:=HUZ.o;have:=HBB.o;omega) (fun i hm=>by have:=HBB.o;omega)),h1,(HUB.o.trans (HBL.o.mono (by have:=HUZ.o;have:=HBB.o;omega))).setCell (p:=⟨bl,k,none⟩) (show bo≤bl by have:=HBB.o;omega) _,hid (by have:=HUZ.o;have:=h2.size;omega)⟩
  clear ys yf
  rintro X ⟨HXO,HXS,HXB,HXZ⟩
  go_wp2_with fail
  go_roundw
  case rel=>
   refine ⟨k+1,hlt,by go_num,HXO,hid ⟨vs++[u],by rw [List.length_append,HV1.o];rfl,fun i hi=> ?_,HXS.o⟩,HXB,HXZ⟩
   by_cases e1:i<vs.length
   ·rw [List.getElem_append_left e1]
    exact HV2.o i e1
   ·have e2:i=k:=by rw [List.length_append,HV1.o] at hi;rw [HV1.o] at e1;simp at hi;omega
    subst e2
    rw [List.getElem_append_right (by rw [HV1.o];exact Nat.le_refl _),HPD.o]
    simp only [HV1.o,Nat.sub_self,List.getElem_cons_zero]
    exact ⟨HU.o,HZ.o⟩
  case measure=>simp [intOf];omega
end Go.Proofs.YtndlihclgdkpaaaGreatDoor

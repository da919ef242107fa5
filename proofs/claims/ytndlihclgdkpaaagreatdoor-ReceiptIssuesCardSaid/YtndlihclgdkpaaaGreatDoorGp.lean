/- Texts Qvb, Qch, Qib, Qps, Opr, merged. -/
import Derived.OpenShut
import Derived.Test.YtndlihclgdkpaaaGreatDoorQis
import Derived.Test.YtndlihclgdkpaaaGreatDoorGf
import Derived.Test.YtndlihclgdkpaaaGreatDoorGg
import Derived.Test.YtndlihclgdkpaaaGreatDoorGi
import Derived.Test.YtndlihclgdkpaaaGreatDoorGk
import Derived.Test.YtndlihclgdkpaaaGreatDoorGl
import Derived.Test.YtndlihclgdkpaaaGreatDoorGm
/- Each receipt of a batch is valid and verified (plain). -/
set_option linter.unusedVariables false
set_option linter.unusedSimpArgs false
open Go.Lib (hid)
set_option maxHeartbeats 4000000
set_option maxRecDepth 100000
namespace Go.Proofs.YtndlihclgdkpaaaGreatDoor
open Go.Proofs.YtndlihclgdkpaaaGreatDoor.One

theorem secret_lt (seed:List Nat) (i:Nat): ∀y ∈ secret seed i,y<256:=Sha.sum_lt _
theorem sigParts_lt (b:Nat) (seed:List Nat) (i:Nat) (dg:List Nat): ∀p ∈ sigParts b seed i dg,∀y ∈ p,y<256:=fun p hp=>by
 obtain ⟨j,_,rfl⟩:=List.mem_map.1 hp
 exact chain_lt _ _ _ _ (secret_lt _ _)
theorem mroot_lt: ∀(h:Nat) (l:List (List Nat)),l.length=2 ^ h→(∀x ∈ l,∀y ∈ x,y<256)→ ∀y ∈ Mrk.root h l,y<256
 | 0,l,hl,h32=>by
   match l,hl with
   | [x],_=>exact h32 x (List.mem_cons_self ..)
 | h+1,l,hl,h32=>by
   rw [Mrk.root]
   exact Mrk.node_lt _ _
theorem mpath_lt: ∀(h i:Nat) (l:List (List Nat)),l.length=2 ^ h→(∀x ∈ l,∀y ∈ x,y<256)→ ∀q ∈ Mrk.path h i l,∀y ∈ q,y<256
 | 0,i,l,hl,h32,q,hq=>by simp [Mrk.path] at hq
 | h+1,i,l,hl,h32,q,hq=>by
   rw [Nat.pow_succ] at hl
   have hT:(l.take (2 ^ h)).length=2 ^ h:=by rw [List.length_take];omega
   have hD:(l.drop (2 ^ h)).length=2 ^ h:=by rw [List.length_drop];omega
   have hT32: ∀x ∈ l.take (2 ^ h),∀y ∈ x,y<256:=fun x hx=>h32 x (List.mem_of_mem_take hx)
   have hD32: ∀x ∈ l.drop (2 ^ h),∀y ∈ x,y<256:=fun x hx=>h32 x (List.mem_of_mem_drop hx)
   rw [Mrk.path] at hq
   by_cases hi:i<2 ^ h
   ·rw [if_pos hi] at hq
    rcases List.mem_append.1 hq with h1 | h1
    ·exact mpath_lt h i _ hT hT32 q h1
    ·rw [List.mem_singleton.1 h1];exact mroot_lt h _ hD hD32
   ·rw [if_neg hi] at hq
    rcases List.mem_append.1 hq with h1 | h1
    ·exact mpath_lt h _ _ hD hD32 q h1
    ·rw [List.mem_singleton.1 h1];exact mroot_lt h _ hT hT32
theorem sigPath_lt (b:Nat) (seed:List Nat) (t i:Nat): ∀q ∈ sigPath b seed t i,∀y ∈ q,y<256:=mpath_lt _ _ _ (sigLeaves_len _ _ _) (fun x hx=>by
 obtain ⟨j,_,rfl⟩:=List.mem_map.1 hx
 exact Sha.sum_lt _)
theorem nbs_strB {l:List (List Nat)} (h: ∀x ∈ l,∀y ∈ x,y<256):(l.map strB).map nb=l:=by
 rw [List.map_map]
 refine (List.map_congr_left fun x hx=> ?_).trans (List.map_id l)
 exact nb_strB (h x hx)
theorem strB_sizeL {l:List Nat} (h: ∀y ∈ l,y<256):(strB l).size=l.length:=by rw [← nb_length,nb_strB h]
theorem leavesP_len (hol day ser L:Nat) (ps:List Pr):(leavesP hol day ser L ps).length=L:=by simp [leavesP]
theorem leavesP_get {hol day ser L k:Nat} {ps:List Pr} (hk:k<L):(leavesP hol day ser L ps).getD k []=leafR (baseR hol day ser L k (ps.getD k zeroPr)):=by
 rw [lD,lE (by rw [leavesP_len];exact hk)]
 simp [leavesP]
theorem leavesP_mem {hol day ser L:Nat} {ps:List Pr}: ∀x ∈ leavesP hol day ser L ps,x.length=32∧ ∀y ∈ x,y<256:=fun x hx=>by
 obtain ⟨i,_,rfl⟩:=List.mem_map.1 hx
 exact ⟨Mrk.leaf_len _,Sha.sum_lt _⟩
def outP (b t:Nat) (sd:List Nat) (next hol day ser:Nat) (ps:List Pr):Nat→Rc:=outR hol day ser ps.length ps (strB (Mrk.rootM (leavesP hol day ser ps.length ps))) (next:Int) ((sigParts b sd next (batchR (Mrk.rootM (leavesP hol day ser ps.length ps)) ps.length)).map strB) ((sigPath b sd t next).map strB) (pthR hol day ser ps.length ps)
theorem batchP_out (b t:Nat) (sd:List Nat) (next hol day ser:Nat) (ps:List Pr):batchP b t sd next hol day ser ps=(List.range ps.length).map (outP b t sd next hol day ser ps):=rfl
theorem outP_valid {b t:Nat} (hb:Bits b) (ht:t≤8) (sd:List Nat) {next hol day ser:Nat} {ps:List Pr} {k:Nat} (hk:k<ps.length) (hL:ps.length≤256) (h1:hol≤11) (h2:day≤999999) (h3:ser+(ps.length - 1)≤1099511627776) (hn:next<2 ^ t) (hg:allGood ps=true):ValidR (outP b t sd next hol day ser ps k):=by
 have hgp:GoodP (ps.getD k zeroPr).v (ps.getD k zeroPr).s (ps.getD k zeroPr).i (ps.getD k zeroPr).z:=by
  rw [lD,lE hk]
  exact goodP_iff.1 ((List.all_eq_true.1 hg) _ (List.getElem_mem hk))
 have hr:(Mrk.rootM (leavesP hol day ser ps.length ps)).length=32:=Mrk.rootM_len (fun x hx=>(leavesP_mem x hx).1)
 have hrl: ∀y ∈ Mrk.rootM (leavesP hol day ser ps.length ps),y<256:=Mrk.rootM_lt (fun x hx=>(leavesP_mem x hx).2)
 have h256:2 ^ t≤256:=Nat.pow_le_pow_right (n:=2) (by decide) ht
 refine ⟨by show (0:Int)≤(hol:Int);omega,by show (hol:Int)≤11;omega,hgp,by show (0:Int)≤(day:Int);omega,by show (day:Int)≤999999;omega,by show (0:Int)≤((ser+k:Nat):Int);omega,by show ((ser+k:Nat):Int)≤1099511627776;omega,by show (1:Int)≤(ps.length:Int);omega,by show (ps.length:Int)≤256;omega,by show (0:Int)≤(k:Int);omega,by show (k:Int)≤(ps.length:Int) - 1;omega,?_,?_,?_,?_,?_,?_,?_,by show (0:Int)≤(next:Int);omega,by show (next:Int)≤255;omega⟩
 ·show (strB _).size=32
  rw [strB_sizeL hrl,hr]
 ·show ((Mrk.pathM k (leavesP hol day ser ps.length ps)).map strB).length≤8
  rw [List.length_map]
  exact Mrk.pathM_len 8 _ _ (by rw [leavesP_len];exact hL)
 ·intro s hs
  obtain ⟨x,hx,rfl⟩:=List.mem_map.1 hs
  rw [strB_sizeL (Mrk.pathM_lt ps.length _ k (leavesP_len _ _ _ _ _) (fun x hx=>(leavesP_mem x hx).2) x hx)]
  exact Mrk.pathM_32 ps.length _ k (leavesP_len _ _ _ _ _) (fun x hx=>(leavesP_mem x hx).1) x hx
 ·show ((sigPath b sd t next).map strB).length≤8
  rw [List.length_map,sigPath_len]
  exact ht
 ·intro s hs
  obtain ⟨x,hx,rfl⟩:=List.mem_map.1 hs
  rw [strB_sizeL (sigPath_lt b sd t next x hx)]
  exact sigPath_32 b sd t next x hx
 ·show ((sigParts b sd next _).map strB).length≤300
  rw [List.length_map,sigParts_len b hb _ _ _ (batchR_len _ _)]
  have:=count_le (n:=32) hb (Nat.le_refl _)
  omega
 ·intro s hs
  obtain ⟨x,hx,rfl⟩:=List.mem_map.1 hs
  rw [strB_sizeL (sigParts_lt b sd next _ x hx)]
  exact sigParts_32 b sd next _ x hx
theorem outP_verified {b t:Nat} (hb:Bits b) (hb4:b≤4) (ht:t≤8) (sd:List Nat) {next hol day ser:Nat} {ps:List Pr} {k:Nat} (hk:k<ps.length) (hL:ps.length≤256) (h1:hol≤11) (h2:day≤999999) (h3:ser+(ps.length - 1)≤1099511627776) (hn:next<2 ^ t) (hg:allGood ps=true):verR (b:Int) (t:Int) (sigPub b sd t) (outP b t sd next hol day ser ps k)=true:=by
 have hv:=outP_valid hb ht sd hk hL h1 h2 h3 hn hg
 have hrl: ∀y ∈ Mrk.rootM (leavesP hol day ser ps.length ps),y<256:=Mrk.rootM_lt (fun x hx=>(leavesP_mem x hx).2)
 unfold verR
 rw [validR_iff.2 hv,Bool.true_and,Bool.and_eq_true]
 refine ⟨decide_eq_true ?_,decide_eq_true ?_⟩
 ·show Mrk.climbM (leafR (baseR hol day ser ps.length k (ps.getD k zeroPr))) ((k:Int)).toNat ((ps.length:Int)).toNat (((Mrk.pathM k (leavesP hol day ser ps.length ps)).map strB).map nb)=some (nb (strB (Mrk.rootM (leavesP hol day ser ps.length ps))))
  rw [nb_strB hrl,nbs_strB (Mrk.pathM_lt ps.length _ k (leavesP_len _ _ _ _ _) (fun x hx=>(leavesP_mem x hx).2)),Int.toNat_natCast,Int.toNat_natCast,← leavesP_get hk]
  exact Mrk.climbM_path ps.length _ k (leavesP_len _ _ _ _ _) hk
 ·show SigAcc (b:Int) (t:Int) (sigPub b sd t) (batchR (nb (strB (Mrk.rootM (leavesP hol day ser ps.length ps)))) ((ps.length:Int)).toNat) (next:Int) (((sigParts b sd next (batchR (Mrk.rootM (leavesP hol day ser ps.length ps)) ps.length)).map strB).map nb) (((sigPath b sd t next).map strB).map nb)
  rw [nb_strB hrl,nbs_strB (sigParts_lt _ _ _ _),nbs_strB (sigPath_lt _ _ _ _),Int.toNat_natCast]
  exact sigAcc_sign b hb hb4 sd t next ht hn _ (batchR_len _ _)
end Go.Proofs.YtndlihclgdkpaaaGreatDoor
namespace Go.Proofs.YtndlihclgdkpaaaGreatDoor
open Go.RowKit
open Kit (Chg)
open Sha (v)
open Go.Proofs.YtndlihclgdkpaaaGreatDoor.One

theorem row2' {w:World} {N:Nat} {x0 x1:Value} {T:TypeId} {f:Nat × Nat} (hg:w.heap[N]? =some (.cells #[x0,x1] T f)):w.cell? ⟨N,0,none⟩=some x0∧w.cell? ⟨N,1,none⟩=some x1:=⟨cr hg,cr hg⟩
def cheapB (B H:Int):Bool:=decide (SV B H) && decide (H≤1)
theorem cheapB_sv {B H:Int} (h:cheapB B H=true):SV B H∧H≤1:=by
 unfold cheapB at h
 simpa using h
theorem cheap_any (B H:Int) (w:World):Calls Tryz.prog 15 #[.agg #[.int .i64 B,.int .i64 H]] w fun e w'=>e= .returned (.bool (cheapB B H))∧Below w.heap.size w w':=by
 obtain ⟨D,hD⟩:=ex_eq (decide (SV B H))
 have HSV:Hid (∀V,Calls Tryz.prog 67 #[.agg #[.int .i64 B,.int .i64 H]] V fun e w'=>e= .returned (.bool D)∧Below V.heap.size V w'):=hid (fun V=>by
  have h:=refSchemeValid_any B H V
  rw [hD] at h
  exact h)
 have HF0:Hid (cheapB B H=(D && decide (H≤1))):=hid (by unfold cheapB;rw [hD])
 obtain ⟨F,hF⟩:=ex_eq (cheapB B H)
 rw [hF] at HF0 ⊢
 clear hD hF
 go_enter Tryz.func15,Tryz.ntmps15
 go_upto_region 1 with fail
 refine wp_over (fun W=>Hid (W.heap[w.heap.size]? =some (.cells #[.int .i64 B,.int .i64 H] 23 (0,0)))∧Hid (Below w.heap.size w W)∧Hid (W.heap.size=w.heap.size+1)) ⟨heap_alloc_new _ _,(Below.refl _ _).alloc (Nat.le_refl _) _,World.size_alloc _ _⟩ ?_
 rintro W ⟨HG,HB,HWS⟩
 obtain ⟨r0,r1⟩:=row2' HG.o
 go_upto_region 1 with fail
 go_wp2_with fail
 with_reducible refine (HSV.o W).mono ?_
 rintro e w1 ⟨rfl,hb1⟩
 have HB1:Hid (Below w.heap.size w w1):=hid (HB.o.trans (hb1.mono HB.o.size))
 obtain ⟨q0,q1⟩:=row2' ((hb1.block w.heap.size (by have:=HWS.o;omega)).trans HG.o)
 clear r0 r1 hb1
 cases D
 ·have HF:Hid (F=false):=hid (by rw [HF0.o];rfl)
  go_wp2_with fail
  go_ret
  exact ⟨by rw [HF.o];first | rfl | (simp;done) | (simp;omega),HB1.o⟩
 ·by_cases h:H≤1
  ·have HF:Hid (F=true):=hid (by rw [HF0.o,decide_eq_true h];rfl)
   go_wp2_with fail
   go_ret
   exact ⟨by rw [HF.o];first | rfl | (simp;done) | (simp;omega),HB1.o⟩
  ·have HF:Hid (F=false):=hid (by rw [HF0.o,decide_eq_false h];rfl)
   go_wp2_with fail
   go_ret
   exact ⟨by rw [HF.o];first | rfl | (simp;done) | (simp;omega),HB1.o⟩
def issOk (hol day ser:Int) (L:Nat) (ps:List Pr):Bool:=inB hol 0 11 && (inB day 0 999999 && (decide (0≤ser) && (inB (L:Int) 1 256 && (decide (ser≤1099511627776 - ((L:Int) - 1)) && allGood ps))))
theorem issOk_iff {hol day ser:Int} {L:Nat} {ps:List Pr} (h:issOk hol day ser L ps=true):(0≤hol∧hol≤11)∧(0≤day∧day≤999999)∧0≤ser∧(1≤L∧L≤256)∧ser≤1099511627776 - ((L:Int) - 1)∧allGood ps=true:=by
 unfold issOk at h
 simp only [Bool.and_eq_true,decide_eq_true_eq] at h
 obtain ⟨h1,h2,h3,h4,h5,h6⟩:=h
 have h4:=inB_iff.1 h4
 exact ⟨inB_iff.1 h1,inB_iff.1 h2,h3,⟨by omega,by omega⟩,h5,h6⟩
theorem issue_bad (g:Nat) (hol day ser:Int) (a:Option Addr) (c L:Nat) (ps:List Pr) (hLe:ps.length=L) (hLc:L<9223372036854775808) (w:World) (hP:PrsAt w a ps) (hbad:issOk hol day ser L ps=false):Calls Tryz.prog 18 #[.pointer (some ⟨g,0,none⟩),.int .i64 hol,.int .i64 day,.int .i64 ser,.slice a L c] w fun e w'=>e= .returned (.tuple #[.slice none 0 0,.int .i64 1])∧Below w.heap.size w w':=by
 have HCT:=hid (containsPr_any a c L ps hLe hLc w hP)
 have HW1:=hid (fun w=>withinR_any hol 0 11 w)
 have HW2:=hid (fun w=>withinR_any day 0 999999 w)
 have HW3:=hid (fun w=>withinR_any (L:Int) 1 256 w)
 unfold issOk at hbad
 obtain ⟨B3,hB3⟩:=ex_eq (inB (L:Int) 1 256)
 have HB3:Hid (B3=true→1≤L∧L≤256):=hid (fun h=>by
  rw [h] at hB3
  have:=inB_iff.1 hB3
  omega)
 obtain ⟨B1,hB1⟩:=ex_eq (inB hol 0 11)
 obtain ⟨B2,hB2⟩:=ex_eq (inB day 0 999999)
 obtain ⟨B4,hB4⟩:=ex_eq (allGood ps)
 rw [hB1] at HW1
 rw [hB2] at HW2
 rw [hB3] at HW3
 rw [hB4] at HCT
 rw [hB1,hB2,hB3,hB4] at hbad
 clear hB1 hB2 hB3 hB4 hLe hP
 cases B1
 ·clear hbad
  clear hLc
  go_enter Tryz.func18,Tryz.ntmps18
  go_wp2_with (first
   | (go_at_call 85
      (with_reducible refine (HW1.o _).mono ?_)
      rintro e w2 ⟨rfl,rfl⟩)
   | (go_at_call 85
      (with_reducible refine (HW2.o _).mono ?_)
      rintro e w2 ⟨rfl,rfl⟩)
   | (go_at_call 85
      (with_reducible refine (HW3.o _).mono ?_)
      rintro e w2 ⟨rfl,rfl⟩)
   | (go_at_call 86
      (with_reducible refine HCT.o.mono ?_)
      rintro e w6 ⟨rfl,h6⟩
      have H6:=hid h6
      clear h6))
  go_ret2
  exact ⟨rfl,Below.refl _ _⟩
 cases B2
 ·clear hbad
  clear hLc
  go_enter Tryz.func18,Tryz.ntmps18
  go_wp2_with (first
   | (go_at_call 85
      (with_reducible refine (HW1.o _).mono ?_)
      rintro e w2 ⟨rfl,rfl⟩)
   | (go_at_call 85
      (with_reducible refine (HW2.o _).mono ?_)
      rintro e w2 ⟨rfl,rfl⟩)
   | (go_at_call 85
      (with_reducible refine (HW3.o _).mono ?_)
      rintro e w2 ⟨rfl,rfl⟩)
   | (go_at_call 86
      (with_reducible refine HCT.o.mono ?_)
      rintro e w6 ⟨rfl,h6⟩
      have H6:=hid h6
      clear h6))
  go_ret2
  exact ⟨rfl,Below.refl _ _⟩
 by_cases h0:ser<0
 ·clear hbad
  clear hLc
  go_enter Tryz.func18,Tryz.ntmps18
  go_wp2_with (first
   | (go_at_call 85
      (with_reducible refine (HW1.o _).mono ?_)
      rintro e w2 ⟨rfl,rfl⟩)
   | (go_at_call 85
      (with_reducible refine (HW2.o _).mono ?_)
      rintro e w2 ⟨rfl,rfl⟩)
   | (go_at_call 85
      (with_reducible refine (HW3.o _).mono ?_)
      rintro e w2 ⟨rfl,rfl⟩)
   | (go_at_call 86
      (with_reducible refine HCT.o.mono ?_)
      rintro e w6 ⟨rfl,h6⟩
      have H6:=hid h6
      clear h6))
  go_ret2
  exact ⟨rfl,Below.refl _ _⟩
 have h0':0≤ser:=by omega
 cases B3
 ·clear hbad
  clear hLc
  go_enter Tryz.func18,Tryz.ntmps18
  go_wp2_with (first
   | (go_at_call 85
      (with_reducible refine (HW1.o _).mono ?_)
      rintro e w2 ⟨rfl,rfl⟩)
   | (go_at_call 85
      (with_reducible refine (HW2.o _).mono ?_)
      rintro e w2 ⟨rfl,rfl⟩)
   | (go_at_call 85
      (with_reducible refine (HW3.o _).mono ?_)
      rintro e w2 ⟨rfl,rfl⟩)
   | (go_at_call 86
      (with_reducible refine HCT.o.mono ?_)
      rintro e w6 ⟨rfl,h6⟩
      have H6:=hid h6
      clear h6))
  go_ret2
  exact ⟨rfl,Below.refl _ _⟩
 have hL19:=HB3.o rfl
 have hL1:=hL19.1
 have hL9:=hL19.2
 clear hL19
 by_cases h5:(1099511627776:Int) - ((L:Int) - 1)<ser
 ·clear hbad
  clear hLc
  go_enter Tryz.func18,Tryz.ntmps18
  go_wp2_with (first
   | (go_at_call 85
      (with_reducible refine (HW1.o _).mono ?_)
      rintro e w2 ⟨rfl,rfl⟩)
   | (go_at_call 85
      (with_reducible refine (HW2.o _).mono ?_)
      rintro e w2 ⟨rfl,rfl⟩)
   | (go_at_call 85
      (with_reducible refine (HW3.o _).mono ?_)
      rintro e w2 ⟨rfl,rfl⟩)
   | (go_at_call 86
      (with_reducible refine HCT.o.mono ?_)
      rintro e w6 ⟨rfl,h6⟩
      have H6:=hid h6
      clear h6))
  go_ret2
  exact ⟨rfl,Below.refl _ _⟩
 cases B4
 ·clear hbad
  clear hLc
  go_enter Tryz.func18,Tryz.ntmps18
  go_wp2_with (first
   | (go_at_call 85
      (with_reducible refine (HW1.o _).mono ?_)
      rintro e w2 ⟨rfl,rfl⟩)
   | (go_at_call 85
      (with_reducible refine (HW2.o _).mono ?_)
      rintro e w2 ⟨rfl,rfl⟩)
   | (go_at_call 85
      (with_reducible refine (HW3.o _).mono ?_)
      rintro e w2 ⟨rfl,rfl⟩)
   | (go_at_call 86
      (with_reducible refine HCT.o.mono ?_)
      rintro e w6 ⟨rfl,h6⟩
      have H6:=hid h6
      clear h6))
  go_ret2
  exact ⟨rfl,H6.o⟩
 exfalso
 rw [decide_eq_true h0',decide_eq_true (by omega:ser≤1099511627776 - ((L:Int) - 1))] at hbad
 cases hbad
theorem issue_spent {B g b t next:Nat} {seed pk:ByteArray} (hol day ser:Int) (a:Option Addr) (c L:Nat) (ps:List Pr) (hLe:ps.length=L) (w:World) (hS:SignerAt w B g b t seed pk next) (hP:PrsAt w a ps) (hok:issOk hol day ser L ps=true) (hn:next=2 ^ t):Calls Tryz.prog 18 #[.pointer (some ⟨g,0,none⟩),.int .i64 hol,.int .i64 day,.int .i64 ser,.slice a L c] w fun e w'=>e= .returned (.tuple #[.slice none 0 0,.int .i64 12])∧Below w.heap.size w w':=by
 obtain ⟨⟨p1,p2⟩,⟨p3,p4⟩,p5,⟨hL1,hL9⟩,p7,hg⟩:=issOk_iff hok
 have HCT:=hid (containsPr_any a c L ps hLe (by omega) w hP)
 have HW1:=hid (fun w=>withinR_any hol 0 11 w)
 have HW2:=hid (fun w=>withinR_any day 0 999999 w)
 have HW3:=hid (fun w=>withinR_any (L:Int) 1 256 w)
 rw [inB_iff.2 ⟨p1,p2⟩] at HW1
 rw [inB_iff.2 ⟨p3,p4⟩] at HW2
 rw [inB_iff.2 ⟨by omega,by omega⟩] at HW3
 rw [hg] at HCT
 have HLF:Hid (∀V,Below w.heap.size w V→Calls Tryz.prog 74 #[.pointer (some ⟨g,0,none⟩)] V fun e w'=>e= .returned (.int .i64 0)∧Below V.heap.size V w'):=hid (fun V h=>by
  have h1:=signerLeft_any V (hS.later h)
  rw [hn,Nat.sub_self] at h1
  exact h1)
 have h0: ¬ser<0:=by omega
 have h5: ¬(1099511627776:Int) - ((L:Int) - 1)<ser:=by omega
 clear p1 p2 p3 p4 p5 p7 hg hok hS hP hLe hn
 go_enter Tryz.func18,Tryz.ntmps18
 go_wp2_with (first
  | (go_at_call 85
     (with_reducible refine (HW1.o _).mono ?_)
     rintro e w2 ⟨rfl,rfl⟩)
  | (go_at_call 85
     (with_reducible refine (HW2.o _).mono ?_)
     rintro e w2 ⟨rfl,rfl⟩)
  | (go_at_call 85
     (with_reducible refine (HW3.o _).mono ?_)
     rintro e w2 ⟨rfl,rfl⟩)
  | (go_at_call 86
     (with_reducible refine HCT.o.mono ?_)
     rintro e w6 ⟨rfl,h6⟩
     have H6:=hid h6
     clear h6)
  | (go_at_call 74
     (with_reducible refine (HLF.o _ H6.o).mono ?_)
     rintro e w7 ⟨rfl,h7⟩
     have H7:Hid (Below w.heap.size w w7):=hid (H6.o.trans (h7.mono H6.o.size))
     clear h7))
 go_ret2
 exact ⟨rfl,H7.o⟩
theorem Tryz.infoPr:(Tryz.prog.info? 135).map (fun i=>(i.zero,i.size,i.bytes))=some (some (.agg #[.int .i64 0,.string ByteArray.empty,.int .i64 0,.int .i64 0]),4,40):=by kernel_rfl
def prv (xs:List Pr):List Value:=xs.flatMap Pr.cells
theorem Pr.len (x:Pr):x.cells.length=4:=rfl
theorem prv_len (xs:List Pr):(prv xs).length=xs.length*4:=rw_len Pr.len xs
theorem prv_one (xs:List Pr): ∀v ∈ prv xs,v.oneCell'=true:=fun v h=>by
 obtain ⟨x,_,hx⟩:=List.mem_flatMap.1 h
 simp only [Pr.cells,List.mem_cons,List.not_mem_nil,or_false] at hx
 rcases hx with rfl | rfl | rfl | rfl<;> rfl
theorem prs_of_own {w:World} {base n:Nat} {v:Value} {ps:List Pr} (h:w.ownsRow base 135 4 v n (prv ps)): ∃a c,v= .slice a n c∧PrsAt w a ps:=by
 have hl:ps.length=n:=by have:=h.1;rw [prv_len] at this;omega
 rcases h.2 with ⟨e,h0⟩ | ⟨g,cap,cur,e,_,hg,_,_,_,h6⟩
 ·have hn:n=0:=by omega
  subst hn
  exact ⟨none,0,e,.inl (List.eq_nil_of_length_eq_zero hl)⟩
 ·refine ⟨some ⟨g,0,none⟩,cap,e,.inr ⟨g,0,rfl,fun k hk j hj=> ?_⟩⟩
  rw [cell_of_row _ _ _ _ _ _ hg]
  have h7:=congrArg (fun q=>q[k*4+j]?) h6
  simp only [List.getElem?_take] at h7
  rw [if_pos (by omega),Array.getElem?_toList] at h7
  rw [show 0+k*4+j=k*4+j by omega,h7]
  exact rw_get Pr.len ps k hk j hj
theorem own_lt' {w:World} {B n:Nat} {v:Value} {xs:List Value} {T size:Nat} (h:w.ownsRow B T size v n xs) {g:Nat} (hg:v.ownBlock=some g):B≤g∧g<w.heap.size:=by
 rcases h.2 with ⟨e,_⟩ | ⟨g',cap,cur,e,h1,h2,_⟩
 ·rw [e] at hg;cases hg
 ·rw [e] at hg
  cases hg
  exact ⟨h1,(gS h2).1⟩
section
variable {ops:Array Oper} {rest:List Oper} {o:Oper} {a:Act} {Q:Exit→Act→World→Prop}
theorem app_pr {w0:World} (hgd:o.guard=none) (s x:Operand) (ho:o.op= .call { callee:= .builtin .append,args:= #[s,x],argTypes:= #[35, 35] })
    (base:Nat) (v:Value) (L:Nat) (xs:List Pr) (hs:a.eval s=v) (hown:w0.ownsRow base 135 4 v L (prv xs)) (hb:base≤w0.heap.size) (hL:L≤1000000)
    (y:Pr) (ad:Addr) (c:Nat) (hx:a.eval x= .slice (some ad) 1 c) (hsrc: ∀j u,y.cells[j]? =some u→w0.cell? (ad.add j)=some u)
    (h: ∀v' w',w'.ownsRow base 135 4 v' (L+1) (prv (xs++[y]))→w0.grownBy w' v.ownBlock→wpList Tryz.prog ops Q rest (a.put o.dst v') w'):wpList Tryz.prog ops Q (o::rest) a w0:=by
 obtain ⟨i0,hi,hz0,hz1,hz2⟩:=info_parts Tryz.infoPr
 refine wpList_append_own_at _ hgd s x 35 ho base 135 i0 _ 4 40 Tryz.underlying35 hi hz0 hz1 hz2 rfl (by decide) v L (prv xs) hs hown ad 1 c (prv [y]) hx (prv_len _) (fun j u hu=>hsrc j u (by rw [← show prv [y]=y.cells from List.append_nil _];exact hu)) (prv_one _) (by unfold maxLen;omega) (by omega) hb ?_
 intro v' w4 hown4 hgr4 _ _
 exact h v' w4 (by rw [show prv (xs++[y])=prv xs++prv [y] from List.flatMap_append];exact hown4) hgr4
end
theorem promises_any (a:Option Addr) (c L:Nat) (ps:List Pr) (hLe:ps.length=L) (hL:L≤1000) (w:World) (hP:PrsAt w a ps):Calls Tryz.prog 19 #[.slice a L c] w fun e w'=> ∃v,e= .returned v∧ ∃a' c',v= .slice a' L c'∧PrsAt w' a' ps∧Below w.heap.size w w':=by
 have HP:=hid hP
 have HLE:=hid hLe
 clear hP hLe
 go_enter Tryz.func19,Tryz.ntmps19
 go_upto_region 3 with fail
 obtain ⟨N,hN⟩:=ex_eq w.heap.size
 have HN:=hid hN
 have HE:Hid ((w.alloc (.cells #[] 135)).ownsRow N 135 4 (.slice (some ⟨w.heap.size,0,none⟩) 0 0) 0 (prv [])):=hid (hN ▸ own_none0 w _ _)
 have HA:Hid (Below N w (w.alloc (.cells #[] 135))):=hid (hN ▸ (Below.refl _ _).alloc (Nat.le_refl _) _)
 clear hN
 go_loopw [4,3] (fun z v wr=> ∃k:Nat,k≤L∧z= .int .i64 (k:Int)∧Hid (wr.ownsRow N 135 4 v k (prv (ps.take k)))∧Hid (Below N w wr)) (fun z _ _=>L - (intOf z).toNat)
 case atStart=>exact ⟨0,Nat.zero_le _,rfl,HE,HA⟩
 case round=>
  obtain ⟨k,hk,rfl,HOW,HBE⟩:=hrel
  obtain ⟨wa,hwa⟩: ∃wa,wa=wr:=⟨_,rfl⟩
  subst hwa
  by_cases hlt:k<L
  rotate_left
  ·have hki: ¬(k:Int)<(L:Int):=by omega
   have hke:k=L:=by omega
   go_wp2_with fail
   go_ret
   have h1:=HOW.o
   rw [hke,List.take_of_length_le (by have:=HLE.o;omega)] at h1
   obtain ⟨a',c',e,h2⟩:=prs_of_own h1
   exact ⟨_,rfl,a',⟨c',e⟩,h2,by rw [HN.o];exact HBE.o⟩
  have hki:(k:Int)<(L:Int):=by omega
  have HKL:Hid (k<ps.length):=hid (by have:=HLE.o;omega)
  obtain ⟨b,o,rfl,hcs⟩: ∃b o,a=some ⟨b,o,none⟩∧ ∀k (h:k<ps.length) j,j<4→wa.cell? ⟨b,o+k*4+j,none⟩=ps[k].cells[j]? :=by
   rcases HP.o.later (by rw [HN.o];exact HBE.o) with h | h
   ·have:=HKL.o;rw [h] at this;simp at this
   ·exact h
  have hc:=hcs k HKL.o
  have HTK:Hid (ps.take (k+1)=ps.take k++[ps[k]'HKL.o]):=hid (List.take_succ_eq_append_getElem HKL.o)
  obtain ⟨x,hx⟩:=ex_eq (ps[k]'HKL.o)
  rw [hx] at hc HTK
  clear hx hcs
  obtain ⟨v,s,i,z⟩:=x
  have c0:wa.cell? ⟨b,o+k*4,none⟩=some (.int .i64 v):=hc 0 (by decide)
  have c1:wa.cell? ⟨b,o+k*4+1,none⟩=some (.string s):=hc 1 (by decide)
  have c2:wa.cell? ⟨b,o+k*4+2,none⟩=some (.int .i64 i):=hc 2 (by decide)
  have c3:wa.cell? ⟨b,o+k*4+3,none⟩=some (.int .i64 z):=hc 3 (by decide)
  clear hc
  have HA3:Hid (Below wa.heap.size wa (wa.alloc (.cells #[.int .i64 v,.string s,.int .i64 i,.int .i64 z] 135))):=hid ((Below.refl _ _).alloc (Nat.le_refl _) _)
  have HNW:Hid (N≤wa.heap.size):=hid (by have:=HBE.o.size;have:=HN.o;omega)
  go_wp2_with (first
   | (at_builtin
      refine app_pr rfl _ _ rfl N _ k (ps.take k) (by rfl) (own_later HOW.o HA3.o) (by have:=HNW.o;rw [World.size_alloc];omega) (by omega) (⟨v,s,i,z⟩:Pr) ⟨wa.heap.size,0,none⟩ 1 (by rfl) (fun j u hu=>by
       rw [add_none,Nat.zero_add,cell_of_row _ _ _ _ _ _ (heap_alloc_new _ _),← hu]
       simp [Pr.cells]) ?_
      intro v6 w6 h1 h2
      have H1:=hid h1
      have H2:=hid h2
      clear h1 h2))
  go_roundw
  case rel=>
   refine ⟨k+1,hlt,by go_num,hid (by rw [HTK.o];exact H1.o),hid ?_⟩
   have h5:Below N w (wa.alloc (.cells #[.int .i64 v,.string s,.int .i64 i,.int .i64 z] 135)):=HBE.o.trans (HA3.o.mono HNW.o)
   refine h5.trans ((Chg.of_grown (M:=fun q _=>(_:Value).ownBlock=some q) H2.o (fun k i e=>e)).below (by have:=h5.size;have:=HN.o;omega) (fun q i hq e=> ?_))
   have:=own_lt' HOW.o e
   omega
  case measure=>simp [intOf];omega
end Go.Proofs.YtndlihclgdkpaaaGreatDoor
namespace Go.Proofs.YtndlihclgdkpaaaGreatDoor
open Go.ChangeShapes Go.WideShapes Go.ChangeAt Go.RowKit
theorem cellsPc: Tryz.prog.cellsOf 42 =2:=by kernel_rfl
theorem Tryz.fieldsPc:(match Tryz.prog.underlying 42 with | some (.struct fields)=>fields.toList.map (fun f=>(f.type,f.offset)) | _=>[])=[(9,0),(3,1)]:=by kernel_rfl
theorem open_pcRow {H:Type} {enc:TypeId × Value→H} {W:World} {n:Nat} {cs:List Value} {x:DataW H × List MemPlace} (h:DataW.trod enc Tryz.prog W 0 (fun _=>true) true n 42 cs=some x): ∃(s:ByteArray) (i:Int),cs=[.string s,.int .i64 i]:=by
 have hF:= Tryz.fieldsPc
 cases hu: Tryz.prog.underlying 42 with
 | none=>rw [hu] at hF;simp at hF
 | some td=>
   rw [hu] at hF
   cases td with
   | struct fields=>
     obtain ⟨xs,n,_,_,hl,hlen,hf⟩:=DataW.trod_struct hu h
     rw [cellsPc] at hl
     obtain ⟨c0,c1,rfl⟩: ∃c0 c1,cs=[c0,c1]:=by
      match cs,hl with
      | [c0,c1],_=>exact ⟨c0,c1,rfl⟩
     obtain ⟨fl⟩:=fields
     match fl,hF with
     | [f0,f1],hF=>
       simp only [List.map_cons,List.map_nil,List.cons.injEq,Prod.mk.injEq,and_true] at hF
       obtain ⟨⟨t0,o0⟩,⟨t1,o1⟩⟩:=hF
       match xs,hlen with
       | [y0,y1],_=>
         have h0:=hf 0 f0 rfl
         rw [t0,o0,cellsStr] at h0
         have h1:=hf 1 f1 rfl
         rw [t1,o1,cellsInt] at h1
         obtain ⟨n0,e0,_,_⟩:=DataW.trod_string Tryz.underlying9 h0
         obtain ⟨n1,e1,_,_⟩:=DataW.trod_int Tryz.underlying3 h1
         simp [RcV.cells] at e0 e1
         exact ⟨n0,n1,by rw [e0,e1]⟩
   | _=>simp at hF
theorem cellsPr43: Tryz.prog.cellsOf 51 =4:=by kernel_rfl
theorem Tryz.fieldsPr43:(match Tryz.prog.underlying 51 with | some (.struct fields)=>fields.toList.map (fun f=>(f.type,f.offset)) | _=>[])=[(3,0),(42,1),(3,3)]:=by kernel_rfl
theorem open_prRow {H:Type} {enc:TypeId × Value→H} {W:World} {n:Nat} {cs:List Value} {x:DataW H × List MemPlace} (h:DataW.trod enc Tryz.prog W 0 (fun _=>true) true n 51 cs=some x): ∃y:Pr,cs=y.cells:=by
 have hF:= Tryz.fieldsPr43
 cases hu: Tryz.prog.underlying 51 with
 | none=>rw [hu] at hF;simp at hF
 | some td=>
   rw [hu] at hF
   cases td with
   | struct fields=>
     obtain ⟨xs,n,_,_,hl,hlen,hf⟩:=DataW.trod_struct hu h
     rw [cellsPr43] at hl
     obtain ⟨c0,c1,c2,c3,rfl⟩: ∃c0 c1 c2 c3,cs=[c0,c1,c2,c3]:=by
      match cs,hl with
      | [c0,c1,c2,c3],_=>exact ⟨c0,c1,c2,c3,rfl⟩
     obtain ⟨fl⟩:=fields
     match fl,hF with
     | [f0,f1,f2],hF=>
       simp only [List.map_cons,List.map_nil,List.cons.injEq,Prod.mk.injEq,and_true] at hF
       obtain ⟨⟨t0,o0⟩,⟨t1,o1⟩,⟨t2,o2⟩⟩:=hF
       match xs,hlen with
       | [y0,y1,y2],_=>
         have h0:=hf 0 f0 rfl
         rw [t0,o0,cellsInt] at h0
         have h1:=hf 1 f1 rfl
         rw [t1,o1,cellsPc] at h1
         have h2:=hf 2 f2 rfl
         rw [t2,o2,cellsInt] at h2
         obtain ⟨n0,e0,_,_⟩:=DataW.trod_int Tryz.underlying3 h0
         obtain ⟨s1,i1,e1⟩:=open_pcRow h1
         obtain ⟨n2,e2,_,_⟩:=DataW.trod_int Tryz.underlying3 h2
         simp [RcV.cells] at e0 e1 e2
         obtain ⟨e1_0,e1_1⟩:=e1
         exact ⟨⟨n0,s1,i1,n2⟩,by rw [e0,e1_0,e1_1,e2];rfl⟩
   | _=>simp at hF
theorem open_prs {H:Type} {enc:TypeId × Value→H} {W:World} {a:Option Addr} {len cap fuel:Nat} {x:DataW H × List MemPlace}
    (hf:DataW.trod enc Tryz.prog W 0 (fun _=>true) true fuel 24 [.slice a len cap]=some x): ∃ps:List Pr,ps.length=len∧len≤9223372036854775807∧PrsAt W a ps:=by
 obtain ⟨ys,rs,h1,h2,h3,h4,h5,h6⟩:=open_rows Tryz.underlying24 cellsPr43 (by decide) (fun cs (y:Pr)=>cs=y.cells) (fun n cs x h=>open_prRow h) hf
 refine ⟨ys,h1,h3,?_⟩
 rcases h5 with h | ⟨b,o,e,hc⟩
 ·left
  subst h
  exact List.eq_nil_of_length_eq_zero (by rw [h1,← h2];rfl)
 ·refine .inr ⟨b,o,e,fun k hk j hj=> ?_⟩
  rw [hc k j (by omega) hj,h6 k hk]
end Go.Proofs.YtndlihclgdkpaaaGreatDoor

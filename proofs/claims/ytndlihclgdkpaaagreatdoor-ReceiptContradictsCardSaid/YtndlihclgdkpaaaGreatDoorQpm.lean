/- receipt: promises in memory; the test of all promises. -/
import Derived.Test.YtndlihclgdkpaaaGreatDoorQrw
set_option linter.unusedVariables false
set_option linter.unusedSimpArgs false
open Go.Lib (hid)
set_option maxRecDepth 100000
namespace Go.Proofs.YtndlihclgdkpaaaGreatDoor
open Go.RowKit
open Kit (Chg)
open Sha (v)
open Go.Proofs.YtndlihclgdkpaaaGreatDoor.One

structure Pr where
 v:Int
 s:ByteArray
 i:Int
 z:Int
def Pr.cells (p:Pr):List Value:=[.int .i64 p.v,.string p.s,.int .i64 p.i,.int .i64 p.z]
def Pr.good (p:Pr):Bool:=goodP p.v p.s p.i p.z
def PrsAt (w:World) (a:Option Addr) (ps:List Pr):Prop:=ps=[]∨ ∃b o,a=some ⟨b,o,none⟩∧ ∀k (h:k<ps.length) j,j<4→w.cell? ⟨b,o+k*4+j,none⟩=ps[k].cells[j]?
theorem PrsAt.later {w w':World} {a:Option Addr} {ps:List Pr} (h:PrsAt w a ps) (hb:Below w.heap.size w w'):PrsAt w' a ps:=by
 rcases h with h | ⟨b,o,e,h⟩
 ·exact .inl h
 ·refine .inr ⟨b,o,e,fun k hk j hj=> ?_⟩
  have h1:=h k hk j hj
  have h2:ps[k].cells[j]? =some (ps[k].cells[j]'hj):=lE hj
  rw [h2] at h1 ⊢
  exact (hb.cell (World.block_lt_of_cell? _ _ h1)).trans h1
theorem PrsAt.one {w:World} {a:Option Addr} {ps:List Pr} (h:PrsAt w a ps) (k:Nat) (hk:k<ps.length): ∃b o,a=some ⟨b,o,none⟩∧w.cell? ⟨b,o+k*4,none⟩=some (.int .i64 ps[k].v)∧w.cell? ⟨b,o+k*4+1,none⟩=some (.string ps[k].s)∧w.cell? ⟨b,o+k*4+2,none⟩=some (.int .i64 ps[k].i)∧w.cell? ⟨b,o+k*4+3,none⟩=some (.int .i64 ps[k].z):=by
 rcases h with h | ⟨b,o,e,h⟩
 ·rw [h] at hk;simp at hk
 ·exact ⟨b,o,e,h k hk 0 (by decide),h k hk 1 (by decide),h k hk 2 (by decide),h k hk 3 (by decide)⟩
def allGood (ps:List Pr):Bool:=ps.all Pr.good
theorem allGood_bad {ps:List Pr} (k:Nat) (hk:k<ps.length) (h:ps[k].good=false):allGood ps=false:=by
 cases hc:allGood ps with
 | false=>rfl
 | true=>
   have:=(List.all_eq_true.1 hc) ps[k] (List.getElem_mem hk)
   rw [h] at this
   cases this
theorem allGood_good {ps:List Pr} (h: ∀k (hk:k<ps.length),ps[k].good=true):allGood ps=true:=List.all_eq_true.2 fun p hp=>by
 obtain ⟨k,hk,rfl⟩:=List.mem_iff_getElem.1 hp
 exact h k hk
theorem notGood_any (v:Int) (s:ByteArray) (i z:Int) (w:World):Calls Tryz.prog 87 #[.agg #[.int .i64 v,.string s,.int .i64 i,.int .i64 z]] w fun e w'=>e= .returned (.bool (!(goodP v s i z)))∧Below w.heap.size w w':=by
 have HGD:=hid (fun w=>goodR_any v s i z w)
 obtain ⟨D,hD⟩:=ex_eq (goodP v s i z)
 rw [hD] at HGD ⊢
 clear hD
 go_enter Tryz.func87,Tryz.ntmps87
 go_upto_region 1 with fail
 refine wp_over (fun W=>Hid (W.heap[w.heap.size]? =some (.cells #[.int .i64 v,.string s,.int .i64 i,.int .i64 z] 135 (0,0)))∧Hid (Below w.heap.size w W)) ⟨heap_alloc_new _ _,(Below.refl _ _).alloc (Nat.le_refl _) _⟩ ?_
 rintro W ⟨HG,HB⟩
 obtain ⟨N,hN⟩:=ex_eq w.heap.size
 rw [hN] at HG HB ⊢
 have HN:=hid hN
 clear hN
 obtain ⟨c0,c1,c2,c3⟩:=row4 HG.o
 go_wp2_with (first
  | (go_at_call 88
     (with_reducible refine (HGD.o _).mono ?_)
     rintro e w2 ⟨rfl,h2⟩
     have H2:Hid (Below N w w2):=hid (HB.o.trans (h2.mono (by rw [← HN.o];exact HB.o.size)))
     clear h2 c0 c1 c2 c3))
 go_ret
 exact ⟨rfl,by rw [HN.o];exact H2.o⟩
set_option maxHeartbeats 1000000 in
theorem indexPr_any (a:Option Addr) (c L:Nat) (ps:List Pr) (hLe:ps.length=L) (hL:L<9223372036854775808) (w:World) (hS:PrsAt w a ps):
    Calls Tryz.prog 182 #[.slice a L c,.func (.func 87) #[] #[]] w fun e w'=> ∃i:Int,e= .returned (.int .i64 i)∧Hid (decide (0≤i)= !(allGood ps))∧Below w.heap.size w w':=by
 have HS:=hid hS
 have HLE:=hid hLe
 clear hS hLe
 have HNG:=hid (fun v s i z w=>notGood_any v s i z w)
 go_enter Tryz.func182,Tryz.ntmps182
 go_upto_region 2 with fail
 go_loopw [8] (fun z wr=> ∃k:Nat,k≤L∧z= .int .i64 (k:Int)∧Hid (∀i (hi:i<ps.length),i<k→ps[i].good=true)∧Hid (Below w.heap.size w wr)) (fun z _=>L - (intOf z).toNat)
 case atStart=>exact ⟨0,by omega,rfl,hid (fun i hi h=>by omega),hid (Below.refl _ _)⟩
 case round=>
  obtain ⟨k,hk,rfl,HCR,HBE⟩:=hrel
  by_cases hlt:k<L
  ·have hki:(k:Int)<(L:Int):=by omega
   have HKL:Hid (k<ps.length):=hid (by rw [HLE.o];exact hlt)
   obtain ⟨b1,o1,rfl,g0,g1,g2,g3⟩:=(HS.o.later HBE.o).one k HKL.o
   obtain ⟨p,hp⟩:=ex_eq (ps[k]'HKL.o)
   have HP:Hid (ps[k]'HKL.o=p):=hid hp
   rw [hp] at g0 g1 g2 g3
   clear hp
   obtain ⟨v,s,i,z⟩:=p
   simp only at g0 g1 g2 g3
   have HNG:=hid (fun w=>HNG.o v s i z w)
   obtain ⟨D,hD⟩:=ex_eq (goodP v s i z)
   have HD:=hid hD
   rw [hD] at HNG
   clear hD
   cases D
   ·have HF:Hid (allGood ps=false):=hid (allGood_bad k HKL.o (by rw [HP.o];exact HD.o))
    go_wp2_with (first
     | (go_at_call 87
        (with_reducible refine (HNG.o _).mono ?_)
        rintro e w2 ⟨rfl,h2⟩
        have H2:Hid (Below w.heap.size w w2):=hid (HBE.o.trans (h2.mono HBE.o.size))
        clear h2 g0 g1 g2 g3))
    go_ret
    exact ⟨_,rfl,hid (by rw [HF.o];simp),H2.o⟩
   ·have HC2:Hid (∀i (hi:i<ps.length),i<k+1→ps[i].good=true):=hid (fun i hi h=>by
       by_cases e:i=k
       ·subst e;rw [HP.o];exact HD.o
       ·exact HCR.o i hi (by omega))
    go_wp2_with (first
     | (go_at_call 87
        (with_reducible refine (HNG.o _).mono ?_)
        rintro e w2 ⟨rfl,h2⟩
        have H2:Hid (Below w.heap.size w w2):=hid (HBE.o.trans (h2.mono HBE.o.size))
        clear h2 g0 g1 g2 g3))
    go_roundw
    case rel=>exact ⟨k+1,hlt,by go_num,HC2,H2⟩
    case measure=>simp [intOf];omega
  ·have hki: ¬(k:Int)<(L:Int):=by omega
   have HF:Hid (allGood ps=true):=hid (allGood_good (fun i hi=>HCR.o i hi (by have:=HLE.o;omega)))
   go_wp2_with fail
   go_ret
   exact ⟨_,rfl,hid (by rw [HF.o];decide),HBE.o⟩
theorem containsPr_any (a:Option Addr) (c L:Nat) (ps:List Pr) (hLe:ps.length=L) (hL:L<9223372036854775808) (w:World) (hS:PrsAt w a ps):
    Calls Tryz.prog 86 #[.slice a L c,.func (.func 87) #[] #[]] w fun e w'=>e= .returned (.bool (!(allGood ps)))∧Below w.heap.size w w':=by
 have HI:=hid (indexPr_any a c L ps hLe hL w hS)
 obtain ⟨B,hB⟩:=ex_eq (!(allGood ps))
 rw [hB] at HI ⊢
 clear hLe hS hB
 go_enter Tryz.func86,Tryz.ntmps86
 go_wp2_with (first
  | (go_at_call 182
     (with_reducible refine HI.o.mono ?_)
     rintro e w2 ⟨i,rfl,HQ,h2⟩
     have H2:=hid h2
     clear h2))
 go_ret
 exact ⟨by rw [← HQ.o];rfl,H2.o⟩
end Go.Proofs.YtndlihclgdkpaaaGreatDoor

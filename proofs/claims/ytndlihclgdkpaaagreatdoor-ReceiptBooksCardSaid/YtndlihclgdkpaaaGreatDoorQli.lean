/- light of layer 43. -/
import Derived.Test.YtndlihclgdkpaaaGreatDoorGk
import Derived.Test.YtndlihclgdkpaaaGreatDoorGp
set_option linter.unusedVariables false
set_option linter.unusedSimpArgs false
open Go.Lib (hid)
namespace Go.Proofs.YtndlihclgdkpaaaGreatDoor
open Go.RowKit
open Kit (Chg)
open Sha (v)
open Go.Proofs.YtndlihclgdkpaaaGreatDoor.One

def OpB.light (y:OpB):Bool:=decide (y.x.r.parts.length≤3) && (decide (y.x.r.path.length≤10) && decide (y.x.r.sp.length≤10))
def lightB (ys:List OpB) (n:Nat):Bool:=ys.all OpB.light && decide (ys.length≤n)
theorem OpsB.cell {w:World} {a:Option Addr} {ys:List OpB} (h:OpsB w a ys) (hy:ys≠[]): ∃b o,a=some ⟨b,o,none⟩∧ ∀k (h:k<ys.length) j,j<15→w.cell? ⟨b,o+k*15+j,none⟩=ys[k].cells[j]? :=by
 rcases h.1 with h | h
 ·exact absurd h hy
 ·exact h
set_option maxRecDepth 100000 in
set_option maxHeartbeats 4000000 in
theorem light_any (a:Option Addr) (c L n:Nat) (ys:List OpB) (hLe:ys.length=L) (hL:L<9223372036854775808) (w:World) (hS:OpsB w a ys):Calls Tryz.prog 37 #[.slice a L c,.int .i64 (n:Int)] w fun e w'=>e= .returned (.bool (lightB ys n))∧Below w.heap.size w w':=by
 have HS:=hid hS
 have HLE:=hid hLe
 clear hS hLe
 go_enter Tryz.func37,Tryz.ntmps37
 go_upto_region 2 with fail
 go_loopw [5] (fun z wr=> ∃k:Nat,k≤L∧z= .int .i64 (k:Int)∧Hid (∀i (h:i<ys.length),i<k→ys[i].light=true)∧Hid (Below w.heap.size w wr)) (fun z _=>L - (intOf z).toNat)
 case atStart=>exact ⟨0,Nat.zero_le _,rfl,hid (fun i _ h=>absurd h (Nat.not_lt_zero _)),hid (Below.refl _ _)⟩
 case round=>
  obtain ⟨k,hk,rfl,HAL,HBE⟩:=hrel
  by_cases hlt:k<L
  rotate_left
  ·have hki: ¬(k:Int)<(L:Int):=by omega
   have HA:Hid (ys.all OpB.light=true):=hid (List.all_eq_true.2 (fun y hy=>by
    obtain ⟨i,hi,rfl⟩:=List.mem_iff_getElem.1 hy
    exact HAL.o i hi (by have:=HLE.o;omega)))
   by_cases hn:L≤n
   ·have hni:(L:Int)≤(n:Int):=by omega
    have HF:Hid (lightB ys n=true):=hid (by unfold lightB;rw [HA.o,HLE.o,decide_eq_true hn];rfl)
    clear hn
    go_wp2_with fail
    go_ret
    exact ⟨by rw [HF.o];first | rfl | (simp;done) | (simp;omega),HBE.o⟩
   ·have hni: ¬(L:Int)≤(n:Int):=by omega
    have HF:Hid (lightB ys n=false):=hid (by unfold lightB;rw [HA.o,HLE.o,decide_eq_false hn];rfl)
    clear hn
    go_wp2_with fail
    go_ret
    exact ⟨by rw [HF.o];first | rfl | (simp;done) | (simp;omega),HBE.o⟩
  have hki:(k:Int)<(L:Int):=by omega
  have HKL:Hid (k<ys.length):=hid (by have:=HLE.o;omega)
  obtain ⟨b,o,rfl,hcs⟩:=(HS.o.later HBE.o).cell (fun e=>by have:=HKL.o;rw [e] at this;simp at this)
  have hc:=hcs k HKL.o
  have HYM:Hid (ys[k]'HKL.o ∈ ys):=hid (List.getElem_mem _)
  have HYE:Hid (∀i (h:i<ys.length),i=k→ys[i]=ys[k]'HKL.o):=hid (fun i h e=>by subst e;rfl)
  obtain ⟨y,hy⟩:=ex_eq (ys[k]'HKL.o)
  rw [hy] at hc HYM HYE
  clear hy hcs
  obtain ⟨⟨⟨hol,vlt,str,ix,sz,day,ser,cnt,pl,root,pa,si,pt,sq⟩,ap,c1,aq,c2,ar,c3⟩,dr⟩:=y
  obtain ⟨n1,e1⟩:=ex_eq pa.length
  obtain ⟨n2,e2⟩:=ex_eq pt.length
  obtain ⟨n3,e3⟩:=ex_eq sq.length
  have HLY:Hid ((⟨⟨⟨hol,vlt,str,ix,sz,day,ser,cnt,pl,root,pa,si,pt,sq⟩,ap,c1,aq,c2,ar,c3⟩,dr⟩:OpB).light=(decide (n2≤3) && (decide (n1≤10) && decide (n3≤10)))):=hid (by unfold OpB.light;simp only [e1,e2,e3])
  simp only [OpB.cells,RcV.cells,e1,e2,e3] at hc
  have c10:wr.cell? ⟨b,o+k*15+10,none⟩=some (.slice ap n1 c1):=hc 10 (by decide)
  have c12:wr.cell? ⟨b,o+k*15+12,none⟩=some (.slice aq n2 c2):=hc 12 (by decide)
  have c13:wr.cell? ⟨b,o+k*15+13,none⟩=some (.slice ar n3 c3):=hc 13 (by decide)
  clear hc e1 e2 e3
  have HNO:Hid ((⟨⟨⟨hol,vlt,str,ix,sz,day,ser,cnt,pl,root,pa,si,pt,sq⟩,ap,c1,aq,c2,ar,c3⟩,dr⟩:OpB).light=false→lightB ys n=false):=hid (fun h=>by
   unfold lightB
   rw [show ys.all OpB.light=false from List.all_eq_false.2 ⟨_,HYM.o,by rw [h];decide⟩]
   rfl)
  by_cases g2:(3:Int)<(n2:Int)
  ·have HF:=hid (HNO.o (by rw [HLY.o,decide_eq_false (by omega: ¬n2≤3)];rfl))
   go_wp2_with fail
   go_ret
   exact ⟨by rw [HF.o];first | rfl | (simp;done) | (simp;omega),HBE.o⟩
  by_cases g1:(10:Int)<(n1:Int)
  ·have HF:=hid (HNO.o (by rw [HLY.o,decide_eq_false (by omega: ¬n1≤10)];simp))
   go_wp2_with fail
   go_ret
   exact ⟨by rw [HF.o];first | rfl | (simp;done) | (simp;omega),HBE.o⟩
  by_cases g3:(10:Int)<(n3:Int)
  ·have HF:=hid (HNO.o (by rw [HLY.o,decide_eq_false (by omega: ¬n3≤10)];simp))
   go_wp2_with fail
   go_ret
   exact ⟨by rw [HF.o];first | rfl | (simp;done) | (simp;omega),HBE.o⟩
  have HG:Hid ((⟨⟨⟨hol,vlt,str,ix,sz,day,ser,cnt,pl,root,pa,si,pt,sq⟩,ap,c1,aq,c2,ar,c3⟩,dr⟩:OpB).light=true):=hid (by rw [HLY.o,decide_eq_true (by omega:n2≤3),decide_eq_true (by omega:n1≤10),decide_eq_true (by omega:n3≤10)];rfl)
  go_wp2_with fail
  go_roundw
  case rel=>
   refine ⟨k+1,hlt,by go_num,hid (fun i h hi=> ?_),HBE⟩
   by_cases e:i=k
   ·rw [HYE.o i h e];exact HG.o
   ·exact HAL.o i h (by omega)
  case measure=>simp [intOf];omega
end Go.Proofs.YtndlihclgdkpaaaGreatDoor

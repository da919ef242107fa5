/- The law GossipChains. -/
import Derived.Test.YtndlihclgdkpaaaGreatDoorRgt
import Derived.Test.YtndlihclgdkpaaaGreatDoorGaw
import Derived.Test.YtndlihclgdkpaaaGreatDoorOpg
set_option linter.unusedVariables false
set_option linter.unusedSimpArgs false
open Go.Lib (hid)
namespace Go.Proofs.YtndlihclgdkpaaaGreatDoor
open Go.RowKit
open Kit (Chg)
open Sha (v)
open Go.Proofs.YtndlihclgdkpaaaGreatDoor.One

theorem Laid.size3 {w:World} (h:Laid w):3≤w.heap.size:=by
 have h1: 1 <w.heap.size:=World.block_lt_of_cell? w _ h.pad0
 have h2: 2 <w.heap.size:=World.block_lt_of_cell? w _ (h.kon 0 (by decide))
 omega
def smB (es:List Ent):Bool:=es.all (fun e=>decide (e.body.length≤100)) && decide ((es.length:Int)≤20)
theorem smB_bad (es:List Ent) (k:Nat) (hk:k<es.length) (h:100<(es[k]).body.length):smB es=false:=by
 unfold smB
 have:es.all (fun e=>decide (e.body.length≤100))=false:=by
  rw [List.all_eq_false]
  exact ⟨_,List.getElem_mem hk,by simpa using h⟩
 rw [this]
 rfl
theorem smB_good (es:List Ent) (h: ∀i,(hi:i<es.length)→(es[i]).body.length≤100):smB es=decide ((es.length:Int)≤20):=by
 unfold smB
 have:es.all (fun e=>decide (e.body.length≤100))=true:=by
  rw [List.all_eq_true]
  intro e he
  obtain ⟨i,hi,rfl⟩:=List.getElem_of_mem he
  simpa using h i hi
 rw [this]
 rfl
theorem smB_len {es:List Ent} (h:smB es=true):es.length≤20:=by
 unfold smB at h
 rw [Bool.and_eq_true] at h
 have:=of_decide_eq_true h.2
 omega
set_option maxRecDepth 100000 in
set_option maxHeartbeats 1000000 in
theorem small46_any (a:Option Addr) (c L:Nat) (es:List Ent) (hLe:es.length=L) (hL9:L≤9223372036854775807) (w:World) (hE:EntsAt w a es):
    Calls Tryz.prog 68 #[.slice a L c] w fun e w'=>e= .returned (.bool (smB es))∧w=w':=by
 have HE:=hid hE
 have HLE:=hid hLe
 clear hE hLe
 obtain ⟨B,hB⟩:=ex_eq (smB es)
 have HB:=hid hB
 rw [hB]
 clear hB
 go_enter Tryz.func68,Tryz.ntmps68
 go_upto_region 2 with fail
 go_loopw [3] (fun z wr=> ∃k:Nat,k≤L∧z= .int .i64 (k:Int)∧Hid (∀i,(hi:i<es.length)→i<k→(es[i]).body.length≤100)∧w=wr) (fun z _=>L - (intOf z).toNat)
 case atStart=>exact ⟨0,by omega,rfl,hid (fun i hi h=>by omega),rfl⟩
 case round=>
  obtain ⟨k,hk,rfl,HCR,rfl⟩:=hrel
  by_cases hlt:k<L
  ·have hki:(k:Int)<(L:Int):=by omega
   have HKL:Hid (k<es.length):=hid (by rw [HLE.o];exact hlt)
   obtain ⟨b0,o0,rfl,hes0⟩: ∃b o,a=some ⟨b,o,none⟩∧ ∀i,(h:i<es.length)→EntAt w b (o+i*6) es[i]:=by
    rcases HE.o with h | h
    ·have:=HLE.o;rw [h] at this;simp at this;omega
    ·exact h
   obtain ⟨ae,m,cm,hm,hmn,hmB,d0,d1,d2,d3,d4,d5⟩:=hes0 k HKL.o
   have HMN:=hid hm
   clear hes0 hm hmn hmB d0 d1 d2 d3 d5
   have hwr:IntKind.i64.wrap ((k:Int)+1)=(k:Int)+1:=by rw [IntKind.wrap_i64];omega
   by_cases hgt:100<m
   ·have hgi:(100:Int)<(m:Int):=by omega
    have HF:Hid (B=false):=hid (by rw [← HB.o];exact smB_bad es k HKL.o (by rw [HMN.o];exact hgt))
    go_wp2_with fail
    go_ret
    exact ⟨by rw [HF.o];rfl,rfl⟩
   ·have hgi: ¬(100:Int)<(m:Int):=by omega
    have HC2:Hid (∀i,(hi:i<es.length)→i<k+1→(es[i]).body.length≤100):=hid (fun i hi h=>by
     by_cases e:i=k
     ·subst e;rw [HMN.o];omega
     ·exact HCR.o i hi (by omega))
    go_wp2_with fail
    go_roundw
    case rel=>exact ⟨k+1,hlt,by go_num,HC2.o,by first | rfl | trivial⟩
    case measure=>simp [intOf];omega
  ·have hki: ¬(k:Int)<(L:Int):=by omega
   have HF:Hid (B=decide ((L:Int)≤20)):=hid (by rw [← HB.o,← HLE.o];exact smB_good es (fun i hi=>HCR.o i hi (by have:=HLE.o;omega)))
   go_wp2_with fail
   go_ret
   exact ⟨by rw [HF.o];rfl,rfl⟩
end Go.Proofs.YtndlihclgdkpaaaGreatDoor

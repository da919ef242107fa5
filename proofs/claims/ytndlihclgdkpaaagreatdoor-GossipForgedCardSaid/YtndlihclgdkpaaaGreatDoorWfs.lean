/- What the law GossipForks keeps: a slice of logs, operations in memory. -/
import Derived.Lib.MinMax
import Derived.Maps.AppendAt
import Derived.Lib.AppendStr
import Derived.Test.YtndlihclgdkpaaaGreatDoorGc
import Derived.Test.YtndlihclgdkpaaaGreatDoorGd
import Derived.Test.YtndlihclgdkpaaaGreatDoorGg
import Derived.Test.YtndlihclgdkpaaaGreatDoorGh
import Derived.Test.YtndlihclgdkpaaaGreatDoorWfr
import Derived.Test.YtndlihclgdkpaaaGreatDoorWvl
import Derived.Test.YtndlihclgdkpaaaGreatDoorGsm
import Derived.Test.YtndlihclgdkpaaaGreatDoorVcw
set_option linter.unusedVariables false
set_option linter.unusedSimpArgs false
open Go.Lib (hid)
namespace Go.Proofs.YtndlihclgdkpaaaGreatDoor
open Go.RowKit
open Kit (Chg)
open Sha (v)
open Go.Proofs.YtndlihclgdkpaaaGreatDoor.One

theorem Laid.low3 {w:World} (h:Laid w):3≤w.heap.size:=by
 have h1: 1 <w.heap.size:=World.block_lt_of_cell? w _ h.pad0
 have h2: 2 <w.heap.size:=World.block_lt_of_cell? w _ (h.kon 0 (by decide))
 omega
section
variable {ops:Array Oper} {rest:List Oper} {o:Oper} {a:Act} {Q:Exit→Act→World→Prop}
end
theorem pub_cell {w:World} {base n bp cp:Nat} {pks:List ByteArray} (h:w.ownsRow base 9 1 (.slice (some ⟨bp,0,none⟩) n cp) n (strV pks)) {i:Nat} (hi:i<pks.length):w.cell? ⟨bp,i,none⟩=some (.string (pks.getD i ByteArray.empty)):=by
 obtain ⟨a,cap,he,h1,h2,h3,_⟩:=strs_of_own h
 injection he with e1 e2 e3
 rcases h3 with h3 | ⟨b,o,h3,h4⟩
 ·rw [h3] at hi;simp at hi
 ·rw [← e1] at h3
  injection h3 with h3
  injection h3 with h5 h6
  have:=h4 i hi
  rw [← h5,← h6,Nat.zero_add] at this
  exact this
structure OpV where
 kind:Int
 at':Int
 to:Int
 dev:Int
 ent:Int
 day:Int
 a:Option Addr
 c:Nat
 body:List Nat
 d1:Int
 d2:Int
def OpV.cells (y:OpV):List Value:=[.int .i64 y.kind,.int .i64 y.at',.int .i64 y.to,.int .i64 y.dev,.int .i64 y.ent,.int .i64 y.day,.slice y.a y.body.length y.c,.int .i64 y.d1,.int .i64 y.d2]
def OpAt (w:World) (b o:Nat) (y:OpV):Prop:=(y.a=none→y.c=0)∧BytesAt w y.a y.body∧ ∀j,j<9→w.cell? ⟨b,o+j,none⟩=y.cells[j]?
def OpsAt (w:World) (a:Option Addr) (ys:List OpV):Prop:=ys=[]∨ ∃b o,a=some ⟨b,o,none⟩∧ ∀i,(h:i<ys.length)→OpAt w b (o+i*9) ys[i]
theorem OpsAt.low {w w':World} {a:Option Addr} {ys:List OpV} (h:OpsAt w a ys) (hb:Below w.heap.size w w'):OpsAt w' a ys:=by
 rcases h with h | ⟨b,o,h1,h2⟩
 ·exact .inl h
 ·refine .inr ⟨b,o,h1,fun i hi=> ?_⟩
  obtain ⟨k1,k2,k3⟩:=h2 i hi
  refine ⟨k1,k2.later hb,fun j hj=> ?_⟩
  have h0:w.cell? ⟨b,o+i*9+j,none⟩=some (ys[i].cells[j]'hj):=(k3 j hj).trans (lE hj)
  rw [← k3 j hj,World.cell?,World.cell?,hb.block b (World.block_lt_of_cell? w _ h0)]
section
variable {w w':World} {G:Nat→Nat} {N P b t:Nat} {pks sds:List ByteArray} {gs ps:List Nat} {lss:Nat→List Lin} {nx:Nat→Nat} {vp vs vt:Value}
theorem WI.lowP (h:WI w G N P b t pks sds gs ps lss nx vp vs vt) {k:Nat} (hk:k≤P):G k=0:=by
 obtain ⟨B,hs⟩:=h.wd.sg 0 (by decide)
 have h1:=h.wd.glo 0 (by decide)
 have h2:=hs.lt
 rcases Nat.lt_or_eq_of_le hk with h3 | h3
 ·rcases h.wd.low k (by omega) with e | ⟨j,hj,e⟩
  ·exact e
  ·have:=h.wd.glo j hj;omega
 ·rw [h3];exact h.wd.rtag
theorem PlayO.belowP (h:WI w G N P b t pks sds gs ps lss nx vp vs vt) (ho:PlayO w w' G N P b t pks sds gs ps lss nx vp vs vt):Below P w w':=by
 obtain ⟨G',lss',nx',_,h2,_⟩:=ho
 exact h2.chg.below (Nat.le_of_lt h.wd.lt) (fun k i hk hm=>by have:=h.lowP (Nat.le_of_lt hk);omega)
def logAt (ls:List Lin) (i:Nat):List Ent:=match ls[i]? with
 | some l=>l.log
 | none=>[]
def sdAt (ls:List Lin) (i:Nat):Nat:=match ls[i]? with
 | some l=>l.sealed'
 | none=>0
theorem logAt_eq {ls:List Lin} {i:Nat} (h:i<ls.length):logAt ls i=ls[i].log:=by
 unfold logAt
 rw [lE h]
theorem sdAt_eq {ls:List Lin} {i:Nat} (h:i<ls.length):sdAt ls i=ls[i].sealed':=by
 unfold sdAt
 rw [lE h]
theorem vec_at {ls:List Lin} {i:Nat} (h:i<ls.length):(vecOf ls).getD i 0=sdAt ls i:=by
 unfold vecOf
 rw [lD,List.getElem?_map,lE h,sdAt_eq h]
 rfl
end
end Go.Proofs.YtndlihclgdkpaaaGreatDoor

/- The fork of a line in memory. -/
import Derived.Test.YtndlihclgdkpaaaGreatDoorWfk
set_option linter.unusedVariables false
set_option linter.unusedSimpArgs false
open Go.Lib (hid)
namespace Go.Proofs.YtndlihclgdkpaaaGreatDoor
open Go.RowKit
open Kit (Chg)
open Sha (v)
open Go.Proofs.YtndlihclgdkpaaaGreatDoor.One

theorem LineR.fork_cells {w:World} {G:Nat→Nat} {t g:Nat} {l:Lin} {vl vs:Value} {ss:List ByteArray} {hx:HV} {f0 f1 f2 f3 f4 f5 f6 f7 f8 f9 f10 f11 f12 f13 f14:Value} (h:LineR w G t g l vl vs ss hx f0 f1 f2 f3 f4 f5 f6 f7 f8 f9 f10 f11 f12 f13 f14) {f:Frk} (hf:l.fork=some f) (hs0:f.h0.ps.length≤100000000∧f.h0.qs.length≤100000000) (hs1:f.h1.ps.length≤100000000∧f.h1.qs.length≤100000000):
    ∃x:FV,x.f=f∧x.ok w∧ ∀j,j<15→w.cell? ⟨g,11+j,none⟩=x.cells[j]? :=by
 have hfk:=h.fork
 rw [hf] at hfk
 obtain ⟨k1,k2,k3,x0,x1,k4,k5,k6,k7,k8,k9⟩:=hfk
 obtain ⟨a0,c0,e0,_,_,_,hE0,_⟩:=k2.ents
 obtain ⟨a1,c1,e1,_,_,_,hE1,_⟩:=k3.ents
 have hfe:Frk.mk f.dev f.l0 f.l1 x0.h x1.h=f:=by rw [k4,k5]
 refine ⟨⟨f.dev,f.l0,f.l1,a0,c0,a1,c1,x0,x1⟩,hfe,⟨hE0,hE1,⟨by rw [k4];omega,by rw [k4];omega,k6.1,k6.2.1⟩,⟨by rw [k5];omega,by rw [k5];omega,k7.1,k7.2.1⟩⟩,fun j hj=> ?_⟩
 have hrow: ∀i,w.cell? ⟨g,i,none⟩=(lineRow l.pub vl vs (l.sealed':Int) hx l.fork.isSome f0 f1 f2 f3 f4 f5 f6 f7 f8 f9 f10 f11 f12 f13 f14)[i]? :=fun i=>cell_of_row _ _ _ _ _ _ h.row
 rw [hrow]
 have hc:[f3,f4,f5,f6,f7,f8]++[f9,f10,f11,f12,f13,f14]=x0.cells++x1.cells:=by rw [k8,k9]
 have hl:(lineRow l.pub vl vs (l.sealed':Int) hx l.fork.isSome f0 f1 f2 f3 f4 f5 f6 f7 f8 f9 f10 f11 f12 f13 f14)[11+j]? =([f0,f1,f2]++([f3,f4,f5,f6,f7,f8]++[f9,f10,f11,f12,f13,f14]))[j]? :=by
  have:j=0∨j=1∨j=2∨j=3∨j=4∨j=5∨j=6∨j=7∨j=8∨j=9∨j=10∨j=11∨j=12∨j=13∨j=14:=by omega
  rcases this with rfl | rfl | rfl | rfl | rfl | rfl | rfl | rfl | rfl | rfl | rfl | rfl | rfl | rfl | rfl<;> rfl
 rw [hl,hc,k1,e0,e1]
 rfl
end Go.Proofs.YtndlihclgdkpaaaGreatDoor

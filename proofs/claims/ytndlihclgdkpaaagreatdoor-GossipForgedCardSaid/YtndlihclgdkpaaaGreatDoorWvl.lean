/- The law's valid, walked. -/
import Derived.Test.YtndlihclgdkpaaaGreatDoorGg
import Derived.Test.YtndlihclgdkpaaaGreatDoorWpm
set_option linter.unusedVariables false
set_option linter.unusedSimpArgs false
open Go.Lib (hid)
set_option maxRecDepth 100000
namespace Go.Proofs.YtndlihclgdkpaaaGreatDoor
open Go.RowKit
open Kit (Chg)
open Sha (v)
open Go.Proofs.YtndlihclgdkpaaaGreatDoor.One

set_option maxHeartbeats 4000000 in
theorem wvalid_any (kind a0 a1 a2 kd dy:Int) (a:Option Addr) (n c:Nat) (d1 d2:Int) (w:World):Calls Tryz.prog 54 #[.agg #[.int .i64 kind,.int .i64 a0,.int .i64 a1,.int .i64 a2,.int .i64 kd,.int .i64 dy,.slice a n c,.int .i64 d1,.int .i64 d2]] w fun e w'=>e= .returned (.bool (decide ((0≤a0∧a0<3)∧(0≤a1∧a1<3)∧(0≤a2∧a2<3)∧(n:Int)≤100)))∧Below w.heap.size w w':=by
 obtain ⟨D,hD⟩:=ex_eq (decide ((0≤a0∧a0<3)∧(0≤a1∧a1<3)∧(0≤a2∧a2<3)∧(n:Int)≤100))
 have HD:=hid hD
 rw [hD]
 clear hD
 by_cases h0:0≤a0
 rotate_left
 focus
  have HR:Hid (D=false):=hid (by rw [← HD.o];exact decide_eq_false (fun h=>h0 h.1.1))
  have g0:decide (a0 ≥ 0)=false:=decide_eq_false h0
  clear h0
  go_enter Tryz.func54,Tryz.ntmps54
  go_wp2
  go_ret
  refine ⟨?_,(Below.refl _ _).alloc (Nat.le_refl _) _⟩
  rw [HR.o]
  first | rfl | simp
 by_cases h1:a0<3
 rotate_left
 focus
  have HR:Hid (D=false):=hid (by rw [← HD.o];exact decide_eq_false (fun h=>h1 h.1.2))
  have g0:decide (a0 ≥ 0)=true:=decide_eq_true h0
  have g1:decide (a0<3)=false:=decide_eq_false h1
  clear h0 h1
  go_enter Tryz.func54,Tryz.ntmps54
  go_wp2
  go_ret
  refine ⟨?_,(Below.refl _ _).alloc (Nat.le_refl _) _⟩
  rw [HR.o]
  first | rfl | simp
 by_cases h2:0≤a1
 rotate_left
 focus
  have HR:Hid (D=false):=hid (by rw [← HD.o];exact decide_eq_false (fun h=>h2 h.2.1.1))
  have g0:decide (a0 ≥ 0)=true:=decide_eq_true h0
  have g1:decide (a0<3)=true:=decide_eq_true h1
  have g2:decide (a1 ≥ 0)=false:=decide_eq_false h2
  clear h0 h1 h2
  go_enter Tryz.func54,Tryz.ntmps54
  go_wp2
  go_ret
  refine ⟨?_,(Below.refl _ _).alloc (Nat.le_refl _) _⟩
  rw [HR.o]
  first | rfl | simp
 by_cases h3:a1<3
 rotate_left
 focus
  have HR:Hid (D=false):=hid (by rw [← HD.o];exact decide_eq_false (fun h=>h3 h.2.1.2))
  have g0:decide (a0 ≥ 0)=true:=decide_eq_true h0
  have g1:decide (a0<3)=true:=decide_eq_true h1
  have g2:decide (a1 ≥ 0)=true:=decide_eq_true h2
  have g3:decide (a1<3)=false:=decide_eq_false h3
  clear h0 h1 h2 h3
  go_enter Tryz.func54,Tryz.ntmps54
  go_wp2
  go_ret
  refine ⟨?_,(Below.refl _ _).alloc (Nat.le_refl _) _⟩
  rw [HR.o]
  first | rfl | simp
 by_cases h4:0≤a2
 rotate_left
 focus
  have HR:Hid (D=false):=hid (by rw [← HD.o];exact decide_eq_false (fun h=>h4 h.2.2.1.1))
  have g0:decide (a0 ≥ 0)=true:=decide_eq_true h0
  have g1:decide (a0<3)=true:=decide_eq_true h1
  have g2:decide (a1 ≥ 0)=true:=decide_eq_true h2
  have g3:decide (a1<3)=true:=decide_eq_true h3
  have g4:decide (a2 ≥ 0)=false:=decide_eq_false h4
  clear h0 h1 h2 h3 h4
  go_enter Tryz.func54,Tryz.ntmps54
  go_wp2
  go_ret
  refine ⟨?_,(Below.refl _ _).alloc (Nat.le_refl _) _⟩
  rw [HR.o]
  first | rfl | simp
 by_cases h5:a2<3
 rotate_left
 focus
  have HR:Hid (D=false):=hid (by rw [← HD.o];exact decide_eq_false (fun h=>h5 h.2.2.1.2))
  have g0:decide (a0 ≥ 0)=true:=decide_eq_true h0
  have g1:decide (a0<3)=true:=decide_eq_true h1
  have g2:decide (a1 ≥ 0)=true:=decide_eq_true h2
  have g3:decide (a1<3)=true:=decide_eq_true h3
  have g4:decide (a2 ≥ 0)=true:=decide_eq_true h4
  have g5:decide (a2<3)=false:=decide_eq_false h5
  clear h0 h1 h2 h3 h4 h5
  go_enter Tryz.func54,Tryz.ntmps54
  go_wp2
  go_ret
  refine ⟨?_,(Below.refl _ _).alloc (Nat.le_refl _) _⟩
  rw [HR.o]
  first | rfl | simp
 by_cases h6:(n:Int)≤100
 rotate_left
 focus
  have HR:Hid (D=false):=hid (by rw [← HD.o];exact decide_eq_false (fun h=>h6 h.2.2.2))
  have g0:decide (a0 ≥ 0)=true:=decide_eq_true h0
  have g1:decide (a0<3)=true:=decide_eq_true h1
  have g2:decide (a1 ≥ 0)=true:=decide_eq_true h2
  have g3:decide (a1<3)=true:=decide_eq_true h3
  have g4:decide (a2 ≥ 0)=true:=decide_eq_true h4
  have g5:decide (a2<3)=true:=decide_eq_true h5
  have g6:decide ((n:Int)≤100)=false:=decide_eq_false h6
  clear h0 h1 h2 h3 h4 h5 h6
  go_enter Tryz.func54,Tryz.ntmps54
  go_wp2
  go_ret
  refine ⟨?_,(Below.refl _ _).alloc (Nat.le_refl _) _⟩
  rw [HR.o]
  first | rfl | simp
 have HR:Hid (D=true):=hid (by rw [← HD.o];exact decide_eq_true ⟨⟨h0,h1⟩,⟨h2,h3⟩,⟨h4,h5⟩,h6⟩)
 have g0:decide (a0 ≥ 0)=true:=decide_eq_true h0
 have g1:decide (a0<3)=true:=decide_eq_true h1
 have g2:decide (a1 ≥ 0)=true:=decide_eq_true h2
 have g3:decide (a1<3)=true:=decide_eq_true h3
 have g4:decide (a2 ≥ 0)=true:=decide_eq_true h4
 have g5:decide (a2<3)=true:=decide_eq_true h5
 have g6:decide ((n:Int)≤100)=true:=decide_eq_true h6
 clear h0 h1 h2 h3 h4 h5 h6
 go_enter Tryz.func54,Tryz.ntmps54
 go_wp2
 go_ret
 refine ⟨?_,(Below.refl _ _).alloc (Nat.le_refl _) _⟩
 rw [HR.o]
 first | rfl | simp
theorem wown_any (kind a0 a1 a2 kd dy:Int) (a:Option Addr) (n c:Nat) (d1 d2:Int) (w:World):Calls Tryz.prog 55 #[.agg #[.int .i64 kind,.int .i64 a0,.int .i64 a1,.int .i64 a2,.int .i64 kd,.int .i64 dy,.slice a n c,.int .i64 d1,.int .i64 d2]] w fun e w'=>e= .returned (.bool (decide (kind=2∨a2=a0)))∧Below w.heap.size w w':=by
 obtain ⟨D,hD⟩:=ex_eq (decide (kind=2∨a2=a0))
 have HD:=hid hD
 rw [hD]
 clear hD
 by_cases h0:kind=2
 ·have HR:Hid (D=true):=hid (by rw [← HD.o];exact decide_eq_true (.inl h0))
  have g0:(kind==2)=true:=by rw [beq_iff_eq];exact h0
  clear h0
  go_enter Tryz.func55,Tryz.ntmps55
  go_wp2
  go_ret
  refine ⟨?_,(Below.refl _ _).alloc (Nat.le_refl _) _⟩
  rw [HR.o]
  first | rfl | simp
 by_cases h1:a2=a0
 ·have HR:Hid (D=true):=hid (by rw [← HD.o];exact decide_eq_true (.inr h1))
  have g0:(kind==2)=false:=by rw [beq_eq_false_iff_ne];exact h0
  have g1:(a2==a0)=true:=by rw [beq_iff_eq];exact h1
  clear h0 h1
  go_enter Tryz.func55,Tryz.ntmps55
  go_wp2
  go_ret
  refine ⟨?_,(Below.refl _ _).alloc (Nat.le_refl _) _⟩
  rw [HR.o]
  first | rfl | simp
 have HR:Hid (D=false):=hid (by rw [← HD.o];exact decide_eq_false (fun h=>h.elim h0 h1))
 have g0:(kind==2)=false:=by rw [beq_eq_false_iff_ne];exact h0
 have g1:(a2==a0)=false:=by rw [beq_eq_false_iff_ne];exact h1
 clear h0 h1
 go_enter Tryz.func55,Tryz.ntmps55
 go_wp2
 go_ret
 refine ⟨?_,(Below.refl _ _).alloc (Nat.le_refl _) _⟩
 rw [HR.o]
 first | rfl | simp
end Go.Proofs.YtndlihclgdkpaaaGreatDoor

/- The law SignatureResumes, walked. -/
import Derived.Test.YtjhpdchcmfghpaaGreatDoorSml
import Derived.Test.YtjhpdchcmfghpaaGreatDoorOpu
namespace Go.Proofs.YtjhpdchcmfghpaaGreatDoor
set_option linter.unusedVariables false
set_option linter.unusedSimpArgs false
open Go.RowKit
open Kit (Chg)
open Sha (v)
open Go.Proofs.YtjhpdchcmfghpaaGreatDoor.One

/-- What a signer does leaves strings as they are. -/
theorem strs_chg {w w' : World} {B g b t next : Nat} {seed pk : ByteArray} {a : Option Addr} {ss : List ByteArray} (h : StrsAt w a ss) (hs : SignerAt w B g b t seed pk next) (hc : Chg (fun q i => q = g ∧ i = 6) w w') : StrsAt w' a ss := by
  obtain ⟨gt, ls, hR, _, _⟩ := hs.ex
  obtain ⟨k0, k1, k2, k3, k4, k5, k6⟩ := row_cells hR
  rcases h with h | ⟨bb, o, e, hq⟩
  · exact .inl h
  · refine .inr ⟨bb, o, e, fun j hj => hc.cell (hq j hj) (fun hm => ?_)⟩
    have h1 := hq j hj
    rw [hm.1, hm.2, k6] at h1
    cases h1
theorem row_chg {w w' : World} {B g b t next A : Nat} {seed pk : ByteArray} {c : Array Value} {T : TypeId} {f : Nat × Nat} (h : w.heap[A]? = some (.cells c T f)) (hT : T ≠ 86) (hs : SignerAt w B g b t seed pk next) (hc : Chg (fun q i => q = g ∧ i = 6) w w') : w'.heap[A]? = some (.cells c T f) := by
  obtain ⟨gt, ls, hR, _, _⟩ := hs.ex
  refine (hc.other A (Array.getElem?_eq_some_iff.1 h).1 (fun i e => ?_)).trans h
  rw [e.1, hR] at h
  cases h
  exact hT rfl
/-- The cells of a result that was laid into a box of its own. -/
theorem box3 {w w' : World} {A : Nat} {c0 c1 c2 : Value} {T : TypeId} (h : w.heap[A]? = some (.cells #[c0, c1, c2] T (0, 0))) (hb : Below w.heap.size w w') : w'.cell? ⟨A, 0, none⟩ = some c0 ∧ w'.cell? ⟨A, 1, none⟩ = some c1 ∧ w'.cell? ⟨A, 2, none⟩ = some c2 := by
  have hg := (hb.block A (Array.getElem?_eq_some_iff.1 h).1).trans h
  exact ⟨(cell_of_row _ _ _ _ _ _ hg).trans rfl, (cell_of_row _ _ _ _ _ _ hg).trans rfl, (cell_of_row _ _ _ _ _ _ hg).trans rfl⟩

end Go.Proofs.YtjhpdchcmfghpaaGreatDoor

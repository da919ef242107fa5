/- The form's reach: how long a slice of bytes that came in can be. -/
import Derived.Test.YtfnhcjcahcacnaaDoorLift
import Derived.SizedLaws
namespace Go.Proofs.YtfnhcjcahcacnaaDoor
theorem len_reach {H : Type} {ts : List TypeId} {ds : List (DataW H)} (h : (DataW.weightsEach Tryd.prog ts ds).all (· ≤ reachBytes) = true) {j : Nat} (ht : ts[j]? = some 28) {d : DataW H} (hd : ds[j]? = some d) {n : Nat}
    (hsp : n = 0 ∨ ∃ es sp, d = .slice es sp ∧ es.length = n) : n ≤ 140737488351232 := by
  rcases hsp with h0 | ⟨es, sp, rfl, hl⟩
  · omega
  · have := sized_slice h ht hd Tryd.underlying28
    rw [bytes5] at this
    unfold reachBytes at this
    omega
end Go.Proofs.YtfnhcjcahcacnaaDoor

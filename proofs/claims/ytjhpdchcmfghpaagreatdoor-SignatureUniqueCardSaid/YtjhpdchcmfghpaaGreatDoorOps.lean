/- The opening of a signature that came in. -/
import Derived.Test.YtjhpdchcmfghpaaGreatDoorGf
import Derived.Test.YtjhpdchcmfghpaaGreatDoorOpn
namespace Go.Proofs.YtjhpdchcmfghpaaGreatDoor
open Go.ChangeShapes Go.WideShapes Go.ChangeAt Go.RowKit
set_option linter.unusedVariables false
set_option linter.unusedSimpArgs false

theorem cellsSig : Tryz.prog.cellsOf 24 = 3 := by kernel_rfl
theorem cellsStrs : Tryz.prog.cellsOf 22 = 1 := by kernel_rfl
theorem Tryz.fieldsSig : (match Tryz.prog.underlying 24 with | some (.struct fields) => fields.toList.map (fun f => (f.type, f.offset)) | _ => []) = [(3, 0), (22, 1), (22, 2)] := by kernel_rfl
theorem array3 {α : Type} {cs : Array α} (h : cs.size = 3) : ∃ c0 c1 c2, cs = #[c0, c1, c2] := by
  obtain ⟨l⟩ := cs
  match l, h with
  | [c0, c1, c2], _ => exact ⟨c0, c1, c2, rfl⟩
theorem open_strs2 {H : Type} {enc : TypeId × Value → H} {W : World} {fuel : Nat} {cs : List Value} {x : DataW H × List MemPlace}
    (hf : DataW.trod enc Tryz.prog W 0 (fun _ => true) true fuel 22 cs = some x) :
    ∃ (a : Option Addr) (len cap : Nat) (ss : List ByteArray), cs = [.slice a len cap] ∧ ss.length = len ∧ len ≤ 9223372036854775807 ∧ StrsAt W a ss := by
  rcases open_strings Tryz.underlying22 Tryz.underlying9 cellsStr hf with ⟨hcs, _⟩ | ⟨ad, l, c, zs, hcs, _⟩
  · subst hcs
    obtain ⟨ss, h1, h2, h3⟩ := open_strs hf
    exact ⟨_, _, _, ss, rfl, h1, h2, h3⟩
  · subst hcs
    obtain ⟨ss, h1, h2, h3⟩ := open_strs hf
    exact ⟨_, _, _, ss, rfl, h1, h2, h3⟩
set_option maxRecDepth 100000 in
theorem open_sig {H : Type} {enc : TypeId × Value → H} {W : World} {r : Reach} {b0 : Nat} {v : Value} {d : DataW H} {p : List MemPlace} (hv : Value.okWide Tryz.prog W r b0 24 v) (h : DataW.Trod enc Tryz.prog W 0 (fun _ => true) true 24 v d p) :
    ∃ (idx : Int) (ps qs : List ByteArray), ps.length < 9223372036854775808 ∧ qs.length < 9223372036854775808 ∧ SigAt W v idx ps qs := by
  have hF := Tryz.fieldsSig
  cases hu : Tryz.prog.underlying 24 with
  | none => rw [hu] at hF; simp at hF
  | some td =>
    rw [hu] at hF
    cases td with
    | struct fields =>
      obtain ⟨cs, rfl, hsz⟩ := okWide_struct hu hv
      obtain ⟨c0, c1, c2, rfl⟩ := array3 (hsz.trans cellsSig)
      obtain ⟨fuel, hf⟩ := h
      obtain ⟨xs, n, _, _, hl, hlen, hf⟩ := DataW.trod_struct hu hf
      obtain ⟨fl⟩ := fields
      match fl, hF with
      | [f0, f1, f2], hF =>
        simp only [List.map_cons, List.map_nil, List.cons.injEq, Prod.mk.injEq, and_true] at hF
        obtain ⟨⟨t0, o0⟩, ⟨t1, o1⟩, ⟨t2, o2⟩⟩ := hF
        match xs, hlen with
        | [y0, y1, y2], _ =>
          have h0 := hf 0 f0 rfl
          have h1 := hf 1 f1 rfl
          have h2 := hf 2 f2 rfl
          rw [t0, o0, cellsInt] at h0
          rw [t1, o1, cellsStrs] at h1
          rw [t2, o2, cellsStrs] at h2
          obtain ⟨n0, e0, _, w0⟩ := DataW.trod_int Tryz.underlying3 h0
          obtain ⟨a1, n1, k1, ps, e1, l1, m1, s1⟩ := open_strs2 h1
          obtain ⟨a2, n2, k2, qs, e2, l2, m2, s2⟩ := open_strs2 h2
          simp [Value.cells] at e0 e1 e2
          exact ⟨n0, ps, qs, by omega, by omega, a1, n1, k1, a2, n2, k2, by rw [e0, e1, e2], l1, s1, l2, s2⟩
    | _ => simp at hF
end Go.Proofs.YtjhpdchcmfghpaaGreatDoor

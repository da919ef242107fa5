/- A cutting that comes in by value, opened; a valid one in numbers. -/
import Derived.Test.YtfnhcjcahcacnaaDoorReach
import Derived.Test.YtfnhcjcahcacnaaDoorVal
import Derived.Lib.SmallJoins
namespace Go.Proofs.YtfnhcjcahcacnaaDoor
open Go.RowKit Go.WideShapes Go.ChangeAt Go.ChangeShapes
open Roll (u)
open Chk

theorem cut_of_valid {mn mx win bits : Int} (s : BitVec 64) (h : validB mn mx win bits = true) : ∃ c : Cut, c.Ok ∧ mn = c.mn ∧ mx = c.mx ∧ win = c.win ∧ bits = c.bits ∧ s = c.seed := by
  unfold validB at h
  rw [decide_eq_true_eq] at h
  obtain ⟨h1, h2, h3, h4, h5, h6, h7⟩ := h
  exact ⟨⟨mn.toNat, mx.toNat, win.toNat, bits.toNat, s⟩, ⟨by simp; omega, by simp; omega, by simp; omega, by simp; omega, by simp; omega, by simp; omega⟩, by simp; omega, by simp; omega, by simp; omega, by simp; omega, rfl⟩
theorem array5 {α : Type} {cs : Array α} (h : cs.size = 5) : ∃ c0 c1 c2 c3 c4, cs = #[c0, c1, c2, c3, c4] := by
  obtain ⟨l⟩ := cs
  match l, h with
  | [c0, c1, c2, c3, c4], _ => exact ⟨c0, c1, c2, c3, c4, rfl⟩

theorem Tryd.fields48 : (match Tryd.prog.underlying 48 with | some (.struct fields) => fields.toList.map (fun f => (f.type, f.offset)) | _ => []) = [(3, 0), (3, 1), (3, 2), (3, 3), (22, 4)] := by kernel_rfl
theorem Tryd.cells48 : Tryd.prog.cellsOf 48 = 5 := by kernel_rfl
theorem Tryd.cells3 : Tryd.prog.cellsOf 3 = 1 := by kernel_rfl
theorem Tryd.cells22 : Tryd.prog.cellsOf 22 = 1 := by kernel_rfl

theorem open_cutting {H : Type} {enc : TypeId × Value → H} {W : World} {base : Nat} {spare : Nat → Bool} {held : Bool} {r : Reach} {b0 : Nat} {v : Value} {d : DataW H} {p : List MemPlace} (hv : Value.okWide Tryd.prog W r b0 48 v) (h : DataW.Trod enc Tryd.prog W base spare held 48 v d p) :
    ∃ (mn mx win bits : Int) (s : BitVec 64), v = .agg #[.int .i64 mn, .int .i64 mx, .int .i64 win, .int .i64 bits, .int .u64 (u s)] := by
  have hF := Tryd.fields48
  cases hu : Tryd.prog.underlying 48 with
  | none => rw [hu] at hF; simp at hF
  | some td =>
    rw [hu] at hF
    cases td with
    | struct fields =>
      obtain ⟨cs, rfl, hsz⟩ := okWide_struct hu hv
      obtain ⟨c0, c1, c2, c3, c4, rfl⟩ := array5 (hsz.trans Tryd.cells48)
      obtain ⟨fuel, hf⟩ := h
      obtain ⟨xs, n, _, _, hl, hlen, hf⟩ := DataW.trod_struct hu hf
      obtain ⟨fl⟩ := fields
      match fl, hF with
      | [f0, f1, f2, f3, f4], hF =>
        simp only [List.map_cons, List.map_nil, List.cons.injEq, Prod.mk.injEq, and_true] at hF
        obtain ⟨⟨t0, o0⟩, ⟨t1, o1⟩, ⟨t2, o2⟩, ⟨t3, o3⟩, ⟨t4, o4⟩⟩ := hF
        match xs, hlen with
        | [y0, y1, y2, y3, y4], _ =>
          have h0 := hf 0 f0 rfl
          have h1 := hf 1 f1 rfl
          have h2 := hf 2 f2 rfl
          have h3 := hf 3 f3 rfl
          have h4 := hf 4 f4 rfl
          rw [t0, o0, Tryd.cells3] at h0
          rw [t1, o1, Tryd.cells3] at h1
          rw [t2, o2, Tryd.cells3] at h2
          rw [t3, o3, Tryd.cells3] at h3
          rw [t4, o4, Tryd.cells22] at h4
          obtain ⟨n0, e0, _, w0⟩ := DataW.trod_int Tryd.underlying3 h0
          obtain ⟨n1, e1, _, w1⟩ := DataW.trod_int Tryd.underlying3 h1
          obtain ⟨n2, e2, _, w2⟩ := DataW.trod_int Tryd.underlying3 h2
          obtain ⟨n3, e3, _, w3⟩ := DataW.trod_int Tryd.underlying3 h3
          obtain ⟨n4, e4, _, w4⟩ := DataW.trod_int Tryd.underlying22 h4
          obtain ⟨s, rfl⟩ := Roll.u_of_wf w4
          simp [Value.cells] at e0 e1 e2 e3 e4
          exact ⟨n0, n1, n2, n3, s, by rw [e0, e1, e2, e3, e4]⟩
    | _ => simp at hF
end Go.Proofs.YtfnhcjcahcacnaaDoor

/- Appending bytes to a slice of the call's own. -/
import Derived.Test.YtfnhcjcahcacnaaDoorLawsD
import Derived.Laws.AppendOwnNone
namespace Go.Proofs.YtfnhcjcahcacnaaDoor
open Go.RowKit
open Roll (u)
open Kit (Chg)

/-- What is appended: nothing (nil), or the cells from an address on. -/
def SrcAt (w : World) (a : Option Addr) (m c size : Nat) (news : List Value) : Prop :=
  (a = none ∧ m = 0 ∧ c = 0 ∧ news = []) ∨ (news.length = m * size ∧ ∃ ad, a = some ad ∧ ∀ j u, news[j]? = some u → w.cell? (ad.add j) = some u)

theorem wpList_append_src {P : Program} {w : World} {ops : Array Oper} {rest : List Oper} {o : Oper} {a : Act} {Q : Exit → Act → World → Prop} (hgd : o.guard = none) (s x : Operand) (t : TypeId)
    (ho : o.op = .call { callee := .builtin .append, args := #[s, x], argTypes := #[t, t] })
    (base : Nat) (e : TypeId) (i : TypeInfo) (z : Value) (size bytes : Nat) (ht : P.underlying t = some (.slice e)) (hi : P.info? e = some i) (hz : i.zero = some z)
    (hsize : i.size = size) (hby : i.bytes = bytes) (hzs : z.cells.size = size) (hsz : 0 < size)
    (v : Value) (n : Nat) (xs : List Value) (hs : a.eval s = v) (hown : w.ownsRow base e size v n xs)
    (ao : Option Addr) (m c : Nat) (news : List Value) (hx : a.eval x = .slice ao m c) (hsrc : SrcAt w ao m c size news) (h1 : ∀ u ∈ news, u.oneCell' = true)
    (h63 : n + m ≤ maxLen) (hbytes : (n + m) * bytes ≤ 140737488355328) (hbase : base ≤ w.heap.size)
    (h : ∀ v' w', w'.ownsRow base e size v' (n + m) (xs ++ news) → w.grownBy w' v.ownBlock → wpList P ops Q rest (a.put o.dst v') w') : wpList P ops Q (o :: rest) a w := by
  rcases hsrc with ⟨rfl, rfl, rfl, rfl⟩ | ⟨hl, ad, rfl, hnews⟩
  · refine wpList_append_own_none hgd s x t ho base e i size ht hi v n xs hs hown hx ?_
    refine h v w ?_ ⟨rfl, rfl, rfl, Nat.le_refl _, fun _ _ _ => rfl⟩
    rw [List.append_nil, Nat.add_zero]; exact hown
  · exact wpList_append_own w hgd s x t ho base e i z size bytes ht hi hz hsize hby hzs hsz v n xs hs hown ad m c news hx hl hnews h1 h63 hbytes hbase (fun v' w' a b _ => h v' w' a b)

/-- Bytes as the values of cells. -/
def bvals (bs : List Nat) : List Value := bs.map fun (x : Nat) => Value.int .u8 (x : Int)
theorem bvals_length (bs : List Nat) : (bvals bs).length = bs.length := by simp [bvals]
theorem bvals_one (bs : List Nat) : ∀ v ∈ bvals bs, v.oneCell' = true := by
  intro v hv
  simp only [bvals, List.mem_map] at hv
  obtain ⟨x, _, rfl⟩ := hv
  rfl
theorem bvals_append (bs cs : List Nat) : bvals (bs ++ cs) = bvals bs ++ bvals cs := by simp [bvals]
theorem add_none (b o j : Nat) : (⟨b, o, none⟩ : Addr).add j = ⟨b, o + j, none⟩ := by unfold Addr.add; split <;> simp_all
theorem BytesAt.src {w : World} {a : Option Addr} {bs : List Nat} (h : BytesAt w a bs) (c : Nat) (hc : a = none → c = 0) : SrcAt w a bs.length c 1 (bvals bs) := by
  rcases h.1 with e | ⟨b, o, e, hcell⟩
  · subst e
    cases a with
    | none => exact .inl ⟨rfl, rfl, hc rfl, rfl⟩
    | some ad => exact .inr ⟨rfl, ad, rfl, fun j u hu => by simp [bvals] at hu⟩
  · subst e
    refine .inr ⟨by rw [bvals_length, Nat.mul_one], _, rfl, fun j u hu => ?_⟩
    have hj : j < bs.length := by
      have := (List.getElem?_eq_some_iff.1 hu).1
      rwa [bvals_length] at this
    rw [add_none, hcell j hj, ← hu]
    simp [bvals, hj]
/-- A slice of the call's own that holds bytes reads as bytes. -/
theorem bytes_of_own {w : World} {base n : Nat} {v : Value} {bs : List Nat} (h : w.ownsRow base 5 1 v n (bvals bs)) (hb : ∀ x ∈ bs, x < 256) (hm : bs.length ≤ maxLen) :
    n = bs.length ∧ ∃ a cap, v = .slice a bs.length cap ∧ bs.length ≤ cap ∧ cap ≤ maxLen ∧ BytesAt w a bs ∧ (a = none → cap = 0) := by
  obtain ⟨hl, hv⟩ := h
  rw [bvals_length, Nat.mul_one] at hl
  subst hl
  refine ⟨rfl, ?_⟩
  rcases hv with ⟨rfl, h0⟩ | ⟨g, cap, cur, rfl, _, hg, hnc, hcm, hcs, htake⟩
  · have : bs = [] := List.eq_nil_of_length_eq_zero h0
    subst this
    exact ⟨none, 0, rfl, Nat.le_refl _, Nat.zero_le _, ⟨.inl rfl, hb, hm⟩, fun _ => rfl⟩
  · refine ⟨some ⟨g, 0, none⟩, cap, rfl, hnc, hcm, ⟨.inr ⟨g, 0, rfl, fun i hi => ?_⟩, hb, hm⟩, fun e => by cases e⟩
    rw [Nat.zero_add, cell_of_row _ _ _ _ _ _ hg]
    have h1 : (bvals bs)[i]? = some (.int .u8 ((bs.getD i 0 : Nat) : Int)) := by simp [bvals, hi]
    rw [← htake, Nat.mul_one, List.getElem?_take_of_lt hi] at h1
    simpa using h1
theorem Tryd.info5 : (Tryd.prog.info? 5).map (fun i => (i.zero, i.size, i.bytes)) = some (some (.int .u8 0), 1, 1) := by kernel_rfl
end Go.Proofs.YtfnhcjcahcacnaaDoor

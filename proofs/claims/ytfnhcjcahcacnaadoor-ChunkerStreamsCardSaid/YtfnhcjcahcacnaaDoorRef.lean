/- The contracts of the specification's functions of layer 14, and of Sum, Len and Reset. -/
import Derived.Test.YtfnhcjcahcacnaaDoorNew
namespace Go.Proofs.YtfnhcjcahcacnaaDoor
open Go.RowKit
open Roll (u)
open Kit (Chg)

/-- The bytes bs lie at a: the elements of a slice of bytes. -/
def BytesAt (w : World) (a : Option Addr) (bs : List Nat) : Prop :=
  (bs = [] ∨ ∃ b o, a = some ⟨b, o, none⟩ ∧ ∀ i, i < bs.length → w.cell? ⟨b, o + i, none⟩ = some (.int .u8 ((bs.getD i 0 : Nat) : Int))) ∧ (∀ x ∈ bs, x < 256) ∧ bs.length ≤ maxLen

def RotRel (x : BitVec 64) (n : Nat) (v i : Value) : Prop := ∃ k : Nat, k ≤ n ∧ i = .int .i64 k ∧ v = .int .u64 (u (x.rotateLeft k))

set_option maxHeartbeats 400000 in
theorem rotate_any (x : BitVec 64) (n : Nat) (hn : n ≤ 9223372036854775807) (w : World) :
    Calls Tryd.prog 36 #[.int .u64 (u x), .int .i64 n] w fun e w' => e = .returned (.int .u64 (u (x.rotateLeft n))) ∧ w = w' := by
  obtain ⟨Q0, hq0⟩ : ∃ Q : Prop, Hid Q := ⟨True, trivial⟩
  have r1 := Roll.f_shl1 Q0
  have r2 := Roll.f_shr63 Q0
  have r3 := Roll.f_or Q0
  have r9 := Roll.f_nonneg Q0
  go_enter Tryd.func36, Tryd.ntmps36
  go_wp2
  go_loop [0, 5] (fun v i => RotRel x n v i) (fun _ i => n - (intOf i).toNat)
  case atStart => exact ⟨0, Nat.zero_le _, rfl, by rw [Roll.rot_zero]⟩
  case round =>
    obtain ⟨k, hk, rfl, rfl⟩ := hrel
    by_cases hlt : k < n
    · go_wp2
      go_round
      case rel => exact ⟨k + 1, by omega, by go_num, by rw [Roll.rot_succ]⟩
      case measure => simp [intOf]; omega
    · go_wp2
      go_ret
      have e : k = n := by omega
      subst e
      exact ⟨rfl, rfl⟩

theorem rotate_int (x : BitVec 64) (n : Int) (h0 : 0 ≤ n) (hn : n ≤ 9223372036854775807) (w : World) :
    Calls Tryd.prog 36 #[.int .u64 (u x), .int .i64 n] w fun e w' => e = .returned (.int .u64 (u (x.rotateLeft n.toNat))) ∧ w = w' := by
  obtain ⟨m, rfl⟩ := Int.eq_ofNat_of_zero_le h0
  exact rotate_any x m (by omega) w

theorem window_low (n : Int) (h : n < 1) (w : World) : Calls Tryd.prog 30 #[.int .i64 n] w fun e w' => e = .returned (.int .i64 1) ∧ w = w' := by
  go_enter Tryd.func30, Tryd.ntmps30
  go_wp2
  go_ret
  exact ⟨rfl, rfl⟩
theorem window_high (n : Int) (h : 64 < n) (w : World) : Calls Tryd.prog 30 #[.int .i64 n] w fun e w' => e = .returned (.int .i64 64) ∧ w = w' := by
  have h' : ¬ n < 1 := by omega
  go_enter Tryd.func30, Tryd.ntmps30
  go_wp2
  go_ret
  exact ⟨rfl, rfl⟩
theorem window_mid (n : Int) (h1 : 1 ≤ n) (h2 : n ≤ 64) (w : World) : Calls Tryd.prog 30 #[.int .i64 n] w fun e w' => e = .returned (.int .i64 n) ∧ w = w' := by
  go_enter Tryd.func30, Tryd.ntmps30
  go_wp2
  go_ret
  exact ⟨rfl, rfl⟩
/-- What a window counts as. -/
def winOf (n : Int) : Nat := if n < 1 then 1 else if 64 < n then 64 else n.toNat
theorem winOf_one (n : Int) : 1 ≤ winOf n ∧ winOf n ≤ 64 := by
  unfold winOf
  split
  · omega
  · split <;> omega
theorem window_any (n : Int) (w : World) : Calls Tryd.prog 30 #[.int .i64 n] w fun e w' => e = .returned (.int .i64 (winOf n)) ∧ w = w' := by
  unfold winOf
  split
  · exact window_low n (by assumption) w
  · split
    · exact window_high n (by assumption) w
    · have h : n = (n.toNat : Int) := by omega
      rw [← h]
      exact window_mid n (by omega) (by omega) w

def HashRel (s : BitVec 64) (bs : List Nat) (v i : Value) : Prop := ∃ k : Nat, k ≤ bs.length ∧ i = .int .i64 k ∧ v = .int .u64 (u ((Roll.hash s (bs.take k)).rotateLeft (bs.length - k)))

set_option maxHeartbeats 400000 in
theorem hash_any (s : BitVec 64) (a : Option Addr) (cap : Nat) (bs : List Nat) (w : World) (h : BytesAt w a bs) :
    Calls Tryd.prog 31 #[.int .u64 (u s), .slice a bs.length cap] w fun e w' => e = .returned (.int .u64 (u (Roll.hash s bs))) ∧ w = w' := by
  obtain ⟨h, hby, hm⟩ := h
  unfold maxLen at hm
  obtain ⟨Q0, hq0⟩ : ∃ Q : Prop, Hid Q := ⟨True, trivial⟩
  have r3 := Roll.f_xor Q0
  have r9 := Roll.f_nonneg Q0
  have HBY := Lib.hid hby
  have HH := Lib.hid h
  clear hby h
  go_enter Tryd.func31, Tryd.ntmps31
  go_wp2
  go_loop [5, 6] (fun v i => HashRel s bs v i) (fun _ i => bs.length - (intOf i).toNat)
  case atStart => exact ⟨0, Nat.zero_le _, rfl, by rw [List.take_zero, Roll.hash_nil, Roll.zero_rot]; rfl⟩
  case round =>
    obtain ⟨k, hk, rfl, rfl⟩ := hrel
    by_cases hlt : k < bs.length
    · obtain ⟨b, o, rfl, hc⟩ : ∃ b o, a = some ⟨b, o, none⟩ ∧ ∀ i, i < bs.length → w.cell? ⟨b, o + i, none⟩ = some (.int .u8 ((bs.getD i 0 : Nat) : Int)) := by
        rcases HH.out with e | e
        · subst e; simp at hlt
        · exact e
      have hck := hc k hlt
      clear hc
      have hx : bs.getD k 0 < 256 := by
        rw [List.getD_eq_getElem?_getD, List.getElem?_eq_getElem hlt]; exact HBY.out _ (List.getElem_mem hlt)
      have HS := Lib.hid (Roll.hash_step s bs k hlt)
      generalize bs.getD k 0 = x at hck hx HS
      go_wp2_with (first | (go_at_call 23; refine (number_any s x hx _).mono ?_; rintro e w' ⟨rfl, rfl⟩) | (go_at_call 36; refine (rotate_int _ _ (by omega) (by omega) _).mono ?_; rintro e w' ⟨rfl, rfl⟩))
      go_round
      case rel => exact ⟨k + 1, by omega, by go_num, by rw [← HS.out]⟩
      case measure => simp [intOf]; omega
    · go_wp2
      go_ret
      have e : k = bs.length := by omega
      subst e
      exact ⟨by rw [Nat.sub_self, Roll.rot_zero, List.take_length]; rfl, rfl⟩

theorem BytesAt.drop {w : World} {a : Option Addr} {bs : List Nat} (h : BytesAt w a bs) (b o k : Nat) (ha : a = some ⟨b, o, none⟩) : BytesAt w (some ⟨b, o + k, none⟩) (bs.drop k) := by
  obtain ⟨h1, h2, h3⟩ := h
  refine ⟨?_, fun x hx => h2 x (List.mem_of_mem_drop hx), by rw [List.length_drop]; omega⟩
  rcases h1 with rfl | ⟨b', o', e, hc⟩
  · exact .inl (by simp)
  · rw [ha] at e
    cases e
    refine .inr ⟨b, o + k, rfl, fun i hi => ?_⟩
    rw [List.length_drop] at hi
    have := hc (k + i) (by omega)
    rw [Nat.add_assoc, this, List.getD_eq_getElem?_getD, List.getD_eq_getElem?_getD, List.getElem?_drop]
theorem BytesAt.take {w : World} {a : Option Addr} {bs : List Nat} (h : BytesAt w a bs) (k : Nat) : BytesAt w a (bs.take k) := by
  obtain ⟨h1, h2, h3⟩ := h
  refine ⟨?_, fun x hx => h2 x (List.mem_of_mem_take hx), by rw [List.length_take]; omega⟩
  rcases h1 with rfl | ⟨b', o', e, hc⟩
  · exact .inl (by simp)
  · refine .inr ⟨b', o', e, fun i hi => ?_⟩
    rw [List.length_take] at hi
    rw [hc i (by omega), List.getD_eq_getElem?_getD, List.getD_eq_getElem?_getD, List.getElem?_take_of_lt (by omega)]
theorem BytesAt.some {w : World} {a : Option Addr} {bs : List Nat} (h : BytesAt w a bs) (hl : 0 < bs.length) : ∃ b o, a = Option.some ⟨b, o, none⟩ ∧ ∀ i, i < bs.length → w.cell? ⟨b, o + i, none⟩ = Option.some (.int .u8 ((bs.getD i 0 : Nat) : Int)) := by
  rcases h.1 with e | e
  · subst e; simp at hl
  · exact e
theorem BytesAt.getD_lt {w : World} {a : Option Addr} {bs : List Nat} (h : BytesAt w a bs) (k : Nat) (hk : k < bs.length) : bs.getD k 0 < 256 := by
  rw [List.getD_eq_getElem?_getD, List.getElem?_eq_getElem hk]; exact h.2.1 _ (List.getElem_mem hk)

/-- The last n of the bytes, or all. -/
def lastOf (bs : List Nat) (n : Nat) : List Nat := bs.drop (bs.length - n)

def LastPost (bs : List Nat) (n : Nat) (w : World) (e : Ending) (w' : World) : Prop := ∃ a cap, e = .returned (.slice a (lastOf bs n).length cap) ∧ BytesAt w a (lastOf bs n) ∧ (lastOf bs n).length ≤ cap ∧ w = w'

set_option maxHeartbeats 400000 in
theorem last_any (a : Option Addr) (cap : Nat) (bs : List Nat) (n : Nat) (hn : 1 ≤ n) (hn2 : n ≤ 64) (w : World) (h : BytesAt w a bs) (hcap : bs.length ≤ cap) :
    Calls Tryd.prog 29 #[.slice a bs.length cap, .int .i64 n] w (LastPost bs n w) := by
  have hm := h.2.2
  unfold maxLen at hm
  have HH := Lib.hid h
  clear h
  by_cases hlt : n < bs.length
  · obtain ⟨b, o, rfl, hc⟩ := HH.out.some (by omega)
    clear hc
    go_enter Tryd.func29, Tryd.ntmps29
    go_wp2
    go_ret
    have e : (lastOf bs n).length = bs.length - (bs.length - n) := by unfold lastOf; rw [List.length_drop]
    exact ⟨some ⟨b, o + (bs.length - n), none⟩, cap - (bs.length - n), by rw [e]; rfl, HH.out.drop b o _ rfl, by omega, rfl⟩
  · go_enter Tryd.func29, Tryd.ntmps29
    go_wp2
    go_ret
    have e : lastOf bs n = bs := by unfold lastOf; rw [show bs.length - n = 0 by omega]; rfl
    exact ⟨a, cap, by rw [e]; rfl, by rw [e]; exact HH.out, by rw [e]; exact hcap, rfl⟩

theorem len_any (b o : Nat) (n : Nat) (w : World) (h : w.cell? ⟨b, o + 322, none⟩ = some (.int .i64 n)) :
    Calls Tryd.prog 26 #[.pointer (some ⟨b, o, none⟩)] w fun e w' => e = .returned (.int .i64 n) ∧ w = w' := by
  go_enter Tryd.func26, Tryd.ntmps26
  go_wp2
  go_ret
  exact ⟨rfl, rfl⟩
theorem sum_any (b o : Nat) (x : BitVec 64) (w : World) (h : w.cell? ⟨b, o + 323, none⟩ = some (.int .u64 (u x))) :
    Calls Tryd.prog 27 #[.pointer (some ⟨b, o, none⟩)] w fun e w' => e = .returned (.int .u64 (u x)) ∧ w = w' := by
  go_enter Tryd.func27, Tryd.ntmps27
  go_wp2
  go_ret
  exact ⟨rfl, rfl⟩

/-- Reset: the window is empty. -/
theorem reset_any (b o : Nat) (s : BitVec 64) (win : Nat) (bs : List Nat) (st : Nat) (w : World) (h : RollAt w b o s win bs st) :
    Calls Tryd.prog 34 #[.pointer (some ⟨b, o, none⟩)] w fun e w' => e = .returned (.tuple #[]) ∧ RollAt w' b o s win [] 0 ∧ Chg (rollCells b o) w w' := by
  have h1 := h.start
  have h2 := h.length
  have h3 := h.sum
  have f1 := h.free 321 (by decide)
  have f2 := h.free 322 (by decide)
  have f3 := h.free 323 (by decide)
  have HH := Lib.hid h
  clear h
  go_enter Tryd.func34, Tryd.ntmps34
  go_wp2
  go_end0
  have hC : Chg (rollCells b o) w (((w.setCell ⟨b, o + 321, none⟩ (.int .i64 0)).setCell ⟨b, o + 322, none⟩ (.int .i64 0)).setCell ⟨b, o + 323, none⟩ (.int .u64 0)) :=
    ((Chg.setCell1 _ _ _ _ ⟨rfl, by omega, by omega⟩).setCell _ ⟨rfl, by omega, by omega⟩).setCell _ ⟨rfl, by omega, by omega⟩
  have k1 : (((w.setCell ⟨b, o + 321, none⟩ (.int .i64 0)).setCell ⟨b, o + 322, none⟩ (.int .i64 0)).setCell ⟨b, o + 323, none⟩ (.int .u64 0)).cell? ⟨b, o + 321, none⟩ = some (.int .i64 0) :=
    set_other (set_other (set_same h1) (by omega)) (by omega)
  have k2 : (((w.setCell ⟨b, o + 321, none⟩ (.int .i64 0)).setCell ⟨b, o + 322, none⟩ (.int .i64 0)).setCell ⟨b, o + 323, none⟩ (.int .u64 0)).cell? ⟨b, o + 322, none⟩ = some (.int .i64 0) :=
    set_other (set_same (set_other h2 (by omega))) (by omega)
  have k3 : (((w.setCell ⟨b, o + 321, none⟩ (.int .i64 0)).setCell ⟨b, o + 322, none⟩ (.int .i64 0)).setCell ⟨b, o + 323, none⟩ (.int .u64 0)).cell? ⟨b, o + 323, none⟩ = some (.int .u64 0) :=
    set_same (set_other (set_other h3 (by omega)) (by omega))
  have k4 : ∀ i, i < 64 → ∃ v : Nat, v < 256 ∧ (((w.setCell ⟨b, o + 321, none⟩ (.int .i64 0)).setCell ⟨b, o + 322, none⟩ (.int .i64 0)).setCell ⟨b, o + 323, none⟩ (.int .u64 0)).cell? ⟨b, o + 256 + i, none⟩ = some (.int .u8 (v : Int)) := fun i hi => by
    obtain ⟨v, hv, hc⟩ := HH.out.ring i hi
    exact ⟨v, hv, set_other (set_other (set_other hc (by omega)) (by omega)) (by omega)⟩
  have h := HH.out
  have f : ∀ i, i < 324 → (((w.setCell ⟨b, o + 321, none⟩ (.int .i64 0)).setCell ⟨b, o + 322, none⟩ (.int .i64 0)).setCell ⟨b, o + 323, none⟩ (.int .u64 0)).frozen? ⟨b, o + i, none⟩ = false := fun i hi => by
    rw [hC.frozen h1 ⟨o, fun hm => by have := hm.2.1; omega⟩]; exact h.free i hi
  exact ⟨rfl, ⟨fun i hi => hC.cell (h.table i hi) (fun hm => by have := hm.2.1; omega), k4, fun i hi => by simp at hi, set_other (set_other (set_other h.window (by omega)) (by omega)) (by omega), k1, k2, k3, f, by omega, h.win1, h.win64, by simp, by simp⟩, hC⟩
end Go.Proofs.YtfnhcjcahcacnaaDoor

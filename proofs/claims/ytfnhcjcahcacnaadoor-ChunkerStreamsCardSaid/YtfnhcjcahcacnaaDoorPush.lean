/- The contracts of the small functions of rollinghash: Number, RotateLeft64, Push, Sum, Len, Reset. -/
import Derived.Test.YtfnhcjcahcacnaaDoorRows
import Derived.Test.YtfnhcjcahcacnaaDoorRoll
import Derived.Test.YtfnhcjcahcacnaaDoorKit
import Derived.WalkSpells
import Derived.WalkLawsBesides
import Derived.Lib.Hide
namespace Go.Proofs.YtfnhcjcahcacnaaDoor
open Go.RowKit
open Roll (u)
open Kit (Chg)

set_option maxHeartbeats 400000 in
theorem number_any (s : BitVec 64) (i : Nat) (hi : i < 256) (w : World) :
    Calls Tryd.prog 23 #[.int .u64 (u s), .int .i64 i] w fun e w' => e = .returned (.int .u64 (u (Roll.num s i))) ∧ w = w' := by
  have r0 : IntKind.u64.wrap ((i : Int) + 1) = u (BitVec.ofNat 64 (i + 1)) := Roll.u_ofNat (i + 1)
  obtain ⟨Q0, hq0⟩ : ∃ Q : Prop, Hid Q := ⟨True, trivial⟩
  have r1 := Roll.f_start Q0
  have r2 := Roll.f_mixA Q0
  have r3 := Roll.f_mixB Q0
  have r4 := Roll.f_shr30 Q0
  have r5 := Roll.f_shr27 Q0
  have r6 := Roll.f_shr31 Q0
  have r7 := Roll.f_xor Q0
  have r8 := Roll.f_add Q0
  have r9 := Roll.f_nonneg Q0
  go_enter Tryd.func23, Tryd.ntmps23
  go_wp2
  go_ret
  exact ⟨rfl, rfl⟩

set_option maxHeartbeats 400000 in
theorem rot_any (s : BitVec 64) (i : Nat) (w : World) (h1 : i ≤ 64) :
    Calls Tryd.prog 57 #[.int .u64 (u s), .int .i64 i] w fun e w' => e = .returned (.int .u64 (u (s.rotateLeft i))) ∧ w' = w := by
  have r1 := Roll.and63 i (by omega)
  have hk : i % 64 ≤ 63 := by omega
  rw [← Roll.rot_eq]
  generalize i % 64 = k at r1 hk
  obtain ⟨Q0, hq0⟩ : ∃ Q : Prop, Hid Q := ⟨True, trivial⟩
  have r2 := Roll.f_shl Q0
  have r3 := Roll.f_shr Q0
  have r4 := Roll.f_or Q0
  have r9 := Roll.f_nonneg Q0
  have e1 : IntKind.u64.wrap (i : Int) = (i : Int) := by rw [IntKind.wrap_u64]; omega
  have e2 : IntKind.u64.wrap (64 - (k : Int)) = ((64 - k : Nat) : Int) := by rw [IntKind.wrap_u64]; omega
  go_enter Tryd.func57, Tryd.ntmps57
  go_wp2
  go_ret
  exact ⟨rfl, rfl⟩
theorem rot_one (s : BitVec 64) (w : World) :
    Calls Tryd.prog 57 #[.int .u64 (u s), .int .i64 1] w fun e w' => e = .returned (.int .u64 (u (s.rotateLeft 1))) ∧ w' = w := rot_any s 1 w (by omega)

/-- A Roll lies at (b, o): with the table of the seed s, a window of win bytes, and the bytes bs in the window. -/
structure RollAt (w : World) (b o : Nat) (s : BitVec 64) (win : Nat) (bs : List Nat) (st : Nat) : Prop where
  table : ∀ i, i < 256 → w.cell? ⟨b, o + i, none⟩ = some (.int .u64 (u (Roll.num s i)))
  ring : ∀ i, i < 64 → ∃ v : Nat, v < 256 ∧ w.cell? ⟨b, o + 256 + i, none⟩ = some (.int .u8 (v : Int))
  held : ∀ i, i < bs.length → w.cell? ⟨b, o + 256 + (st + i) % 64, none⟩ = some (.int .u8 ((bs.getD i 0 : Nat) : Int))
  window : w.cell? ⟨b, o + 320, none⟩ = some (.int .i64 (win : Int))
  start : w.cell? ⟨b, o + 321, none⟩ = some (.int .i64 (st : Int))
  length : w.cell? ⟨b, o + 322, none⟩ = some (.int .i64 (bs.length : Int))
  sum : w.cell? ⟨b, o + 323, none⟩ = some (.int .u64 (u (Roll.hash s bs)))
  free : ∀ i, i < 324 → w.frozen? ⟨b, o + i, none⟩ = false
  st64 : st < 64
  win1 : 1 ≤ win
  win64 : win ≤ 64
  full : bs.length ≤ win
  bytes : ∀ x ∈ bs, x < 256

/-- The cells of a Roll that Push and Reset may write. -/
def rollCells (b o : Nat) : Nat → Nat → Prop := fun k i => k = b ∧ o + 256 ≤ i ∧ i < o + 324

/-- What Push has done to the cells: the byte x lies at place p of the ring; the start, the length and the sum are new. -/
structure Pushed (b o p x st len : Nat) (sum : BitVec 64) (w w' : World) : Prop where
  chg : Chg (fun k i => k = b ∧ (i = o + 256 + p ∨ i = o + 321 ∨ i = o + 322 ∨ i = o + 323)) w w'
  ring : w'.cell? ⟨b, o + 256 + p, none⟩ = some (.int .u8 (x : Int))
  start : w'.cell? ⟨b, o + 321, none⟩ = some (.int .i64 (st : Int))
  length : w'.cell? ⟨b, o + 322, none⟩ = some (.int .i64 (len : Int))
  sum : w'.cell? ⟨b, o + 323, none⟩ = some (.int .u64 (u sum))

theorem ne_addr {b i j : Nat} (h : i ≠ j) : (⟨b, i, none⟩ : Addr) ≠ ⟨b, j, none⟩ := by
  intro e; cases e; exact h rfl
theorem set_same {w : World} {b i : Nat} {v x : Value} (h : w.cell? ⟨b, i, none⟩ = some x) : (w.setCell ⟨b, i, none⟩ v).cell? ⟨b, i, none⟩ = some v := World.cell?_setCell_same _ _ _ h
theorem set_other {w : World} {b i j : Nat} {v x : Value} (h : w.cell? ⟨b, j, none⟩ = some x) (hne : i ≠ j) : (w.setCell ⟨b, i, none⟩ v).cell? ⟨b, j, none⟩ = some x :=
  (World.cell?_setCell_other _ _ _ _ (ne_addr hne)).trans h

set_option maxRecDepth 100000 in
set_option maxHeartbeats 400000 in
theorem push_room_cells (b o : Nat) (x : Nat) (tx sum : BitVec 64) (win st len p : Nat) (w : World) (hx : x < 256) (hw1 : len < win) (hw2 : win ≤ 64) (hst : st < 64) (old : Value)
    (hp : (st + len) % 64 = p)
    (h0 : w.cell? ⟨b, o + x, none⟩ = some (.int .u64 (u tx)))
    (h1 : w.cell? ⟨b, o + 256 + p, none⟩ = some old)
    (h2 : w.cell? ⟨b, o + 320, none⟩ = some (.int .i64 win))
    (h3 : w.cell? ⟨b, o + 321, none⟩ = some (.int .i64 st))
    (h4 : w.cell? ⟨b, o + 322, none⟩ = some (.int .i64 len))
    (h5 : w.cell? ⟨b, o + 323, none⟩ = some (.int .u64 (u sum)))
    (f1 : w.frozen? ⟨b, o + 256 + p, none⟩ = false)
    (f4 : w.frozen? ⟨b, o + 322, none⟩ = false)
    (f5 : w.frozen? ⟨b, o + 323, none⟩ = false) :
    Calls Tryd.prog 28 #[.pointer (some ⟨b, o, none⟩), .int .u8 x] w fun e w' => e = .returned (.tuple #[]) ∧ Pushed b o p x st (len + 1) (sum.rotateLeft 1 ^^^ tx) w w' := by
  have hp64 : p < 64 := by omega
  rw [← hp] at h1 f1
  have HP := Lib.hid hp
  clear hp
  obtain ⟨Q0, hq0⟩ : ∃ Q : Prop, Hid Q := ⟨True, trivial⟩
  have r7 := Roll.f_xor Q0
  have hx1 : (x : Int) < 256 := by omega
  have hx0 : (0 : Int) ≤ x := by omega
  have hne : ((len : Int) == (win : Int)) = false := by rw [beq_eq_false_iff_ne]; omega
  have hs0 : (st : Int) < 64 := by omega
  have hs1 : (len : Int) < 64 := by omega
  go_enter Tryd.func28, Tryd.ntmps28
  go_wp2_with fail
  refine Kit.wp_region_quiet_tail 15 (by kernel_rfl) (by kernel_rfl) ?_
  simp only [List.take_succ_cons, List.take_zero, List.drop_succ_cons, List.drop_zero]
  repeat (first | go_big_quiet_step (fail) | (go_big_quiet_want; go_big_quiet_op; refine ⟨_, rot_one _ _, ?_⟩; go_big_quiet_on))
  refine wpQuiet_nil ?_
  go_wp2_with fail
  go_quiet (fail)
  go_wp2_with fail
  refine Kit.wp_region_quiet_tail 15 (by kernel_rfl) (by kernel_rfl) ?_
  simp only [List.take_succ_cons, List.take_zero, List.drop_succ_cons, List.drop_zero]
  repeat (go_big_quiet_step (fail))
  refine wpQuiet_nil ?_
  go_wp2_with fail
  go_end0
  have hp := HP.out
  rw [hp] at h1 ⊢
  refine ⟨rfl, ((((Chg.setCell1 _ _ _ _ ⟨rfl, by omega⟩).drewN _).setCell _ ⟨rfl, by omega⟩).setCell _ ⟨rfl, by omega⟩), ?_, ?_, ?_, ?_⟩
  · exact set_other (set_same (set_other h1 (by omega))) (by omega)
  · exact set_other (set_other (set_other h3 (by omega)) (by omega)) (by omega)
  · exact set_same (set_other (set_other h4 (by omega)) (by omega))
  · exact set_other (set_other (set_same h5) (by omega)) (by omega)

/-- A walk goes on over any world of which the facts I hold. -/
theorem wp_over {P : Program} {c : Code} {Q : Exit → Act → World → Prop} {a : Act} {w : World} (I : World → Prop) (h0 : I w) (h : ∀ w', I w' → c.wp P Q a w') : c.wp P Q a w := h w h0

set_option maxRecDepth 100000 in
set_option maxHeartbeats 400000 in
theorem push_full_cells (b o : Nat) (x : Nat) (tx ty sum : BitVec 64) (st len y p st' : Nat) (w : World) (hx : x < 256) (hy : y < 256) (hw2 : len + 1 ≤ 64) (hst : st < 64) (old : Value)
    (hs' : (st + 1) % 64 = st') (hp : (st' + len) % 64 = p)
    (h0 : w.cell? ⟨b, o + x, none⟩ = some (.int .u64 (u tx)))
    (hy0 : w.cell? ⟨b, o + y, none⟩ = some (.int .u64 (u ty)))
    (h1 : w.cell? ⟨b, o + 256 + p, none⟩ = some old)
    (hr : w.cell? ⟨b, o + 256 + st, none⟩ = some (.int .u8 y))
    (h2 : w.cell? ⟨b, o + 320, none⟩ = some (.int .i64 (len + 1 : Nat)))
    (h3 : w.cell? ⟨b, o + 321, none⟩ = some (.int .i64 st))
    (h4 : w.cell? ⟨b, o + 322, none⟩ = some (.int .i64 (len + 1 : Nat)))
    (h5 : w.cell? ⟨b, o + 323, none⟩ = some (.int .u64 (u sum)))
    (f1 : w.frozen? ⟨b, o + 256 + p, none⟩ = false)
    (f3 : w.frozen? ⟨b, o + 321, none⟩ = false)
    (f4 : w.frozen? ⟨b, o + 322, none⟩ = false)
    (f5 : w.frozen? ⟨b, o + 323, none⟩ = false) :
    Calls Tryd.prog 28 #[.pointer (some ⟨b, o, none⟩), .int .u8 x] w fun e w' => e = .returned (.tuple #[]) ∧ Pushed b o p x st' (len + 1) (sum.rotateLeft 1 ^^^ tx ^^^ ty.rotateLeft (len + 1)) w w' := by
  have hp64 : p < 64 := by omega
  have HP := Lib.hid hp
  have HS := Lib.hid hs'
  clear hp hs'
  generalize hL : len + 1 = L at hw2 h2 h4 ⊢
  have HL := Lib.hid hL
  clear hL
  obtain ⟨Q0, hq0⟩ : ∃ Q : Prop, Hid Q := ⟨True, trivial⟩
  have r7 := Roll.f_xor Q0
  have hx1 : (x : Int) < 256 := by omega
  have hx0 : (0 : Int) ≤ x := by omega
  have hy1 : (y : Int) < 256 := by omega
  have hy0' : (0 : Int) ≤ y := by omega
  have hne : ((L : Int) == (L : Int)) = true := by simp
  have hs0 : (st : Int) < 64 := by omega
  have hs1 : (L : Int) ≤ 64 := by omega
  go_enter Tryd.func28, Tryd.ntmps28
  go_wp2_with fail
  refine Kit.wp_region_quiet_tail 15 (by kernel_rfl) (by kernel_rfl) ?_
  simp only [List.take_succ_cons, List.take_zero, List.drop_succ_cons, List.drop_zero]
  repeat (first | go_big_quiet_step (fail) | (go_big_quiet_want; go_big_quiet_op; refine ⟨_, rot_one _ _, ?_⟩; go_big_quiet_on))
  refine wpQuiet_nil ?_
  go_wp2_with fail
  go_quiet (fail)
  go_wp2_with fail
  refine Kit.wp_region_quiet_tail 26 (by kernel_rfl) (by kernel_rfl) ?_
  simp only [List.take_succ_cons, List.take_zero, List.drop_succ_cons, List.drop_zero]
  repeat (first | go_big_quiet_step (fail) | (go_big_quiet_want; go_big_quiet_op; refine ⟨_, rot_any _ _ _ hw2, ?_⟩; go_big_quiet_on))
  refine wpQuiet_nil ?_
  go_wp2_with fail
  refine wp_over (fun W => Chg (fun k i => k = b ∧ (i = o + 256 + p ∨ i = o + 321 ∨ i = o + 322 ∨ i = o + 323)) w W ∧ W.cell? ⟨b, o + 256 + p, none⟩ = some old ∧ W.frozen? ⟨b, o + 256 + p, none⟩ = false ∧ W.frozen? ⟨b, o + 322, none⟩ = false ∧
    W.cell? ⟨b, o + 321, none⟩ = some (.int .i64 st') ∧ W.cell? ⟨b, o + 322, none⟩ = some (.int .i64 len) ∧ W.cell? ⟨b, o + 323, none⟩ = some (.int .u64 (u (sum.rotateLeft 1 ^^^ tx ^^^ ty.rotateLeft L)))) ?_ ?_
  · have hS := HS.out
    have hL := HL.out
    have e1 : ((st : Int) + 1) % 64 = (st' : Int) := by omega
    have e2 : (L : Int) - 1 = (len : Int) := by omega
    rw [e1, e2]
    refine ⟨((((Chg.setCell1 _ _ _ _ ⟨rfl, by omega⟩).drewN _).setCell _ ⟨rfl, by omega⟩).setCell _ ⟨rfl, by omega⟩).setCell _ ⟨rfl, by omega⟩, ?_, ?_, ?_, ?_, ?_, ?_⟩
    · exact set_other (set_other (set_other (set_other h1 (by omega)) (by omega)) (by omega)) (by omega)
    · simpa using f1
    · simpa using f4
    · exact set_other (set_same (set_other (set_other h3 (by omega)) (by omega))) (by omega)
    · exact set_same (set_other (set_other (set_other h4 (by omega)) (by omega)) (by omega))
    · exact set_other (set_other (set_same (set_same h5)) (by omega)) (by omega)
  rintro W ⟨hP, g1, g2, g3, g4, g5, g6⟩
  have HPP := Lib.hid hP
  clear hP h0 hy0 h1 hr h2 h3 h4 h5 f1 f3 f4 f5
  have hp := HP.out
  rw [← hp] at g1 g2
  clear hp
  have hs2 : (st' : Int) < 64 := by have := HS.out; omega
  have hs3 : (len : Int) < 64 := by have := HL.out; omega
  clear hs0
  refine Kit.wp_region_quiet_tail 15 (by kernel_rfl) (by kernel_rfl) ?_
  simp only [List.take_succ_cons, List.take_zero, List.drop_succ_cons, List.drop_zero]
  repeat (go_big_quiet_step (fail))
  refine wpQuiet_nil ?_
  go_wp2_with fail
  go_end0
  have hp := HP.out
  rw [hp] at g1 ⊢
  rw [← HL.out] at g6 ⊢
  refine ⟨rfl, ((HPP.out.setCell _ ⟨rfl, by omega⟩).setCell _ ⟨rfl, by omega⟩).drew, ?_, ?_, ?_, ?_⟩
  · exact set_other (set_same g1) (by omega)
  · exact set_other (set_other g4 (by omega)) (by omega)
  · exact set_same (set_other g5 (by omega))
  · exact set_other (set_other g6 (by omega)) (by omega)

theorem roll_pushed {b o : Nat} {s : BitVec 64} {win : Nat} {bs bs1 : List Nat} {st st' p x : Nat} {w w' : World} (h : RollAt w b o s win bs st)
    (hP : Pushed b o p x st' (bs1.length + 1) (Roll.hash s (bs1 ++ [x])) w w') (hp : (st' + bs1.length) % 64 = p) (hst' : st' < 64)
    (hold : ∀ i, i < bs1.length → w.cell? ⟨b, o + 256 + (st' + i) % 64, none⟩ = some (.int .u8 ((bs1.getD i 0 : Nat) : Int)))
    (hfull : bs1.length + 1 ≤ win) (hb : ∀ x ∈ bs1, x < 256) (hx : x < 256) : RollAt w' b o s win (bs1 ++ [x]) st' := by
  have hp64 : p < 64 := by omega
  have h64 := h.win64
  refine ⟨fun i hi => hP.chg.cell (h.table i hi) (by omega), fun i hi => ?_, fun i hi => ?_, hP.chg.cell h.window (by omega), hP.start, ?_, hP.sum, fun i hi => ?_, hst', h.win1, h64, by simpa using hfull, ?_⟩
  · by_cases hip : i = p
    · subst hip; exact ⟨x, hx, hP.ring⟩
    · obtain ⟨v, hv, hc⟩ := h.ring i hi
      exact ⟨v, hv, hP.chg.cell hc (by omega)⟩
  · simp only [List.length_append, List.length_singleton] at hi
    by_cases hil : i = bs1.length
    · subst hil
      rw [hp, hP.ring]; simp
    · have hlt : i < bs1.length := by omega
      have hne : (st' + i) % 64 ≠ p := by omega
      rw [List.getD_eq_getElem?_getD, List.getElem?_append_left hlt, ← List.getD_eq_getElem?_getD]
      exact hP.chg.cell (hold i hlt) (by omega)
  · rw [hP.length]; simp
  · rw [hP.chg.frozen h.window ⟨o + 320, by omega⟩]; exact h.free i hi
  · intro y hy
    rcases List.mem_append.1 hy with hy | hy
    · exact hb y hy
    · simp at hy; omega

/-- Push, of a Roll: the byte comes into the window, and the oldest one leaves it where it was full. -/
theorem push_any (b o : Nat) (s : BitVec 64) (win : Nat) (bs : List Nat) (st x : Nat) (hx : x < 256) (w : World) (h : RollAt w b o s win bs st) :
    Calls Tryd.prog 28 #[.pointer (some ⟨b, o, none⟩), .int .u8 x] w fun e w' => e = .returned (.tuple #[]) ∧ (∃ st', RollAt w' b o s win (Roll.pushed win bs x) st') ∧ Chg (rollCells b o) w w' := by
  have h64 := h.st64
  have hw1 := h.win1
  have hw2 := h.win64
  have hfull := h.full
  by_cases hl : bs.length = win
  · obtain ⟨y, bs', rfl⟩ : ∃ y bs', bs = y :: bs' := by
      cases bs with
      | nil => simp at hl; omega
      | cons y bs' => exact ⟨y, bs', rfl⟩
    have hlen : (y :: bs').length = bs'.length + 1 := rfl
    have hy : y < 256 := h.bytes y (by simp)
    have hm1 : (st + 1) % 64 < 64 := Nat.mod_lt _ (by decide)
    have hm2 : ((st + 1) % 64 + bs'.length) % 64 < 64 := Nat.mod_lt _ (by decide)
    obtain ⟨v, hv, hcv⟩ := h.ring _ hm2
    have hhead : w.cell? ⟨b, o + 256 + st, none⟩ = some (.int .u8 (y : Int)) := by
      have := h.held 0 (by simp)
      rw [Nat.add_zero st, Nat.mod_eq_of_lt h64] at this
      simpa using this
    have hwin := h.window
    rw [← hl, hlen] at hwin
    refine (push_full_cells b o x (Roll.num s x) (Roll.num s y) (Roll.hash s (y :: bs')) st bs'.length y _ _ w hx hy (by omega) h64 _ rfl rfl (h.table x hx) (h.table y hy) hcv hhead hwin h.start h.length h.sum
      (by have := h.free (256 + ((st + 1) % 64 + bs'.length) % 64) (by omega); rwa [← Nat.add_assoc] at this) (h.free 321 (by decide)) (h.free 322 (by decide)) (h.free 323 (by decide))).mono ?_
    rintro e w' ⟨rfl, hP⟩
    have e1 : (Roll.hash s (y :: bs')).rotateLeft 1 ^^^ Roll.num s x ^^^ (Roll.num s y).rotateLeft (bs'.length + 1) = Roll.hash s (bs' ++ [x]) := by
      have := Roll.hash_tail s y (bs' ++ [x])
      rw [← this, ← List.cons_append, Roll.hash_snoc, List.length_append, List.length_singleton]
    have e2 : Roll.pushed win (y :: bs') x = bs' ++ [x] := by unfold Roll.pushed; rw [if_pos hl]; rfl
    rw [e1] at hP
    refine ⟨rfl, ⟨(st + 1) % 64, ?_⟩, hP.chg.mono fun k i _ hk => ⟨hk.1, by omega, by omega⟩⟩
    rw [e2]
    refine roll_pushed h hP rfl hm1 (fun i hi => ?_) (by omega) (fun z hz => h.bytes z (by simp [hz])) hx
    have := h.held (i + 1) (by omega)
    have e3 : ((st + 1) % 64 + i) % 64 = (st + (i + 1)) % 64 := by omega
    rw [e3, this]; simp
  · have hm2 : (st + bs.length) % 64 < 64 := Nat.mod_lt _ (by decide)
    obtain ⟨v, hv, hcv⟩ := h.ring _ hm2
    refine (push_room_cells b o x (Roll.num s x) (Roll.hash s bs) win st bs.length _ w hx (by omega) hw2 h64 _ rfl (h.table x hx) hcv h.window h.start h.length h.sum
      (by have := h.free (256 + (st + bs.length) % 64) (by omega); rwa [← Nat.add_assoc] at this) (h.free 322 (by decide)) (h.free 323 (by decide))).mono ?_
    rintro e w' ⟨rfl, hP⟩
    have e2 : Roll.pushed win bs x = bs ++ [x] := by unfold Roll.pushed; rw [if_neg hl]
    rw [← Roll.hash_snoc] at hP
    refine ⟨rfl, ⟨st, ?_⟩, hP.chg.mono fun k i _ hk => ⟨hk.1, by omega, by omega⟩⟩
    rw [e2]
    exact roll_pushed h hP rfl h64 h.held (by omega) h.bytes hx
end Go.Proofs.YtfnhcjcahcacnaaDoor

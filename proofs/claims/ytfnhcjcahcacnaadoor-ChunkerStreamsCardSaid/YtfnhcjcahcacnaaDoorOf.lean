/- The contracts of rollinghash.Of and rollinghash.All. -/
import Derived.Test.YtfnhcjcahcacnaaDoorLawsA
namespace Go.Proofs.YtfnhcjcahcacnaaDoor
open Go.RowKit
open Roll (u)
open Kit (Chg)

theorem lastOf_length (bs : List Nat) (n : Nat) : (lastOf bs n).length = min n bs.length := by unfold lastOf; rw [List.length_drop]; omega
theorem lastOf_nil (n : Nat) : lastOf [] n = [] := by unfold lastOf; simp
theorem lastOf_all (bs : List Nat) (n : Nat) (h : bs.length ≤ n) : lastOf bs n = bs := by unfold lastOf; rw [show bs.length - n = 0 by omega]; rfl
theorem pushed_last (bs : List Nat) (win x : Nat) (h : 1 ≤ win) : Roll.pushed win (lastOf bs win) x = lastOf (bs ++ [x]) win := by
  unfold Roll.pushed
  rw [lastOf_length]
  split
  · rename_i hl
    unfold lastOf
    rw [List.length_append, List.length_singleton, List.tail_drop, List.drop_append_of_le_length (by omega)]
    congr 2; omega
  · rename_i hl
    rw [lastOf_all bs win (by omega), lastOf_all _ win (by rw [List.length_append, List.length_singleton]; omega)]
theorem lastOf_take_succ (bs : List Nat) (win k : Nat) (h : 1 ≤ win) (hk : k < bs.length) : Roll.pushed win (lastOf (bs.take k) win) (bs.getD k 0) = lastOf (bs.take (k + 1)) win := by
  rw [pushed_last _ _ _ h, List.take_succ_eq_append_getElem hk, List.getD_eq_getElem?_getD, List.getElem?_eq_getElem hk, Option.getD_some]

theorem BytesAt.below {w w' : World} {a : Option Addr} {bs : List Nat} {B : Nat} (h : BytesAt w a bs) (hb : Below B w w') (hB : ∀ b o, a = Option.some ⟨b, o, none⟩ → b < B) : BytesAt w' a bs := by
  refine ⟨?_, h.2.1, h.2.2⟩
  rcases h.1 with e | ⟨b, o, e, hc⟩
  · exact .inl e
  · exact .inr ⟨b, o, e, fun i hi => (hb.cell (p := ⟨b, o + i, none⟩) (hB b o e)).trans (hc i hi)⟩
/-- Bytes that are there stay, whatever comes behind. -/
theorem BytesAt.later {w w' : World} {a : Option Addr} {bs : List Nat} (h : BytesAt w a bs) (hb : Below w.heap.size w w') : BytesAt w' a bs := by
  refine ⟨?_, h.2.1, h.2.2⟩
  rcases h.1 with e | ⟨b, o, e, hc⟩
  · exact .inl e
  · exact .inr ⟨b, o, e, fun i hi => (hb.cell (p := ⟨b, o + i, none⟩) (World.block_lt_of_cell? w _ (hc i hi))).trans (hc i hi)⟩

theorem RollAt.keep {w w' : World} {b o : Nat} {s : BitVec 64} {win : Nat} {bs : List Nat} {st : Nat} {M : Nat → Nat → Prop} (h : RollAt w b o s win bs st) (hc : Chg M w w') (hM : ∀ i, ¬ M b i) : RollAt w' b o s win bs st :=
  ⟨fun i hi => hc.cell (h.table i hi) (hM _), fun i hi => let ⟨v, hv, hcv⟩ := h.ring i hi; ⟨v, hv, hc.cell hcv (hM _)⟩, fun i hi => hc.cell (h.held i hi) (hM _), hc.cell h.window (hM _), hc.cell h.start (hM _), hc.cell h.length (hM _), hc.cell h.sum (hM _),
   fun i hi => by rw [hc.frozen h.window ⟨0, hM _⟩]; exact h.free i hi, h.st64, h.win1, h.win64, h.full, h.bytes⟩

/-- What a loop that pushes bytes has done after k of them. -/
def PushRel (w : World) (N : Nat) (s : BitVec 64) (win : Nat) (bs : List Nat) (k : Nat) (wr : World) : Prop := (∃ st, RollAt wr N 0 s win (lastOf (bs.take k) win) st) ∧ Below w.heap.size w wr
theorem PushRel.step {w wr w1 : World} {N : Nat} {s : BitVec 64} {win : Nat} {bs : List Nat} {k : Nat} (h : PushRel w N s win bs k wr) (h1 : 1 ≤ win) (hk : k < bs.length) (hN : w.heap.size ≤ N)
    (hr : ∃ st, RollAt w1 N 0 s win (Roll.pushed win (lastOf (bs.take k) win) (bs.getD k 0)) st) (hc : Chg (rollCells N 0) wr w1) : PushRel w N s win bs (k + 1) w1 := by
  rw [lastOf_take_succ bs win k h1 hk] at hr
  exact ⟨hr, h.2.trans (hc.below h.2.size (fun b i hb hi => by have := hi.1; omega))⟩

theorem PushRel.keep {w wr w1 : World} {s : BitVec 64} {win : Nat} {bs : List Nat} {k : Nat} {M : Nat → Nat → Prop} (h : PushRel w w.heap.size s win bs k wr) (hc : Chg M wr w1) (hM : ∀ g i, M g i → w.heap.size + 1 ≤ g) : PushRel w w.heap.size s win bs k w1 := by
  obtain ⟨⟨st, h1⟩, h2⟩ := h
  exact ⟨⟨st, h1.keep hc (fun i hi => by have := hM _ _ hi; omega)⟩, h2.trans (hc.below h2.size (fun g i hg hi => by have := hM _ _ hi; omega))⟩

theorem of_long (s : BitVec 64) (a : Option Addr) (cap n : Nat) (w : World) (h : 64 < n) (hn : n ≤ maxLen) :
    Calls Tryd.prog 35 #[.int .u64 (u s), .slice a n cap] w fun e w' => e = .returned (.tuple #[.int .u64 0, .int .i64 1]) ∧ w = w' := by
  unfold maxLen at hn
  have h' : (64 : Int) < (n : Int) := by omega
  go_enter Tryd.func35, Tryd.ntmps35
  go_wp2_with fail
  go_ret2
  exact ⟨rfl, rfl⟩

theorem new_64 (s : BitVec 64) (w : World) : Calls Tryd.prog 25 #[.int .u64 (u s), .int .i64 64] w fun e w' => e = .returned (.pointer (some ⟨w.heap.size, 0, none⟩)) ∧ RollAt w' w.heap.size 0 s 64 [] 0 ∧ Below w.heap.size w w' := new_any s 64 (by decide) (by decide) w

def OfRel (w : World) (s : BitVec 64) (bs : List Nat) (i : Value) (wr : World) : Prop := ∃ k : Nat, k ≤ bs.length ∧ i = .int .i64 k ∧ PushRel w w.heap.size s 64 bs k wr

set_option maxRecDepth 100000 in
set_option maxHeartbeats 400000 in
theorem of_short (s : BitVec 64) (a : Option Addr) (cap : Nat) (bs : List Nat) (w : World) (h : BytesAt w a bs) (hl : bs.length ≤ 64) :
    Calls Tryd.prog 35 #[.int .u64 (u s), .slice a bs.length cap] w fun e w' => e = .returned (.tuple #[.int .u64 (u (Roll.hash s bs)), .int .i64 0]) ∧ Below w.heap.size w w' := by
  have HH := Lib.hid h
  clear h
  have h' : ¬ (64 : Int) < (bs.length : Int) := by omega
  go_enter Tryd.func35, Tryd.ntmps35
  go_wp2_with fail
  refine (new_64 s w).mono ?_
  rintro e w1 ⟨rfl, hr, hb⟩
  have HR := Lib.hid hr
  have HB := Lib.hid hb
  clear hr hb h'
  go_wp2_with fail
  go_loopw [16] (fun i wr => OfRel w s bs i wr) (fun i _ => bs.length - (intOf i).toNat)
  case atStart => exact ⟨0, by omega, rfl, ⟨0, HR.out⟩, HB.out⟩
  case round =>
    obtain ⟨k, hk, rfl, hp⟩ := hrel
    have HP := Lib.hid hp
    clear hp
    obtain ⟨st, hst⟩ := HP.out.1
    have HST := Lib.hid hst
    clear hst
    by_cases hlt : k < bs.length
    · have hbr := HH.out.later HP.out.2
      obtain ⟨b, o, rfl, hc⟩ := hbr.some (by omega)
      have hck := hc k hlt
      have hx := HH.out.getD_lt k hlt
      have HX : Hid (∀ v, v = bs.getD k 0 → PushRel w w.heap.size s 64 bs k wr) := fun _ _ => HP.out
      have HS : ∀ w1, Hid (((∃ st, RollAt w1 w.heap.size 0 s 64 (Roll.pushed 64 (lastOf (bs.take k) 64) (bs.getD k 0)) st) ∧ Chg (rollCells w.heap.size 0) wr w1) → PushRel w w.heap.size s 64 bs (k + 1) w1) :=
        fun w1 => fun h => HP.out.step (by decide) hlt (Nat.le_refl _) h.1 h.2
      clear hc hbr
      generalize bs.getD k 0 = x at hck hx HS
      go_wp2_with fail
      refine (push_any _ 0 s 64 _ st x hx _ HST.out).mono ?_
      rintro e w2 ⟨rfl, hr2⟩
      have HR2 := Lib.hid ((HS w2).out hr2)
      clear hr2 HS
      go_wp2_with fail
      go_roundw
      case rel => exact ⟨k + 1, by omega, by go_num, HR2.out⟩
      case measure => simp [intOf]; omega
    · have e : k = bs.length := by omega
      have hs : wr.cell? ⟨w.heap.size, 0 + 323, none⟩ = some (.int .u64 (u (Roll.hash s bs))) := by
        have := HST.out.sum
        rw [e, List.take_length, lastOf_all bs 64 hl] at this
        exact this
      clear e
      go_wp2_with fail
      refine (sum_any _ 0 _ _ hs).mono ?_
      rintro e w2 ⟨rfl, rfl⟩
      go_wp2_with fail
      go_ret2
      exact ⟨rfl, HP.out.2⟩

theorem Tryd.info22 : (Tryd.prog.info? 22).map (fun i => (i.zero, i.size, i.bytes)) = some (some (.int .u64 0), 1, 8) := by kernel_rfl

/-- The hashes of the first k + 1 - win windows. -/
def sumsTo (s : BitVec 64) (win : Nat) (bs : List Nat) (k : Nat) : List Value := (List.range (k + 1 - win)).map fun i => .int .u64 (u (Roll.hash s ((bs.drop i).take win)))
theorem sumsTo_length (s : BitVec 64) (win : Nat) (bs : List Nat) (k : Nat) : (sumsTo s win bs k).length = k + 1 - win := by simp [sumsTo]
theorem sumsTo_zero (s : BitVec 64) (win : Nat) (bs : List Nat) (h : 1 ≤ win) : sumsTo s win bs 0 = [] := by
  unfold sumsTo; rw [show 0 + 1 - win = 0 by omega]; rfl
theorem sumsTo_skip (s : BitVec 64) (win : Nat) (bs : List Nat) (k : Nat) (h : k + 1 < win) : sumsTo s win bs (k + 1) = sumsTo s win bs k := by
  unfold sumsTo; rw [show k + 1 + 1 - win = 0 by omega, show k + 1 - win = 0 by omega]
theorem sumsTo_more (s : BitVec 64) (win : Nat) (bs : List Nat) (k : Nat) (h : win ≤ k + 1) (hk : k < bs.length) :
    sumsTo s win bs (k + 1) = sumsTo s win bs k ++ [.int .u64 (u (Roll.hash s (lastOf (bs.take (k + 1)) win)))] := by
  unfold sumsTo
  rw [show k + 1 + 1 - win = (k + 1 - win) + 1 by omega, List.range_succ, List.map_append, List.map_singleton]
  congr 5
  unfold lastOf
  rw [List.length_take, Nat.min_eq_left (by omega), List.drop_take]
  congr 1
  omega

theorem ownsRow_keep {w w' : World} {base e size n : Nat} {v : Value} {xs : List Value} {M : Nat → Nat → Prop} (h : w.ownsRow base e size v n xs) (hc : Chg M w w') (hM : ∀ g, base ≤ g → ∀ i, ¬ M g i) : w'.ownsRow base e size v n xs := by
  refine ⟨h.1, ?_⟩
  rcases h.2 with hn | ⟨g, cap, cur, rfl, hb, hg, r⟩
  · exact .inl hn
  · exact .inr ⟨g, cap, cur, rfl, hb, (hc.other g (Array.getElem?_eq_some_iff.1 hg).1 (hM g hb)).trans hg, r⟩

def AllRel (w : World) (s : BitVec 64) (win : Nat) (bs : List Nat) (v i : Value) (wr : World) : Prop :=
  ∃ k : Nat, k ≤ bs.length ∧ i = .int .i64 k ∧ PushRel w w.heap.size s win bs k wr ∧ wr.ownsRow (w.heap.size + 1) 22 1 v (k + 1 - win) (sumsTo s win bs k)

def AllPost (s : BitVec 64) (win : Nat) (bs : List Nat) (w : World) (e : Ending) (w' : World) : Prop :=
  ∃ v, e = .returned (.tuple #[v, .int .i64 0]) ∧ w'.ownsRow (w.heap.size + 1) 22 1 v (bs.length + 1 - win) (sumsTo s win bs bs.length) ∧ Below w.heap.size w w'

set_option maxRecDepth 100000 in
set_option maxHeartbeats 400000 in
theorem all_any (s : BitVec 64) (win : Nat) (h1 : 1 ≤ win) (h2 : win ≤ 64) (a : Option Addr) (cap : Nat) (bs : List Nat) (w : World) (h : BytesAt w a bs) (hl : bs.length ≤ 200) :
    Calls Tryd.prog 37 #[.int .u64 (u s), .int .i64 win, .slice a bs.length cap] w (AllPost s win bs w) := by
  have HH := Lib.hid h
  clear h
  have g1 : decide ((win : Int) < 1) = false := decide_eq_false (by omega)
  have g2 : ¬ (64 : Int) < (win : Int) := by omega
  obtain ⟨i0, hi, hz0, hz1, hz2⟩ := info_parts Tryd.info22
  have HI := Lib.hid hi
  have HZ0 := Lib.hid hz0
  have HZ1 := Lib.hid hz1
  have HZ2 := Lib.hid hz2
  clear hi hz0 hz1 hz2
  go_enter Tryd.func37, Tryd.ntmps37
  go_wp2_with fail
  refine (new_any s win h1 h2 w).mono ?_
  rintro e w1 ⟨rfl, hr, hb⟩
  have HR := Lib.hid hr
  have HB := Lib.hid hb
  clear hr hb g1 g2
  go_wp2_with fail
  go_loopw [9, 23] (fun v i wr => AllRel w s win bs v i wr) (fun _ i _ => bs.length - (intOf i).toNat)
  case atStart =>
    refine ⟨0, by omega, rfl, ⟨⟨0, by rw [List.take_zero, lastOf_nil]; exact HR.out⟩, HB.out⟩, ?_⟩
    rw [sumsTo_zero s win bs h1, show 0 + 1 - win = 0 by omega]
    exact World.ownsRow_nil _ _ _ _
  case round =>
    obtain ⟨k, hk, rfl, hp, hown⟩ := hrel
    have HP := Lib.hid hp
    have HO := Lib.hid hown
    clear hp hown
    obtain ⟨st, hst⟩ := HP.out.1
    have HST := Lib.hid hst
    clear hst
    by_cases hlt : k < bs.length
    · have hbr := HH.out.later HP.out.2
      obtain ⟨b, o, rfl, hc⟩ := hbr.some (by omega)
      have hck := hc k hlt
      have hx := HH.out.getD_lt k hlt
      have HS : ∀ w1, Hid (((∃ st, RollAt w1 w.heap.size 0 s win (Roll.pushed win (lastOf (bs.take k) win) (bs.getD k 0)) st) ∧ Chg (rollCells w.heap.size 0) wr w1) → PushRel w w.heap.size s win bs (k + 1) w1) :=
        fun w1 => fun h => HP.out.step h1 hlt (Nat.le_refl _) h.1 h.2
      clear hc hbr
      generalize bs.getD k 0 = x at hck hx HS
      go_wp2_with fail
      refine (push_any _ 0 s win _ st x hx _ HST.out).mono ?_
      rintro e w2 ⟨rfl, hr2⟩
      have HR2 := Lib.hid ((HS w2).out hr2)
      have hown2 := ownsRow_keep HO.out hr2.2 (fun g hg i hi => by have := hi.1; omega)
      have HO2 := Lib.hid hown2
      clear hr2 HS hown2
      obtain ⟨st2, hst2⟩ := HR2.out.1
      have hln : w2.cell? ⟨w.heap.size, 0 + 322, none⟩ = some (.int .i64 ((min win (k + 1) : Nat) : Int)) := by
        have := hst2.length
        rw [lastOf_length, List.length_take, Nat.min_eq_left hlt] at this
        exact this
      have HLN := Lib.hid hln
      have HSM := Lib.hid hst2.sum
      clear hst2 hln
      go_wp2_with fail
      refine (len_any _ 0 _ _ HLN.out).mono ?_
      rintro e w3 ⟨rfl, rfl⟩
      by_cases hw : win ≤ k + 1
      · have e1 : min win (k + 1) = win := by omega
        rw [e1]
        clear e1
        go_wp2_with fail
        refine (sum_any _ 0 _ _ HSM.out).mono ?_
        rintro e w3 ⟨rfl, rfl⟩
        have HM := Lib.hid (sumsTo_more s win bs k hw hlt)
        have hb1 : w.heap.size + 1 ≤ w2.heap.size := World.block_lt_of_cell? w2 _ HSM.out
        generalize hH : Roll.hash s (lastOf (List.take (k + 1) bs) win) = H at HM
        clear hH
        go_wp2_with (at_builtin; refine wpList_append_own _ rfl _ _ 23 rfl (w.heap.size + 1) 22 i0 (.int .u64 0) 1 8 Tryd.underlying23 HI.out HZ0.out HZ1.out HZ2.out rfl (by decide) _ _ _ rfl (HO2.out.alloc _) ⟨w2.heap.size, 0, none⟩ 1 1 [.int .u64 (u H)] rfl rfl ?c1 ?c2 ?c3 ?c4 ?c5 ?_)
        case c1 => exact cell_one_new _ _ _
        case c2 => simp [Value.oneCell']
        case c3 => unfold maxLen; omega
        case c4 => omega
        case c5 => simp; omega
        intro v' w4 hown4 hgr4 _
        have HP4 := Lib.hid (HR2.out.keep ((Chg.alloc1 w2 _).trans (Chg.of_grown hgr4 (fun _ _ e => e))) (fun g _ e => (HO2.out.lt g e).1))
        have HO4 := Lib.hid hown4
        clear hown4 hgr4
        go_wp2
        go_roundw
        case rel => exact ⟨k + 1, by omega, by go_num, HP4.out, by rw [HM.out, show k + 1 + 1 - win = k + 1 - win + 1 by omega]; exact HO4.out⟩
        case measure => simp [intOf]; omega
      · have hne : (((min win (k + 1) : Nat) : Int) == (win : Int)) = false := by rw [beq_eq_false_iff_ne]; omega
        have HM := Lib.hid (sumsTo_skip s win bs k (by omega))
        generalize min win (k + 1) = m at hne
        go_wp2
        go_roundw
        case rel => exact ⟨k + 1, by omega, by go_num, HR2.out, by rw [HM.out, show k + 1 + 1 - win = k + 1 - win by omega]; exact HO2.out⟩
        case measure => simp [intOf]; omega
    · go_wp2_with fail
      go_ret2
      have e : k = bs.length := by omega
      subst e
      exact ⟨_, rfl, HO.out, HP.out.2⟩
end Go.Proofs.YtfnhcjcahcacnaaDoor

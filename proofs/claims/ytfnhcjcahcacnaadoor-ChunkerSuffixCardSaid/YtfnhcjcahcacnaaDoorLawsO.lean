/- The law ChunkerSuffix: the walk. -/
import Derived.Test.YtfnhcjcahcacnaaDoorLawsN
namespace Go.Proofs.YtfnhcjcahcacnaaDoor
set_option linter.unusedVariables false
set_option linter.unusedSimpArgs false
open Go.RowKit
open Roll (u)
open Kit (Chg)
open Chk

theorem slices3 (w : World) (a a' a'' : Option Addr) (n m n' m' n'' m'' : Nat) : SlicesAt (w.alloc (.cells #[.slice a n m, .slice a' n' m', .slice a'' n'' m''] 28)) w.heap.size [(a, n, m), (a', n', m'), (a'', n'', m'')] := by
  intro i hi
  have h0 : i < 3 := by simpa using hi
  rw [cell_of_row _ _ _ _ _ _ (heap_alloc_new _ _)]
  match i, h0 with
  | 0, _ => rfl
  | 1, _ => rfl
  | 2, _ => rfl
theorem few3_any (w : World) (a a' a'' : Option Addr) (n m n' m' n'' m'' : Nat) : Calls Tryd.prog 39 #[.slice (some ⟨w.heap.size, 0, none⟩) 3 3] (w.alloc (.cells #[.slice a n m, .slice a' n' m', .slice a'' n'' m''] 28)) fun e w' => e = .returned (.bool (decide (n ≤ 300 ∧ n' ≤ 300 ∧ n'' ≤ 300))) ∧ w.alloc (.cells #[.slice a n m, .slice a' n' m', .slice a'' n'' m''] 28) = w' := by
  have h := few_any w.heap.size 3 [(a, n, m), (a', n', m'), (a'', n'', m'')] (by simp) _ (slices3 w a a' a'' n m n' m' n'' m'')
  have e : fewB [(a, n, m), (a', n', m'), (a'', n'', m'')] = decide (n ≤ 300 ∧ n' ≤ 300 ∧ n'' ≤ 300) := by
    unfold fewB
    by_cases h1 : n ≤ 300 <;> by_cases h2 : n' ≤ 300 <;> by_cases h3 : n'' ≤ 300 <;> simp [h1, h2, h3]
  rw [e] at h
  exact h

set_option maxRecDepth 100000 in
set_option maxHeartbeats 4000000 in
theorem walk_ChunkerSuffix (mn mx win bits : Int) (s : BitVec 64) (a : Option Addr) (cap : Nat) (bs : List Nat) (a' : Option Addr) (cap' : Nat) (bs' : List Nat) (ae : Option Addr) (cape : Nat) (es : List Nat) (w : World) (hB : BytesAt w a bs) (hcap : bs.length ≤ cap) (hnil : a = none → cap = 0) (hl : bs.length ≤ 140737488351232)
    (hB' : BytesAt w a' bs') (hcap' : bs'.length ≤ cap') (hnil' : a' = none → cap' = 0) (hl' : bs'.length ≤ 140737488351232) (hBe : BytesAt w ae es) (hcape : es.length ≤ cape) (hnile : ae = none → cape = 0) (hle : es.length ≤ 140737488351232) (hT : TabAt 0 Lib.deBruijn64tab w) :
    Calls Tryd.prog 16 #[.agg #[.int .i64 mn, .int .i64 mx, .int .i64 win, .int .i64 bits, .int .u64 (u s)], .slice a bs.length cap, .slice a' bs'.length cap', .slice ae es.length cape] w fun e w' => e = .returned (.bool true) ∧ Below w.heap.size w w' := by
  have HT := Lib.hid hT
  have HBY := Lib.hid hB
  have HNIL := Lib.hid hnil
  have HBY' := Lib.hid hB'
  have HNIL' := Lib.hid hnil'
  have HBYE := Lib.hid hBe
  have HNILE := Lib.hid hnile
  clear hT hB hcap hB' hcap' hnil hnil' hBe hcape hnile
  go_enter Tryd.func16, Tryd.ntmps16
  go_wp2_with fail
  refine (refValid_any mn mx win bits s _).mono ?_
  rintro e w1 ⟨rfl, hb⟩
  have I1 := Lib.hid ((Inv.new w mn mx win bits s).step hb)
  clear hb
  cases hv : validB mn mx win bits with
  | false =>
    clear hv
    go_wp2_with fail
    refine (awake16 w1 (I1.out.tab HT.out)).mono ?_
    rintro e w3 ⟨rfl, hb3⟩
    have I3 := Lib.hid (I1.out.step hb3)
    clear hb3
    go_wp2_with fail
    go_ret
    exact ⟨rfl, I3.out.b⟩
  | true =>
    have hv2 := hv
    clear hv
    go_wp2_with fail
    refine (few3_any w1 a a' ae bs.length cap bs'.length cap' es.length cape).mono ?_
    rintro e w2 ⟨rfl, he2⟩
    have I2 : Hid (Inv w w2 mn mx win bits s) := by rw [← he2]; exact I1.out.alloc _
    clear he2 I1
    by_cases h3 : bs.length ≤ 300 ∧ bs'.length ≤ 300 ∧ es.length ≤ 300
    · rw [decide_eq_true h3]
      obtain ⟨h31, h32, h33⟩ := h3
      obtain ⟨c, hk, rfl, rfl, rfl, rfl, rfl⟩ := cut_of_valid s hv2
      have HK := Lib.hid hk
      clear hk hv2
      obtain ⟨i0, hi, hz0, hz1, hz2⟩ := info_parts Tryd.info5
      have FI := Lib.hid hi
      have FZ0 := Lib.hid hz0
      have FZ1 := Lib.hid hz1
      have FZ2 := Lib.hid hz2
      clear hi hz0 hz1 hz2
      go_upto_region 3 with fail
      have OWN0 := Lib.hid (World.ownsRow_made (base := w2.heap.size) (e := 5) (size := 1) w2 #[] 0 (Nat.le_refl _) (Nat.zero_le _) rfl)
      obtain ⟨X, hX⟩ : ∃ X, bs ++ es = X := ⟨_, rfl⟩
      obtain ⟨Y, hY⟩ : ∃ Y, bs' ++ es = Y := ⟨_, rfl⟩
      obtain ⟨lx, hlx⟩ : ∃ lx, bs.length + es.length = lx := ⟨_, rfl⟩
      obtain ⟨ly, hly⟩ : ∃ ly, bs'.length + es.length = ly := ⟨_, rfl⟩
      have HXE := Lib.hid hX
      have HYE := Lib.hid hY
      have HLX := Lib.hid hlx
      have HLY := Lib.hid hly
      have hlx6 : lx ≤ 600 := by omega
      have hly6 : ly ≤ 600 := by omega
      have HX2 : Hid (X.length = lx ∧ ∀ x ∈ X, x < 256) := by
        refine ⟨by rw [← hX, List.length_append]; exact hlx, fun x hx => ?_⟩
        rw [← hX] at hx
        rcases List.mem_append.1 hx with h | h
        · exact HBY.out.2.1 x h
        · exact HBYE.out.2.1 x h
      have HY2 : Hid (Y.length = ly ∧ ∀ x ∈ Y, x < 256) := by
        refine ⟨by rw [← hY, List.length_append]; exact hly, fun x hx => ?_⟩
        rw [← hY] at hx
        rcases List.mem_append.1 hx with h | h
        · exact HBY'.out.2.1 x h
        · exact HBYE.out.2.1 x h
      clear hX hY hlx hly
      go_wp2_with (first
        | (at_builtin
           refine wpList_append_src rfl (.tmp 32) (.tmp 33) 28 rfl w2.heap.size 5 i0 (.int .u8 0) 1 1 Tryd.underlying28 FI.out FZ0.out FZ1.out FZ2.out rfl (by decide) (.slice (some ⟨w2.heap.size, 0, none⟩) 0 0) 0 [] rfl OWN0.out a bs.length cap (bvals bs) rfl ((HBY.out.later (I2.out.alloc (.cells #[] 5)).b).src cap HNIL.out) (bvals_one _) (by unfold maxLen; omega) (by omega) (by simp) ?_
           intro v3 w3 hown3 hgr3
           have HO3 := Lib.hid hown3
           have HC3 : Hid (Chg (fun g _ => w2.heap.size ≤ g) w2 w3) := (Chg.alloc1 w2 _).trans (Chg.of_grown hgr3 (fun g _ e => by simp [Value.ownBlock] at e; omega))
           have I3 := Lib.hid (I2.out.step (HC3.out.below (Nat.le_refl _) (fun k i hk h => by omega)))
           clear hown3 hgr3)
        | (at_builtin
           refine wpList_append_src rfl (.tmp 34) (.tmp 35) 28 rfl w2.heap.size 5 i0 (.int .u8 0) 1 1 Tryd.underlying28 FI.out FZ0.out FZ1.out FZ2.out rfl (by decide) v3 (0 + bs.length) _ rfl HO3.out ae es.length cape (bvals es) rfl ((HBYE.out.later I3.out.b).src cape HNILE.out) (bvals_one _) (by unfold maxLen; omega) (by omega) HC3.out.size ?_
           intro v4 w4 hown4 hgr4
           have HC4 : Hid (Chg (fun g _ => w2.heap.size ≤ g) w2 w4) := HC3.out.trans (Chg.of_grown hgr4 (fun g _ e => (HO3.out.lt g e).1))
           have I4 := Lib.hid (I2.out.step (HC4.out.below (Nat.le_refl _) (fun k i hk h => by omega)))
           have hown4' : w4.ownsRow w2.heap.size 5 1 v4 lx (bvals X) := by
             have h := hown4
             rw [List.nil_append, ← bvals_append, HXE.out, Nat.zero_add, HLX.out] at h
             exact h
           have HX4 := Lib.hid (bytes_of_own hown4' HX2.out.2 (by rw [HX2.out.1]; unfold maxLen; omega)).2
           have OWN4 := Lib.hid (World.ownsRow_made (base := w4.heap.size) (e := 5) (size := 1) w4 #[] 0 (Nat.le_refl _) (Nat.zero_le _) rfl)
           clear hown4 hgr4 hown4')
        | (at_builtin
           refine wpList_append_src rfl (.tmp 37) (.tmp 38) 28 rfl w4.heap.size 5 i0 (.int .u8 0) 1 1 Tryd.underlying28 FI.out FZ0.out FZ1.out FZ2.out rfl (by decide) (.slice (some ⟨w4.heap.size, 0, none⟩) 0 0) 0 [] rfl OWN4.out a' bs'.length cap' (bvals bs') rfl ((HBY'.out.later (I4.out.alloc (.cells #[] 5)).b).src cap' HNIL'.out) (bvals_one _) (by unfold maxLen; omega) (by omega) (by simp) ?_
           intro v5 w5 hown5 hgr5
           have HO5 := Lib.hid hown5
           have HC5 : Hid (Chg (fun g _ => w4.heap.size ≤ g) w4 w5) := (Chg.alloc1 w4 _).trans (Chg.of_grown hgr5 (fun g _ e => by simp [Value.ownBlock] at e; omega))
           have I5 := Lib.hid (I4.out.step (HC5.out.below (Nat.le_refl _) (fun k i hk h => by omega)))
           clear hown5 hgr5)
        | (at_builtin
           refine wpList_append_src rfl (.tmp 39) (.tmp 40) 28 rfl w4.heap.size 5 i0 (.int .u8 0) 1 1 Tryd.underlying28 FI.out FZ0.out FZ1.out FZ2.out rfl (by decide) v5 (0 + bs'.length) _ rfl HO5.out ae es.length cape (bvals es) rfl ((HBYE.out.later I5.out.b).src cape HNILE.out) (bvals_one _) (by unfold maxLen; omega) (by omega) HC5.out.size ?_
           intro v6 w6 hown6 hgr6
           have HC6 : Hid (Chg (fun g _ => w4.heap.size ≤ g) w4 w6) := HC5.out.trans (Chg.of_grown hgr6 (fun g _ e => (HO5.out.lt g e).1))
           have HB6 := Lib.hid (HC6.out.below (Nat.le_refl _) (fun k i hk h => by omega))
           have I6 := Lib.hid (I4.out.step HB6.out)
           have hown6' : w6.ownsRow w4.heap.size 5 1 v6 ly (bvals Y) := by
             have h := hown6
             rw [List.nil_append, ← bvals_append, HYE.out, Nat.zero_add, HLY.out] at h
             exact h
           have HY6 := Lib.hid (bytes_of_own hown6' HY2.out.2 (by rw [HY2.out.1]; unfold maxLen; omega)).2
           obtain ⟨ax, capx, rfl, _, _, hbx, _⟩ := HX4.out
           obtain ⟨ay, capy, rfl, _, _, hby, _⟩ := HY6.out
           rw [HX2.out.1, HY2.out.1]
           have HBX := Lib.hid (hbx.later HB6.out)
           have HBYY := Lib.hid hby
           obtain ⟨c0, c1, c2, c3, c4⟩ := I6.out.x
           clear hown6 hgr6 hown6' hbx hby HX4 HY6 HO5 HC5 HO3 HC3 HC4 HC6 OWN0 OWN4))
      obtain ⟨P, hP, hpl⟩ : ∃ P, primTo c X X.length = P ∧ P.length ≤ 600 := ⟨_, rfl, by have := primTo_len c X; have := HX2.out.1; omega⟩
      obtain ⟨Q, hQ, hql⟩ : ∃ Q, primTo c Y Y.length = Q ∧ Q.length ≤ 600 := ⟨_, rfl, by have := primTo_len c Y; have := HY2.out.1; omega⟩
      have HP := Lib.hid hP
      have HQ := Lib.hid hQ
      have HPM : Hid (∀ k, k < P.length → P.getD k 0 ≤ lx) := fun k hk => by
        have hm : P.getD k 0 ∈ P := by rw [List.getD_eq_getElem?_getD, List.getElem?_eq_getElem hk]; exact List.getElem_mem hk
        have := (mem_primTo c X (P.getD k 0) X.length).1 (by rw [hP]; exact hm)
        rw [HX2.out.1] at this
        exact this.2.1
      have HQM : Hid (∀ k, k < Q.length → Q.getD k 0 ≤ ly) := fun k hk => by
        have hm : Q.getD k 0 ∈ Q := by rw [List.getD_eq_getElem?_getD, List.getElem?_eq_getElem hk]; exact List.getElem_mem hk
        have := (mem_primTo c Y (Q.getD k 0) Y.length).1 (by rw [hQ]; exact hm)
        rw [HY2.out.1] at this
        exact this.2.1
      clear hP hQ
      refine (primary_k c HK.out ax capx X P lx HX2.out.1 (by omega) HP.out w6 HBX.out (I6.out.tab HT.out)).mono ?_
      rintro e w7 ⟨a7, cap7, rfl, hi7, hb7, _, _⟩
      have I7 := Lib.hid (I6.out.step hb7)
      have HBY7 := Lib.hid (HBYY.out.later hb7)
      have HI7 := Lib.hid hi7
      clear hb7 hi7 c0 c1 c2 c3 c4 HBYY
      obtain ⟨c0, c1, c2, c3, c4⟩ := I7.out.x
      go_wp2_with fail
      refine (primary_k c HK.out ay capy Y Q ly HY2.out.1 (by omega) HQ.out w7 HBY7.out (I7.out.tab HT.out)).mono ?_
      rintro e w8 ⟨a8, cap8, rfl, hi8, hb8, _, _⟩
      have I8 := Lib.hid (I7.out.step hb8)
      have HI8 := Lib.hid hi8
      have HI78 := Lib.hid (HI7.out.later hb8)
      clear hb8 hi8 c0 c1 c2 c3 c4 HBY7 HI7
      obtain ⟨c0, c1, c2, c3, c4⟩ := I8.out.x
      have hwb := HK.out.win64
      have hmb := Nat.le_trans HK.out.mx HK.out.most
      have hmn := HK.out.mn
      have hw1 := HK.out.win1
      obtain ⟨nr, hnr⟩ : ∃ nr : Int, (es.length : Int) - (c.win : Int) - (c.mn : Int) + 2 = nr := ⟨_, rfl⟩
      go_wp2_with fail
      have HNR := Lib.hid hnr
      clear hnr c0 c1 c2 c3 c4
      refine wp_over (fun W => Hid (FilRel W w8.heap.size [] (.slice (some ⟨w8.heap.size, 0, none⟩) 0 0) W) ∧ Hid (W.ownsRow (w8.heap.size + 1) 3 1 (.slice (some ⟨w8.heap.size + 1, 0, none⟩) 0 0) 0 []) ∧ Hid (Below w8.heap.size w8 W) ∧ Hid (W.heap.size = w8.heap.size + 2)) ⟨FilRel.start (two_rows w8).1, (two_rows w8).2, ((Below.refl _ _).alloc (Nat.le_refl _) _).alloc (by simp) _, by show _ = _; simp⟩ ?_
      rintro W ⟨HX0, HY0, HBW, HSW⟩
      have HPA : Hid (∀ V k, Below w8.heap.size W V → k < P.length → ∃ b o, a7 = some ⟨b, o, none⟩ ∧ V.cell? ⟨b, o + k, none⟩ = some (.int .i64 ((P.getD k 0 : Nat) : Int))) := fun V k hV hk => by
        obtain ⟨b, o, e, hc⟩ := HI78.out.some (by omega)
        exact ⟨b, o, e, ((HBW.out.trans hV).cell (p := ⟨b, o + k, none⟩) (World.block_lt_of_cell? w8 _ (hc k hk))).trans (hc k hk)⟩
      have HQA : Hid (∀ V k, Below w8.heap.size W V → k < Q.length → ∃ b o, a8 = some ⟨b, o, none⟩ ∧ V.cell? ⟨b, o + k, none⟩ = some (.int .i64 ((Q.getD k 0 : Nat) : Int))) := fun V k hV hk => by
        obtain ⟨b, o, e, hc⟩ := HI8.out.some (by omega)
        exact ⟨b, o, e, ((HBW.out.trans hV).cell (p := ⟨b, o + k, none⟩) (World.block_lt_of_cell? w8 _ (hc k hk))).trans (hc k hk)⟩
      have I9 := Lib.hid (I8.out.step HBW.out)
      have HSZ8 := Lib.hid I8.out.lt
      clear HI8 HI78 HBW
      generalize hN : w8.heap.size = N at *
      clear hN I8
      obtain ⟨j0, hi, hz0, hz1, hz2⟩ := info_parts Tryd.info3
      have JI := Lib.hid hi
      have JZ0 := Lib.hid hz0
      have JZ1 := Lib.hid hz1
      have JZ2 := Lib.hid hz2
      clear hi hz0 hz1 hz2
      obtain ⟨PX, hPX⟩ : ∃ Pr : Nat → Bool, Pr = fun (p : Nat) => decide (bs.length + c.win + c.mn < p + 2) := ⟨_, rfl⟩
      obtain ⟨PY, hPY⟩ : ∃ Pr : Nat → Bool, Pr = fun (p : Nat) => decide (bs'.length + c.win + c.mn < p + 2) := ⟨_, rfl⟩
      obtain ⟨gX, hgX⟩ : ∃ g : Nat → Nat, g = fun (p : Nat) => lx - p := ⟨_, rfl⟩
      obtain ⟨gY, hgY⟩ : ∃ g : Nat → Nat, g = fun (p : Nat) => ly - p := ⟨_, rfl⟩
      have HPR := Lib.hid hPX
      have HQR := Lib.hid hPY
      have HGX := Lib.hid hgX
      have HGY := Lib.hid hgY
      clear hPX hPY hgX hgY
      go_loopw [16, 18] (fun v i wr => ∃ k : Nat, k ≤ P.length ∧ i = .int .i64 k ∧ Hid (FilRel W N (fl PX gX (P.take k)) v wr)) (fun _ i _ => P.length - (intOf i).toNat)
      case atStart => exact ⟨0, Nat.zero_le _, rfl, HX0.out⟩
      case round =>
        obtain ⟨k, hk, rfl, HF⟩ := hrel
        by_cases hlt : k < P.length
        · have hbe := HF.out.chg.below (B := N) (by have := HSW.out; omega) (fun g i hg h => by have := HSW.out; rcases h with h | h <;> omega)
          have hsz := hbe.size
          obtain ⟨b, o, rfl, hc⟩ := HPA.out _ k hbe hlt
          clear hbe
          have hlen : (fl PX gX (P.take k)).length ≤ 600 := Nat.le_trans (fl_length _ _ _) (by rw [List.length_take]; omega)
          have HY := Lib.hid (fl_yes (P := PX) (g := gX) (zs := P) hlt)
          have HN := Lib.hid (fl_no (P := PX) (g := gX) (zs := P) hlt)
          have hxl := HPM.out k hlt
          generalize P.getD k 0 = x at hc HY HN hxl
          obtain ⟨z, hz⟩ : ∃ z, lx - x = z := ⟨_, rfl⟩
          have hzi : (lx : Int) - (x : Int) = (z : Int) := by omega
          have HPX : Hid (PX x = true ↔ (z : Int) < nr) := by
            show _ ↔ _
            have h1 := HNR.out; have h2 := HLX.out
            rw [HPR.out]; simp only [decide_eq_true_eq]; omega
          have hgz : gX x = z := by rw [HGX.out]; exact hz
          rw [hgz] at HY
          clear hz hgz
          generalize hO : fl PX gX (P.take k) = O at HF HY HN hlen
          clear hO
          by_cases hx1 : (z : Int) < nr
          · have HP1 : Hid (fl PX gX (P.take (k + 1)) = O ++ [z]) := HY.out (HPX.out.2 hx1)
            clear HY HN HPX
            go_wp2_with (at_builtin; refine wpList_append_own_at _ rfl _ _ 57 rfl (N) 3 j0 (.int .i64 0) 1 8 Tryd.underlying57 JI.out JZ0.out JZ1.out JZ2.out rfl (by decide) _ _ _ rfl (HF.out.own.alloc _) ⟨wr.heap.size, 0, none⟩ 1 1 [.int .i64 (z : Int)] rfl rfl (cell_one_new _ _ _) (by simp [Value.oneCell']) (by unfold maxLen; omega) (by omega) (by simp; have := HSW.out; omega) ?_; intro v' w4 hown4 hgr4 _ hat4; have HF4 := Lib.hid (HF.out.push hown4 hgr4 hat4); clear hown4 hgr4 hat4)
            go_roundw
            case rel => exact ⟨k + 1, by omega, by go_num, by show FilRel _ _ _ _ _; rw [HP1.out]; exact HF4.out⟩
            case measure => simp [intOf]; omega
          · have HP1 : Hid (fl PX gX (P.take (k + 1)) = O) := HN.out (by cases hh : PX x with | false => rfl | true => exact absurd (HPX.out.1 hh) hx1)
            clear HY HN HPX
            go_wp2_with fail
            go_roundw
            case rel => exact ⟨k + 1, by omega, by go_num, by show FilRel _ _ _ _ _; rw [HP1.out]; exact HF.out⟩
            case measure => simp [intOf]; omega
        · have e : k = P.length := by omega
          subst e
          have HX := HF
          rw [List.take_length] at HX
          clear HF hk hlt
          rename World => wa
          generalize hO : fl PX gX P = OX at HX
          have HOX := Lib.hid hO
          have HB1 : Hid (Below N W wa) := HX.out.chg.below (by have := HSW.out; omega) (fun g i hg h => by have := HSW.out; rcases h with h | h <;> omega)
          have HY1 : Hid (FilRel wa (N + 1) [] (.slice (some ⟨N + 1, 0, none⟩) 0 0) wa) := FilRel.start (HX.out.keep HY0.out (fun g hg => by simp [Value.ownBlock] at hg; omega))
          have HSZ1 : Hid (N + 2 ≤ wa.heap.size) := by have := HX.out.chg.size; have := HSW.out; show _ ≤ _; omega
          clear hO
          go_wp2_with fail
          go_loopw [17, 19] (fun v i wq => ∃ k : Nat, k ≤ Q.length ∧ i = .int .i64 k ∧ Hid (FilRel wa (N + 1) (fl PY gY (Q.take k)) v wq)) (fun _ i _ => Q.length - (intOf i).toNat)
          case atStart => exact ⟨0, Nat.zero_le _, rfl, HY1.out⟩
          case round =>
            obtain ⟨k, hk, rfl, HF⟩ := hrel
            have HB2 : Hid (Below (N + 1) wa wr) := HF.out.chg.below (by have := HSZ1.out; omega) (fun g i hg h => by have := HSZ1.out; rcases h with h | h <;> omega)
            by_cases hlt : k < Q.length
            · have hsz : N + 2 ≤ wr.heap.size := Nat.le_trans HSZ1.out HF.out.chg.size
              obtain ⟨b, o, rfl, hc⟩ := HQA.out _ k (HB1.out.trans (HB2.out.mono (by omega))) hlt
              have hlen : (fl PY gY (Q.take k)).length ≤ 600 := Nat.le_trans (fl_length _ _ _) (by rw [List.length_take]; omega)
              have HY := Lib.hid (fl_yes (P := PY) (g := gY) (zs := Q) hlt)
              have HN := Lib.hid (fl_no (P := PY) (g := gY) (zs := Q) hlt)
              have hxl := HQM.out k hlt
              generalize Q.getD k 0 = x at hc HY HN hxl
              obtain ⟨z, hz⟩ : ∃ z, ly - x = z := ⟨_, rfl⟩
              have hzi : (ly : Int) - (x : Int) = (z : Int) := by omega
              have HPX : Hid (PY x = true ↔ (z : Int) < nr) := by
                show _ ↔ _
                have h1 := HNR.out; have h2 := HLY.out
                rw [HQR.out]; simp only [decide_eq_true_eq]; omega
              have hgz : gY x = z := by rw [HGY.out]; exact hz
              rw [hgz] at HY
              clear hz hgz
              generalize hO : fl PY gY (Q.take k) = O at HF HY HN hlen
              clear hO
              by_cases hx1 : (z : Int) < nr
              · have HP1 : Hid (fl PY gY (Q.take (k + 1)) = O ++ [z]) := HY.out (HPX.out.2 hx1)
                clear HY HN HPX
                go_wp2_with (at_builtin; refine wpList_append_own_at _ rfl _ _ 57 rfl (N + 1) 3 j0 (.int .i64 0) 1 8 Tryd.underlying57 JI.out JZ0.out JZ1.out JZ2.out rfl (by decide) _ _ _ rfl (HF.out.own.alloc _) ⟨wr.heap.size, 0, none⟩ 1 1 [.int .i64 (z : Int)] rfl rfl (cell_one_new _ _ _) (by simp [Value.oneCell']) (by unfold maxLen; omega) (by omega) (by simp; have := hsz; omega) ?_; intro v' w4 hown4 hgr4 _ hat4; have HF4 := Lib.hid (HF.out.push hown4 hgr4 hat4); clear hown4 hgr4 hat4)
                go_roundw
                case rel => exact ⟨k + 1, by omega, by go_num, by show FilRel _ _ _ _ _; rw [HP1.out]; exact HF4.out⟩
                case measure => simp [intOf]; omega
              · have HP1 : Hid (fl PY gY (Q.take (k + 1)) = O) := HN.out (by cases hh : PY x with | false => rfl | true => exact absurd (HPX.out.1 hh) hx1)
                clear HY HN HPX
                go_wp2_with fail
                go_roundw
                case rel => exact ⟨k + 1, by omega, by go_num, by show FilRel _ _ _ _ _; rw [HP1.out]; exact HF.out⟩
                case measure => simp [intOf]; omega
            · have e : k = Q.length := by omega
              subst e
              have HYY := HF
              rw [List.take_length] at HYY
              clear HF hk hlt
              have HEQ : Hid (fl PY gY Q = OX) := by
                have h := suffix_law HK.out bs bs' es PX PY (fun p => by rw [HPR.out]) (fun p => by rw [HQR.out]) es.length (Nat.le_refl _)
                have ex : X.length = lx := HX2.out.1
                have ey : Y.length = ly := HY2.out.1
                rw [HXE.out, HYE.out, HLX.out, HLY.out] at h
                have hp := HP.out
                have hq := HQ.out
                rw [ex] at hp
                rw [ey] at hq
                rw [hp, hq, ← HGX.out, ← HGY.out, HOX.out] at h
                exact h.symm
              rw [HEQ.out] at HYY
              have hxl : OX.length ≤ 600 := by rw [← HOX.out]; exact Nat.le_trans (fl_length _ _ _) hpl
              have I10 : Hid (Inv w wr (c.mn : Int) (c.mx : Int) (c.win : Int) (c.bits : Int) c.seed) := ⟨I9.out.b.trans ((HB1.out.trans (HB2.out.mono (by omega))).mono (by have := HSZ8.out; omega)), I9.out.x.later (HB1.out.trans (HB2.out.mono (by omega))) HSZ8.out, Nat.lt_of_lt_of_le (Nat.lt_trans HSZ8.out (by omega)) (Nat.le_trans HSZ1.out HYY.out.chg.size)⟩
              obtain ⟨_, cx, cpx, rfl, _, _, hix, _⟩ := ints_of_own (HYY.out.keep HX.out.own (fun g hg => by have h9 := HSW.out; rcases HX.out.blk g hg with h | h <;> omega))
              obtain ⟨_, cy, cpy, rfl, _, _, hiy, _⟩ := ints_of_own HYY.out.own
              have HIX := Lib.hid hix
              have HIY := Lib.hid hiy
              clear hix hiy
              go_wp2_with fail
              refine (awake16 _ (I10.out.tab HT.out)).mono ?_
              rintro e wA ⟨rfl, hbA⟩
              have IA := Lib.hid (I10.out.step hbA)
              have HIXA := Lib.hid (HIX.out.later hbA)
              have HIYA := Lib.hid (HIY.out.later hbA)
              clear hbA
              go_wp2_with fail
              refine (ints_any cx cy cpx cpy OX OX (by omega) (by omega) wA HIXA.out HIYA.out).mono ?_
              rintro e wB ⟨rfl, hbB⟩
              have IB := Lib.hid (IA.out.step hbB)
              rw [decide_eq_true rfl]
              clear hbB
              go_wp2_with fail
              go_ret
              exact ⟨rfl, IB.out.b⟩
    · rw [decide_eq_false h3]
      go_wp2_with fail
      refine (awake16 w2 (I2.out.tab HT.out)).mono ?_
      rintro e w3 ⟨rfl, hb3⟩
      have I3 := Lib.hid (I2.out.step hb3)
      clear hb3
      go_wp2_with fail
      go_ret
      exact ⟨rfl, I3.out.b⟩
end Go.Proofs.YtfnhcjcahcacnaaDoor

/- The law ChunkerLocal: the walk. -/
import Derived.Test.YtfnhcjcahcacnaaDoorFil
import Derived.Test.YtfnhcjcahcacnaaDoorLawsM
namespace Go.Proofs.YtfnhcjcahcacnaaDoor
set_option linter.unusedVariables false
set_option linter.unusedSimpArgs false
open Go.RowKit
open Roll (u)
open Kit (Chg)
open Chk

/-- append of bytes to a slice of the call's own, as a law on the operation alone. -/
theorem wp_append_src {P : Program} {w : World} {o : Oper} {a : Act} {K : Act → World → Prop} {Q : Exit → Act → World → Prop} (s x : Operand) (t : TypeId)
    (ho : o.op = .call { callee := .builtin .append, args := #[s, x], argTypes := #[t, t] })
    (base : Nat) (e : TypeId) (i : TypeInfo) (z : Value) (size bytes : Nat) (ht : P.underlying t = some (.slice e)) (hi : P.info? e = some i) (hz : i.zero = some z)
    (hsize : i.size = size) (hby : i.bytes = bytes) (hzs : z.cells.size = size) (hsz : 0 < size)
    (v : Value) (n : Nat) (xs : List Value) (hs : a.eval s = v) (hown : w.ownsRow base e size v n xs)
    (ao : Option Addr) (m c : Nat) (news : List Value) (hx : a.eval x = .slice ao m c) (hsrc : SrcAt w ao m c size news) (h1 : ∀ u ∈ news, u.oneCell' = true)
    (h63 : n + m ≤ maxLen) (hbytes : (n + m) * bytes ≤ 140737488355328) (hbase : base ≤ w.heap.size)
    (h : ∀ v' w', w'.ownsRow base e size v' (n + m) (xs ++ news) → w.grownBy w' v.ownBlock → K (a.put o.dst v') w') : o.wp P a w K Q := by
  rcases hsrc with ⟨rfl, rfl, rfl, rfl⟩ | ⟨hl, ad, rfl, hnews⟩
  · have hrun := run_append_owned_none (P := P) (w := w) base t o.type e i size ht hi v n xs hown
    unfold Oper.wp
    simp [execOp, ho, resolve, invoke, builtin, hs, hx, hrun, Result.andThen]
    exact h v w (by rw [List.append_nil, Nat.add_zero]; exact hown) ⟨rfl, rfl, rfl, Nat.le_refl _, fun _ _ _ => rfl⟩
  · exact wp_append_own w s x t ho base e i z size bytes ht hi hz hsize hby hzs hsz v n xs hs hown ad m c news hx hl hnews h1 h63 hbytes hbase (fun v' w' a b _ => h v' w' a b)

theorem reach_z (c : Cut) (hk : c.Ok) (f t : Int) (A B : Int) (h0 : 0 ≤ f) (h1 : f < t) (h2 : t ≤ 1048576) (hA : f + 1 = A) (hB : t + c.win + c.mn - 2 = B) (w : World) :
    Calls Tryd.prog 46 #[.agg #[.int .i64 c.mn, .int .i64 c.mx, .int .i64 c.win, .int .i64 c.bits, .int .u64 (u c.seed)], .int .i64 f, .int .i64 t] w fun e w' => e = .returned (.tuple #[.int .i64 A, .int .i64 B, .int .i64 0]) ∧ Below w.heap.size w w' := by
  subst hA
  subst hB
  refine (reach_any c.mn c.mx c.win c.bits c.seed f t w).mono ?_
  rintro e w' ⟨rfl, hb⟩
  refine ⟨?_, hb⟩
  unfold reachV reachB
  rw [valid_of hk, Bool.true_and, if_pos (by rw [decide_eq_true_eq]; exact ⟨h0, h1, h2⟩)]

set_option maxRecDepth 100000 in
set_option maxHeartbeats 4000000 in
theorem walk_ChunkerLocal (mn mx win bits : Int) (s : BitVec 64) (a : Option Addr) (cap : Nat) (bs : List Nat) (n : Int) (a' : Option Addr) (cap' : Nat) (bs' : List Nat) (w : World) (hB : BytesAt w a bs) (hcap : bs.length ≤ cap) (hnil : a = none → cap = 0) (hl : bs.length ≤ 140737488351232)
    (hB' : BytesAt w a' bs') (hcap' : bs'.length ≤ cap') (hnil' : a' = none → cap' = 0) (hl' : bs'.length ≤ 140737488351232) (hT : TabAt 0 Lib.deBruijn64tab w) :
    Calls Tryd.prog 14 #[.agg #[.int .i64 mn, .int .i64 mx, .int .i64 win, .int .i64 bits, .int .u64 (u s)], .slice a bs.length cap, .int .i64 n, .slice a' bs'.length cap'] w fun e w' => e = .returned (.bool true) ∧ Below w.heap.size w w' := by
  have HT := Lib.hid hT
  have HBY := Lib.hid hB
  have HCAP := Lib.hid hcap
  have HNIL := Lib.hid hnil
  have HBY' := Lib.hid hB'
  have HCAP' := Lib.hid hcap'
  have HNIL' := Lib.hid hnil'
  clear hT hB hcap hB' hcap' hnil hnil'
  go_enter Tryd.func14, Tryd.ntmps14
  go_wp2_with fail
  refine (refValid_any mn mx win bits s _).mono ?_
  rintro e w1 ⟨rfl, hb⟩
  have I1 := Lib.hid ((Inv.new w mn mx win bits s).step hb)
  clear hb
  cases hv : validB mn mx win bits with
  | false =>
    clear hv
    go_wp2_with fail
    refine (awake16 w1 (I1.out.tab HT.out)).mono ?_
    rintro e w3 ⟨rfl, hb3⟩
    have I3 := Lib.hid (I1.out.step hb3)
    clear hb3
    go_wp2_with fail
    go_ret
    exact ⟨rfl, I3.out.b⟩
  | true =>
    have hv2 := hv
    clear hv
    go_wp2_with fail
    refine (few2_any w1 (.cells #[] 0) a a' bs.length cap bs'.length cap').mono ?_
    rintro e w2 ⟨rfl, he2⟩
    have I2 : Hid (Inv w w2 mn mx win bits s) := by rw [← he2]; exact I1.out.alloc _
    clear he2 I1
    by_cases hall : (bs.length ≤ 300 ∧ bs'.length ≤ 300) ∧ bs'.length ≠ 0 ∧ 0 ≤ n ∧ n ≤ (bs.length : Int) - (bs'.length : Int)
    · obtain ⟨h3, h0, hn0, hn1⟩ := hall
      rw [decide_eq_true h3]
      obtain ⟨h31, h32⟩ := h3
      obtain ⟨f, rfl⟩ : ∃ f : Nat, n = f := ⟨n.toNat, by omega⟩
      obtain ⟨c, hk, rfl, rfl, rfl, rfl, rfl⟩ := cut_of_valid s hv2
      have HK := Lib.hid hk
      clear hk hv2 hn0
      have hh0 : ((bs'.length : Int) == 0) = false := by rw [beq_eq_false_iff_ne]; omega
      have hh1 : ¬ ((bs.length : Int) - (bs'.length : Int) < (f : Int)) := by omega
      have hh2 : decide ((f : Int) < 0) = false := decide_eq_false (by omega)
      have hh3 : decide ((bs.length : Int) - (bs'.length : Int) < (f : Int)) = false := decide_eq_false (by omega)
      obtain ⟨t, ht⟩ : ∃ t, f + bs'.length = t := ⟨_, rfl⟩
      have hti : (f : Int) + (bs'.length : Int) = (t : Int) := by omega
      have htl : t ≤ bs.length := by omega
      have hft : f ≤ t := by omega
      go_upto_region 4 with fail
      clear hh0 hh1 hh2 hh3
      have HTT := Lib.hid ht
      clear hti ht
      have hsl1 := slice_h a bs.length cap f (by have := HCAP.out; omega)
      have hsl2 := slice_l a bs.length cap t htl
      obtain ⟨i0, hi, hz0, hz1, hz2⟩ := info_parts Tryd.info5
      refine Kit.wp_region_heads (fun _ => True) [1, 2, 3, 5, 7, 8, 9] [0, 4, 6, 10, 11] (by kernel_rfl) (by kernel_rfl) (by kernel_rfl) (by kernel_rfl) trivial ?_
      repeat (refine Kit.heads_cons (by rfl) (.inl ⟨by rfl, fun w' hS => by go_simp; (try with_reducible rfl)⟩) ?_; simp only [Act.put, List.setIfInBounds_toArray, List.set_cons_zero, List.set_cons_succ])
      refine Kit.heads_nil ?_
      clear hsl1 hsl2
      refine Kit.chain_cons (by rfl) rfl fun K hK => ?_
      go_simp
      refine hK _ _ trivial ?_
      clear hK K
      have OWN0 := World.ownsRow_made (base := w2.heap.size) (e := 5) (size := 1) w2.drew #[] 0 (Nat.le_refl _) (Nat.zero_le _) rfl
      have hB0 : Below w2.heap.size w2 (w2.drew.alloc (.cells #[] 5)) := ((Below.refl _ _).drew).alloc (Nat.le_refl _) _
      have hS1 := (bytesAt_sub ((HBY.out.later I2.out.b).later hB0) HCAP.out 0 f).src cap (fun h => by have := subA_none HNIL.out h; omega)
      have hd1 : ((bs.take f).drop 0).length = f := by rw [List.drop_zero, List.length_take]; omega
      rw [hd1] at hS1
      refine Kit.chain_cons (by rfl) rfl fun K hK => wp_append_src (.tmp 55) (.tmp 58) 28 rfl w2.heap.size 5 i0 (.int .u8 0) 1 1 Tryd.underlying28 hi hz0 hz1 hz2 rfl (by decide) (.slice (some ⟨w2.heap.size, 0, none⟩) 0 0) 0 [] rfl OWN0 (subA a 0 cap) f cap (bvals ((bs.take f).drop 0)) rfl hS1 (bvals_one _) (by unfold maxLen; omega) (by omega) (by simp) fun v3 w3 hown3 hgr3 => hK _ _ trivial ?_
      clear hK K
      simp only [Act.put, List.setIfInBounds_toArray, List.set_cons_zero, List.set_cons_succ]
      have hC3 : Chg (fun g _ => w2.heap.size ≤ g) w2 w3 := ((Chg.alloc1 w2 _).drew).trans (Chg.of_grown hgr3 (fun g _ e => by simp [Value.ownBlock] at e; omega))
      have hB3 := hC3.below (Nat.le_refl _) (fun k i hk h => by omega)
      have hS2 := ((HBY'.out.later I2.out.b).later hB3).src cap' HNIL'.out
      refine Kit.chain_cons (by rfl) rfl fun K hK => wp_append_src (.tmp 59) (.tmp 60) 28 rfl w2.heap.size 5 i0 (.int .u8 0) 1 1 Tryd.underlying28 hi hz0 hz1 hz2 rfl (by decide) v3 (0 + f) _ rfl hown3 a' bs'.length cap' (bvals bs') rfl hS2 (bvals_one _) (by unfold maxLen; omega) (by omega) hB3.size fun v4 w4 hown4 hgr4 => hK _ _ trivial ?_
      clear hK K
      simp only [Act.put, List.setIfInBounds_toArray, List.set_cons_zero, List.set_cons_succ]
      have hC4 : Chg (fun g _ => w2.heap.size ≤ g) w2 w4 := hC3.trans (Chg.of_grown hgr4 (fun g _ e => (hown3.lt g e).1))
      have hB4 := hC4.below (Nat.le_refl _) (fun k i hk h => by omega)
      have hS3 := (bytesAt_sub ((HBY.out.later I2.out.b).later hB4) HCAP.out t bs.length).src (cap - t) (fun h => subA_none HNIL.out h)
      have hd3 : ((bs.take bs.length).drop t).length = bs.length - t := by rw [List.take_length, List.length_drop]
      rw [hd3] at hS3
      refine Kit.chain_cons (by rfl) rfl fun K hK => wp_append_src (.tmp 61) (.tmp 64) 28 rfl w2.heap.size 5 i0 (.int .u8 0) 1 1 Tryd.underlying28 hi hz0 hz1 hz2 rfl (by decide) v4 (0 + f + bs'.length) _ rfl hown4 (subA a t cap) (bs.length - t) (cap - t) (bvals ((bs.take bs.length).drop t)) rfl hS3 (bvals_one _) (by unfold maxLen; omega) (by omega) hB4.size fun v5 w5 hown5 hgr5 => hK _ _ trivial ?_
      clear hK K
      simp only [Act.put, List.setIfInBounds_toArray, List.set_cons_zero, List.set_cons_succ]
      have hC5 : Chg (fun g _ => w2.heap.size ≤ g) w2 w5 := hC4.trans (Chg.of_grown hgr5 (fun g _ e => (hown4.lt g e).1))
      have I5 := Lib.hid (I2.out.step (hC5.below (Nat.le_refl _) (fun k i hk h => by omega)))
      obtain ⟨os, hos⟩ : ∃ os, bs.take f ++ bs' ++ bs.drop t = os := ⟨_, rfl⟩
      have hol : os.length = bs.length := by rw [← hos, ← HTT.out]; exact splice_length bs bs' f (by have := HTT.out; omega)
      have hbv : [] ++ bvals ((bs.take f).drop 0) ++ bvals bs' ++ bvals ((bs.take bs.length).drop t) = bvals os := by rw [← hos, bvals_append, bvals_append, List.drop_zero, List.take_length, List.nil_append]
      have hn5 : 0 + f + bs'.length + (bs.length - t) = bs.length := by have := HTT.out; omega
      rw [hbv, hn5] at hown5
      have hob : ∀ x ∈ os, x < 256 := fun x hx => by
        rw [← hos] at hx
        rcases List.mem_append.1 hx with hx | hx
        · rcases List.mem_append.1 hx with hx | hx
          · exact HBY.out.2.1 x (List.mem_of_mem_take hx)
          · exact HBY'.out.2.1 x hx
        · exact HBY.out.2.1 x (List.mem_of_mem_drop hx)
      obtain ⟨hx1, ao, capo, rfl, hx2, hx3, hbo, hx4⟩ := bytes_of_own hown5 hob (by unfold maxLen; omega)
      rw [hol]
      have HBO := Lib.hid hbo
      have HOS := Lib.hid hos
      have HOL := Lib.hid hol
      clear hx1 hx2 hx3 hx4 OWN0 hB0 hS1 hd1 hown3 hgr3 hC3 hB3 hS2 hown4 hgr4 hC4 hB4 hS3 hd3 hown5 hgr5 hC5 hos hol hbv hn5 hob hbo hi hz0 hz1 hz2
      refine Kit.chain_cons (by rfl) rfl fun K hK => ?_
      go_simp
      refine hK _ _ trivial ?_
      clear hK K
      refine Kit.chain_done ?_
      obtain ⟨c0, c1, c2, c3, c4⟩ := I5.out.x
      go_wp2_with fail
      obtain ⟨A, hA⟩ : ∃ A : Int, (f : Int) + 1 = A := ⟨_, rfl⟩
      obtain ⟨B, hBB⟩ : ∃ B : Int, (t : Int) + c.win + c.mn - 2 = B := ⟨_, rfl⟩
      refine (reach_z c HK.out (f : Int) (t : Int) A B (by omega) (by have := HTT.out; omega) (by omega) hA hBB w5).mono ?_
      rintro e w6 ⟨rfl, hb6⟩
      have I6 := Lib.hid (I5.out.step hb6)
      have HBO6 := Lib.hid (HBO.out.later hb6)
      have HA := Lib.hid hA
      have HBB := Lib.hid hBB
      have hAb : 0 ≤ A ∧ A ≤ 1000 := by omega
      clear hb6 c0 c1 c2 c3 c4 hA hBB HBO
      obtain ⟨P, hP, hpl⟩ : ∃ P, primTo c bs bs.length = P ∧ P.length ≤ 300 := ⟨_, rfl, by have := primTo_len c bs; omega⟩
      obtain ⟨Q, hQ, hql⟩ : ∃ Q, primTo c os os.length = Q ∧ Q.length ≤ 300 := ⟨_, rfl, by have := primTo_len c os; have := HOL.out; omega⟩
      have HP := Lib.hid hP
      have HQ := Lib.hid hQ
      clear hP hQ
      obtain ⟨c0, c1, c2, c3, c4⟩ := I6.out.x
      go_wp2_with fail
      (with_reducible refine (primary_k c HK.out a cap bs P bs.length rfl (by omega) HP.out w6 (HBY.out.later I6.out.b) (I6.out.tab HT.out)).mono ?_)
      rintro e w7 ⟨a7, cap7, rfl, hi7, hb7, _, _⟩
      have I7 := Lib.hid (I6.out.step hb7)
      have HBO7 := Lib.hid (HBO6.out.later hb7)
      have HI7 := Lib.hid hi7
      clear hb7 hi7 c0 c1 c2 c3 c4 HBO6
      obtain ⟨c0, c1, c2, c3, c4⟩ := I7.out.x
      go_wp2_with fail
      refine (primary_k c HK.out ao capo os Q bs.length HOL.out (by omega) HQ.out w7 HBO7.out (I7.out.tab HT.out)).mono ?_
      rintro e w8 ⟨a8, cap8, rfl, hi8, hb8, _, _⟩
      have I8 := Lib.hid (I7.out.step hb8)
      have HI8 := Lib.hid hi8
      have HI78 := Lib.hid (HI7.out.later hb8)
      clear hb8 hi8 c0 c1 c2 c3 c4 HBO7 HI7
      go_wp2_with fail
      refine wp_over (fun W => Hid (FilRel W w8.heap.size [] (.slice (some ⟨w8.heap.size, 0, none⟩) 0 0) W) ∧ Hid (W.ownsRow (w8.heap.size + 1) 3 1 (.slice (some ⟨w8.heap.size + 1, 0, none⟩) 0 0) 0 []) ∧ Hid (Below w8.heap.size w8 W) ∧ Hid (W.heap.size = w8.heap.size + 2)) ⟨FilRel.start (two_rows w8).1, (two_rows w8).2, ((Below.refl _ _).alloc (Nat.le_refl _) _).alloc (by simp) _, by show _ = _; simp⟩ ?_
      rintro W ⟨HX0, HY0, HBW, HSW⟩
      have HPA : Hid (∀ V k, Below w8.heap.size W V → k < P.length → ∃ b o, a7 = some ⟨b, o, none⟩ ∧ V.cell? ⟨b, o + k, none⟩ = some (.int .i64 ((P.getD k 0 : Nat) : Int))) := fun V k hV hk => by
        obtain ⟨b, o, e, hc⟩ := HI78.out.some (by omega)
        exact ⟨b, o, e, ((HBW.out.trans hV).cell (p := ⟨b, o + k, none⟩) (World.block_lt_of_cell? w8 _ (hc k hk))).trans (hc k hk)⟩
      have HQA : Hid (∀ V k, Below w8.heap.size W V → k < Q.length → ∃ b o, a8 = some ⟨b, o, none⟩ ∧ V.cell? ⟨b, o + k, none⟩ = some (.int .i64 ((Q.getD k 0 : Nat) : Int))) := fun V k hV hk => by
        obtain ⟨b, o, e, hc⟩ := HI8.out.some (by omega)
        exact ⟨b, o, e, ((HBW.out.trans hV).cell (p := ⟨b, o + k, none⟩) (World.block_lt_of_cell? w8 _ (hc k hk))).trans (hc k hk)⟩
      have I9 := Lib.hid (I8.out.step HBW.out)
      have HSZ8 := Lib.hid I8.out.lt
      clear HI8 HI78 HBW
      generalize hN : w8.heap.size = N at *
      clear hN I8
      obtain ⟨j0, hi, hz0, hz1, hz2⟩ := info_parts Tryd.info3
      have JI := Lib.hid hi
      have JZ0 := Lib.hid hz0
      have JZ1 := Lib.hid hz1
      have JZ2 := Lib.hid hz2
      clear hi hz0 hz1 hz2
      obtain ⟨Pr, hPr⟩ : ∃ Pr : Nat → Bool, Pr = fun (p : Nat) => decide ((p : Int) < A) || decide (B < (p : Int)) := ⟨_, rfl⟩
      have HPR := Lib.hid hPr
      clear hPr
      go_loopw [18, 20] (fun v i wr => ∃ k : Nat, k ≤ P.length ∧ i = .int .i64 k ∧ Hid (FilRel W N (fl Pr id (P.take k)) v wr)) (fun _ i _ => P.length - (intOf i).toNat)
      case atStart => exact ⟨0, Nat.zero_le _, rfl, HX0.out⟩
      case round =>
        obtain ⟨k, hk, rfl, HF⟩ := hrel
        by_cases hlt : k < P.length
        · have hlen : (fl Pr id (P.take k)).length ≤ 300 := Nat.le_trans (fl_length _ _ _) (by rw [List.length_take]; omega)
          have hbe := HF.out.chg.below (B := N) (by have := HSW.out; omega) (fun g i hg h => by have := HSW.out; rcases h with h | h <;> omega)
          have hsz := hbe.size
          obtain ⟨b, o, rfl, hc⟩ := HPA.out _ k hbe hlt
          have HY := Lib.hid (fl_yes (P := Pr) (g := id) (zs := P) hlt)
          have HN := Lib.hid (fl_no (P := Pr) (g := id) (zs := P) hlt)
          have hPx : Pr (P.getD k 0) = (decide (((P.getD k 0 : Nat) : Int) < A) || decide (B < ((P.getD k 0 : Nat) : Int))) := by rw [HPR.out]
          have HPX := Lib.hid hPx
          clear hbe hPx
          generalize P.getD k 0 = x at hc HY HN HPX
          generalize hO : fl Pr id (P.take k) = O at HF HY HN hlen
          clear hO
          by_cases hx1 : (x : Int) < A
          · have HP1 : Hid (fl Pr id (P.take (k + 1)) = O ++ [x]) := HY.out (by rw [HPX.out]; simp [hx1])
            (try clear HY HN HPX)
            go_wp2_with (at_builtin; refine wpList_append_own_at _ rfl _ _ 57 rfl (N) 3 j0 (.int .i64 0) 1 8 Tryd.underlying57 JI.out JZ0.out JZ1.out JZ2.out rfl (by decide) _ _ _ rfl (HF.out.own.alloc _) ⟨wr.heap.size, 0, none⟩ 1 1 [.int .i64 (x : Int)] rfl rfl (cell_one_new _ _ _) (by simp [Value.oneCell']) (by unfold maxLen; omega) (by omega) (by simp; have := HSW.out; omega) ?_; intro v' w4 hown4 hgr4 _ hat4; have HF4 := Lib.hid (HF.out.push hown4 hgr4 hat4); clear hown4 hgr4 hat4)
            go_roundw
            case rel => exact ⟨k + 1, by omega, by go_num, by show FilRel _ _ _ _ _; rw [HP1.out]; exact HF4.out⟩
            case measure => simp [intOf]; omega
          · by_cases hx2 : B < (x : Int)
            · have HP1 : Hid (fl Pr id (P.take (k + 1)) = O ++ [x]) := HY.out (by rw [HPX.out]; simp [hx2])
              (try clear HY HN HPX)
              go_wp2_with (at_builtin; refine wpList_append_own_at _ rfl _ _ 57 rfl (N) 3 j0 (.int .i64 0) 1 8 Tryd.underlying57 JI.out JZ0.out JZ1.out JZ2.out rfl (by decide) _ _ _ rfl (HF.out.own.alloc _) ⟨wr.heap.size, 0, none⟩ 1 1 [.int .i64 (x : Int)] rfl rfl (cell_one_new _ _ _) (by simp [Value.oneCell']) (by unfold maxLen; omega) (by omega) (by simp; have := HSW.out; omega) ?_; intro v' w4 hown4 hgr4 _ hat4; have HF4 := Lib.hid (HF.out.push hown4 hgr4 hat4); clear hown4 hgr4 hat4)
              go_roundw
              case rel => exact ⟨k + 1, by omega, by go_num, by show FilRel _ _ _ _ _; rw [HP1.out]; exact HF4.out⟩
              case measure => simp [intOf]; omega
            · have HP1 : Hid (fl Pr id (P.take (k + 1)) = O) := HN.out (by rw [HPX.out]; simp; omega)
              clear HY HN HPX
              go_wp2_with fail
              go_roundw
              case rel => exact ⟨k + 1, by omega, by go_num, by show FilRel _ _ _ _ _; rw [HP1.out]; exact HF.out⟩
              case measure => simp [intOf]; omega
        · have e : k = P.length := by omega
          subst e
          have HX := HF
          rw [List.take_length] at HX
          clear HF hk hlt
          rename World => wa
          generalize hO : fl Pr id P = OX at HX
          have HOX := Lib.hid hO
          have HB1 : Hid (Below N W wa) := HX.out.chg.below (by have := HSW.out; omega) (fun g i hg h => by have := HSW.out; rcases h with h | h <;> omega)
          have HY1 : Hid (FilRel wa (N + 1) [] (.slice (some ⟨N + 1, 0, none⟩) 0 0) wa) := FilRel.start (HX.out.keep HY0.out (fun g hg => by simp [Value.ownBlock] at hg; omega))
          have HSZ1 : Hid (N + 2 ≤ wa.heap.size) := by have := HX.out.chg.size; have := HSW.out; show _ ≤ _; omega
          clear hO
          go_wp2_with fail
          go_loopw [19, 21] (fun v i wq => ∃ k : Nat, k ≤ Q.length ∧ i = .int .i64 k ∧ Hid (FilRel wa (N + 1) (fl Pr id (Q.take k)) v wq)) (fun _ i _ => Q.length - (intOf i).toNat)
          case atStart => exact ⟨0, Nat.zero_le _, rfl, HY1.out⟩
          case round =>
            obtain ⟨k, hk, rfl, HF⟩ := hrel
            have HB2 : Hid (Below (N + 1) wa wr) := HF.out.chg.below (by have := HSZ1.out; omega) (fun g i hg h => by have := HSZ1.out; rcases h with h | h <;> omega)
            by_cases hlt : k < Q.length
            · have hlen : (fl Pr id (Q.take k)).length ≤ 300 := Nat.le_trans (fl_length _ _ _) (by rw [List.length_take]; omega)
              have hsz : N + 2 ≤ wr.heap.size := Nat.le_trans HSZ1.out HF.out.chg.size
              obtain ⟨b, o, rfl, hc⟩ := HQA.out _ k (HB1.out.trans (HB2.out.mono (by omega))) hlt
              have HY := Lib.hid (fl_yes (P := Pr) (g := id) (zs := Q) hlt)
              have HN := Lib.hid (fl_no (P := Pr) (g := id) (zs := Q) hlt)
              have hPx : Pr (Q.getD k 0) = (decide (((Q.getD k 0 : Nat) : Int) < A) || decide (B < ((Q.getD k 0 : Nat) : Int))) := by rw [HPR.out]
              have HPX := Lib.hid hPx
              clear hPx
              generalize Q.getD k 0 = x at hc HY HN HPX
              generalize hO : fl Pr id (Q.take k) = O at HF HY HN hlen
              clear hO
              by_cases hx1 : (x : Int) < A
              · have HP1 : Hid (fl Pr id (Q.take (k + 1)) = O ++ [x]) := HY.out (by rw [HPX.out]; simp [hx1])
                (try clear HY HN HPX)
                go_wp2_with (at_builtin; refine wpList_append_own_at _ rfl _ _ 57 rfl (N + 1) 3 j0 (.int .i64 0) 1 8 Tryd.underlying57 JI.out JZ0.out JZ1.out JZ2.out rfl (by decide) _ _ _ rfl (HF.out.own.alloc _) ⟨wr.heap.size, 0, none⟩ 1 1 [.int .i64 (x : Int)] rfl rfl (cell_one_new _ _ _) (by simp [Value.oneCell']) (by unfold maxLen; omega) (by omega) (by simp; have := hsz; omega) ?_; intro v' w4 hown4 hgr4 _ hat4; have HF4 := Lib.hid (HF.out.push hown4 hgr4 hat4); clear hown4 hgr4 hat4)
                go_roundw
                case rel => exact ⟨k + 1, by omega, by go_num, by show FilRel _ _ _ _ _; rw [HP1.out]; exact HF4.out⟩
                case measure => simp [intOf]; omega
              · by_cases hx2 : B < (x : Int)
                · have HP1 : Hid (fl Pr id (Q.take (k + 1)) = O ++ [x]) := HY.out (by rw [HPX.out]; simp [hx2])
                  (try clear HY HN HPX)
                  go_wp2_with (at_builtin; refine wpList_append_own_at _ rfl _ _ 57 rfl (N + 1) 3 j0 (.int .i64 0) 1 8 Tryd.underlying57 JI.out JZ0.out JZ1.out JZ2.out rfl (by decide) _ _ _ rfl (HF.out.own.alloc _) ⟨wr.heap.size, 0, none⟩ 1 1 [.int .i64 (x : Int)] rfl rfl (cell_one_new _ _ _) (by simp [Value.oneCell']) (by unfold maxLen; omega) (by omega) (by simp; have := hsz; omega) ?_; intro v' w4 hown4 hgr4 _ hat4; have HF4 := Lib.hid (HF.out.push hown4 hgr4 hat4); clear hown4 hgr4 hat4)
                  go_roundw
                  case rel => exact ⟨k + 1, by omega, by go_num, by show FilRel _ _ _ _ _; rw [HP1.out]; exact HF4.out⟩
                  case measure => simp [intOf]; omega
                · have HP1 : Hid (fl Pr id (Q.take (k + 1)) = O) := HN.out (by rw [HPX.out]; simp; omega)
                  clear HY HN HPX
                  go_wp2_with fail
                  go_roundw
                  case rel => exact ⟨k + 1, by omega, by go_num, by show FilRel _ _ _ _ _; rw [HP1.out]; exact HF.out⟩
                  case measure => simp [intOf]; omega
            · have e : k = Q.length := by omega
              subst e
              have HYY := HF
              rw [List.take_length] at HYY
              clear HF hk hlt
              have HEQ : Hid (fl Pr id Q = OX) := by
                have hd : bs.length - (f + bs'.length) = bs.length - t := by rw [HTT.out]
                have h := local_law HK.out bs bs' f (by have := HTT.out; omega) Pr (fun p hp => by
                  rw [HPR.out, Bool.or_eq_true, decide_eq_true_eq, decide_eq_true_eq] at hp
                  have := HA.out; have := HBB.out; have := HTT.out; have := HK.out.win1; have := HK.out.mn
                  rcases hp with h | h
                  · exact .inl (by omega)
                  · exact .inr (by omega)) bs.length (Nat.le_refl _)
                rw [HTT.out, HOS.out, HP.out, ← HOL.out, HQ.out] at h
                rw [← HOX.out]
                exact h.symm
              rw [HEQ.out] at HYY
              have hxl : OX.length ≤ 300 := by rw [← HOX.out]; exact Nat.le_trans (fl_length _ _ _) hpl
              have I10 : Hid (Inv w wr (c.mn : Int) (c.mx : Int) (c.win : Int) (c.bits : Int) c.seed) := ⟨I9.out.b.trans ((HB1.out.trans (HB2.out.mono (by omega))).mono (by have := HSZ8.out; omega)), I9.out.x.later (HB1.out.trans (HB2.out.mono (by omega))) HSZ8.out, Nat.lt_of_lt_of_le (Nat.lt_trans HSZ8.out (by omega)) (Nat.le_trans HSZ1.out HYY.out.chg.size)⟩
              obtain ⟨_, ax, capx, rfl, _, _, hix, _⟩ := ints_of_own (HYY.out.keep HX.out.own (fun g hg => by have h9 := HSW.out; rcases HX.out.blk g hg with h | h <;> omega))
              obtain ⟨_, ay, capy, rfl, _, _, hiy, _⟩ := ints_of_own HYY.out.own
              have HIX := Lib.hid hix
              have HIY := Lib.hid hiy
              clear hix hiy
              go_wp2_with fail
              refine (awake16 _ (I10.out.tab HT.out)).mono ?_
              rintro e wA ⟨rfl, hbA⟩
              have IA := Lib.hid (I10.out.step hbA)
              have HIXA := Lib.hid (HIX.out.later hbA)
              have HIYA := Lib.hid (HIY.out.later hbA)
              clear hbA
              go_wp2_with fail
              refine (ints_any ax ay capx capy OX OX (by omega) (by omega) wA HIXA.out HIYA.out).mono ?_
              rintro e wB ⟨rfl, hbB⟩
              have IB := Lib.hid (IA.out.step hbB)
              rw [decide_eq_true rfl]
              clear hbB
              go_wp2_with fail
              go_ret
              exact ⟨rfl, IB.out.b⟩
    · clear hv2
      have HALL := Lib.hid hall
      clear hall
      by_cases h3 : bs.length ≤ 300 ∧ bs'.length ≤ 300
      · rw [decide_eq_true h3]
        by_cases h0 : bs'.length = 0
        · have hh0 : ((bs'.length : Int) == 0) = true := by rw [beq_iff_eq]; omega
          go_wp2_with fail
          refine (awake16 w2 (I2.out.tab HT.out)).mono ?_
          rintro e w3 ⟨rfl, hb3⟩
          have I3 := Lib.hid (I2.out.step hb3)
          clear hb3
          go_wp2_with fail
          go_ret
          exact ⟨rfl, I3.out.b⟩
        · have hh0 : ((bs'.length : Int) == 0) = false := by rw [beq_eq_false_iff_ne]; omega
          by_cases h1 : n < 0
          · have hh1 : decide (n < 0) = true := decide_eq_true h1
            go_wp2_with fail
            refine (awake16 w2 (I2.out.tab HT.out)).mono ?_
            rintro e w3 ⟨rfl, hb3⟩
            have I3 := Lib.hid (I2.out.step hb3)
            clear hb3
            go_wp2_with fail
            go_ret
            exact ⟨rfl, I3.out.b⟩
          · have hh1 : decide (n < 0) = false := decide_eq_false h1
            have h2 : (bs.length : Int) - (bs'.length : Int) < n := by
              have h9 := HALL.out
              have h8 : ¬ n ≤ (bs.length : Int) - (bs'.length : Int) := fun h => h9 ⟨h3, h0, by omega, h⟩
              omega
            have hh2 : decide ((bs.length : Int) - (bs'.length : Int) < n) = true := decide_eq_true h2
            go_wp2_with fail
            refine (awake16 w2 (I2.out.tab HT.out)).mono ?_
            rintro e w3 ⟨rfl, hb3⟩
            have I3 := Lib.hid (I2.out.step hb3)
            clear hb3
            go_wp2_with fail
            go_ret
            exact ⟨rfl, I3.out.b⟩
      · rw [decide_eq_false h3]
        go_wp2_with fail
        refine (awake16 w2 (I2.out.tab HT.out)).mono ?_
        rintro e w3 ⟨rfl, hb3⟩
        have I3 := Lib.hid (I2.out.step hb3)
        clear hb3
        go_wp2_with fail
        go_ret
        exact ⟨rfl, I3.out.b⟩
end Go.Proofs.YtfnhcjcahcacnaaDoor

/- The law ChunkerBounds: the walk. -/
import Derived.Test.YtfnhcjcahcacnaaDoorBnd
import Derived.Test.YtfnhcjcahcacnaaDoorLawsN
namespace Go.Proofs.YtfnhcjcahcacnaaDoor
set_option linter.unusedVariables false
set_option linter.unusedSimpArgs false
open Go.RowKit
open Roll (u)
open Kit (Chg)
open Chk

/-- What the loop of Bounds has done behind k chunks. -/
def BndRel (w4 : World) (c : Cut) (bs C : List Nat) (k : Nat) (v at' : Value) (wr : World) : Prop :=
  ∃ p : Nat, p = (0 :: C).getD k 0 ∧ at' = .int .i64 (((primTo c bs p).length : Nat) : Int) ∧ wr.ownsRow w4.heap.size 5 1 v p (bvals (bs.take p)) ∧ Below w4.heap.size w4 wr

set_option maxRecDepth 100000 in
set_option maxHeartbeats 4000000 in
theorem walk_ChunkerBounds (mn mx win bits : Int) (s : BitVec 64) (a : Option Addr) (cap : Nat) (bs : List Nat) (w : World) (hB : BytesAt w a bs) (hcap : bs.length ≤ cap) (hnil : a = none → cap = 0) (hl : bs.length ≤ 140737488351232) (hT : TabAt 0 Lib.deBruijn64tab w) :
    Calls Tryd.prog 19 #[.agg #[.int .i64 mn, .int .i64 mx, .int .i64 win, .int .i64 bits, .int .u64 (u s)], .slice a bs.length cap] w fun e w' => e = .returned (.bool true) ∧ Below w.heap.size w w' := by
  have HT := Lib.hid hT
  have HBY := Lib.hid hB
  have HCAP := Lib.hid hcap
  have HNIL := Lib.hid hnil
  clear hT hB hcap hnil
  go_enter Tryd.func19, Tryd.ntmps19
  go_wp2_with fail
  refine (refValid_any mn mx win bits s _).mono ?_
  rintro e w1 ⟨rfl, hb⟩
  have I1 := Lib.hid ((Inv.new w mn mx win bits s).step hb)
  clear hb
  cases hv : validB mn mx win bits with
  | false =>
    clear hv
    go_wp2_with fail
    refine (awake16 w1 (I1.out.tab HT.out)).mono ?_
    rintro e w3 ⟨rfl, hb3⟩
    have I3 := Lib.hid (I1.out.step hb3)
    clear hb3
    go_wp2_with fail
    go_ret
    exact ⟨rfl, I3.out.b⟩
  | true =>
    have hv2 := hv
    clear hv
    go_wp2_with fail
    refine (few1_any w1 a bs.length cap).mono ?_
    rintro e w2 ⟨rfl, he2⟩
    have I2 : Hid (Inv w w2 mn mx win bits s) := by rw [← he2]; exact I1.out.alloc _
    clear he2 I1
    by_cases h3 : bs.length ≤ 300
    · rw [decide_eq_true h3]
      obtain ⟨c, hk, rfl, rfl, rfl, rfl, rfl⟩ := cut_of_valid s hv2
      have HK := Lib.hid hk
      clear hk hv2
      obtain ⟨c0, c1, c2, c3, c4⟩ := I2.out.x
      obtain ⟨C, hC, hcl⟩ : ∃ C, cuts c bs = C ∧ C.length ≤ 300 := ⟨_, rfl, by have := cuts_length c bs; omega⟩
      obtain ⟨L, hL, hkl⟩ : ∃ L, chunks c bs = L ∧ L.length = C.length := ⟨_, rfl, by rw [chunks_length, hC]⟩
      obtain ⟨P, hP, hpl⟩ : ∃ P, primTo c bs bs.length = P ∧ P.length ≤ 300 := ⟨_, rfl, by have := primTo_len c bs; omega⟩
      have HST : Hid (Steps c bs C) := by rw [← hC]; exact cuts_steps c bs (by have := HK.out.mx; have := HK.out.mn; have := HK.out.win1; omega)
      have HEND : Hid ((0 :: C).getD C.length 0 = bs.length) := by rw [← hC]; exact cuts_end c bs
      have HPC : Hid (∀ i, i < C.length → L.getD i [] = (bs.take (C.getD i 0)).drop ((0 :: C).getD i 0)) := fun i hi => by rw [← hL, chunks_pieces, hC]; exact pieces_getD bs C 0 i hi
      have HME : Hid (∀ i, i < C.length → C.getD i 0 ≤ bs.length) := fun i hi => by
        have h := cuts_mem c bs (C.getD i 0) (by rw [hC, List.getD_eq_getElem?_getD, List.getElem?_eq_getElem hi]; exact List.getElem_mem hi)
        exact h.2
      have HL := Lib.hid hL
      have HP := Lib.hid hP
      have HKL := Lib.hid hkl
      clear hC hL hP hkl
      go_wp2_with fail
      refine (split_z c HK.out a cap bs L HL.out (by omega) HCAP.out w2 (HBY.out.later I2.out.b) (I2.out.tab HT.out)).mono ?_
      rintro e w3 ⟨a3, cap3, rfl, hl3, _, hb3, _⟩
      have I3 := Lib.hid (I2.out.step hb3)
      have HL3 := Lib.hid hl3
      clear hb3 hl3 c0 c1 c2 c3 c4
      obtain ⟨c0, c1, c2, c3, c4⟩ := I3.out.x
      go_wp2_with fail
      refine (primary_k c HK.out a cap bs P bs.length rfl (by omega) HP.out w3 (HBY.out.later I3.out.b) (I3.out.tab HT.out)).mono ?_
      rintro e w4 ⟨a4, cap4, rfl, hi4, hb4, _, _⟩
      have I4 := Lib.hid (I3.out.step hb4)
      have HI4 := Lib.hid hi4
      have HL4 := Lib.hid (HL3.out.later hb4)
      clear hb4 hi4 c0 c1 c2 c3 c4 HL3
      obtain ⟨i0, hi, hz0, hz1, hz2⟩ := info_parts Tryd.info5
      have FI := Lib.hid hi
      have FZ0 := Lib.hid hz0
      have FZ1 := Lib.hid hz1
      have FZ2 := Lib.hid hz2
      clear hi hz0 hz1 hz2
      go_wp2_with fail
      have HW5 : Hid (BndRel w4 c bs C 0 (.slice (some ⟨w4.heap.size, 0, none⟩) 0 0) (.int .i64 0) (w4.alloc (.cells #[] 5))) := ⟨0, rfl, rfl, by rw [List.take_zero]; exact World.ownsRow_made (base := w4.heap.size) (e := 5) (size := 1) w4 #[] 0 (Nat.le_refl _) (Nat.zero_le _) rfl, (Below.refl _ _).alloc (Nat.le_refl _) _⟩
      go_loopw [9, 10, 11] (fun v at' i wr => ∃ k : Nat, k ≤ C.length ∧ i = .int .i64 k ∧ BndRel w4 c bs C k v at' wr) (fun _ _ i _ => C.length - (intOf i).toNat)
      case atStart => exact ⟨0, Nat.zero_le _, rfl, HW5.out⟩
      case round =>
        obtain ⟨k, hk, rfl, p, hp, rfl, hown, hbe⟩ := hrel
        have HO := Lib.hid hown
        have HBE := Lib.hid hbe
        have I5 := Lib.hid (I4.out.step hbe)
        have hsz := hbe.size
        by_cases hlt : k < C.length
        · have hltL : k < L.length := by have := HKL.out; omega
          have hstep := HST.out k hlt
          rw [← hp] at hstep
          have HPK := HPC.out k hlt
          rw [← hp] at HPK
          have hq1 := HME.out k hlt
          have HQ1 : Hid (C.getD k 0 = (0 :: C).getD (k + 1) 0) := List.getD_cons_succ.symm
          obtain ⟨b, o, rfl, hcell⟩ := HL4.out.some (by have := HKL.out; omega)
          obtain ⟨ai, ci, hck, hbi, hci⟩ := hcell k (by have := HKL.out; omega)
          have hck' : wr.cell? ⟨b, o + k, none⟩ = some (.slice ai (L.getD k []).length ci) := (hbe.cell (p := ⟨b, o + k, none⟩) (World.block_lt_of_cell? w4 _ hck)).trans hck
          have HBI := Lib.hid (hbi.later hbe)
          clear hown hbe hck hbi hcell
          generalize C.getD k 0 = q at hstep HPK hq1 HQ1
          rw [HPK] at hck' HBI
          have hml : ((bs.take q).drop p).length = q - p := by rw [List.length_drop, List.length_take]; omega
          have hlt2 := hstep.lt
          have hmx2 := hstep.mx
          obtain ⟨m, hm⟩ : ∃ m, q - p = m := ⟨_, rfl⟩
          rw [hml, hm] at hck'
          have hm1 : 1 ≤ m := by omega
          have hmm : m ≤ c.mx := by omega
          have hmi : ¬ (m : Int) < 1 := by omega
          have hmi2 : ¬ (c.mx : Int) < (m : Int) := by omega
          have HMQ : Hid (p + m = q) := by show _ = _; omega
          have HTS : Hid (bs.take p ++ (bs.take q).drop p = bs.take q) := take_step bs p q (by omega)
          have HSTEP := Lib.hid hstep
          have HSRC : Hid (∀ z, SrcAt (wr.drewN z) ai m ci 1 (bvals ((bs.take q).drop p))) := fun z => by
            have h := (HBI.out.later (below_drewN (Below.refl _ _) z)).src ci (fun h => by
              obtain ⟨_, _, e, _⟩ := HBI.out.some (by rw [hml, hm]; exact hm1)
              rw [h] at e; cases e)
            rw [hml, hm] at h
            exact h
          obtain ⟨A, hA⟩ : ∃ A, (primTo c bs p).length = A := ⟨_, rfl⟩
          rw [hA]
          have HA := Lib.hid hA
          have hAle : A ≤ 300 := by rw [← hA]; have := primTo_length c bs p; omega
          obtain ⟨c0, c1, c2, c3, c4⟩ := I5.out.x
          clear hm hml hstep HPK hA hp
          go_wp2_with fail
          go_quiet (fail)
          go_upto_region 15 with (first
            | (at_builtin
               refine wpList_append_src rfl (.tmp 63) (.tmp 67) 28 rfl w4.heap.size 5 i0 (.int .u8 0) 1 1 Tryd.underlying28 FI.out FZ0.out FZ1.out FZ2.out rfl (by decide) _ p (bvals (bs.take p)) rfl (ownsRow_keep HO.out ((Chg.refl (fun _ _ => False) wr).drewN _) (fun _ _ _ h => h)) ai m ci (bvals ((bs.take q).drop p)) rfl (HSRC.out _) (bvals_one _) (by have := HMQ.out; unfold maxLen; omega) (by have := HMQ.out; omega) (by exact hsz) ?_
               intro v7 w7 hown7 hgr7
               have HB7 : Hid (Below w4.heap.size w4 w7) := (HBE.out.trans (below_drewN (Below.refl _ _) _)).trans ((Chg.of_grown (M := fun g _ => w4.heap.size ≤ g) hgr7 (fun g _ e => (HO.out.lt g e).1)).below hsz (fun k i hk h => by omega))
               have HO7 : Hid (w7.ownsRow w4.heap.size 5 1 v7 q (bvals (bs.take q))) := by have h := hown7; rw [HMQ.out, ← bvals_append, HTS.out] at h; exact h
               clear hown7 hgr7
               obtain ⟨y, hy⟩ : ∃ y, q = y + 1 := ⟨q - 1, by omega⟩
               obtain ⟨g7, cp7, hv7⟩ := ownsRow_succ (by have h := HO7.out; rw [hy] at h; exact h)
               rw [← hy] at hv7
               subst hv7
               clear hy
               have hpc : ∀ j, j < P.length → ∃ b' o', a4 = some ⟨b', o', none⟩ ∧ w7.cell? ⟨b', o' + j, none⟩ = some (.int .i64 ((P.getD j 0 : Nat) : Int)) := fun j hj => by
                 obtain ⟨b', o', e, hc⟩ := HI4.out.some (by omega)
                 exact ⟨b', o', e, (HB7.out.cell (p := ⟨b', o' + j, none⟩) (World.block_lt_of_cell? w4 _ (hc j hj))).trans (hc j hj)⟩
               have HPC7 := Lib.hid hpc
               have I7 := Lib.hid (I4.out.step HB7.out)
               clear hpc hck' c0 c1 c2 c3 c4))
          cases hpr : prim c bs q with
          | true =>
            obtain ⟨s1, s2, s3, s4⟩ := step_yes HSTEP.out hq1 hpr HA.out
            rw [HP.out] at s1 s2 s4
            have HNX : Hid ((primTo c bs q).length = A + 1) := s3
            clear hpr s3
            obtain ⟨b', o', rfl, hc⟩ := HPC7.out A s1
            rw [s2] at hc
            obtain ⟨c0, c1, c2, c3, c4⟩ := I7.out.x
            have hqq : ((q : Int) == (q : Int)) = true := by simp
            by_cases hA0 : A = 0
            · subst hA0
              rw [Nat.add_zero] at hc
              rw [show (((0 : Nat)) : Int) = 0 from rfl]
              clear s2 s4
              go_wp2_with fail
              go_quiet (fail)
              go_wp2
              go_roundw
              case rel => exact ⟨k + 1, by omega, by go_num, q, HQ1.out, by rw [HNX.out] <;> go_num, HO7.out, by first | exact HB7.out | exact HB7.out.trans (below_drewN (Below.refl _ _) _)⟩
              case measure => simp [intOf]; omega
            · obtain ⟨A', rfl⟩ : ∃ A', A = A' + 1 := ⟨A - 1, by omega⟩
              have s5 := s4 (by omega)
              rw [Nat.add_sub_cancel] at s5
              obtain ⟨b2, o2, e2, hc2⟩ := HPC7.out A' (by omega)
              cases e2
              generalize P.getD A' 0 = r at s5 hc2
              have hai : ((A' + 1 : Nat) : Int) - 1 = (A' : Int) := by omega
              have hri : ¬ (q : Int) - (r : Int) < (c.mn : Int) := by omega
              have hrb : decide ((q : Int) - (r : Int) < (c.mn : Int)) = false := decide_eq_false hri
              clear s2 s4
              go_wp2_with fail
              go_quiet (fail)
              go_wp2
              go_roundw
              case rel => exact ⟨k + 1, by omega, by go_num, q, HQ1.out, by rw [HNX.out] <;> go_num, HO7.out, by first | exact HB7.out | exact HB7.out.trans (below_drewN (Below.refl _ _) _)⟩
              case measure => simp [intOf]; omega
          | false =>
            obtain ⟨s1, s2⟩ := step_no HSTEP.out hq1 hpr HA.out
            rw [HP.out] at s2
            have HNX : Hid ((primTo c bs q).length = A) := s1
            clear hpr s1
            by_cases hAP : A < P.length
            · have s3 := s2 hAP
              obtain ⟨b', o', rfl, hc⟩ := HPC7.out A hAP
              generalize P.getD A 0 = r at s3 hc
              have hrq : ((r : Int) == (q : Int)) = false := by rw [beq_eq_false_iff_ne]; omega
              have hrl : ¬ (r : Int) < (q : Int) := by omega
              clear s2
              go_wp2_with fail
              go_roundw
              case rel => exact ⟨k + 1, by omega, by go_num, q, HQ1.out, by rw [HNX.out] <;> go_num, HO7.out, by first | exact HB7.out | exact HB7.out.trans (below_drewN (Below.refl _ _) _)⟩
              case measure => simp [intOf]; omega
            · clear s2
              go_wp2_with fail
              go_roundw
              case rel => exact ⟨k + 1, by omega, by go_num, q, HQ1.out, by rw [HNX.out] <;> go_num, HO7.out, by first | exact HB7.out | exact HB7.out.trans (below_drewN (Below.refl _ _) _)⟩
              case measure => simp [intOf]; omega
        · have e : k = C.length := by omega
          subst e
          have hltL : ¬ C.length < L.length := by have := HKL.out; omega
          have hpb : p = bs.length := hp.trans HEND.out
          subst hpb
          have hpp : (primTo c bs bs.length).length = P.length := by rw [HP.out]
          rw [hpp]
          have h8 := HO.out
          rw [List.take_length] at h8
          obtain ⟨_, a8, cap8, rfl, _, _, hb8, _⟩ := bytes_of_own h8 HBY.out.2.1 HBY.out.2.2
          have HB8 := Lib.hid hb8
          clear hown hbe h8 hb8 hpp hp
          go_wp2_with fail
          refine (awake16 _ (I5.out.tab HT.out)).mono ?_
          rintro e wA ⟨rfl, hbA⟩
          have IA := Lib.hid (I5.out.step hbA)
          have cv1 := conv_bytes (HB8.out.later hbA) cap8
          have cv2 := conv_bytes (HBY.out.later IA.out.b) cap
          have hsb := strB_eq HBY.out.2.1 HBY.out.2.1
          rw [decide_eq_true rfl] at hsb
          clear hbA
          go_wp2_with fail
          go_ret
          exact ⟨rfl, IA.out.b⟩
    · rw [decide_eq_false h3]
      go_wp2_with fail
      refine (awake16 w2 (I2.out.tab HT.out)).mono ?_
      rintro e w3 ⟨rfl, hb3⟩
      have I3 := Lib.hid (I2.out.step hb3)
      clear hb3
      go_wp2_with fail
      go_ret
      exact ⟨rfl, I3.out.b⟩
end Go.Proofs.YtfnhcjcahcacnaaDoor

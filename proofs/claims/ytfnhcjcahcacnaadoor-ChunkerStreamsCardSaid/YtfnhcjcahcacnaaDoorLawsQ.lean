/- The law ChunkerStreams: the walk. -/
import Derived.Test.YtfnhcjcahcacnaaDoorStr
namespace Go.Proofs.YtfnhcjcahcacnaaDoor
set_option linter.unusedVariables false
set_option linter.unusedSimpArgs false
open Go.RowKit
open Roll (u)
open Kit (Chg)
open Chk

/-- At the head of a round over the parts: f bytes have come. -/
def StrRel (B0 b N : Nat) (c : Cut) (bs : List Nat) (w2 : World) (np k : Nat) (got from' bytes : Value) (wr : World) : Prop :=
  ∃ f : Nat, f ≤ bs.length ∧ (k = np + 1 → f = bs.length) ∧ from' = .int .i64 f ∧ bytes = .int .i64 (startS c bs f : Nat) ∧ ∃ bv rows, Hid (StP B0 b N c bs f bv got rows wr) ∧ Hid (Below B0 w2 wr) ∧ N < wr.heap.size
/-- While the chunks of a push are collected. -/
def ColRel (N : Nat) (w7 : World) (o0 : Option Nat) (rows rows' : List (Option Addr × Nat × Nat)) (css D : List (List Nat)) (j : Nat) (got bytes : Value) (wr : World) : Prop :=
  bytes = .int .i64 (tot (css ++ D.take j) : Nat) ∧ Hid (GrowRel w7 o0 N (rows ++ rows'.take j) got wr)

set_option maxRecDepth 100000 in
set_option maxHeartbeats 4000000 in
theorem walk_ChunkerStreams (mn mx win bits : Int) (s : BitVec 64) (a : Option Addr) (cap : Nat) (bs : List Nat) (a' : Option Addr) (cap' : Nat) (ps : List Nat) (w : World) (hB : BytesAt w a bs) (hcap : bs.length ≤ cap) (hnil : a = none → cap = 0) (hl : bs.length ≤ 140737488351232)
    (hB' : BytesAt w a' ps) (hcap' : ps.length ≤ cap') (hnil' : a' = none → cap' = 0) (hl' : ps.length ≤ 140737488351232) (hT : TabAt 0 Lib.deBruijn64tab w) :
    Calls Tryd.prog 18 #[.agg #[.int .i64 mn, .int .i64 mx, .int .i64 win, .int .i64 bits, .int .u64 (u s)], .slice a bs.length cap, .slice a' ps.length cap'] w fun e w' => e = .returned (.bool true) ∧ Below w.heap.size w w' := by
  have HT := Lib.hid hT
  have HBY := Lib.hid hB
  have HCAP := Lib.hid hcap
  have HNIL := Lib.hid hnil
  have HBY' := Lib.hid hB'
  clear hT hB hcap hB' hcap' hnil hnil'
  go_enter Tryd.func18, Tryd.ntmps18
  go_wp2_with fail
  refine (refValid_any mn mx win bits s _).mono ?_
  rintro e w1 ⟨rfl, hb⟩
  have I1 := Lib.hid ((Inv.new w mn mx win bits s).step hb)
  clear hb
  cases hv : validB mn mx win bits with
  | false =>
    clear hv
    go_wp2_with fail
    refine (awake16 w1 (I1.out.tab HT.out)).mono ?_
    rintro e w3 ⟨rfl, hb3⟩
    have I3 := Lib.hid (I1.out.step hb3)
    clear hb3
    go_wp2_with fail
    go_ret
    exact ⟨rfl, I3.out.b⟩
  | true =>
    have hv2 := hv
    clear hv
    go_wp2_with fail
    refine (few1_any w1 a bs.length cap).mono ?_
    rintro e w2 ⟨rfl, he2⟩
    have I2 : Hid (Inv w w2 mn mx win bits s) := by rw [← he2]; exact I1.out.alloc _
    clear he2 I1
    by_cases hall : bs.length ≤ 300 ∧ ps.length ≤ 40
    · obtain ⟨h3, h4⟩ := hall
      rw [decide_eq_true h3]
      have hp40 : ¬ 40 < ps.length := by omega
      have hp40b : decide ((40 : Int) < (ps.length : Int)) = false := decide_eq_false (by omega)
      obtain ⟨c, hk, rfl, rfl, rfl, rfl, rfl⟩ := cut_of_valid s hv2
      have HK := Lib.hid hk
      have hmx1 : 1 ≤ c.mx := by have := hk.mx; have := hk.mn; have := hk.win1; omega
      have hmxle : c.mx ≤ 32768 := hk.most
      clear hk hv2
      obtain ⟨i0, hi, hz0, hz1, hz2⟩ := info_parts Tryd.info28
      have FI := Lib.hid hi
      have FZ0 := Lib.hid hz0
      have FZ1 := Lib.hid hz1
      have FZ2 := Lib.hid hz2
      clear hi hz0 hz1 hz2
      obtain ⟨c0, c1, c2, c3, c4⟩ := I2.out.x
      go_wp2_with fail
      refine (new_ok c HK.out w2 (by have := I2.out.lt; omega)).mono ?_
      rintro e w3 ⟨b, rfl, hb1, hb2, hA, hb3⟩
      have I3 := Lib.hid (I2.out.step hb3)
      have HA := Lib.hid hA
      have HB3 := Lib.hid hb3
      have hs3 := hb3.size
      have HPOS : Hid (w.heap.size < w2.heap.size) := I2.out.lt
      have HXB : Hid (∀ ad, a = some ad → 0 < bs.length → ad.block < w2.heap.size) := fun ad e h0 => by
        obtain ⟨b', o', e', hcell⟩ := HBY.out.some h0
        have hb9 : b' < w.heap.size := World.block_lt_of_cell? w ⟨b', o' + 0, none⟩ (hcell 0 h0)
        rw [e] at e'
        cases e'
        exact Nat.lt_trans hb9 I2.out.lt
      clear hA hb3 c0 c1 c2 c3 c4
      generalize hB0 : w2.heap.size = B0 at *
      have HSB0 := Lib.hid hB0
      clear hB0
      have HINV : Hid (∀ V, Below B0 w2 V → Inv w V (c.mn : Int) (c.mx : Int) (c.win : Int) (c.bits : Int) c.seed) := fun V hV => ⟨I2.out.b.trans (hV.mono (by have := HPOS.out; omega)), I2.out.x.later hV HPOS.out, Nat.lt_of_lt_of_le I2.out.lt hV.size⟩
      clear I3
      go_wp2_with fail
      go_loopw [9] (fun i wr => ∃ t : Nat, t ≤ 2 ∧ i = .int .i64 t ∧ Hid (∃ bv, ChrAt wr B0 b c [] bv) ∧ Hid (Below B0 w2 wr)) (fun i _ => 2 - (intOf i).toNat)
      case atStart => exact ⟨0, by omega, rfl, ⟨_, HA.out⟩, HB3.out⟩
      case round =>
        obtain ⟨t, ht, rfl, HCH, HBE⟩ := hrel
        by_cases ht2 : t < 2
        · have hszr : B0 ≤ wr.heap.size := by have := HBE.out.size; have := HSB0.out; omega
          have hti : (t : Int) < 2 := by omega
          go_wp2_with fail
          rename World => wO
          refine wp_over (fun W => StrRel B0 b wO.heap.size c bs w2 ps.length 0 (.slice (some ⟨wO.heap.size, 0, none⟩) 0 0) (.int .i64 0) (.int .i64 0) W) ?_ ?_
          · obtain ⟨bv, hch⟩ := HCH.out
            refine ⟨0, Nat.zero_le _, fun h => by omega, rfl, rfl, bv, [], ⟨?_, World.ownsRow_made (base := wO.heap.size) (e := 28) (size := 1) wO #[] 0 (Nat.le_refl _) (Nat.zero_le _) rfl, ChL.nil _, fun x hx => by cases hx⟩, HBE.out.alloc hszr _, by simp⟩
            rw [List.take_zero]
            exact chrAt_keep hch (Chg.alloc1 (M := fun _ _ => False) wO _) (fun _ h => h) (fun _ _ _ h => h)
          intro W HST
          have hNN : B0 ≤ wO.heap.size := hszr
          generalize wO.heap.size = N at HST hNN ⊢
          go_loopw [10, 11, 12, 13] (fun got fr by' i wr => ∃ k : Nat, k ≤ ps.length + 1 ∧ i = .int .i64 k ∧ StrRel B0 b N c bs w2 ps.length k got fr by' wr) (fun _ _ _ i _ => ps.length + 1 - (intOf i).toNat)
          case atStart => exact ⟨0, Nat.zero_le _, rfl, HST⟩
          case round =>
            obtain ⟨k, hk, rfl, f, hf, hfe, rfl, rfl, bv, rows, HS, HB5, hNr⟩ := hrel
            by_cases hlt : k ≤ ps.length
            · rename World => wI
              obtain ⟨got, hg0⟩ : ∃ g, g = u10 := ⟨_, rfl⟩
              subst hg0
              have hsz5 : B0 ≤ wI.heap.size := by have := HB5.out.size; have := HSB0.out; omega
              have hki : (k : Int) ≤ (ps.length : Int) := by omega
              rcases Nat.lt_or_ge k ps.length with hk1 | hk1
              focus
                obtain ⟨bq, oq, rfl, hc⟩ := (HBY'.out.later (HINV.out _ HB5.out).b).some (by omega)
                have hck := hc k hk1
                have hx := HBY'.out.getD_lt k hk1
                generalize ps.getD k 0 = x at hck hx
                obtain ⟨T, hT⟩ : ∃ T, min (f + x) bs.length = T := ⟨_, rfl⟩
                have hmin : (if (bs.length : Int) < (f : Int) + (x : Int) then (bs.length : Int) else (f : Int) + (x : Int)) = (T : Int) := by split <;> omega
                have hfT : f ≤ T := by omega
                have hTb : T ≤ bs.length := by omega
                have hTe : k + 1 = ps.length + 1 → T = bs.length := by omega
                clear hc hT
                go_upto_region 17 with fail
                clear hmin hck hx
              rotate_left
              focus
                obtain ⟨T, hTq⟩ : ∃ T, T = bs.length := ⟨_, rfl⟩
                have hfT : f ≤ T := by omega
                have hTb : T ≤ bs.length := by omega
                have hTe : k + 1 = ps.length + 1 → T = bs.length := fun _ => hTq
                have HTQ := Lib.hid hTq
                clear hTq
                go_upto_region 17 with fail
                rw [show Value.int .i64 ((bs.length : Nat) : Int) = Value.int .i64 ((T : Nat) : Int) by rw [HTQ.out]]
                clear HTQ
              rotate_left
              all_goals
                obtain ⟨m, hm⟩ : ∃ m, T - f = m := ⟨_, rfl⟩
                have HM := Lib.hid hm
                have hsl := slice_lh a bs.length cap f T hfT (by have := HCAP.out; omega)
                rw [hm] at hsl
                clear hm
                go_wp2_with fail
                refine (push_st B0 b N c HK.out bs f T bv got rows a cap m HM.out hfT hTb (by omega) HCAP.out _ HS.out hsz5 hb1 hNN (HBY.out.later (HINV.out _ HB5.out).b) HXB.out ((HINV.out _ HB5.out).tab HT.out) (by have := HPOS.out; omega)).mono ?_
                rintro e w7 ⟨v, bv', rows', D, rfl, hQ⟩
                obtain ⟨_, av, capv, rfl, _, _, _, _⟩ := lists_of_own hQ.vown hQ.vare
                have HQ := Lib.hid hQ
                have hDl := hQ.few
                have hsz7 := hQ.below.size
                clear hsl hQ
                go_wp2_with fail
                go_loopw [10, 12, 16] (fun g by' i wq => ∃ j : Nat, j ≤ D.length ∧ i = .int .i64 j ∧ ColRel N w7 got.ownBlock rows rows' (chunksS c bs f) D j g by' wq) (fun _ _ i _ => D.length - (intOf i).toNat)
                case atStart => exact ⟨0, Nat.zero_le _, rfl, by rw [List.take_zero, List.append_nil, tot_chunksS c bs f hf], by show GrowRel _ _ _ _ _ _; rw [List.take_zero, List.append_nil]; exact GrowRel.start HQ.out.own⟩
                case round =>
                  obtain ⟨j, hj, rfl, rfl, HG⟩ := hrel
                  have htot : tot (chunksS c bs f ++ D) ≤ 300 := by
                    rw [← HQ.out.eq, tot_chunksS c bs T hTb]; have := startS_le c bs T; omega
                  have htj : tot (chunksS c bs f ++ D.take j) ≤ 300 := Nat.le_trans (tot_take_le _ _ _) htot
                  by_cases hjl : j < D.length
                  · obtain ⟨gv, cpv, g, cp, hv, hck, hrj⟩ := vcell HQ.out HG.out.chg j hjl
                    simp only [Value.slice.injEq] at hv
                    obtain ⟨rfl, _, rfl⟩ := hv
                    have HEK : Hid (∀ V, Chg (fun g _ => some g = got.ownBlock ∨ w7.heap.size ≤ g) w7 V → V.cell? ⟨gv, j, none⟩ = some (.slice (some ⟨g, 0, none⟩) (D.getD j []).length cp)) := fun V hV => by
                      obtain ⟨gv2, cpv2, g2, cp2, hv2, hck2, hrj2⟩ := vcell HQ.out hV j hjl
                      simp only [Value.slice.injEq, Option.some.injEq, Addr.mk.injEq] at hv2
                      obtain ⟨⟨rfl, _⟩, _, rfl⟩ := hv2
                      rw [hrj] at hrj2
                      simp only [Option.some.injEq, Prod.mk.injEq, Addr.mk.injEq] at hrj2
                      obtain ⟨⟨rfl, _⟩, _, rfl⟩ := hrj2
                      exact hck2
                    have HRS := Lib.hid (rows_succ (rows := rows) hrj)
                    have HTS := Lib.hid (tot_take_succ (chunksS c bs f) D j hjl)
                    have hts2 : tot (chunksS c bs f ++ D.take (j + 1)) ≤ 300 := Nat.le_trans (tot_take_le _ _ _) htot
                    have hrl : (rows ++ rows'.take j).length ≤ 700 := by
                      have e1 := HS.out.are.1
                      have e2 : (chunksS c bs f).length ≤ 300 := by have := chunksS_le c bs f; omega
                      rw [List.length_append, List.length_take]; omega
                    rw [HTS.out] at hts2
                    clear hrj
                    generalize (D.getD j []).length = ln at hck HEK HRS HTS hts2
                    generalize hO : rows ++ rows'.take j = O at HG HRS hrl
                    generalize hTT : tot (chunksS c bs f ++ D.take j) = tt at HTS htj hts2 ⊢
                    have hszr : w7.heap.size ≤ wr.heap.size := HG.out.chg.size
                    have hNw : N ≤ wr.heap.size := by omega
                    clear hO hTT
                    go_wp2_with (first
                      | (at_builtin
                         refine wpList_append_own_at _ rfl _ _ 54 rfl N 28 i0 (.slice none 0 0) 1 24 Tryd.underlying54 FI.out FZ0.out FZ1.out FZ2.out rfl (by decide) _ _ _ rfl (HG.out.own.alloc _) ⟨wr.heap.size, 0, none⟩ 1 1 [.slice (some ⟨g, 0, none⟩) ln cp] rfl rfl (cell_one_new _ _ _) (by simp [Value.oneCell']) (by unfold maxLen; omega) (by omega) (by simp; omega) ?_
                         intro v8 w8 hown8 hgr8 _ hat8
                         have HG8 := Lib.hid (HG.out.push (x := (some ⟨g, 0, none⟩, ln, cp)) hown8 hgr8 hat8)
                         have hck8 := HEK.out _ HG8.out.chg
                         clear hown8 hgr8 hat8 hck))
                    go_roundw
                    case rel => exact ⟨j + 1, by omega, by go_num, by rw [HTS.out] <;> go_num, by show GrowRel _ _ _ _ _ _; rw [HRS.out]; exact HG8.out⟩
                    case measure => simp [intOf]; omega
                  · have e : j = D.length := by omega
                    subst e
                    rename World => w9
                    have hrl := HQ.out.vare.1
                    have HG9 : Hid (GrowRel w7 got.ownBlock N (rows ++ rows') u10 w9) := by
                      have h := HG.out
                      rw [← hrl, List.take_length] at h
                      exact h
                    obtain ⟨hS9, hB9⟩ := st_of HQ.out HG9.out hNN (by omega)
                    have HS9 := Lib.hid hS9
                    have HB9 : Hid (Below B0 w2 w9) := HB5.out.trans (HQ.out.below.trans hB9)
                    have HBT : Hid (tot (chunksS c bs f ++ D.take D.length) = startS c bs T) := by
                      show _ = _; rw [List.take_length, ← HQ.out.eq, tot_chunksS c bs T hTb]
                    rw [HBT.out]
                    have hs1 := startS_le c bs T
                    have hs2 := startS_mx c bs hmx1 T
                    obtain ⟨a9, c9, rfl, hbuf⟩ := held_form HS9.out hTb
                    generalize hSe : startS c bs T = S at hs1 hs2 hbuf ⊢
                    have HSE := Lib.hid hSe
                    obtain ⟨h, hh⟩ : ∃ h, T - S = h := ⟨_, rfl⟩
                    rw [hh] at hbuf
                    have hhi : (T : Int) - (S : Int) = (h : Int) := by omega
                    have hhm : ¬ (c.mx : Int) ≤ (h : Int) := by omega
                    have hhb : decide ((c.mx : Int) ≤ (h : Int)) = false := decide_eq_false hhm
                    have hne : ((h : Int) != (h : Int)) = false := by simp
                    have hszN : N < w9.heap.size := by have := HG9.out.chg.size; omega
                    have hI9 := (HINV.out _ HB9.out).x
                    obtain ⟨c0, c1, c2, c3, c4⟩ := hI9
                    clear hS9 hB9 htot htj hh hSe HBT
                    go_wp2_with fail
                    go_quiet ((go_at_call 53; exact quiet1 (held_any _ b a9 h c9 hbuf)))
                    go_wp2_with fail
                    go_roundw
                    case rel => exact ⟨k + 1, by omega, by go_num, T, hTb, hTe, rfl, by rw [HSE.out], _, rows ++ rows', HS9.out.drewN _, HB9.out.trans (below_drewN (Below.refl _ _) _), hszN⟩
                    case measure => simp [intOf]; omega
            · rename World => w5
              obtain ⟨got, hg0⟩ : ∃ g, g = u10 := ⟨_, rfl⟩
              subst hg0
              obtain rfl := hfe (by omega)
              have hki : ¬ (k : Int) ≤ (ps.length : Int) := by omega
              have hsz5 : B0 ≤ w5.heap.size := by have := HB5.out.size; have := HSB0.out; omega
              go_wp2_with fail
              have hCA := HS.out.chr
              rw [List.take_length] at hCA
              refine (close_any B0 b c HK.out bs bv w5 hCA (by omega)).mono ?_
              rintro e w7 ⟨v, rfl, hCl⟩
              obtain ⟨ao, m, cpo, rows2, bv2, rfl, hsrc, hm, hm1, hA7, ho7, hL7, hB7⟩ := close_st HS.out hCl hsz5 hb1 (by omega)
              have HSRC := Lib.hid hsrc
              have HA7 := Lib.hid hA7
              have HO7 := Lib.hid ho7
              have HL7 := Lib.hid hL7
              have HM := Lib.hid hm
              have HB7 : Hid (Below B0 w2 w7) := HB5.out.trans hB7
              have hsz7 := hB7.size
              have hrl : rows.length ≤ 300 := by
                have e1 := HS.out.are.1
                have e2 : (chunksS c bs bs.length).length ≤ 300 := by have := chunksS_le c bs bs.length; omega
                omega
              have hNw : N ≤ w7.heap.size := by omega
              clear hCA hCl hsrc hA7 ho7 hL7 hB7 hm
              go_wp2_with (first
                | (at_builtin
                   refine wpList_append_src rfl _ _ 54 rfl N 28 i0 (.slice none 0 0) 1 24 Tryd.underlying54 FI.out FZ0.out FZ1.out FZ2.out rfl (by decide) _ _ _ rfl HO7.out ao m cpo (rows2.map slV) rfl HSRC.out (by intro u hu; simp only [List.mem_map] at hu; obtain ⟨x, _, rfl⟩ := hu; rfl) (by unfold maxLen; omega) (by omega) hNw ?_
                   intro v8 w8 hown8 hgr8
                   have hco := coll_st (xs := rows ++ rows2) HA7.out HO7.out HL7.out hgr8 (by rw [List.map_append]; exact hown8) (by omega) hNN
                   obtain ⟨hA8, ⟨a8, cap8, rfl, hl8⟩, hB8⟩ := hco
                   have HA8 := Lib.hid hA8
                   have HL8 := Lib.hid hl8
                   have HB8 : Hid (Below B0 w2 w8) := HB7.out.trans hB8
                   have hsz8 := hB8.size
                   obtain ⟨c0, c1, c2, c3, c4⟩ := (HINV.out _ HB8.out).x
                   clear hA8 hl8 hB8 hown8 hgr8))
              obtain ⟨L, hL, hkl⟩ : ∃ L, chunks c bs = L ∧ L.length ≤ 300 := ⟨_, rfl, by have := chunks_len c bs; omega⟩
              rw [hL] at HL8 ⊢
              have HL := Lib.hid hL
              clear hL
              refine (split_z c HK.out a cap bs L HL.out (by omega) HCAP.out w8 (HBY.out.later (HINV.out _ HB8.out).b) ((HINV.out _ HB8.out).tab HT.out)).mono ?_
              rintro e w9 ⟨a9, cap9, rfl, hl9, _, hb9, _⟩
              have HA9 : Hid (ChrAt w9 B0 b c [] bv2) := chrAt_keep HA8.out (Chg.of_below (M := fun _ _ => False) hb9) (fun _ h => h) (fun _ _ _ h => h)
              have HL9 := Lib.hid hl9
              have HL89 := Lib.hid (HL8.out.later hb9)
              have HB9 : Hid (Below B0 w2 w9) := HB8.out.trans (hb9.mono (by omega))
              have hsz9 := hb9.size
              clear hl9 hb9 c0 c1 c2 c3 c4
              go_wp2_with fail
              refine (same_z a8 a9 cap8 cap9 L.length L.length L L rfl rfl rfl (by omega) w9 HL89.out HL9.out).mono ?_
              rintro e wA ⟨rfl, hbA⟩
              have HAA : Hid (ChrAt wA B0 b c [] bv2) := chrAt_keep HA9.out (Chg.of_below (M := fun _ _ => False) hbA) (fun _ h => h) (fun _ _ _ h => h)
              have HBA : Hid (Below B0 w2 wA) := HB9.out.trans (hbA.mono (by omega))
              have hszA := hbA.size
              obtain ⟨aq, cq, rfl, hbuf⟩ := empty_form HAA.out
              clear hbA
              go_wp2_with fail
              refine (held_any wA b aq 0 cq hbuf).mono ?_
              rintro e wA' ⟨rfl, rfl⟩
              clear hbuf
              go_wp2_with fail
              refine (close_empty B0 b c HK.out _ wA HAA.out (by omega) hb1).mono ?_
              rintro e wB ⟨rfl, hAB, hBB⟩
              have HAB := Lib.hid hAB
              have HBB : Hid (Below B0 w2 wB) := HBA.out.trans hBB
              clear hAB hBB
              go_wp2_with fail
              go_roundw
              case rel => exact ⟨t + 1, by omega, by go_num, ⟨_, HAB.out⟩, HBB.out⟩
              case measure => simp [intOf]; omega
        · have e : t = 2 := by omega
          subst e
          go_wp2_with fail
          refine (awake16 _ ((HINV.out _ HBE.out).tab HT.out)).mono ?_
          rintro e wA ⟨rfl, hbA⟩
          have IA := Lib.hid ((HINV.out _ HBE.out).step hbA)
          clear hbA
          go_wp2_with fail
          go_ret
          exact ⟨rfl, IA.out.b⟩
    · have HALL := Lib.hid hall
      clear hall
      by_cases h3 : bs.length ≤ 300
      · rw [decide_eq_true h3]
        have h4 : ¬ ps.length ≤ 40 := fun h => HALL.out ⟨h3, h⟩
        have hp40 : 40 < ps.length := by omega
        have hp40b : decide ((40 : Int) < (ps.length : Int)) = true := decide_eq_true (by omega)
        go_wp2_with fail
        refine (awake16 w2 (I2.out.tab HT.out)).mono ?_
        rintro e w3 ⟨rfl, hb3⟩
        have I3 := Lib.hid (I2.out.step hb3)
        clear hb3
        go_wp2_with fail
        go_ret
        exact ⟨rfl, I3.out.b⟩
      · rw [decide_eq_false h3]
        go_wp2_with fail
        refine (awake16 w2 (I2.out.tab HT.out)).mono ?_
        rintro e w3 ⟨rfl, hb3⟩
        have I3 := Lib.hid (I2.out.step hb3)
        clear hb3
        go_wp2_with fail
        go_ret
        exact ⟨rfl, I3.out.b⟩
end Go.Proofs.YtfnhcjcahcacnaaDoor

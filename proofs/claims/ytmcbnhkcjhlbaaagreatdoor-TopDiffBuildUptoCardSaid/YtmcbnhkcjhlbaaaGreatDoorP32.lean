/- Texts Tcd, Tce, Tcf of the proof, each as a section; no premises beyond those that each theorem states. -/
import Derived.Test.YtmcbnhkcjhlbaaaGreatDoorP31
set_option linter.unusedVariables false
set_option linter.unusedSimpArgs false
section
namespace Go.Proofs.YtmcbnhkcjhlbaaaGreatDoor.Tp
open Go.RowKit
open Kit (Chg)
open Go.Maps
open Go.WideMaps
open Go.Proofs.YtmcbnhkcjhlbaaaGreatDoor.One

theorem row2i {w : World} {b : Nat} {a0 a1 : Value} {T : TypeId} {f : Nat × Nat} (h : w.heap[b]? = some (.cells #[a0, a1] T f)) : w.cell? ⟨b, 0, none⟩ = some a0 ∧ w.cell? ⟨b, 1, none⟩ = some a1 :=
  ⟨(cell_of_row _ _ _ _ _ _ h).trans rfl, (cell_of_row _ _ _ _ _ _ h).trans rfl⟩
set_option maxRecDepth 100000 in
set_option maxHeartbeats 2000000 in
theorem scanValid_zero (w : World) (hT : Top w) : Calls Tryz.prog 46 #[.agg #[.int .i64 0, .slice none 0 0]] w fun e w' => e = .returned (.bool true) ∧ Below w.heap.size w w' := by
  have HT := Lib.hid hT
  clear hT
  go_enter Tryz.func46, Tryz.ntmps46
  go_upto_region 1 with fail
  refine wp_over (fun V => Hid (V.heap[w.heap.size]? = some (.cells #[.int .i64 0, .slice none 0 0] 30 (0, 0))) ∧ Hid (Below w.heap.size w V) ∧ Hid (V.heap.size = w.heap.size + 1)) ⟨Lib.hid (heap_alloc_new _ _), Lib.hid ((Below.refl _ _).alloc (Nat.le_refl _) _), Lib.hid (by simp)⟩ ?_
  rintro W ⟨HR, HB, HS⟩
  obtain ⟨N, hN⟩ := ex_eq w.heap.size
  rw [hN] at HR HS ⊢
  have HN := Lib.hid hN
  clear hN
  obtain ⟨c0, c1⟩ := row2i HR.out
  have hmk : ∀ W, (Instr.makeSlice 22 (.int .i64 0) (.int .i64 0)).run Tryz.prog W = .ok (.slice (some ⟨W.heap.size, 0, none⟩) 0 0) (W.alloc (.cells #[] 54)) := fun _ => by kernel_rfl
  go_upto_region 4 with fail
  clear hmk
  refine wp_over (fun V => Hid (Below W.heap.size W V)) (Lib.hid ((Below.refl _ _).alloc (Nat.le_refl _) _)) ?_
  rintro W1 HB1
  obtain ⟨c0, c1⟩ := row2i ((HB1.out.block N (by have := HS.out; omega)).trans HR.out)
  have HBW : Hid (Below w.heap.size w W1) := Lib.hid (HB.out.trans (HB1.out.mono HB.out.size))
  obtain ⟨M, hM⟩ := ex_eq W.heap.size
  rw [hM]
  clear hM
  have HCK := Lib.hid (check_any (some ⟨M, 0, none⟩) 0 0 [] rfl (Nat.le_refl _) (by decide) W1 ⟨.inl rfl, by simp⟩ (by simp) (by simp) (HT.out.later HBW.out))
  go_upto_region 5 with fail
  go_loopw [3, 22] (fun s z wr => s = .slice (some ⟨M, 0, none⟩) 0 0 ∧ z = .int .i64 0 ∧ wr = W1) (fun _ _ _ => 0)
  case atStart => exact ⟨rfl, rfl, rfl⟩
  case round =>
    obtain ⟨rfl, rfl, rfl⟩ := hrel
    go_wp2_with (first
      | (go_at_call 20
         (with_reducible refine HCK.out.mono ?_)
         rintro e W4 ⟨r, rfl, _, hr, hb⟩
         obtain rfl := hr OkTree.nil
         have HB4 := Lib.hid hb
         clear hb hr))
    go_ret
    exact ⟨rfl, HBW.out.trans (HB4.out.mono HBW.out.size)⟩
set_option maxRecDepth 100000 in
set_option maxHeartbeats 2000000 in
theorem scanFiles_zero (w : World) : Calls Tryz.prog 47 #[.agg #[.int .i64 0, .slice none 0 0]] w fun e w' => ∃ b, e = .returned (.map (some b)) ∧ w.heap.size ≤ b ∧ MapS w' b 0 (fun _ => none) ∧ Below w.heap.size w w' := by
  have hmk := fun W n => run_makeMap_hint (P := Tryz.prog) (t := 120) Tryz.underlying120 n W
  go_enter Tryz.func47, Tryz.ntmps47
  go_upto_region 1 with fail
  refine wp_over (fun V => Hid (V.heap[w.heap.size]? = some (.cells #[.int .i64 0, .slice none 0 0] 30 (0, 0))) ∧ Hid (Below w.heap.size w V) ∧ Hid (V.heap.size = w.heap.size + 1)) ⟨Lib.hid (heap_alloc_new _ _), Lib.hid ((Below.refl _ _).alloc (Nat.le_refl _) _), Lib.hid (by simp)⟩ ?_
  rintro W ⟨HR, HB, HS⟩
  obtain ⟨N, hN⟩ := ex_eq w.heap.size
  rw [hN] at HR HS ⊢
  have HN := Lib.hid hN
  clear hN
  obtain ⟨c0, c1⟩ := row2i HR.out
  go_upto_region 2 with fail
  clear hmk
  refine wp_over (fun V => Hid (MapS V W.heap.size 0 (fun _ => none)) ∧ Hid (Below W.heap.size W V)) ⟨Lib.hid (MapS.start W), Lib.hid ((Below.refl _ _).alloc (Nat.le_refl _) _)⟩ ?_
  rintro W1 ⟨HM, HB1⟩
  obtain ⟨c0, c1⟩ := row2i ((HB1.out.block N (by have := HS.out; omega)).trans HR.out)
  have HBW : Hid (Below w.heap.size w W1) := Lib.hid (HB.out.trans (HB1.out.mono HB.out.size))
  obtain ⟨M, hM⟩ := ex_eq W.heap.size
  have HMW : Hid (w.heap.size ≤ M) := Lib.hid (by rw [← hM]; exact HB.out.size)
  rw [hM] at HM ⊢
  clear hM
  go_upto_region 3 with fail
  go_loopw [13] (fun z wr => z = .int .i64 0 ∧ wr = W1) (fun _ _ => 0)
  case atStart => exact ⟨rfl, rfl⟩
  case round =>
    obtain ⟨rfl, rfl⟩ := hrel
    go_wp2_with fail
    go_ret
    exact ⟨M, rfl, HMW.out, HM.out, HBW.out⟩
set_option maxRecDepth 100000 in
set_option maxHeartbeats 2000000 in
theorem scanContents_zero (w : World) : Calls Tryz.prog 48 #[.agg #[.int .i64 0, .slice none 0 0]] w fun e w' => ∃ b, e = .returned (.map (some b)) ∧ w.heap.size ≤ b ∧ MapS w' b 0 (sumK []) ∧ Below w.heap.size w w' := by
  have hmk := fun W => run_makeMap_none (P := Tryz.prog) (t := 49) Tryz.underlying49 W
  go_enter Tryz.func48, Tryz.ntmps48
  go_upto_region 1 with fail
  refine wp_over (fun V => Hid (V.heap[w.heap.size]? = some (.cells #[.int .i64 0, .slice none 0 0] 30 (0, 0))) ∧ Hid (Below w.heap.size w V) ∧ Hid (V.heap.size = w.heap.size + 1)) ⟨Lib.hid (heap_alloc_new _ _), Lib.hid ((Below.refl _ _).alloc (Nat.le_refl _) _), Lib.hid (by simp)⟩ ?_
  rintro W ⟨HR, HB, HS⟩
  obtain ⟨N, hN⟩ := ex_eq w.heap.size
  rw [hN] at HR HS ⊢
  have HN := Lib.hid hN
  clear hN
  go_upto_region 2 with fail
  clear hmk
  refine wp_over (fun V => Hid (MapS V W.heap.size 0 (fun _ => none)) ∧ Hid (Below W.heap.size W V)) ⟨Lib.hid (MapS.start W), Lib.hid ((Below.refl _ _).alloc (Nat.le_refl _) _)⟩ ?_
  rintro W1 ⟨HM, HB1⟩
  obtain ⟨c0, c1⟩ := row2i ((HB1.out.block N (by have := HS.out; omega)).trans HR.out)
  have HBW : Hid (Below w.heap.size w W1) := Lib.hid (HB.out.trans (HB1.out.mono HB.out.size))
  obtain ⟨M, hM⟩ := ex_eq W.heap.size
  have HMW : Hid (w.heap.size ≤ M) := Lib.hid (by rw [← hM]; exact HB.out.size)
  rw [hM] at HM ⊢
  clear hM
  go_upto_region 3 with fail
  go_loopw [12] (fun z wr => z = .int .i64 0 ∧ wr = W1) (fun _ _ => 0)
  case atStart => exact ⟨rfl, rfl⟩
  case round =>
    obtain ⟨rfl, rfl⟩ := hrel
    go_wp2_with fail
    go_ret
    exact ⟨M, rfl, HMW.out, HM.out.congr (fun p => by unfold sumK; rw [if_neg (by simp)]), HBW.out⟩
theorem kindCh : Kind Tryz.prog PV.cells 2 31 200 (.agg #[.string ByteArray.empty, .int .i64 0]) 24 := ⟨PV.len, PV.one, by decide, Tryz.underlying31, by kernel_rfl, rfl, by decide⟩
set_option maxRecDepth 100000 in
set_option maxHeartbeats 4000000 in
theorem changes_zero (at_ : Int) (a : Option Addr) (n cap : Nat) (fs : List FlV) (hn : fs.length = n) (hn2 : n ≤ 100000) (w : World) (hF : RowsAt FlV.cells 7 w a fs) : Calls Tryz.prog 50 #[.agg #[.int .i64 0, .slice none 0 0], .agg #[.int .i64 at_, .slice a n cap]] w fun e w' => ∃ (a' : Option Addr) (n' c' : Nat), e = .returned (.slice a' n' c') ∧ Below w.heap.size w w' := by
  have HN := Lib.hid hn
  have HF := Lib.hid hF
  clear hn hF
  go_enter Tryz.func50, Tryz.ntmps50
  go_upto_region 1 with fail
  refine wp_over (fun V => Hid (V.heap[w.heap.size]? = some (.cells #[.int .i64 0, .slice none 0 0] 30 (0, 0))) ∧ Hid (V.heap[w.heap.size + 1]? = some (.cells #[.int .i64 at_, .slice a n cap] 30 (0, 0))) ∧ Hid (Below w.heap.size w V) ∧ Hid (V.heap.size = w.heap.size + 2)) ⟨Lib.hid two_rows1, Lib.hid two_rows2, Lib.hid two_below, Lib.hid two_size⟩ ?_
  rintro W ⟨HR, HR2, HB, HS⟩
  obtain ⟨N, hN⟩ := ex_eq w.heap.size
  rw [hN] at HR HR2 HS ⊢
  have HNN := Lib.hid hN
  clear hN
  go_upto_region 3 with fail
  go_loopw [5, 6, 7] (fun v i j wr => ∃ (k : Nat) (cs : List PV), k ≤ n ∧ i = .int .i64 0 ∧ j = .int .i64 (k : Int) ∧ Hid (wr.ownsRow W.heap.size 200 2 v k (cs.flatMap PV.cells)) ∧ Hid (Below W.heap.size W wr)) (fun _ _ j _ => n - (intOf j).toNat)
  case atStart => exact ⟨0, [], Nat.zero_le _, rfl, rfl, Lib.hid (World.ownsRow_nil _ _ _ _), Lib.hid (Below.refl _ _)⟩
  case round =>
    obtain ⟨k, cs, hk, rfl, rfl, HRW, HBW⟩ := hrel
    obtain ⟨c0, c1⟩ := row2i ((HBW.out.block N (by have := HS.out; omega)).trans HR.out)
    obtain ⟨d0, d1⟩ := row2i ((HBW.out.block (N + 1) (by have := HS.out; omega)).trans HR2.out)
    have HBR : Hid (Below w.heap.size w wr) := Lib.hid (HB.out.trans (HBW.out.mono HB.out.size))
    by_cases hlt : k < n
    rotate_left
    · obtain ⟨ra, rc, hv, hq1, hrc, hq2, hrr, hq3, hrb⟩ := rows_of_own PV.len (by decide) HRW.out
      subst hv
      clear hq1 hrc hq2 hrr hq3 hrb
      have hke : (k : Int) = (n : Int) := by omega
      go_wp2_with fail
      go_ret
      exact ⟨ra, k, rc, rfl, HBR.out⟩
    have hkx : k < fs.length := by rw [HN.out]; exact hlt
    obtain ⟨b, o, hfa, hcell⟩ := (HF.out.later FlV.len HBR.out).one k hkx
    subst hfa
    have hc0 : wr.cell? ⟨b, o + k * 7, none⟩ = some (.string fs[k].path) := hcell 0 (by decide)
    obtain ⟨pt, hpt⟩ := ex_eq fs[k].path
    rw [hpt] at hc0
    clear hcell hpt
    have HK5 : Hid (k ≤ 5000000) := Lib.hid (by omega)
    have HBZ : Hid (W.heap.size ≤ wr.heap.size) := Lib.hid HBW.out.size
    go_wp2_with (first
      | (at_builtin
         refine app_at kindCh rfl _ _ rfl W.heap.size u5 k cs (by rfl) HRW.out HBZ.out HK5.out ⟨pt, 1⟩ _ (by rfl) 1 (by rfl) ?_
         intro v' w3 h1 h2 h3
         have H1 := Lib.hid h1
         have H2 := Lib.hid h2
         clear h1 h2 h3))
    have HCH : Hid (Below W.heap.size W w3) := Lib.hid (HBW.out.trans (((Chg.alloc1 wr _).trans (Chg.of_grown H2.out (fun q _ e => e)) : Chg (fun q _ => u5.ownBlock = some q) wr w3).below HBZ.out (fun q i hq e => by have := (HRW.out.lt q e).1; omega)))
    go_roundw
    case rel => exact ⟨k + 1, cs ++ [⟨pt, 1⟩], by omega, rfl, by go_num, Lib.hid H1.out, HCH⟩
    case measure => simp [intOf]; omega
end Go.Proofs.YtmcbnhkcjhlbaaaGreatDoor.Tp
end
section
namespace Go.Proofs.YtmcbnhkcjhlbaaaGreatDoor.Tp
open Go.RowKit
open Kit (Chg)
open Go.Maps
open Go.WideMaps
open Go.Proofs.YtmcbnhkcjhlbaaaGreatDoor.One

def RulesOk (rules : ByteArray) (Ig : ByteArray → Bool → Bool) : Prop := ∀ w, Top w → Calls Tryz.prog 26 #[.string rules] w fun e w' => ∃ (a : Option Addr) (n c : Nat), e = .returned (.tuple #[.slice a n c, .int .i64 0, .int .i64 0]) ∧ Below w.heap.size w w' ∧ ∀ V, Below w'.heap.size w' V → ∀ (s : ByteArray) (d : Bool), VP s.data.toList → Calls Tryz.prog 27 #[.slice a n c, .string s, .bool d] V fun e V' => e = .returned (.tuple #[.bool (Ig s d), .int .i64 0]) ∧ Below V.heap.size V V'
def scaC (c : Ck.Chk.Cut) (Ig : ByteArray → Bool → Bool) (e : FE) : List (List Nat) := if Ig e.path (decide (e.kind = 2)) = true then [] else filC c e
def scanC (c : Ck.Chk.Cut) (Ig : ByteArray → Bool → Bool) (es : List FE) : List (List Nat) := es.flatMap (scaC c Ig)
theorem scanC_len {es : List FE} (h : ∀ e ∈ es, e.data.length ≤ 60) (c : Ck.Chk.Cut) (Ig : ByteArray → Bool → Bool) : (scanC c Ig es).length ≤ es.length * 60 := by
  unfold scanC
  induction es with
  | nil => simp
  | cons e es ih =>
    rw [List.flatMap_cons, List.length_append, List.length_cons, Nat.succ_mul]
    have h1 := ih (fun x hx => h x (List.mem_cons_of_mem _ hx))
    have h2 : (scaC c Ig e).length ≤ 60 := by
      unfold scaC filC
      split
      · simp
      · split
        · have := chunks_few c e.data
          have := h e (by simp)
          omega
        · simp
    omega
def ScanP (c : Ck.Chk.Cut) (Ig : ByteArray → Bool → Bool) (es : List FE) (w : World) (e : Ending) (w' : World) : Prop := ∃ (at_ : Int) (fa : Option Addr) (fn fc : Nat) (ca : Option Addr) (cn cc : Nat) (na : Option Addr) (nc : Nat) (rd : Int) (nl : List BV) (B : Nat), e = .returned (.tuple #[.agg #[.int .i64 at_, .slice fa fn fc, .slice ca cn cc, .slice na nl.length nc, .int .i64 rd, .int .i64 0], .int .i64 0]) ∧ nl.map BV.d = newS [] (scanC c Ig es) ∧ w.heap.size ≤ B ∧ w'.ownsRow B 52 1 (.slice na nl.length nc) nl.length (nl.flatMap nvC) ∧ (∀ b ∈ nl, BytesAt w' b.a b.d) ∧ Below w.heap.size w w'
theorem row6r {w : World} {b : Nat} {a0 a1 a2 a3 a4 a5 : Value} {T : TypeId} {f : Nat × Nat} (h : w.heap[b]? = some (.cells #[a0, a1, a2, a3, a4, a5] T f)) : w.cell? ⟨b, 0, none⟩ = some a0 ∧ w.cell? ⟨b, 1, none⟩ = some a1 ∧ w.cell? ⟨b, 2, none⟩ = some a2 ∧ w.cell? ⟨b, 3, none⟩ = some a3 ∧ w.cell? ⟨b, 4, none⟩ = some a4 ∧ w.cell? ⟨b, 5, none⟩ = some a5 :=
  ⟨(cell_of_row _ _ _ _ _ _ h).trans rfl, (cell_of_row _ _ _ _ _ _ h).trans rfl, (cell_of_row _ _ _ _ _ _ h).trans rfl, (cell_of_row _ _ _ _ _ _ h).trans rfl, (cell_of_row _ _ _ _ _ _ h).trans rfl, (cell_of_row _ _ _ _ _ _ h).trans rfl⟩
set_option maxRecDepth 100000 in
set_option maxHeartbeats 4000000 in
theorem scan_any (rules : ByteArray) (Ig : ByteArray → Bool → Bool) (hR : RulesOk rules Ig) (at_ : Int) (hat : 0 ≤ at_) (c : Ck.Chk.Cut) (hc : c.Ok) (a : Option Addr) (n cap : Nat) (xs : List FV) (hn : xs.length = n) (hcap : n ≤ cap) (w : World) (hX : FEsAt w a xs) (hE : SmallT (xs.map FV.e)) (hT : Top w) : Calls Tryz.prog 19 #[.agg #[.int .i64 0, .slice none 0 0], .int .i64 at_, .slice a n cap, .string rules, .agg (cRow c)] w (ScanP c Ig (xs.map FV.e) w) := by
  have HRU := Lib.hid hR
  have HC := Lib.hid hc
  have HN := Lib.hid hn
  have HX := Lib.hid hX
  have HE := Lib.hid hE
  have HT := Lib.hid hT
  have hn8 : n ≤ 8 := by have := hE.few; rw [List.length_map, hn] at this; exact this
  have HVZ := Lib.hid (fun V (h : Below w.heap.size w V) => scanValid_zero V (hT.later h))
  have HVC := Lib.hid (fun V => Ck.valid_any (c.mn : Int) (c.mx : Int) (c.win : Int) (c.bits : Int) c.seed V)
  rw [Ck.valid_of hc] at HVC
  have HCK := Lib.hid (fun V (h : Below w.heap.size w V) => check_any a n cap xs hn hcap (by omega) V (hX.later h) (fun x hx => hE.ok.ok x.e (List.mem_map_of_mem hx)) hE.ok.asc (hT.later h))
  have HPA := Lib.hid (fun V (h : Below w.heap.size w V) => hR V (hT.later h))
  unfold cRow
  clear hR hc hn hX hE hT
  have hat2 : ¬ at_ < 0 := by omega
  go_enter Tryz.func19, Tryz.ntmps19
  go_upto_region 1 with fail
  refine wp_over (fun V => Hid (V.heap[w.heap.size]? = some (.cells #[.int .i64 0, .slice none 0 0] 30 (0, 0))) ∧ Hid (V.heap[w.heap.size + 1]? = some (.cells #[.int .i64 c.mn, .int .i64 c.mx, .int .i64 c.win, .int .i64 c.bits, .int .u64 (Ck.Roll.u c.seed)] 42 (0, 0))) ∧ Hid (V.heap[w.heap.size + 2]? = some (.cells #[.int .i64 0, .slice none 0 0, .slice none 0 0, .slice none 0 0, .int .i64 0, .int .i64 0] 34 (0, 0))) ∧ Hid (Below w.heap.size w V) ∧ Hid (V.heap.size = w.heap.size + 3)) ⟨Lib.hid (Ck.alloc3 _ _ _ _).1, Lib.hid (Ck.alloc3 _ _ _ _).2.1, Lib.hid (Ck.alloc3 _ _ _ _).2.2, Lib.hid three_below, Lib.hid (by simp)⟩ ?_
  rintro W ⟨HKR, HCR, HRZ, HWB, HWS⟩
  obtain ⟨b0, hb0⟩ := ex_eq w.heap.size
  rw [hb0] at HKR HCR HRZ HWS ⊢
  have HB0 := Lib.hid hb0
  clear hb0
  have HKC : Hid (∀ X, Below (b0 + 3) W X → X.cell? ⟨b0, 0, none⟩ = some (.int .i64 0) ∧ X.cell? ⟨b0, 1, none⟩ = some (.slice none 0 0)) := Lib.hid (fun X h => row2i ((h.block b0 (by omega)).trans HKR.out))
  have HCC : Hid (∀ X, Below (b0 + 3) W X → X.cell? ⟨b0 + 1, 0, none⟩ = some (.int .i64 c.mn) ∧ X.cell? ⟨b0 + 1, 1, none⟩ = some (.int .i64 c.mx) ∧ X.cell? ⟨b0 + 1, 2, none⟩ = some (.int .i64 c.win) ∧ X.cell? ⟨b0 + 1, 3, none⟩ = some (.int .i64 c.bits) ∧ X.cell? ⟨b0 + 1, 4, none⟩ = some (.int .u64 (Ck.Roll.u c.seed))) := Lib.hid (fun X h => row5 ((h.block (b0 + 1) (by omega)).trans HCR.out))
  obtain ⟨k0, k1⟩ := HKC.out W (Below.refl _ _)
  have HW1F : Hid (∀ V, Below W.heap.size W V → Below (b0 + 3) W V) := Lib.hid (fun V h => h.mono (by have := HWS.out; omega))
  go_upto_region 3 with (first
    | (go_at_call 46
       (with_reducible refine (HVZ.out _ HWB.out).mono ?_)
       rintro e W1 ⟨rfl, hb⟩
       have HB1 := Lib.hid hb
       obtain ⟨j0, j1⟩ := HKC.out W1 (HW1F.out W1 hb)
       obtain ⟨l0, l1, l2, l3, l4⟩ := HCC.out W1 (HW1F.out W1 hb)
       clear hb)
    | (go_at_call 21
       (with_reducible refine (HVC.out _).mono ?_)
       rintro e W2 ⟨rfl, hb⟩
       have HB2 := Lib.hid hb
       clear hb))
  clear k0 k1 j0 j1 l0 l1 l2 l3 l4
  have HW2 : Hid (Below (b0 + 3) W W2) := Lib.hid ((HW1F.out _ HB1.out).trans (HB2.out.mono (by have := HB1.out.size; have := HWS.out; omega)))
  have HWC2 : Hid (Below w.heap.size w W2) := Lib.hid (HWB.out.trans (HW2.out.mono (by have := HB0.out; omega)))
  go_upto_region 6 with (first
    | (go_at_call 26
       (with_reducible refine (HPA.out _ HWC2.out).mono ?_)
       rintro e W3 ⟨la, ln, lc, rfl, hb, hig⟩
       have HB3 := Lib.hid hb
       have HIG := Lib.hid hig
       clear hb hig))
  have HW3 : Hid (Below (b0 + 3) W W3) := Lib.hid (HW2.out.trans (HB3.out.mono (by have := HW2.out.size; have := HWS.out; omega)))
  have HWC3 : Hid (Below w.heap.size w W3) := Lib.hid (HWC2.out.trans (HB3.out.mono HWC2.out.size))
  go_upto_region 9 with (first
    | (go_at_call 20
       (with_reducible refine (HCK.out _ HWC3.out).mono ?_)
       rintro e W4 ⟨r, rfl, _, hr, hb⟩
       obtain rfl := hr HE.out.ok
       have HB4 := Lib.hid hb
       clear hb hr))
  have HW4 : Hid (Below (b0 + 3) W W4) := Lib.hid (HW3.out.trans (HB4.out.mono (by have := HW3.out.size; have := HWS.out; omega)))
  have HWC4 : Hid (Below w.heap.size w W4) := Lib.hid (HWC3.out.trans (HB4.out.mono HWC3.out.size))
  have HS9 : Hid (∀ X, Below (b0 + 3) W X → (X.cell? ⟨b0, 0, none⟩ = some (.int .i64 0) ∧ X.cell? ⟨b0, 1, none⟩ = some (.slice none 0 0)) ∧ (X.cell? ⟨b0 + 1, 0, none⟩ = some (.int .i64 c.mn) ∧ X.cell? ⟨b0 + 1, 1, none⟩ = some (.int .i64 c.mx) ∧ X.cell? ⟨b0 + 1, 2, none⟩ = some (.int .i64 c.win) ∧ X.cell? ⟨b0 + 1, 3, none⟩ = some (.int .i64 c.bits) ∧ X.cell? ⟨b0 + 1, 4, none⟩ = some (.int .u64 (Ck.Roll.u c.seed)))) := Lib.hid (fun X h => ⟨HKC.out X h, HCC.out X h⟩)
  have HDR : Hid (Below W4.heap.size W4 W4.drew) := Lib.hid (Below.refl _ _).drew
  obtain ⟨VD, hVD⟩ := ex_eq W4.drew
  rw [hVD] at HDR
  have HVD : Hid (Below (b0 + 3) W VD) := Lib.hid (HW4.out.trans (HDR.out.mono (by have := HW4.out.size; have := HWS.out; omega)))
  refine Kit.wp_region_hplan (fun V => (V.cell? ⟨b0, 0, none⟩ = some (.int .i64 0) ∧ V.cell? ⟨b0, 1, none⟩ = some (.slice none 0 0)) ∧ (V.cell? ⟨b0 + 1, 0, none⟩ = some (.int .i64 c.mn) ∧ V.cell? ⟨b0 + 1, 1, none⟩ = some (.int .i64 c.mx) ∧ V.cell? ⟨b0 + 1, 2, none⟩ = some (.int .i64 c.win) ∧ V.cell? ⟨b0 + 1, 3, none⟩ = some (.int .i64 c.bits) ∧ V.cell? ⟨b0 + 1, 4, none⟩ = some (.int .u64 (Ck.Roll.u c.seed)))) [(true, 0), (true, 1), (true, 2), (true, 4), (true, 6), (false, 3), (false, 5), (true, 7), (false, 8), (true, 9)] (by kernel_rfl) (by kernel_rfl) (by kernel_rfl) (by kernel_rfl) (by rw [hVD]; exact HS9.out _ HVD.out) ?_
  rw [hVD]
  clear hVD
  iterate 5 (refine Kit.hplan_head (by rfl) (by first | exact .inr ⟨by rfl, rfl⟩ | exact .inl ⟨by rfl, fun w' hS => by (dsimp only at hS); go_simp; (try with_reducible rfl)⟩) ?_; (try simp only [Act.put, List.setIfInBounds_toArray, List.set_cons_zero, List.set_cons_succ]))
  refine Kit.hplan_op (by rfl) (by rfl) fun K hK => ?_
  go_simp
  go_at_call 47
  refine (scanFiles_zero VD).mono ?_
  rintro e V5 ⟨bb, rfl, hbb, hmb, hb⟩
  have HBB := Lib.hid hbb
  have HMB := Lib.hid hmb
  have HB5 := Lib.hid hb
  have HV5 : Hid (Below (b0 + 3) W V5) := Lib.hid (HVD.out.trans (hb.mono (by have := HVD.out.size; have := HWS.out; omega)))
  clear hbb hmb hb
  refine hK _ _ (HS9.out _ HV5.out) ?_
  clear hK K
  refine Kit.hplan_op (by rfl) (by rfl) fun K hK => ?_
  go_simp
  go_at_call 48
  refine (scanContents_zero V5).mono ?_
  rintro e V6 ⟨bk, rfl, hbk, hmk, hb⟩
  have HBK := Lib.hid hbk
  have HMK := Lib.hid hmk
  have HB6 := Lib.hid hb
  have HV6 : Hid (Below (b0 + 3) W V6) := Lib.hid (HV5.out.trans (hb.mono (by have := HV5.out.size; have := HWS.out; omega)))
  clear hbk hmk hb
  refine hK _ _ (HS9.out _ HV6.out) ?_
  clear hK K
  iterate 1 (refine Kit.hplan_head (by rfl) (by first | exact .inr ⟨by rfl, rfl⟩ | exact .inl ⟨by rfl, fun w' hS => by (dsimp only at hS); go_simp; (try with_reducible rfl)⟩) ?_; (try simp only [Act.put, List.setIfInBounds_toArray, List.set_cons_zero, List.set_cons_succ]))
  refine Kit.hplan_op (by rfl) (by rfl) fun K hK => ?_
  go_simp
  have HV7 : Hid (Below (b0 + 3) W (V6.alloc (.cells (coRow 0 (.slice none 0 0) (.slice none 0 0) 0 bb bk c) 124))) := Lib.hid (HV6.out.alloc (by have := HV6.out.size; have := HWS.out; omega) _)
  refine hK _ _ (HS9.out _ HV7.out) ?_
  clear hK K
  iterate 1 (refine Kit.hplan_head (by rfl) (by first | exact .inr ⟨by rfl, rfl⟩ | exact .inl ⟨by rfl, fun w' hS => by (dsimp only at hS); go_simp; (try with_reducible rfl)⟩) ?_; (try simp only [Act.put, List.setIfInBounds_toArray, List.set_cons_zero, List.set_cons_succ]))
  refine Kit.hplan_done ?_
  (try simp only [Act.put, List.setIfInBounds_toArray, List.set_cons_zero, List.set_cons_succ])
  go_upto_region 10 with fail
  refine wp_over (fun V => Hid (V.heap[V6.heap.size]? = some (.cells (coRow 0 (.slice none 0 0) (.slice none 0 0) 0 bb bk c) 124 (0, 0))) ∧ Hid (Below V6.heap.size V6 V) ∧ Hid (V.heap.size = V6.heap.size + 1)) ⟨Lib.hid (heap_alloc_new _ _), Lib.hid ((Below.refl _ _).alloc (Nat.le_refl _) _), Lib.hid (by simp)⟩ ?_
  rintro V7 ⟨HG7, HB7, HS7⟩
  obtain ⟨g, hg⟩ := ex_eq V6.heap.size
  rw [hg] at HG7 HS7 ⊢
  have HGG := Lib.hid hg
  clear hg
  have HORD : Hid (b0 + 3 ≤ bb ∧ bb < bk ∧ bk < g ∧ V7.heap.size = g + 1 ∧ w.heap.size = b0 ∧ 7 ≤ b0) := Lib.hid (by
    have h1 := HBB.out
    have h2 := HMB.out.lt
    have h3 := HBK.out
    have h4 := HMK.out.lt
    have h5 := HGG.out
    have h6 := HVD.out.size
    have h7 := HWS.out
    have h8 := HS7.out
    have h9 := HB0.out
    have h10 := HT.out.size
    omega)
  have HM7 : Hid (MapS V7 bb 0 (fun _ => none) ∧ MapS V7 bk 0 (sumK [])) := Lib.hid ⟨(HMB.out.later HB6.out).later HB7.out, HMK.out.later HB7.out⟩
  have q0 := (rowCo HG7.out).1
  have qf : V7.frozen? ⟨g, 0, none⟩ = false := frozen_of_row _ _ _ _ _ HG7.out
  go_upto_region 11 with fail
  clear q0 qf
  refine wp_over (fun V => Hid (V.heap[g]? = some (.cells (coRow at_ (.slice none 0 0) (.slice none 0 0) 0 bb bk c) 124 (0, 0))) ∧ Hid (Chg (fun q _ => q = g) V7 V)) ⟨Lib.hid (heap_setCell_same V7 g 0 _ _ _ HG7.out), Lib.hid (Chg.setCell1 _ _ _ _ rfl)⟩ ?_
  rintro V8 ⟨HG8, HC8⟩
  have HV7' : Hid (Below (b0 + 3) W V7) := Lib.hid (HV6.out.trans (HB7.out.mono (by have := HORD.out; have := HGG.out; omega)))
  have HV8 : Hid (Below (b0 + 3) W V8) := Lib.hid (HV7'.out.trans (HC8.out.below (by have := HORD.out; omega) (fun q i hq e => by have e2 : q = g := e; have := HORD.out; omega)))
  have HZ8 : Hid (g + 1 ≤ V8.heap.size) := Lib.hid (by have := HC8.out.size; have := HORD.out; omega)
  have HSC0 : Hid (Sc V8 g bb bk V8.heap.size 0 at_ (.slice none 0 0) (.slice none 0 0) ((0 : Nat) : Int) c [] []) := Lib.hid ⟨HG8.out, HM7.out.1.keep (HC8.out.other bb (by have := HORD.out; omega) (fun i e => by have e2 : bb = g := e; have := HORD.out; omega)), HM7.out.2.keep (HC8.out.other bk (by have := HORD.out; omega) (fun i e => by have e2 : bk = g := e; have := HORD.out; omega)), World.ownsRow_nil _ _ _ _, World.ownsRow_nil _ _ _ _, by simp, by simp, (fun q e => by cases e), by have := HORD.out; have := HZ8.out; omega, by have := HORD.out; omega⟩
  have HVC8 : Hid (Below w.heap.size w V8) := Lib.hid (HWB.out.trans (HV8.out.mono (by have := HORD.out; omega)))
  have HW38 : Hid (Below W3.heap.size W3 V8) := Lib.hid (by
    have h4 := HB4.out
    have h5 := HDR.out
    have h6 := HB5.out
    have h7 := HB6.out
    have h8 := HB7.out
    have h9 := HORD.out
    have h10 := HGG.out
    have h11 := h4.size
    have h12 := h5.size
    have h13 := h6.size
    have h14 := h7.size
    exact ((((h4.trans (h5.mono h11)).trans (h6.mono (by omega))).trans (h7.mono (by omega))).trans (h8.mono (by omega))).trans (HC8.out.below (by omega) (fun q i hq e => by have e2 : q = g := e; omega)))
  go_upto_region 12 with fail
  go_loopw [70] (fun z wr => ∃ (k rd : Nat) (fv nv : Value) (fs : List FlV) (nl : List BV), k ≤ n ∧ z = .int .i64 (k : Int) ∧ Hid (rd ≤ k ∧ fs.length ≤ k) ∧ Hid (nl.map BV.d = newS [] (scanC c Ig ((xs.take k).map FV.e))) ∧ Hid (Sc wr g bb bk V8.heap.size (scanC c Ig ((xs.take k).map FV.e)).length at_ fv nv (rd : Int) c fs nl) ∧ Hid (Chg (fun q _ => q = g ∨ q = bk ∨ V8.heap.size ≤ q) V8 wr)) (fun z _ => n - (intOf z).toNat)
  case atStart => exact ⟨0, 0, _, _, [], [], Nat.zero_le _, rfl, Lib.hid ⟨Nat.le_refl _, Nat.le_refl _⟩, Lib.hid (by rw [List.take_zero]; rfl), Lib.hid (by rw [List.take_zero]; exact HSC0.out), Lib.hid (Chg.refl _ _)⟩
  case round =>
    obtain ⟨k, rd, fv, nv, fs, nl, hk, rfl, HRD, HND, HSC, HCH⟩ := hrel
    have HBI : Hid (Below bb V8 wr) := Lib.hid (HCH.out.below (by have := HORD.out; have := HZ8.out; omega) (fun q i hq e => by have := HORD.out; have := HZ8.out; omega))
    have HBR : Hid (Below w.heap.size w wr) := Lib.hid (HVC8.out.trans (HBI.out.mono (by have := HORD.out; omega)))
    have HBW3 : Hid (Below (b0 + 3) W wr) := Lib.hid (HV8.out.trans (HBI.out.mono (by have := HORD.out; omega)))
    have HXR : Hid (FEsAt wr a xs) := Lib.hid (HX.out.low' HVC8.out HBI.out HORD.out.2.2.2.2.1 HORD.out.1)
    have HTR : Hid (Top wr) := Lib.hid (HT.out.later HBR.out)
    have HZW : Hid (V8.heap.size ≤ wr.heap.size) := Lib.hid HCH.out.size
    have HNL : Hid (nl.length ≤ 480 ∧ (scanC c Ig ((xs.take k).map FV.e)).length ≤ 480) := Lib.hid (by
      have h1 := congrArg List.length HND.out
      have h2 := newS_len (scanC c Ig ((xs.take k).map FV.e)) []
      have h3 := scanC_len (es := (xs.take k).map FV.e) (fun e he => by
        obtain ⟨x, hx, rfl⟩ := List.mem_map.1 he
        exact HE.out.data _ (List.mem_map_of_mem (List.mem_of_mem_take hx))) c Ig
      rw [List.length_map] at h1 h3
      rw [List.length_take] at h3
      rw [List.length_nil] at h2
      omega)
    by_cases hlt : k < n
    rotate_left
    · have HXT : Hid (xs.take k = xs) := Lib.hid (List.take_of_length_le (by have := HN.out; omega))
      rw [HXT.out] at HND HSC
      obtain ⟨fa, fc, hfv, hq1, hfc, hq2, hfr, hq3, hfb⟩ := rows_of_own FlV.len (by decide) HSC.out.files
      obtain ⟨na, nc, hnv, hq4, hnc, hq5, hnr, hq6, hnb⟩ := rows_of_own (f := nvC) (n := 1) (fun _ => rfl) (by decide) HSC.out.news
      subst hfv hnv
      have HFR := Lib.hid hfr
      obtain ⟨fn, hfn⟩ := ex_eq fs.length
      rw [hfn] at HSC
      have HFN := Lib.hid hfn
      obtain ⟨nn, hnn⟩ := ex_eq nl.length
      rw [hnn] at HSC
      have HNN := Lib.hid hnn
      clear hq1 hfc hq2 hfr hq3 hfb hq4 hnc hq5 hnr hq6 hnb hfn hnn
      go_upto_region 22 with fail
      have HGR : Hid (∀ X, Below wr.heap.size wr X → X.heap[g]? = some (.cells (coRow at_ (.slice fa fn fc) (.slice na nn nc) (rd : Int) bb bk c) 124 (0, 0))) := Lib.hid (fun X h => (h.block g (by have := HORD.out; have := HZ8.out; have := HZW.out; omega)).trans HSC.out.row)
      have HS22 : Hid (∀ X, Below wr.heap.size wr X → (X.cell? ⟨b0, 0, none⟩ = some (.int .i64 0) ∧ X.cell? ⟨b0, 1, none⟩ = some (.slice none 0 0)) ∧ (X.cell? ⟨g, 0, none⟩ = some (.int .i64 at_) ∧ X.cell? ⟨g, 1, none⟩ = some (.slice fa fn fc))) := Lib.hid (fun X h => ⟨HKC.out X (HBW3.out.trans (h.mono (by have := HBW3.out.size; have := HWS.out; omega))), (rowCo (HGR.out X h)).1, (rowCo (HGR.out X h)).2.1⟩)
      have HDW : Hid (Below wr.heap.size wr wr.drew) := Lib.hid (Below.refl _ _).drew
      obtain ⟨VE, hVE⟩ := ex_eq wr.drew
      rw [hVE] at HDW
      refine Kit.wp_region_lplan (fun V => (V.cell? ⟨b0, 0, none⟩ = some (.int .i64 0) ∧ V.cell? ⟨b0, 1, none⟩ = some (.slice none 0 0)) ∧ (V.cell? ⟨g, 0, none⟩ = some (.int .i64 at_) ∧ V.cell? ⟨g, 1, none⟩ = some (.slice fa fn fc))) 11 [(true, 0), (true, 1), (true, 2), (true, 3), (true, 4), (true, 5), (true, 6), (false, 7), (false, 8), (false, 9), (true, 10), (false, 11)] (by kernel_rfl) (by kernel_rfl) (by kernel_rfl) (by kernel_rfl) (by rw [hVE]; exact HS22.out _ HDW.out) ?_
      rw [hVE]
      clear hVE
      iterate 7 (refine Kit.lplan_head (by rfl) (by first | exact .inr ⟨by rfl, rfl⟩ | exact .inl ⟨by rfl, fun w' hS => by (dsimp only at hS); go_simp; (try with_reducible rfl)⟩) ?_; (try simp only [Act.put, List.setIfInBounds_toArray, List.set_cons_zero, List.set_cons_succ]))
      refine Kit.lplan_op (by rfl) (by rfl) (fun K' hK' => ?_) (by decide)
      go_simp
      go_at_call 50
      refine (changes_zero at_ fa fn fc fs HFN.out (by have := HRD.out; have := HFN.out; omega) VE (HFR.out.later FlV.len HDW.out)).mono ?_
      rintro e VF ⟨ca, cn, cc, rfl, hb⟩
      have HVF : Hid (Below wr.heap.size wr VF) := Lib.hid (HDW.out.trans (hb.mono HDW.out.size))
      clear hb
      refine hK' _ _ (HS22.out _ HVF.out) ?_
      clear hK' K'
      iterate 2 (
        refine Kit.lplan_op (by rfl) (by rfl) (fun K' hK' => ?_) (by decide)
        go_simp
        refine hK' _ _ (HS22.out _ HVF.out) ?_
        clear hK' K')
      iterate 1 (refine Kit.lplan_head (by rfl) (by first | exact .inr ⟨by rfl, rfl⟩ | exact .inl ⟨by rfl, fun w' hS => by (dsimp only at hS); go_simp; (try with_reducible rfl)⟩) ?_; (try simp only [Act.put, List.setIfInBounds_toArray, List.set_cons_zero, List.set_cons_succ]))
      have HGF := Lib.hid (HGR.out VF HVF.out)
      have hf2 : VF.frozen? ⟨g, 2, none⟩ = false := frozen_of_row _ _ _ _ _ HGF.out
      have hc2 := (rowCo HGF.out).2.2.1
      refine Kit.lplan_last (by rfl) (by rfl) fun K' hK' => ?_
      go_simp
      refine hK' _ _ ?_
      clear hK' K' hf2 hc2
      refine Kit.lplan_done ?_
      (try simp only [Act.put, List.setIfInBounds_toArray, List.set_cons_zero, List.set_cons_succ])
      go_upto_region 23 with fail
      refine wp_over (fun V => Hid (V.heap[g]? = some (.cells #[.int .i64 at_, .slice fa fn fc, .slice ca cn cc, .slice na nn nc, .int .i64 (rd : Int), .int .i64 0, .int .i64 0, .map (some bb), .map (some bk), .int .i64 c.mn, .int .i64 c.mx, .int .i64 c.win, .int .i64 c.bits, .int .u64 (Ck.Roll.u c.seed)] 124 (0, 0))) ∧ Hid (Chg (fun q _ => q = g) VF V)) ⟨Lib.hid (heap_setCell_same VF g 2 _ _ _ HGF.out), Lib.hid (Chg.setCell1 _ _ _ _ rfl)⟩ ?_
      rintro VG ⟨HGG2, HCG⟩
      have r0 : VG.cell? ⟨g, 0, none⟩ = some (.int .i64 at_) := (cell_of_row _ _ _ _ _ _ HGG2.out).trans rfl
      have r1 : VG.cell? ⟨g, 1, none⟩ = some (.slice fa fn fc) := (cell_of_row _ _ _ _ _ _ HGG2.out).trans rfl
      have r2 : VG.cell? ⟨g, 2, none⟩ = some (.slice ca cn cc) := (cell_of_row _ _ _ _ _ _ HGG2.out).trans rfl
      have r3 : VG.cell? ⟨g, 3, none⟩ = some (.slice na nn nc) := (cell_of_row _ _ _ _ _ _ HGG2.out).trans rfl
      have r4 : VG.cell? ⟨g, 4, none⟩ = some (.int .i64 (rd : Int)) := (cell_of_row _ _ _ _ _ _ HGG2.out).trans rfl
      have r5 : VG.cell? ⟨g, 5, none⟩ = some (.int .i64 0) := (cell_of_row _ _ _ _ _ _ HGG2.out).trans rfl
      have HRR : Hid (VG.heap[b0 + 2]? = some (.cells #[.int .i64 0, .slice none 0 0, .slice none 0 0, .slice none 0 0, .int .i64 0, .int .i64 0] 34 (0, 0))) := Lib.hid ((HCG.out.other (b0 + 2) (by have := HVF.out.size; have := HORD.out; have := HZ8.out; have := HZW.out; omega) (fun i e => by have e2 : b0 + 2 = g := e; have := HORD.out; omega)).trans ((HVF.out.block (b0 + 2) (by have := HORD.out; have := HZ8.out; have := HZW.out; omega)).trans ((HBW3.out.block (b0 + 2) (by omega)).trans HRZ.out)))
      obtain ⟨z0, z1, z2, z3, z4, z5⟩ := row6r HRR.out
      have zf : ∀ i, VG.frozen? ⟨b0 + 2, i, none⟩ = false := fun i => frozen_of_row _ _ _ _ _ HRR.out
      (try go_wp2_with fail)
      have HRF := Lib.hid (putL_full (cur := [.int .i64 0, .slice none 0 0, .slice none 0 0, .slice none 0 0, .int .i64 0, .int .i64 0]) (vs := [.int .i64 at_, .slice fa fn fc, .slice ca cn cc, .slice na nn nc, .int .i64 (rd : Int), .int .i64 0]) HRR.out rfl)
      refine bodyPost_ret (results_cell_row_tmp (p := 10) (u := 11) rfl _ _ (b0 + 2) 34 #[.int .i64 at_, .slice fa fn fc, .slice ca cn cc, .slice na nn nc, .int .i64 (rd : Int), .int .i64 0] (0, 0) _ (by rfl) HRF.out Tryz.underlying34 rfl (by kernel_rfl)) rfl ?_
      obtain ⟨Z, hZ⟩ := ex_eq (putL (b0 + 2) 0 [.int .i64 at_, .slice fa fn fc, .slice ca cn cc, .slice na nn nc, .int .i64 (rd : Int), .int .i64 0] VG)
      have hcZ : Chg (fun q _ => q = g ∨ q = b0 + 2) VF Z := by
        rw [← hZ]
        exact (HCG.out.mono (fun q i _ e => Or.inl e)).trans (putL_chg (fun i => Or.inr rfl) _ _ _ (Chg.refl _ _))
      have hSF := HSC.out.later HVF.out
      show ScanP c Ig (xs.map FV.e) w _ (putL (b0 + 2) 0 [.int .i64 at_, .slice fa fn fc, .slice ca cn cc, .slice na nn nc, .int .i64 (rd : Int), .int .i64 0] VG)
      rw [hZ]
      refine ⟨at_, fa, fn, fc, ca, cn, cc, na, nc, (rd : Int), nl, V8.heap.size, by rw [HNN.out]; rfl, HND.out, HVC8.out.size, ?_, fun b hb => ?_, ?_⟩
      · have h1 := ownsRow_keepM hSF.news hcZ (fun q hq i e => by
          have h2 := (hSF.news.lt q hq).1
          have := HORD.out
          have := HZ8.out
          rcases e with e | e <;> omega)
        rw [HNN.out] at h1 ⊢
        exact h1
      · refine bytesAt_chg (hSF.dat b hb) hcZ (fun ad e i e2 => ?_)
        have h2 := (hSF.off b hb ad e).1
        have := HORD.out
        have := HZ8.out
        rcases e2 with e2 | e2 <;> omega
      · have h1 : Below w.heap.size w VF := HBR.out.trans (HVF.out.mono HBR.out.size)
        exact h1.trans (hcZ.below h1.size (fun q i hq e => by
          have := HORD.out
          rcases e with e | e <;> omega))
    have hkx : k < xs.length := by rw [HN.out]; exact hlt
    obtain ⟨b, o, hia, s0, s1, s2, s3, s4, s5⟩ := HXR.out.six k hkx
    obtain ⟨x, hx⟩ : ∃ x, xs[k] = x := ⟨_, rfl⟩
    rw [hx] at s0 s1 s2 s3 s4 s5
    have HEM : Hid (x.e ∈ xs.map FV.e) := Lib.hid (List.mem_map_of_mem (by rw [← hx]; exact List.getElem_mem hkx))
    have HEO : Hid x.e.ok := Lib.hid (HE.out.ok.ok _ HEM.out)
    have HED : Hid (x.e.data.length ≤ 60) := Lib.hid (HE.out.data _ HEM.out)
    have HXO : Hid (x.ok wr) := Lib.hid (by rw [← hx]; exact HXR.out.2 _ (List.getElem_mem hkx))
    have HTK : Hid ((xs.take (k + 1)).map FV.e = (xs.take k).map FV.e ++ [x.e]) := Lib.hid (by rw [List.take_succ_eq_append_getElem hkx, hx, List.map_append]; rfl)
    subst hia
    clear hx hkx
    obtain ⟨⟨path, kind, mode, time, data, link⟩, da, dc⟩ := x
    dsimp only at s0 s1 s2 s3 s4 s5
    go_upto_region 14 with fail
    clear s0 s1 s2 s3 s4 s5
    refine wp_over (fun V => Hid (V.heap[wr.heap.size]? = some (.cells (FV.row (⟨⟨path, kind, mode, time, data, link⟩, da, dc⟩ : FV)) 54 (0, 0))) ∧ Hid (Below wr.heap.size wr V) ∧ Hid (V.heap.size = wr.heap.size + 1)) ⟨Lib.hid (heap_alloc_new _ _), Lib.hid ((Below.refl _ _).alloc (Nat.le_refl _) _), Lib.hid (by simp)⟩ ?_
    rintro V ⟨HGE, HVB, HVS⟩
    obtain ⟨N, hN⟩ := ex_eq wr.heap.size
    rw [hN] at HGE HVS ⊢
    have HNN := Lib.hid hN
    clear hN
    have HW3V : Hid (Below W3.heap.size W3 V) := Lib.hid (by
      have h1 := HB4.out.size
      have h2 := HDR.out.size
      have h3 := HBB.out
      have h4 := HBI.out.size
      exact (HW38.out.trans (HBI.out.mono (by omega))).trans (HVB.out.mono (by have := HW38.out.size; have := HZW.out; omega)))
    have HIGN := Lib.hid (HIG.out V HW3V.out path (decide (kind = 2)) HEO.out.vp)
    obtain ⟨ig, hig⟩ := ex_eq (Ig path (decide (kind = 2)))
    rw [hig] at HIGN
    have HIGE := Lib.hid hig
    clear hig
    obtain ⟨t0, t1, t2, t3, t4, t5⟩ := row6 HGE.out
    dsimp only at t0 t1 t2 t3 t4 t5
    go_upto_region 17 with (first
      | (go_at_call 27
         (refine HIGN.out.mono ?_)
         rintro e V2 ⟨rfl, hb⟩
         have HV2 := Lib.hid hb
         clear hb))
    clear t0 t1 t2 t3 t4 t5
    have HWV2 : Hid (Below wr.heap.size wr V2) := Lib.hid (HVB.out.trans (HV2.out.mono (by have := HVS.out; have := HNN.out; omega)))
    have HS2 := Lib.hid (HSC.out.later HWV2.out)
    cases ig with
    | true =>
      have HSA : Hid (scaC c Ig (⟨path, kind, mode, time, data, link⟩ : FE) = []) := Lib.hid (by unfold scaC; rw [if_pos HIGE.out])
      have HTE : Hid (scanC c Ig ((xs.take (k + 1)).map FV.e) = scanC c Ig ((xs.take k).map FV.e)) := Lib.hid (by
        rw [HTK.out]
        unfold scanC
        rw [List.flatMap_append, List.flatMap_singleton, HSA.out, List.append_nil])
      go_wp2_with fail
      go_roundw
      case rel =>
        refine ⟨k + 1, rd, fv, nv, fs, nl, by omega, by go_num, Lib.hid (by have := HRD.out; omega), Lib.hid ?_, Lib.hid ?_, Lib.hid (HCH.out.trans (Chg.of_below HWV2.out))⟩
        · rw [HTE.out]; exact HND.out
        · rw [HTE.out]; exact HS2.out
      case measure => simp [intOf]; omega
    | false =>
      have HSA : Hid (scaC c Ig (⟨path, kind, mode, time, data, link⟩ : FE) = filC c ⟨path, kind, mode, time, data, link⟩) := Lib.hid (by unfold scaC; rw [if_neg (by rw [HIGE.out]; decide)])
      have HTE : Hid (scanC c Ig ((xs.take (k + 1)).map FV.e) = scanC c Ig ((xs.take k).map FV.e) ++ filC c ⟨path, kind, mode, time, data, link⟩) := Lib.hid (by
        rw [HTK.out]
        unfold scanC
        rw [List.flatMap_append, List.flatMap_singleton, HSA.out])
      have HTV2 := Lib.hid (HTR.out.later HWV2.out)
      have HXV2 := Lib.hid (HXO.out.later HWV2.out)
      have HLZ : Hid (7 ≤ g ∧ 7 ≤ bk) := Lib.hid (by have := HORD.out; omega)
      have HDD : Hid (data.length ≤ 60) := HED
      have HADD := Lib.hid (addF_any g bb bk V8.heap.size (scanC c Ig ((xs.take k).map FV.e)).length at_ fv nv rd (by have := HRD.out; omega) c HC.out fs nl (⟨⟨path, kind, mode, time, data, link⟩, da, dc⟩ : FV) HEO.out (by have := HDD.out; dsimp only; omega) (by have := HRD.out; omega) (by have := HNL.out; have := HDD.out; dsimp only; omega) (by have := HNL.out; have := HDD.out; dsimp only; omega) V2 HXV2.out HS2.out HLZ.out HTV2.out)
      unfold FV.row at HADD
      dsimp only at HADD
      obtain ⟨t0, t1, t2, t3, t4, t5⟩ := row6 ((HV2.out.block N (by have := HVS.out; omega)).trans HGE.out)
      dsimp only at t0 t1 t2 t3 t4 t5
      go_wp2_with (first
        | (go_at_call 49
           (with_reducible refine HADD.out.mono ?_)
           rintro e V3 ⟨fv', nv', fs', nl', rd', rfl, h1, h2, h3, h4, h5⟩
           have HA1 := Lib.hid (And.intro h1 (And.intro h2 h3))
           have HS3 := Lib.hid h4
           have HC3 := Lib.hid h5
           clear h1 h2 h3 h4 h5 t0 t1 t2 t3 t4 t5))
      go_roundw
      case rel =>
        refine ⟨k + 1, rd', fv', nv', fs', nl', by omega, by go_num, Lib.hid (by have := HRD.out; have := HA1.out.1; have := HA1.out.2.2; omega), Lib.hid ?_, Lib.hid ?_, Lib.hid ((HCH.out.trans (Chg.of_below HWV2.out)).trans HC3.out)⟩
        · rw [HTE.out, newS_app, ← HND.out]; exact HA1.out.2.1
        · rw [HTE.out, List.length_append]; exact HS3.out
      case measure => simp [intOf]; omega
end Go.Proofs.YtmcbnhkcjhlbaaaGreatDoor.Tp
end
section
namespace Go.Proofs.YtmcbnhkcjhlbaaaGreatDoor.Tp
open Go.RowKit
open Kit (Chg)
open Go.Proofs.YtmcbnhkcjhlbaaaGreatDoor.One

set_option maxRecDepth 100000 in
set_option maxHeartbeats 2000000 in
theorem parse_nil (w : World) (hT : Top w) : Calls Tryz.prog 26 #[.string ⟨#[]⟩] w fun e w' => e = .returned (.tuple #[.slice none 0 0, .int .i64 0, .int .i64 0]) ∧ Below w.heap.size w w' := by
  obtain ⟨m, hm⟩ := hT.mx
  have HSP : Hid (Calls Tryz.prog 58 #[.string ⟨#[]⟩, .string ⟨#[10]⟩] w fun e w' => e = .returned (.slice (some ⟨w.heap.size, 0, none⟩) 1 1) ∧ w' = w.alloc (.cells #[.string ⟨#[]⟩] 9)) := Lib.hid (strings_Split ⟨#[]⟩ ⟨#[10]⟩ m w (by decide) hm (by decide))
  clear hm hT
  go_enter Tryz.func26, Tryz.ntmps26
  go_upto_region 5 with (first
    | (go_at_call 58
       (with_reducible refine HSP.out.mono ?_)
       rintro e W ⟨rfl, hW⟩
       have HW := Lib.hid hW
       clear hW))
  have HR : Hid (W.heap[w.heap.size]? = some (.cells #[.string ⟨#[]⟩] 9 (0, 0))) := Lib.hid (by rw [HW.out]; exact heap_alloc_new _ _)
  have HB : Hid (Below w.heap.size w W) := Lib.hid (by rw [HW.out]; exact (Below.refl _ _).alloc (Nat.le_refl _) _)
  obtain ⟨N, hN⟩ := ex_eq w.heap.size
  rw [hN] at HR ⊢
  have HN := Lib.hid hN
  clear hN
  go_loopw [5, 16] (fun v z wr => v = .slice none 0 0 ∧ (z = .int .i64 0 ∨ z = .int .i64 1) ∧ wr = W) (fun _ z _ => 1 - (intOf z).toNat)
  case atStart => exact ⟨rfl, .inl rfl, rfl⟩
  case round =>
    obtain ⟨rfl, hz, rfl⟩ := hrel
    rcases hz with rfl | rfl
    · have hc0 : wr.cell? ⟨N, 0, none⟩ = some (.string ⟨#[]⟩) := (cell_of_row _ _ _ _ _ _ HR.out).trans rfl
      go_wp2_with fail
      go_roundw
      case rel => exact ⟨rfl, .inr rfl, trivial⟩
      case measure => simp [intOf]
    · go_wp2_with fail
      go_ret3
      exact ⟨rfl, HB.out⟩
set_option maxRecDepth 100000 in
set_option maxHeartbeats 2000000 in
theorem ignored_nil (s : ByteArray) (d : Bool) (hv : VP s.data.toList) (w : World) (hT : Top w) : Calls Tryz.prog 27 #[.slice none 0 0, .string s, .bool d] w fun e w' => e = .returned (.tuple #[.bool false, .int .i64 0]) ∧ Below w.heap.size w w' := by
  have HSP := Lib.hid (split_ok s hv w hT)
  have hlev := hv.lev
  have hmk : ∀ W, (Instr.makeSlice 141 (.int .i64 0) (.int .i64 0)).run Tryz.prog W = .ok (.slice (some ⟨W.heap.size, 0, none⟩) 0 0) (W.alloc (.cells #[] 142)) := fun _ => by kernel_rfl
  have HLEV := Lib.hid hlev
  clear hv hT hlev
  go_enter Tryz.func27, Tryz.ntmps27
  go_upto_region 5 with (first
    | (go_at_call 61
       (with_reducible refine HSP.out.mono ?_)
       rintro e W ⟨a, n, rfl, ss, hn, hst, hcut, hb⟩
       have HB := Lib.hid hb
       have hn16 : n ≤ 16 := by have := congrArg List.length hcut; rw [List.length_map, hn] at this; have := HLEV.out; omega
       clear hn hst hcut hb))
  clear hmk
  refine wp_over (fun V => Hid (Below w.heap.size w V)) (Lib.hid (HB.out.alloc HB.out.size _)) ?_
  rintro W1 HB1
  obtain ⟨M, hM⟩ := ex_eq W.heap.size
  rw [hM]
  clear hM
  go_upto_region 6 with fail
  go_loopw [37] (fun z wr => z = .int .i64 0 ∧ wr = W1) (fun _ _ => 0)
  case atStart => exact ⟨rfl, rfl⟩
  case round =>
    obtain ⟨rfl, rfl⟩ := hrel
    go_upto_region 15 with fail
    go_loopw [14, 15] (fun v z w1 => ∃ k : Nat, 1 ≤ k ∧ k ≤ n + 1 ∧ v = .bool false ∧ z = .int .i64 (k : Int) ∧ w1 = wr) (fun _ z _ => n + 1 - (intOf z).toNat)
    case atStart => exact ⟨1, Nat.le_refl _, by omega, rfl, rfl, rfl⟩
    case round =>
      obtain ⟨k, hk1, hk2, rfl, rfl, rfl⟩ := hrel
      by_cases hlt : k ≤ n
      rotate_left
      · go_wp2_with fail
        go_ret2
        exact ⟨rfl, HB1.out⟩
      have hki : (k : Int) ≤ (n : Int) := by omega
      by_cases hlt2 : k < n
      · have hkj : (k : Int) < (n : Int) := by omega
        cases d <;> (
          go_upto_region 19 with fail
          go_loopw [14, 72] (fun v z w2 => v = .bool false ∧ z = .int .i64 0 ∧ w2 = wr) (fun _ _ _ => 0)
          case atStart => exact ⟨rfl, rfl, rfl⟩
          case round =>
            obtain ⟨rfl, rfl, rfl⟩ := hrel
            go_wp2_with fail
            go_roundw
            case rel => exact ⟨k + 1, by omega, by omega, rfl, by go_num, trivial⟩
            case measure => simp [intOf]; omega)
      · have hkj : ¬ (k : Int) < (n : Int) := by omega
        cases d <;> (
          go_upto_region 19 with fail
          go_loopw [14, 72] (fun v z w2 => v = .bool false ∧ z = .int .i64 0 ∧ w2 = wr) (fun _ _ _ => 0)
          case atStart => exact ⟨rfl, rfl, rfl⟩
          case round =>
            obtain ⟨rfl, rfl, rfl⟩ := hrel
            go_wp2_with fail
            go_roundw
            case rel => exact ⟨k + 1, by omega, by omega, rfl, by go_num, trivial⟩
            case measure => simp [intOf]; omega)
theorem rules_nil : RulesOk ⟨#[]⟩ (fun _ _ => false) := fun w hT => (parse_nil w hT).mono (fun e w' h => ⟨none, 0, 0, h.1, h.2, fun V hV s d hs => ignored_nil s d hs V ((hT.later h.2).later hV)⟩)
end Go.Proofs.YtmcbnhkcjhlbaaaGreatDoor.Tp
end

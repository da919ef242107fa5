/- Texts Tds of the proof, each as a section; no premises beyond those that each theorem states. -/
import Derived.Test.YtmcbnhkcjhlbaaaGreatDoorP12
import Derived.Test.YtmcbnhkcjhlbaaaGreatDoorP20
set_option linter.unusedVariables false
set_option linter.unusedSimpArgs false
namespace Go.Proofs.YtmcbnhkcjhlbaaaGreatDoor.Tp
open Go.RowKit
open Kit (Chg)
open Go.Maps
open Go.WideMaps
open Go.Proofs.YtmcbnhkcjhlbaaaGreatDoor.One

theorem joinC {P : Program} {id : Nat} {ops : Array Oper} {Q : Exit → Act → World → Prop} {a : Act} {w : World} (act : Nat → Option Addr → Nat → Act) (F : Nat → Option Addr → Nat → World → Prop)
    (main : (∀ A b c V, F A b c V → Q .normal (act A b c) V) → (Code.region id ops true).wp P Q a w)
    (rest : ∀ A b c V, F A b c V → Q .normal (act A b c) V) : (Code.region id ops true).wp P Q a w := main rest
theorem entM_getD (m : Bs → Option FV) (p : Bs) : (entM m p).getD fvZero.val = ((m p).getD fvZero).val := by
  unfold entM
  cases m p <;> rfl
theorem entM_isSome (m : Bs → Option FV) (p : Bs) : (entM m p).isSome = (m p).isSome := by
  unfold entM
  cases m p <;> rfl
theorem kept_find {xs : List FV} (ha : (xs.map FV.e).Pairwise (fun a b => cmpP a.p b.p < 0)) {e : FE} : keptB (xs.map FV.e) e = true ↔ ∃ y, findF xs e.p = some y ∧ y.e.kind = e.kind := by
  rw [keptB_iff]
  constructor
  · rintro ⟨o, ho, h1, h2⟩
    cases hf : findF xs e.p with
    | none =>
      obtain ⟨x, hx, rfl⟩ := List.mem_map.1 ho
      exact absurd h1 (findF_none hf x hx)
    | some y =>
      obtain ⟨h3, h4⟩ := findF_some hf
      have : y.e = o := asc_inj ha (List.mem_map.2 ⟨y, h3, rfl⟩) ho (h4.trans h1.symm)
      exact ⟨y, rfl, by rw [this, h2]⟩
  · rintro ⟨y, h1, h2⟩
    obtain ⟨h3, h4⟩ := findF_some h1
    exact ⟨y.e, List.mem_map.2 ⟨y, h3, rfl⟩, h4, h2⟩
theorem slice1 (b o k cap : Nat) (W : World) : (Instr.slice 130 (.slice (some ⟨b, o, none⟩) (k + 1) cap) (some (.int .i64 1)) none none).run Tryz.prog W = .ok (.slice (some ⟨b, if cap = 1 then o else o + 1, none⟩) k (cap - 1)) W := by
  have e1 : Tryz.prog.elem 130 = 9 := by kernel_rfl
  have e2 : (Go.sizeOf 9).run Tryz.prog W = .ok 1 W := by kernel_rfl
  rw [run_slice_l W 130 _ _ _ (by rw [e1]; exact Tryz.underlying130) .i64 _ (by omega) (by omega), e1, e2]
  simp only [Result.andThen, sliced]
  by_cases h : cap = 1
  · subst h
    simp
  · rw [if_neg h]
    simp [Addr.add, h]
theorem goneV_minus (g : Bs → Bool) (t p : Bs) : goneV (fun p => if p = t then false else g p) p = if p = t then none else goneV g p := by
  unfold goneV
  by_cases h : p = t <;> simp [h]
theorem CRow.but {w w' : World} {base A : Nat} {v : Value} {L : List CV} (h : CRow w base v L) (hc : Chg (fun q _ => q = A) w w') (h1 : v.ownBlock ≠ some A) (h2 : ∀ c ∈ L, c.x.e.data ≠ [] → ∀ ad, c.x.a = some ad → ad.block ≠ A) : CRow w' base v L :=
  ⟨ownsRow_keepM h.own hc (fun q e i e2 => by cases e2; exact h1 e), fun c hcm => (h.ok c hcm).ok_chg hc (fun hd ad e i => h2 c hcm hd ad e), h.off⟩
theorem row9_set {w : World} {A : Nat} {c : CV} {T : TypeId} (h : w.heap[A]? = some (.cells c.row T (0, 0))) (s : ByteArray) : ((w.setCell ⟨A, 0, none⟩ (.int .i64 2)).setCell ⟨A, 2, none⟩ (.string s)).heap[A]? = some (.cells (CV.row ⟨2, c.path, s, c.x⟩) T (0, 0)) :=
  heap_setCell_same _ A 2 _ _ _ (heap_setCell_same w A 0 _ _ _ h)
set_option maxRecDepth 100000 in
set_option maxHeartbeats 4000000 in
theorem diff_rest2 (os bs2 : List FE) (xa xb : List FV) (b : Option Addr) (nb cb : Nat) (w V : World) (bf bg bs B1 B2 na : Nat) (g : Bs → Bool) (S : Int × ByteArray → Option Value) (Src : Int × ByteArray → List ByteArray)
    (hnb : xb.length = nb) (hcb : nb ≤ cb) (hnb2 : nb ≤ 4096) (hos : os = xa.map FV.e) (hbs : bs2 = xb.map FV.e) (hol : os.length ≤ 4096) (hXA : ∀ x ∈ xa, x.ok w) (hXB : FEsAt w b xb) (hoka : ∀ e ∈ os, e.ok) (hokb : ∀ x ∈ xb, x.e.ok) (haa : os.Pairwise (fun a b => cmpP a.p b.p < 0)) (hab : bs2.Pairwise (fun a b => cmpP a.p b.p < 0))
    (hF : MapS V bf na (entM (findF xa))) (hG : MapS V bg na (goneV g)) (hS : MapC V bs na S) (hR : SrcR V B1 B2 S Src) (hSM : SrcM os g Src) (hM : Mid os bs2 0 [] g) (hB2 : B2 ≤ V.heap.size) (hbel : Below w.heap.size w V)
    (hne : bf ≠ bg ∧ bf ≠ bs ∧ bg ≠ bs) (hlt0 : bf < B2 ∧ bg < B2 ∧ bs < B2 ∧ w.heap.size ≤ B2) (hlt1 : bf < B1 ∧ bg < B1 ∧ bs < B1) (hwb : w.heap.size ≤ bf ∧ w.heap.size ≤ bg ∧ w.heap.size ≤ bs) (hna : na ≤ 4096) (y0 y2 y3 y4 y6 y9 y10 y11 y12 y13 y14 y15 y16 y17 y18 y19 y20 y21 y22 y23 y24 y25 y26 y27 y28 y29 y30 y31 y32 y33 y34 y35 y36 y37 y38 y39 y40 y41 y42 y43 y44 y45 y46 y47 y48 y49 y50 y51 y52 y53 y54 y55 y56 y57 y58 y59 y60 y61 y62 y63 y64 y65 y66 y67 y68 y69 y70 y71 y72 y73 y74 y75 y76 y77 y78 y79 y80 y81 y82 y83 y84 y85 y86 y87 y88 y89 y90 y91 y92 y93 y94 y95 y96 y97 y98 y99 y100 y101 y102 y103 y104 y105 y106 y107 y108 y109 y110 y111 y112 y113 y114 y115 y116 y117 y118 y119 y120 y121 y122 y123 y124 y125 y126 y127 y128 y129 y130 y131 y132 y133 y134 y135 y136 y137 y138 y139 y140 y141 y142 y143 y144 y145 y146 y147 y148 y149 y150 y151 y152 y153 y154 y155 : Value) :
    Code.wp Tryz.prog (sndN 5 ((Tryz.f39.body).getD .skip)) (bodyPost Tryz.prog Tryz.f39 (DiffP os bs2 w)) ⟨#[y0, .slice b nb cb, y2, y3, y4, .map (some bf), y6, .map (some bg), .map (some bs), y9, y10, y11, y12, y13, y14, y15, y16, y17, y18, y19, y20, y21, y22, y23, y24, y25, y26, y27, y28, y29, y30, y31, y32, y33, y34, y35, y36, y37, y38, y39, y40, y41, y42, y43, y44, y45, y46, y47, y48, y49, y50, y51, y52, y53, y54, y55, y56, y57, y58, y59, y60, y61, y62, y63, y64, y65, y66, y67, y68, y69, y70, y71, y72, y73, y74, y75, y76, y77, y78, y79, y80, y81, y82, y83, y84, y85, y86, y87, y88, y89, y90, y91, y92, y93, y94, y95, y96, y97, y98, y99, y100, y101, y102, y103, y104, y105, y106, y107, y108, y109, y110, y111, y112, y113, y114, y115, y116, y117, y118, y119, y120, y121, y122, y123, y124, y125, y126, y127, y128, y129, y130, y131, y132, y133, y134, y135, y136, y137, y138, y139, y140, y141, y142, y143, y144, y145, y146, y147, y148, y149, y150, y151, y152, y153, y154, y155], []⟩ V := by
  have HN := Lib.hid hnb
  have HOS := Lib.hid hos
  have HBS := Lib.hid hbs
  have HXA := Lib.hid hXA
  have HXB := Lib.hid hXB
  have HOKA := Lib.hid hoka
  have HOKB := Lib.hid hokb
  have HAA := Lib.hid haa
  have HAB := Lib.hid hab
  have HNE := Lib.hid hne
  have HLT := Lib.hid hlt0
  have HWB := Lib.hid hwb
  have HNA := Lib.hid hna
  have HNL : Hid (os.length ≤ 4096 ∧ bs2.length ≤ 4096) := Lib.hid ⟨hol, by rw [hbs, List.length_map, hnb]; exact hnb2⟩
  have HB1 := Lib.hid hlt1
  have hfm := Lib.hid hF
  have hgm := Lib.hid hG
  have hsc := Lib.hid hS
  have hrs := Lib.hid hR
  have hsm := Lib.hid hSM
  have hmd := Lib.hid hM
  have hz2 := Lib.hid hB2
  have hbe := Lib.hid hbel
  clear hnb hos hbs hol hXA hXB hoka hokb haa hab hne hlt0 hlt1 hwb hF hG hS hR hSM hM hB2 hbel hna
  dsimp only [sndN, sndC, Tryz.f39, Option.getD]
  go_upto_region 16 with fail
  go_loopw [15, 72] (fun v z wr => ∃ (j : Nat) (g' : Bs → Bool) (S' : Int × ByteArray → Option Value) (Src' : Int × ByteArray → List ByteArray) (L : List CV), j ≤ nb ∧ z = .int .i64 (j : Int) ∧ Hid (MapS wr bf na (entM (findF xa))) ∧ Hid (MapS wr bg na (goneV g')) ∧ Hid (MapC wr bs (na + j) S') ∧ Hid (SrcR wr B1 B2 S' Src') ∧ Hid (SrcM os g' Src') ∧ Hid (Mid os bs2 j L g') ∧ Hid (CRow wr B2 v L) ∧ Hid (Below w.heap.size w wr) ∧ Hid (B2 ≤ wr.heap.size)) (fun _ z _ => nb - (intOf z).toNat)
  case atStart => exact ⟨0, g, S, Src, [], Nat.zero_le _, rfl, hfm, hgm, hsc, hrs, hsm, hmd, Lib.hid (CRow.nil _ _), hbe, hz2⟩
  case round =>
    obtain ⟨j, g', S', Src', L, hj, rfl, HFM, HGM, HSC, HRS, HSM, HMD, HRW, HBEL, HZ⟩ := hrel
    clear hfm hgm hsc hrs hsm hmd hz2 hbe
    have HLN : Hid (L.length ≤ 5000000) := Lib.hid (by have h1 := HMD.out.len; have := HNL.out; omega)
    by_cases hlt : j < nb
    rotate_left
    · have HJN : Hid (bs2.length ≤ j) := Lib.hid (by rw [HBS.out, List.length_map, HN.out]; omega)
      repeat (first | (with_reducible exact diff_rest3 os bs2 w wr bg B2 na j u15 L g' HMD.out HJN.out HNL.out.1 HNL.out.2 HOKA.out HGM.out HRW.out HZ.out (by have := HLT.out; omega) HLT.out.2.2.2 HBEL.out _ _ _ _ _ _ _ _ _ _ _ _ _ _ _ _ _ _ _ _ _ _ _ _ _ _ _ _ _ _ _ _ _ _ _ _ _ _ _ _ _ _ _ _ _ _ _ _ _ _ _ _ _ _ _ _ _ _ _ _ _ _ _ _ _ _ _ _ _ _ _ _ _ _ _ _ _ _ _ _ _ _ _ _ _ _ _ _ _ _ _ _ _ _ _ _ _ _ _ _ _ _ _ _ _ _ _ _ _ _ _ _ _ _ _ _ _ _ _ _ _ _ _ _ _ _ _ _ _ _ _ _ _ _ _ _ _ _ _ _ _ _ _ _ _ _ _ _ _ _ _ _ _ _) | (refine (?_ : Code.wp _ (Code.seq (Code.seq (Code.region 31 _ _) _) _) _ _ _); exact diff_rest3 os bs2 w wr bg B2 na j u15 L g' HMD.out HJN.out HNL.out.1 HNL.out.2 HOKA.out HGM.out HRW.out HZ.out (by have := HLT.out; omega) HLT.out.2.2.2 HBEL.out _ _ _ _ _ _ _ _ _ _ _ _ _ _ _ _ _ _ _ _ _ _ _ _ _ _ _ _ _ _ _ _ _ _ _ _ _ _ _ _ _ _ _ _ _ _ _ _ _ _ _ _ _ _ _ _ _ _ _ _ _ _ _ _ _ _ _ _ _ _ _ _ _ _ _ _ _ _ _ _ _ _ _ _ _ _ _ _ _ _ _ _ _ _ _ _ _ _ _ _ _ _ _ _ _ _ _ _ _ _ _ _ _ _ _ _ _ _ _ _ _ _ _ _ _ _ _ _ _ _ _ _ _ _ _ _ _ _ _ _ _ _ _ _ _ _ _ _ _ _ _ _ _ _) | go_step)
    have hjx : j < xb.length := by rw [HN.out]; exact hlt
    have HJX : Hid (j < bs2.length) := Lib.hid (by rw [HBS.out, List.length_map]; exact hjx)
    have HXW := Lib.hid (HXB.out.later HBEL.out)
    obtain ⟨b0, o0, rfl, c0, c1, c2, c3, c4, c5⟩ := HXW.out.six j hjx
    obtain ⟨x, hx⟩ : ∃ x, xb[j] = x := ⟨_, rfl⟩
    rw [hx] at c0 c1 c2 c3 c4 c5
    have HXO0 : Hid (x.ok w) := Lib.hid (by rw [← hx]; exact HXB.out.2 _ (List.getElem_mem hjx))
    have HXE : Hid (x.e.ok) := Lib.hid (by rw [← hx]; exact HOKB.out _ (List.getElem_mem hjx))
    have HXJ : Hid (bs2[j]'HJX.out = x.e) := Lib.hid (by
      have h1 := HBS.out
      subst h1
      rw [List.getElem_map, hx])
    clear hx
    obtain ⟨⟨path, kind, mode, time, data, link⟩, da, dc⟩ := x
    have HXO := HXO0
    dsimp only at c0 c1 c2 c3 c4 c5 HXE HXJ
    -- the entry that was at its path
    obtain ⟨ov, th, hov, hlook⟩ : ∃ (ov : FV) (th : Bool), ((findF xa path.data.toList = none ∧ th = false ∧ ov = fvZero) ∨ (findF xa path.data.toList = some ov ∧ th = true)) ∧ ∀ V, Below wr.heap.size wr V → (Instr.lookup 109 (.map (some bf)) (.string path) true).run Tryz.prog V = .ok (.tuple #[ov.val, .bool th]) V := by
      have hz : ∀ V : World, (zeroValue 54).run Tryz.prog V = .ok fvZero.val V := fun V => by kernel_rfl
      refine ⟨(findF xa path.data.toList).getD fvZero, (findF xa path.data.toList).isSome, ?_, fun V hb => ?_⟩
      · cases findF xa path.data.toList with
        | none => exact .inl ⟨rfl, rfl, rfl⟩
        | some y => exact .inr ⟨rfl, rfl⟩
      · have h1 := (HFM.out.later hb).look (t := 109) (e := 54) Tryz.underlying109 (hz V) path (size_maxLen HXO.out.sp)
        rw [entM_getD, entM_isSome] at h1
        exact h1
    have HOVO : Hid (ov.ok w) := Lib.hid (by
      rcases hov with ⟨_, _, rfl⟩ | ⟨h, _⟩
      · exact fvZero_ok _
      · exact HXA.out _ (findF_some h).1)
    have HOV : Hid ((findF xa path.data.toList = none ∧ th = false) ∨ (findF xa path.data.toList = some ov ∧ th = true)) := Lib.hid (by
      rcases hov with ⟨h1, h2, _⟩ | h
      · exact .inl ⟨h1, h2⟩
      · exact .inr h)
    have HLK := Lib.hid hlook
    clear hov hlook
    obtain ⟨⟨pathO, kindO, modeO, timeO, dataO, linkO⟩, daO, dcO⟩ := ov
    unfold FV.val FV.row at HLK
    dsimp only at HLK
    have hlook := HLK.out _ ((Below.refl wr.heap.size wr).alloc (Nat.le_refl _) (.cells #[.string path, .int .i64 kind, .int .i64 mode, .int .i64 time, .slice da data.length dc, .string link] 54))
    go_upto_region 19 with fail
    refine wp_over (fun V => Hid (V.heap[wr.heap.size]? = some (.cells (FV.row (⟨⟨path, kind, mode, time, data, link⟩, da, dc⟩ : FV)) 54 (0, 0))) ∧ Hid (V.heap[wr.heap.size + 1]? = some (.cells (FV.row (⟨⟨pathO, kindO, modeO, timeO, dataO, linkO⟩, daO, dcO⟩ : FV)) 54 (0, 0))) ∧ Hid (Below wr.heap.size wr V) ∧ Hid (V.heap.size = wr.heap.size + 2)) ⟨Lib.hid two_rows1, Lib.hid two_rows2, Lib.hid two_below, Lib.hid two_size⟩ ?_
    rintro W ⟨HGE, HGO, HWB1, HWS⟩
    obtain ⟨N, hN⟩ := ex_eq wr.heap.size
    rw [hN] at HGE HGO HWS ⊢
    have HNW := Lib.hid hN
    clear hN hlook c0 c1 c2 c3 c4 c5
    have HNB : Hid (∀ V, Below (N + 2) W V → Below wr.heap.size wr V) := Lib.hid (fun V h => HWB1.out.trans (h.mono (by have := HNW.out; omega)))
    have HBW : Hid (∀ V, Below (N + 2) W V → Below w.heap.size w V) := Lib.hid (fun V h => HBEL.out.trans ((HNB.out V h).mono HBEL.out.size))
    have HC6 : Hid (∀ V, Below (N + 2) W V → V.cell? ⟨N, 0, none⟩ = some (.string path) ∧ V.cell? ⟨N, 1, none⟩ = some (.int .i64 kind) ∧ V.cell? ⟨N, 2, none⟩ = some (.int .i64 mode) ∧ V.cell? ⟨N, 3, none⟩ = some (.int .i64 time) ∧ V.cell? ⟨N, 4, none⟩ = some (.slice da data.length dc) ∧ V.cell? ⟨N, 5, none⟩ = some (.string link)) := Lib.hid (fun V h => row6 ((h.block N (by omega)).trans HGE.out))
    have HO6 : Hid (∀ V, Below (N + 2) W V → V.cell? ⟨N + 1, 0, none⟩ = some (.string pathO) ∧ V.cell? ⟨N + 1, 1, none⟩ = some (.int .i64 kindO) ∧ V.cell? ⟨N + 1, 2, none⟩ = some (.int .i64 modeO) ∧ V.cell? ⟨N + 1, 3, none⟩ = some (.int .i64 timeO) ∧ V.cell? ⟨N + 1, 4, none⟩ = some (.slice daO dataO.length dcO) ∧ V.cell? ⟨N + 1, 5, none⟩ = some (.string linkO)) := Lib.hid (fun V h => row6 ((h.block (N + 1) (by omega)).trans HGO.out))
    have HCP : Hid (∀ V, Below (N + 2) W V → Calls Tryz.prog 82 #[.agg #[.string path, .int .i64 kind, .int .i64 mode, .int .i64 time, .slice da data.length dc, .string link]] V fun e w' => ∃ y : FV, e = .returned (.agg y.row) ∧ y.e = (⟨path, kind, mode, time, data, link⟩ : FE) ∧ y.ok w' ∧ y.off V.heap.size ∧ Below V.heap.size V w') := Lib.hid (fun V h => copied_any (⟨⟨path, kind, mode, time, data, link⟩, da, dc⟩ : FV) V (HXO.out.later (HBW.out V h)))
    have HMV : Hid (∀ V, Below (N + 2) W V → Calls Tryz.prog 80 #[.agg #[.string path, .int .i64 kind, .int .i64 mode, .int .i64 time, .slice da data.length dc, .string link]] V fun e w' => e = .returned (movV (movP (⟨path, kind, mode, time, data, link⟩ : FE))) ∧ Below V.heap.size V w') := Lib.hid (fun V h => movable_any (⟨⟨path, kind, mode, time, data, link⟩, da, dc⟩ : FV) V (HXO.out.later (HBW.out V h)))
    have HSA : Hid (∀ V, Below (N + 2) W V → Calls Tryz.prog 81 #[.agg #[.string pathO, .int .i64 kindO, .int .i64 modeO, .int .i64 timeO, .slice daO dataO.length dcO, .string linkO], .agg #[.string path, .int .i64 kind, .int .i64 mode, .int .i64 time, .slice da data.length dc, .string link]] V fun e w' => e = .returned (.bool (sameE ⟨pathO, kindO, modeO, timeO, dataO, linkO⟩ (⟨path, kind, mode, time, data, link⟩ : FE))) ∧ Below V.heap.size V w') := Lib.hid (fun V h => same_any20 (⟨⟨pathO, kindO, modeO, timeO, dataO, linkO⟩, daO, dcO⟩ : FV) (⟨⟨path, kind, mode, time, data, link⟩, da, dc⟩ : FV) V (HOVO.out.later (HBW.out V h)) (HXO.out.later (HBW.out V h)))
    obtain ⟨c0, c1, c2, c3, c4, c5⟩ := HC6.out W (Below.refl _ _)
    obtain ⟨d0, d1, d2, d3, d4, d5⟩ := HO6.out W (Below.refl _ _)
    by_cases hkk : th = true ∧ kindO = kind
    · obtain ⟨hth, hkk⟩ := hkk
      subst hth
      have HKK := Lib.hid hkk
      have hk1 : (kindO == kind) = true := by rw [hkk]; simp
      have HFO : Hid (findF xa path.data.toList = some (⟨⟨pathO, kindO, modeO, timeO, dataO, linkO⟩, daO, dcO⟩ : FV)) := Lib.hid (by
        rcases HOV.out with ⟨_, h⟩ | ⟨h, _⟩
        · cases h
        · exact h)
      have HOM : Hid ((⟨pathO, kindO, modeO, timeO, dataO, linkO⟩ : FE) ∈ os) := Lib.hid (by rw [HOS.out]; exact List.mem_map.2 ⟨_, (findF_some HFO.out).1, rfl⟩)
      have HOP : Hid ((⟨pathO, kindO, modeO, timeO, dataO, linkO⟩ : FE).p = (⟨path, kind, mode, time, data, link⟩ : FE).p) := Lib.hid (findF_some HFO.out).2
      clear hkk
      obtain ⟨R, hR⟩ := ex_eq (sameE ⟨pathO, kindO, modeO, timeO, dataO, linkO⟩ (⟨path, kind, mode, time, data, link⟩ : FE))
      rw [hR] at HSA
      have HRR := Lib.hid hR
      clear hR
      cases R with
      | true =>
        go_wp2_with (first
          | (go_at_call 81
             (with_reducible refine (HSA.out _ (Below.refl _ _)).mono ?_)
             rintro e W3 ⟨rfl, hb3⟩
             have H3 : Hid (Below (N + 2) W W3) := Lib.hid (hb3.mono (by have := HWS.out; omega))
             clear hb3))
        have HREL : Hid (Below B2 wr W3) := Lib.hid ((HNB.out _ H3.out).mono (by have := HZ.out; omega))
        have HMD9 : Hid (Mid os bs2 (j + 1) L g') := Lib.hid (HMD.out.skip HAA.out HJX.out HOM.out (by rw [HXJ.out]; exact sameE_iff.1 HRR.out))
        have HRW9 : Hid (CRow W3 B2 u15 L) := Lib.hid (HRW.out.later (HNB.out _ H3.out))
        have HF9 : Hid (MapS W3 bf na (entM (findF xa))) := Lib.hid (HFM.out.low HREL.out HLT.out.1)
        have HG9 : Hid (MapS W3 bg na (goneV g')) := Lib.hid (HGM.out.low HREL.out HLT.out.2.1)
        have HS9 : Hid (MapC W3 bs (na + (j + 1)) S') := Lib.hid ((HSC.out.low HREL.out HLT.out.2.2.1).mono (by omega))
        have HR9 : Hid (SrcR W3 B1 B2 S' Src') := Lib.hid (HRS.out.low (fun q _ hq => HREL.out.block q hq))
        have HSM9 := HSM
        have HB9 : Hid (Below w.heap.size w W3) := Lib.hid (HBEL.out.trans (HREL.out.mono HLT.out.2.2.2))
        have HZ9 : Hid (B2 ≤ W3.heap.size) := Lib.hid (Nat.le_trans HZ.out HREL.out.size)
        go_roundw
        case rel => exact ⟨j + 1, g', S', Src', L, by omega, by go_num, HF9, HG9, HS9, HR9, HSM9, HMD9, HRW9, HB9, HZ9⟩
        case measure => simp [intOf]; omega
      | false =>
        go_upto_region 21 with (first
          | (go_at_call 81
             (with_reducible refine (HSA.out _ (Below.refl _ _)).mono ?_)
             rintro e W3 ⟨rfl, hb3⟩
             have H3 : Hid (Below (N + 2) W W3) := Lib.hid (hb3.mono (by have := HWS.out; omega))
             clear hb3))
        clear c0 c1 c2 c3 c4 c5 d0 d1 d2 d3 d4 d5
        have HDR : Hid (Below (N + 2) W W3.drew) := Lib.hid H3.out.drew
        obtain ⟨VD, hVD⟩ := ex_eq W3.drew
        rw [hVD] at HDR
        refine Kit.wp_region_hplan (fun V => V.cell? ⟨N, 0, none⟩ = some (.string path) ∧ V.cell? ⟨N, 1, none⟩ = some (.int .i64 kind) ∧ V.cell? ⟨N, 2, none⟩ = some (.int .i64 mode) ∧ V.cell? ⟨N, 3, none⟩ = some (.int .i64 time) ∧ V.cell? ⟨N, 4, none⟩ = some (.slice da data.length dc) ∧ V.cell? ⟨N, 5, none⟩ = some (.string link)) [(true, 0), (true, 1), (true, 2), (true, 3), (false, 4), (true, 5), (false, 6), (false, 7), (true, 8)] (by kernel_rfl) (by kernel_rfl) (by kernel_rfl) (by kernel_rfl) (by rw [hVD]; exact (HC6.out _ HDR.out)) ?_
        rw [hVD]
        clear hVD
        iterate 4 (refine Kit.hplan_head (by rfl) (by first | exact .inr ⟨by rfl, rfl⟩ | exact .inl ⟨by rfl, fun w' hS => by (dsimp only at hS); go_simp; (try with_reducible rfl)⟩) ?_; (try simp only [Act.put, List.setIfInBounds_toArray, List.set_cons_zero, List.set_cons_succ]))
        refine Kit.hplan_op (by rfl) (by rfl) fun K hK => ?_
        go_simp
        go_at_call 82
        refine (HCP.out _ HDR.out).mono ?_
        rintro e W4 ⟨y, rfl, hye, hyo, hyf, hyb⟩
        obtain ⟨ye, ya, yc⟩ := y
        obtain rfl : ye = (⟨path, kind, mode, time, data, link⟩ : FE) := hye
        dsimp only [FV.row]
        have HYO := Lib.hid hyo
        have HYF := Lib.hid hyf
        have H4 : Hid (Below (N + 2) W W4) := Lib.hid (HDR.out.trans (hyb.mono (by have := HDR.out.size; have := HWS.out; omega)))
        have HY2 : Hid (B2 ≤ VD.heap.size) := Lib.hid (by have := HDR.out.size; have := HWS.out; have := HZ.out; have := HNW.out; omega)
        clear hyo hyf hyb
        refine hK _ _ (HC6.out _ H4.out) ?_
        clear hK K
        iterate 1 (refine Kit.hplan_head (by rfl) (by first | exact .inr ⟨by rfl, rfl⟩ | exact .inl ⟨by rfl, fun w' hS => by (dsimp only at hS); go_simp; (try with_reducible rfl)⟩) ?_; (try simp only [Act.put, List.setIfInBounds_toArray, List.set_cons_zero, List.set_cons_succ]))
        refine Kit.hplan_op (by rfl) (by rfl) fun K hK => ?_
        go_simp
        refine hK _ _ (HC6.out _ (H4.out.alloc (by have := H4.out.size; have := HWS.out; omega) _)) ?_
        clear hK K
        refine Kit.hplan_op (by rfl) (by rfl) fun K hK => ?_
        have HR4 : Hid (CRow W4 B2 u15 L) := Lib.hid (HRW.out.later (HNB.out _ H4.out))
        refine wp_app_at kindCV _ _ (by rfl) B2 u15 L.length L (by rfl) HR4.out.own (by have := HR4.out; have := H4.out.size; have := HWS.out; have := HZ.out; have := HNW.out; omega) HLN.out (⟨4, path, ByteArray.empty, ⟨(⟨path, kind, mode, time, data, link⟩ : FE), ya, yc⟩⟩ : CV) _ (by rfl) 1 (by rfl) ?_
        intro v' w3 h1 h2 h3
        have HRW3 : Hid (CRow w3 B2 v' (L ++ [(⟨4, path, ByteArray.empty, ⟨(⟨path, kind, mode, time, data, link⟩ : FE), ya, yc⟩⟩ : CV)])) := Lib.hid (HR4.out.snoc HYO.out (fun hd ad e => by
          have h5 := HYF.out ad e
          refine ⟨Nat.le_trans HY2.out h5, fun e2 => ?_⟩
          have h6 := (HRW.out.own.lt _ e2).2
          have := HDR.out.size
          have := HWS.out
          have := HNW.out
          (try simp only at h5)
          omega) h1 h2 h3)
        have HCH : Hid (Below B2 W4 w3) := Lib.hid (((Chg.alloc1 W4 _).trans (Chg.of_grown h2 (fun q _ e => e)) : Chg (fun q _ => u15.ownBlock = some q) W4 w3).below (by have := H4.out.size; have := HWS.out; have := HZ.out; have := HNW.out; omega) (fun q i hq e => by have := (HR4.out.own.lt q e).1; omega))
        have HC3 := HC6.out _ H4.out
        have HC7 : Hid (w3.cell? ⟨N, 0, none⟩ = some (.string path) ∧ w3.cell? ⟨N, 1, none⟩ = some (.int .i64 kind) ∧ w3.cell? ⟨N, 2, none⟩ = some (.int .i64 mode) ∧ w3.cell? ⟨N, 3, none⟩ = some (.int .i64 time) ∧ w3.cell? ⟨N, 4, none⟩ = some (.slice da data.length dc) ∧ w3.cell? ⟨N, 5, none⟩ = some (.string link)) := Lib.hid (by
          have h7 : SixAt W4 N 0 (⟨⟨path, kind, mode, time, data, link⟩, da, dc⟩ : FV) := HC3
          have hch : Chg (fun q _ => u15.ownBlock = some q) W4 w3 := (Chg.alloc1 W4 _).trans (Chg.of_grown h2 (fun q _ e => e))
          have f : ∀ i {u : Value}, W4.cell? ⟨N, i, none⟩ = some u → w3.cell? ⟨N, i, none⟩ = some u := fun i u hu => hch.cell hu (fun e => by have := (HRW.out.own.lt N e).2; have := HNW.out; omega)
          exact ⟨f _ h7.1, f _ h7.2.1, f _ h7.2.2.1, f _ h7.2.2.2.1, f _ h7.2.2.2.2.1, f _ h7.2.2.2.2.2⟩)
        clear h1 h2 h3 HC3
        refine hK _ _ HC7.out ?_
        clear hK K
        iterate 1 (refine Kit.hplan_head (by rfl) (by first | exact .inr ⟨by rfl, rfl⟩ | exact .inl ⟨by rfl, fun w' hS => by (dsimp only at hS); go_simp; (try with_reducible rfl)⟩) ?_; (try simp only [Act.put, List.setIfInBounds_toArray, List.set_cons_zero, List.set_cons_succ]))
        refine Kit.hplan_done ?_
        (try simp only [Act.put, List.setIfInBounds_toArray, List.set_cons_zero, List.set_cons_succ])
        have HREL : Hid (Below B2 wr w3) := Lib.hid (((HNB.out _ H4.out).mono (by have := HZ.out; have := HNW.out; omega)).trans HCH.out)
        have HMD9 : Hid (Mid os bs2 (j + 1) (L ++ [(⟨4, path, ByteArray.empty, ⟨(⟨path, kind, mode, time, data, link⟩ : FE), ya, yc⟩⟩ : CV)]) g') := Lib.hid (HMD.out.change HAA.out HAB.out HJX.out HOM.out (by rw [HXJ.out]; exact HOP.out) (by rw [HXJ.out]; exact HKK.out) (⟨4, path, ByteArray.empty, ⟨(⟨path, kind, mode, time, data, link⟩ : FE), ya, yc⟩⟩ : CV) ⟨.inr (.inr (.inr rfl)), (fun h => by cases h), (fun h => by cases h), (fun _ => ⟨rfl, rfl, HXE.out⟩)⟩ rfl HXJ.out.symm)
        have HF9 : Hid (MapS w3 bf na (entM (findF xa))) := Lib.hid (HFM.out.low HREL.out HLT.out.1)
        have HG9 : Hid (MapS w3 bg na (goneV g')) := Lib.hid (HGM.out.low HREL.out HLT.out.2.1)
        have HS9 : Hid (MapC w3 bs (na + (j + 1)) S') := Lib.hid ((HSC.out.low HREL.out HLT.out.2.2.1).mono (by omega))
        have HR9 : Hid (SrcR w3 B1 B2 S' Src') := Lib.hid (HRS.out.low (fun q _ hq => HREL.out.block q hq))
        have HSM9 := HSM
        have HB9 : Hid (Below w.heap.size w w3) := Lib.hid (HBEL.out.trans (HREL.out.mono HLT.out.2.2.2))
        have HZ9 : Hid (B2 ≤ w3.heap.size) := Lib.hid (Nat.le_trans HZ.out HREL.out.size)
        (try go_wp2_with fail)
        go_roundw
        case rel => exact ⟨j + 1, g', S', Src', (L ++ [(⟨4, path, ByteArray.empty, ⟨(⟨path, kind, mode, time, data, link⟩ : FE), ya, yc⟩⟩ : CV)]), by omega, by go_num, HF9, HG9, HS9, HR9, HSM9, HMD9, HRW3, HB9, HZ9⟩
        case measure => simp [intOf]; omega
    · have HKD := Lib.hid hkk
      cases th with
      | false =>
        clear hkk
        have HNK : Hid (keptB os (⟨path, kind, mode, time, data, link⟩ : FE) = false) := Lib.hid (by
          rw [Bool.eq_false_iff]
          intro h
          rw [HOS.out, kept_find (by rw [← HOS.out]; exact HAA.out)] at h
          obtain ⟨y, h1, h2⟩ := h
          rcases HOV.out with ⟨h3, h4⟩ | ⟨h3, h4⟩
          · have : (none : Option FV) = some y := h3.symm.trans h1
            cases this
          · have h5 := h3.symm.trans h1
            cases h5
            exact HKD.out ⟨h4, h2⟩)
        go_upto_region 22 with fail
        have HDR : Hid (Below (N + 2) W W.drew) := Lib.hid (Below.refl _ _).drew
        apply joinC (F := (fun A ya yc V => Hid (V.heap[A]? = some (.cells (CV.row (⟨3, path, ByteArray.empty, ⟨(⟨path, kind, mode, time, data, link⟩ : FE), ya, yc⟩⟩ : CV)) 114 (0, 0))) ∧ Hid (FV.ok V ⟨(⟨path, kind, mode, time, data, link⟩ : FE), ya, yc⟩) ∧ Hid (FV.off (N + 2) ⟨(⟨path, kind, mode, time, data, link⟩ : FE), ya, yc⟩) ∧ Hid (Below (N + 2) W V) ∧ Hid (N + 2 ≤ A) ∧ Hid (∀ ad, ya = some ad → data ≠ [] → ad.block ≠ A)))
        case main =>
          intro HJ
          refine Kit.wp_region_tplan (fun V => V.cell? ⟨N, 0, none⟩ = some (.string path) ∧ V.cell? ⟨N, 1, none⟩ = some (.int .i64 kind) ∧ V.cell? ⟨N, 2, none⟩ = some (.int .i64 mode) ∧ V.cell? ⟨N, 3, none⟩ = some (.int .i64 time) ∧ V.cell? ⟨N, 4, none⟩ = some (.slice da data.length dc) ∧ V.cell? ⟨N, 5, none⟩ = some (.string link)) (.heads [0, 1, 2] (.op2 3 (.head 4 (.op1 5 (.op1 6 .done))) 5 (.op1 3 (.head 4 (.op1 6 .done))))) (by kernel_rfl) (by kernel_rfl) (by kernel_rfl) (by kernel_rfl) (HC6.out _ HDR.out) ?_
          iterate 3 (refine Kit.tplan_head (by rfl) (by first | exact .inr ⟨by rfl, rfl⟩ | exact .inl ⟨by rfl, fun w' hS => by (dsimp only at hS); go_simp; (try with_reducible rfl)⟩) ?_; (try simp only [Act.put, List.setIfInBounds_toArray, List.set_cons_zero, List.set_cons_succ]))
          obtain ⟨VD, hVD⟩ := ex_eq W.drew
          rw [hVD] at HDR ⊢
          clear hVD
          refine Kit.tplan_op2 ?_ ?_
          rotate_left
          focus (
            refine Kit.tplan_op1 (by rfl) (by rfl) fun K' hK' => ?_
            go_simp
            have HAG : Hid ((VD.alloc (.cells #[.int .i64 0, .string ⟨#[]⟩, .string ⟨#[]⟩, .string ⟨#[]⟩, .int .i64 0, .int .i64 0, .int .i64 0, .slice none 0 0, .string ⟨#[]⟩] 114)).heap[VD.heap.size]? = some (.cells #[.int .i64 0, .string ⟨#[]⟩, .string ⟨#[]⟩, .string ⟨#[]⟩, .int .i64 0, .int .i64 0, .int .i64 0, .slice none 0 0, .string ⟨#[]⟩] 114 (0, 0))) := Lib.hid (heap_alloc_new _ _)
            have HA1 : Hid (Below (N + 2) W (VD.alloc (.cells #[.int .i64 0, .string ⟨#[]⟩, .string ⟨#[]⟩, .string ⟨#[]⟩, .int .i64 0, .int .i64 0, .int .i64 0, .slice none 0 0, .string ⟨#[]⟩] 114))) := Lib.hid (HDR.out.alloc (by have := HDR.out.size; have := HWS.out; omega) _)
            have HA2 : Hid (N + 2 ≤ VD.heap.size) := Lib.hid (by have := HDR.out.size; have := HWS.out; omega)
            have HLAT : Hid (Below VD.heap.size VD (VD.alloc (.cells #[.int .i64 0, .string ⟨#[]⟩, .string ⟨#[]⟩, .string ⟨#[]⟩, .int .i64 0, .int .i64 0, .int .i64 0, .slice none 0 0, .string ⟨#[]⟩] 114))) := Lib.hid ((Below.refl _ _).alloc (Nat.le_refl _) _)
            obtain ⟨VA, hVO⟩ := ex_eq (VD.alloc (.cells #[.int .i64 0, .string ⟨#[]⟩, .string ⟨#[]⟩, .string ⟨#[]⟩, .int .i64 0, .int .i64 0, .int .i64 0, .slice none 0 0, .string ⟨#[]⟩] 114))
            rw [hVO] at HAG HA1 HLAT ⊢
            clear hVO
            obtain ⟨A, hA⟩ := ex_eq VD.heap.size
            rw [hA] at HAG HA2 ⊢
            clear hA HLAT
            refine hK' _ _ (HC6.out _ HA1.out) ?_
            clear hK' K'
            have HAS : Hid (A < VA.heap.size) := Lib.hid (Array.getElem?_eq_some_iff.1 HAG.out).1
            refine Kit.tplan_op1 (by rfl) (by rfl) fun K' hK' => ?_
            go_simp
            go_at_call 82
            refine (HCP.out _ HA1.out).mono ?_
            rintro e VB ⟨y, rfl, hye, hyo, hyf, hyb⟩
            obtain ⟨ye, ya, yc⟩ := y
            obtain rfl : ye = (⟨path, kind, mode, time, data, link⟩ : FE) := hye
            dsimp only [FV.row]
            have HYO := Lib.hid hyo
            have HYF : Hid (FV.off (N + 2) ⟨(⟨path, kind, mode, time, data, link⟩ : FE), ya, yc⟩) := Lib.hid (fun ad e => by have h5 := hyf ad e; have := HA1.out.size; have := HWS.out; (try simp only at h5); omega)
            have HB1 : Hid (Below (N + 2) W VB) := Lib.hid (HA1.out.trans (hyb.mono (by have := HA1.out.size; have := HWS.out; omega)))
            have HYA : Hid (∀ ad, ya = some ad → data ≠ [] → ad.block ≠ A) := Lib.hid (fun ad e hd e2 => by have h5 := hyf ad e; have := HAS.out; (try simp only at h5); omega)
            replace HAG := Lib.hid ((hyb.block A HAS.out).trans HAG.out)
            clear hyo hyf hyb
            refine hK' _ _ (HC6.out _ HB1.out) ?_
            clear hK' K'
            iterate 1 (refine Kit.tplan_head (by rfl) (by first | exact .inr ⟨by rfl, rfl⟩ | exact .inl ⟨by rfl, fun w' hS => by (dsimp only at hS); go_simp; (try with_reducible rfl)⟩) ?_; (try simp only [Act.put, List.setIfInBounds_toArray, List.set_cons_zero, List.set_cons_succ]))
            obtain ⟨z0, z1, z2, z3, z4, z5, z6, z7, z8⟩ := row9 (c := (⟨0, ⟨#[]⟩, ⟨#[]⟩, ⟨⟨⟨#[]⟩, 0, 0, 0, [], ⟨#[]⟩⟩, none, 0⟩⟩ : CV)) HAG.out
            dsimp only at z0 z1 z2 z3 z4 z5 z6 z7 z8
            have zf : ∀ i, VB.frozen? ⟨A, i, none⟩ = false := fun i => frozen_of_row _ _ _ _ _ HAG.out
            refine Kit.tplan_op1 (by rfl) (by rfl) fun K' hK' => ?_
            go_simp
            have HPB : Hid (Below (N + 2) W (putL A 0 [.int .i64 3, .string path, .string ⟨#[]⟩, .string path, .int .i64 kind, .int .i64 mode, .int .i64 time, .slice ya data.length yc, .string link] VB)) := Lib.hid (putL_below HA2.out [.int .i64 3, .string path, .string ⟨#[]⟩, .string path, .int .i64 kind, .int .i64 mode, .int .i64 time, .slice ya data.length yc, .string link] 0 _ HB1.out)
            refine hK' _ _ (HC6.out _ HPB.out) ?_
            clear hK' K'
            refine Kit.tplan_done ?_
            (try simp only [Act.put, List.setIfInBounds_toArray, List.set_cons_zero, List.set_cons_succ])
            exact HJ A ya yc (putL A 0 [.int .i64 3, .string path, .string ⟨#[]⟩, .string path, .int .i64 kind, .int .i64 mode, .int .i64 time, .slice ya data.length yc, .string link] VB) ⟨Lib.hid (putL_full (cur := [.int .i64 0, .string ⟨#[]⟩, .string ⟨#[]⟩, .string ⟨#[]⟩, .int .i64 0, .int .i64 0, .int .i64 0, .slice none 0 0, .string ⟨#[]⟩]) (vs := [.int .i64 3, .string path, .string ⟨#[]⟩, .string path, .int .i64 kind, .int .i64 mode, .int .i64 time, .slice ya data.length yc, .string link]) HAG.out rfl), Lib.hid (HYO.out.ok_chg (M := fun k _ => k = A) (putL_chg (fun i => rfl) _ 0 _ (Chg.refl _ _)) (fun hd ad e i e2 => HYA.out ad e hd e2)), HYF, HPB, HA2, HYA⟩)
          refine Kit.tplan_op1 (by rfl) (by rfl) fun K' hK' => ?_
          go_simp
          go_at_call 82
          refine (HCP.out _ HDR.out).mono ?_
          rintro e VA ⟨y, rfl, hye, hyo, hyf, hyb⟩
          obtain ⟨ye, ya, yc⟩ := y
          obtain rfl : ye = (⟨path, kind, mode, time, data, link⟩ : FE) := hye
          dsimp only [FV.row]
          have HYO := Lib.hid hyo
          have HYF : Hid (FV.off (N + 2) ⟨(⟨path, kind, mode, time, data, link⟩ : FE), ya, yc⟩) := Lib.hid (fun ad e => by have h5 := hyf ad e; have := HDR.out.size; have := HWS.out; (try simp only at h5); omega)
          have HA1 : Hid (Below (N + 2) W VA) := Lib.hid (HDR.out.trans (hyb.mono (by have := HDR.out.size; have := HWS.out; omega)))
          clear hyo hyf hyb
          refine hK' _ _ (HC6.out _ HA1.out) ?_
          clear hK' K'
          iterate 1 (refine Kit.tplan_head (by rfl) (by first | exact .inr ⟨by rfl, rfl⟩ | exact .inl ⟨by rfl, fun w' hS => by (dsimp only at hS); go_simp; (try with_reducible rfl)⟩) ?_; (try simp only [Act.put, List.setIfInBounds_toArray, List.set_cons_zero, List.set_cons_succ]))
          refine Kit.tplan_op1 (by rfl) (by rfl) fun K' hK' => ?_
          go_simp
          have HAG : Hid ((VA.alloc (.cells #[.int .i64 0, .string ⟨#[]⟩, .string ⟨#[]⟩, .string ⟨#[]⟩, .int .i64 0, .int .i64 0, .int .i64 0, .slice none 0 0, .string ⟨#[]⟩] 114)).heap[VA.heap.size]? = some (.cells #[.int .i64 0, .string ⟨#[]⟩, .string ⟨#[]⟩, .string ⟨#[]⟩, .int .i64 0, .int .i64 0, .int .i64 0, .slice none 0 0, .string ⟨#[]⟩] 114 (0, 0))) := Lib.hid (heap_alloc_new _ _)
          have HB1 : Hid (Below (N + 2) W (VA.alloc (.cells #[.int .i64 0, .string ⟨#[]⟩, .string ⟨#[]⟩, .string ⟨#[]⟩, .int .i64 0, .int .i64 0, .int .i64 0, .slice none 0 0, .string ⟨#[]⟩] 114))) := Lib.hid (HA1.out.alloc (by have := HA1.out.size; have := HWS.out; omega) _)
          have HA2 : Hid (N + 2 ≤ VA.heap.size) := Lib.hid (by have := HA1.out.size; have := HWS.out; omega)
          have HLAT : Hid (Below VA.heap.size VA (VA.alloc (.cells #[.int .i64 0, .string ⟨#[]⟩, .string ⟨#[]⟩, .string ⟨#[]⟩, .int .i64 0, .int .i64 0, .int .i64 0, .slice none 0 0, .string ⟨#[]⟩] 114))) := Lib.hid ((Below.refl _ _).alloc (Nat.le_refl _) _)
          obtain ⟨VB, hVO⟩ := ex_eq (VA.alloc (.cells #[.int .i64 0, .string ⟨#[]⟩, .string ⟨#[]⟩, .string ⟨#[]⟩, .int .i64 0, .int .i64 0, .int .i64 0, .slice none 0 0, .string ⟨#[]⟩] 114))
          rw [hVO] at HAG HB1 HLAT ⊢
          clear hVO
          have HYB := HYO
          replace HYO : Hid (FV.ok VB ⟨(⟨path, kind, mode, time, data, link⟩ : FE), ya, yc⟩) := Lib.hid (HYB.out.later HLAT.out)
          have HYA0 : Hid (∀ ad, ya = some ad → data ≠ [] → ad.block < VA.heap.size) := Lib.hid (fun ad e hd => HYB.out.blk hd ad e)
          obtain ⟨A, hA⟩ := ex_eq VA.heap.size
          rw [hA] at HAG HA2 HYA0 ⊢
          clear hA HLAT
          have HYA : Hid (∀ ad, ya = some ad → data ≠ [] → ad.block ≠ A) := Lib.hid (fun ad e hd e2 => by have h5 := HYA0.out ad e hd; omega)
          refine hK' _ _ (HC6.out _ HB1.out) ?_
          clear hK' K'
          obtain ⟨z0, z1, z2, z3, z4, z5, z6, z7, z8⟩ := row9 (c := (⟨0, ⟨#[]⟩, ⟨#[]⟩, ⟨⟨⟨#[]⟩, 0, 0, 0, [], ⟨#[]⟩⟩, none, 0⟩⟩ : CV)) HAG.out
          dsimp only at z0 z1 z2 z3 z4 z5 z6 z7 z8
          have zf : ∀ i, VB.frozen? ⟨A, i, none⟩ = false := fun i => frozen_of_row _ _ _ _ _ HAG.out
          refine Kit.tplan_op1 (by rfl) (by rfl) fun K' hK' => ?_
          go_simp
          have HPB : Hid (Below (N + 2) W (putL A 0 [.int .i64 3, .string path, .string ⟨#[]⟩, .string path, .int .i64 kind, .int .i64 mode, .int .i64 time, .slice ya data.length yc, .string link] VB)) := Lib.hid (putL_below HA2.out [.int .i64 3, .string path, .string ⟨#[]⟩, .string path, .int .i64 kind, .int .i64 mode, .int .i64 time, .slice ya data.length yc, .string link] 0 _ HB1.out)
          refine hK' _ _ (HC6.out _ HPB.out) ?_
          clear hK' K'
          refine Kit.tplan_done ?_
          (try simp only [Act.put, List.setIfInBounds_toArray, List.set_cons_zero, List.set_cons_succ])
          exact HJ A ya yc (putL A 0 [.int .i64 3, .string path, .string ⟨#[]⟩, .string path, .int .i64 kind, .int .i64 mode, .int .i64 time, .slice ya data.length yc, .string link] VB) ⟨Lib.hid (putL_full (cur := [.int .i64 0, .string ⟨#[]⟩, .string ⟨#[]⟩, .string ⟨#[]⟩, .int .i64 0, .int .i64 0, .int .i64 0, .slice none 0 0, .string ⟨#[]⟩]) (vs := [.int .i64 3, .string path, .string ⟨#[]⟩, .string path, .int .i64 kind, .int .i64 mode, .int .i64 time, .slice ya data.length yc, .string link]) HAG.out rfl), Lib.hid (HYO.out.ok_chg (M := fun k _ => k = A) (putL_chg (fun i => rfl) _ 0 _ (Chg.refl _ _)) (fun hd ad e i e2 => HYA.out ad e hd e2)), HYF, HPB, HA2, HYA⟩
        case rest =>
          rintro A ya yc W3 ⟨HG3, HYO, HYF, H3, HA2, HYA⟩
          obtain ⟨c0, c1, c2, c3, c4, c5⟩ := HC6.out _ H3.out
          cases hmv : movP (⟨path, kind, mode, time, data, link⟩ : FE) with
          | none =>
            rw [hmv] at HMV
            go_upto_region 29 with (first
              | (go_at_call 80
                 (with_reducible refine (HMV.out _ H3.out).mono ?_)
                 rintro e W3b ⟨rfl, hb3⟩
                 dsimp only [movV, contV]
                 have HH3 := Lib.hid hb3
                 clear hb3))
            refine wp_over (fun V => Hid (Below W3.heap.size W3 V)) (Lib.hid (HH3.out.alloc HH3.out.size _)) ?_
            rintro W4 HH4
            clear c0 c1 c2 c3 c4 c5
            have HGX : Hid (W4.heap[A]? = some (.cells (CV.row (⟨3, path, ByteArray.empty, ⟨(⟨path, kind, mode, time, data, link⟩ : FE), ya, yc⟩⟩ : CV)) 114 (0, 0))) := Lib.hid ((HH4.out.block A (Array.getElem?_eq_some_iff.1 HG3.out).1).trans HG3.out)
            have HYX : Hid (FV.ok W4 ⟨(⟨path, kind, mode, time, data, link⟩ : FE), ya, yc⟩) := Lib.hid (HYO.out.later HH4.out)
            have H4 : Hid (Below (N + 2) W W4) := Lib.hid (H3.out.trans (HH4.out.mono (by have := H3.out.size; have := HWS.out; omega)))
            have HRWX : Hid (CRow W4 B2 u15 L) := Lib.hid (HRW.out.later (HNB.out _ H4.out))
            have HXZ : Hid (B2 ≤ W4.heap.size) := Lib.hid (by have := H4.out.size; have := HWS.out; have := HZ.out; have := HNW.out; omega)
            have HX4 : Hid (Below B2 wr W4) := Lib.hid ((HNB.out _ H4.out).mono (by have := HZ.out; have := HNW.out; omega))
            have HMD9 : Hid (Mid os bs2 (j + 1) (L ++ [(⟨3, path, ByteArray.empty, ⟨(⟨path, kind, mode, time, data, link⟩ : FE), ya, yc⟩⟩ : CV)]) g') := Lib.hid (HMD.out.add HAB.out HJX.out (by rw [HXJ.out]; exact HNK.out) (⟨3, path, ByteArray.empty, ⟨(⟨path, kind, mode, time, data, link⟩ : FE), ya, yc⟩⟩ : CV) ⟨.inr (.inr (.inl rfl)), (fun h => by cases h), (fun h => by cases h), (fun _ => ⟨rfl, rfl, HXE.out⟩)⟩ HXJ.out.symm (.inl ⟨rfl, rfl⟩))
            obtain ⟨q0, q1, q2, q3, q4, q5, q6, q7, q8⟩ := row9 HGX.out
            dsimp only at q0 q1 q2 q3 q4 q5 q6 q7 q8
            go_wp2_with (first
              | (at_builtin
                 refine app_at kindCV rfl _ _ rfl B2 u15 L.length L (by rfl) HRWX.out.own (by have := HXZ.out; omega) HLN.out (⟨3, path, ByteArray.empty, ⟨(⟨path, kind, mode, time, data, link⟩ : FE), ya, yc⟩⟩ : CV) _ (by rfl) 1 (by rfl) ?_
                 intro v' w9 h1 h2 h3
                 have H1 := Lib.hid h1
                 have H2 := Lib.hid h2
                 have H3b := Lib.hid h3
                 clear h1 h2 h3))
            have HRW3 : Hid (CRow w9 B2 v' (L ++ [(⟨3, path, ByteArray.empty, ⟨(⟨path, kind, mode, time, data, link⟩ : FE), ya, yc⟩⟩ : CV)])) := Lib.hid (HRWX.out.snoc HYX.out (fun hd ad e => by
              have h5 := HYF.out ad e
              refine ⟨by have := HZ.out; have := HNW.out; (try simp only at h5); omega, fun e2 => ?_⟩
              have h6 := (HRW.out.own.lt _ e2).2
              have := HNW.out
              (try simp only at h5)
              omega) H1.out H2.out H3b.out)
            have HCH : Hid (Below B2 W4 w9) := Lib.hid (((Chg.alloc1 W4 _).trans (Chg.of_grown H2.out (fun q _ e => e)) : Chg (fun q _ => u15.ownBlock = some q) W4 w9).below HXZ.out (fun q i hq e => by have := (HRWX.out.own.lt q e).1; omega))
            have HREL : Hid (Below B2 wr w9) := Lib.hid (HX4.out.trans HCH.out)
            have HF9 : Hid (MapS w9 bf na (entM (findF xa))) := Lib.hid (HFM.out.low HREL.out HLT.out.1)
            have HG9 : Hid (MapS w9 bg na (goneV g')) := Lib.hid (HGM.out.low HREL.out HLT.out.2.1)
            have HS9 : Hid (MapC w9 bs (na + (j + 1)) S') := Lib.hid ((HSC.out.low HREL.out HLT.out.2.2.1).mono (by omega))
            have HR9 : Hid (SrcR w9 B1 B2 S' Src') := Lib.hid (HRS.out.low (fun q _ hq => HREL.out.block q hq))
            have HSM9 := HSM
            have HB9 : Hid (Below w.heap.size w w9) := Lib.hid (HBEL.out.trans (HREL.out.mono HLT.out.2.2.2))
            have HZ9 : Hid (B2 ≤ w9.heap.size) := Lib.hid (Nat.le_trans HZ.out HREL.out.size)
            clear q0 q1 q2 q3 q4 q5 q6 q7 q8
            go_roundw
            case rel => exact ⟨j + 1, g', S', Src', (L ++ [(⟨3, path, ByteArray.empty, ⟨(⟨path, kind, mode, time, data, link⟩ : FE), ya, yc⟩⟩ : CV)]), by omega, by go_num, HF9, HG9, HS9, HR9, HSM9, HMD9, HRW3, HB9, HZ9⟩
            case measure => simp [intOf]; omega
          | some mm =>
            obtain ⟨mk, ms⟩ := mm
            rw [hmv] at HMV
            have HMVX := Lib.hid hmv
            clear hmv
            go_upto_region 24 with (first
              | (go_at_call 80
                 (with_reducible refine (HMV.out _ H3.out).mono ?_)
                 rintro e W3b ⟨rfl, hb3⟩
                 dsimp only [movV, contV]
                 have HH3 := Lib.hid hb3
                 clear hb3))
            refine wp_over (fun V => Hid (V.heap[W3b.heap.size]? = some (.cells #[.int .i64 mk, .string ms] 176 (0, 0))) ∧ Hid (Below W3.heap.size W3 V) ∧ Hid (W3b.heap.size < V.heap.size)) ⟨Lib.hid (heap_alloc_new _ _), Lib.hid (HH3.out.alloc HH3.out.size _), Lib.hid (by simp)⟩ ?_
            rintro W4 ⟨HCO, HH4, HMS⟩
            clear c0 c1 c2 c3 c4 c5
            obtain ⟨M, hM⟩ := ex_eq W3b.heap.size
            rw [hM] at HCO HMS ⊢
            have HMN : Hid (W3.heap.size ≤ M) := Lib.hid (by rw [← hM]; exact HH3.out.size)
            clear hM
            have H4 : Hid (Below (N + 2) W W4) := Lib.hid (H3.out.trans (HH4.out.mono (by have := H3.out.size; have := HWS.out; omega)))
            have HX4 : Hid (Below B2 wr W4) := Lib.hid ((HNB.out _ H4.out).mono (by have := HZ.out; have := HNW.out; omega))
            have HS4 : Hid (MapC W4 bs (na + j) S') := Lib.hid (HSC.out.low HX4.out HLT.out.2.2.1)
            have HR4s : Hid (SrcR W4 B1 B2 S' Src') := Lib.hid (HRS.out.low (fun q _ hq => HX4.out.block q hq))
            have HKW : Hid ((Lit.int .i64 mk).wf = true ∧ ms.size ≤ maxLen) := Lib.hid (by
              have h1 := (movP_kind HMVX.out).2
              refine ⟨wf64 (by (try simp only at h1); omega) (by (try simp only at h1); omega), size_maxLen ?_⟩
              have h2 := HMVX.out
              unfold movP at h2
              split at h2
              · cases h2
                rw [strB_size _ HXO.out.dat.2.1]
                exact HXO.out.sd
              · split at h2
                · cases h2
                  exact HXO.out.sl
                · cases h2)
            have hl := HS4.out.look1 mk ms HKW.out.1 HKW.out.2
            have m0 : W4.cell? ⟨M, 0, none⟩ = some (.int .i64 mk) := (cell_of_row _ _ _ _ _ _ HCO.out).trans rfl
            have m1 : W4.cell? ⟨M, 1, none⟩ = some (.string ms) := (cell_of_row _ _ _ _ _ _ HCO.out).trans rfl
            cases hsrc : Src' (mk, ms) with
            | nil =>
              have hz : (S' (mk, ms)).getD (.slice none 0 0) = .slice none 0 0 ∨ ∃ b0 o0 cp, (S' (mk, ms)).getD (.slice none 0 0) = .slice (some ⟨b0, o0, none⟩) 0 cp := by
                rcases HR4s.out (mk, ms) with ⟨h, _⟩ | ⟨b0, o0, cp, h, _⟩
                · exact .inl h
                · refine .inr ⟨b0, o0, cp, ?_⟩
                  rw [h, hsrc]
                  rfl
              clear hsrc
              rcases hz with hz | ⟨b0, o0, cp, hz⟩
              · rw [hz] at hl
                clear hz
                go_upto_region 29 with fail
                clear hl m0 m1
                have HGX : Hid (W4.heap[A]? = some (.cells (CV.row (⟨3, path, ByteArray.empty, ⟨(⟨path, kind, mode, time, data, link⟩ : FE), ya, yc⟩⟩ : CV)) 114 (0, 0))) := Lib.hid ((HH4.out.block A (Array.getElem?_eq_some_iff.1 HG3.out).1).trans HG3.out)
                have HYX : Hid (FV.ok W4 ⟨(⟨path, kind, mode, time, data, link⟩ : FE), ya, yc⟩) := Lib.hid (HYO.out.later HH4.out)
                have H4 : Hid (Below (N + 2) W W4) := Lib.hid (H3.out.trans (HH4.out.mono (by have := H3.out.size; have := HWS.out; omega)))
                have HRWX : Hid (CRow W4 B2 u15 L) := Lib.hid (HRW.out.later (HNB.out _ H4.out))
                have HXZ : Hid (B2 ≤ W4.heap.size) := Lib.hid (by have := H4.out.size; have := HWS.out; have := HZ.out; have := HNW.out; omega)
                have HX4 : Hid (Below B2 wr W4) := Lib.hid ((HNB.out _ H4.out).mono (by have := HZ.out; have := HNW.out; omega))
                have HMD9 : Hid (Mid os bs2 (j + 1) (L ++ [(⟨3, path, ByteArray.empty, ⟨(⟨path, kind, mode, time, data, link⟩ : FE), ya, yc⟩⟩ : CV)]) g') := Lib.hid (HMD.out.add HAB.out HJX.out (by rw [HXJ.out]; exact HNK.out) (⟨3, path, ByteArray.empty, ⟨(⟨path, kind, mode, time, data, link⟩ : FE), ya, yc⟩⟩ : CV) ⟨.inr (.inr (.inl rfl)), (fun h => by cases h), (fun h => by cases h), (fun _ => ⟨rfl, rfl, HXE.out⟩)⟩ HXJ.out.symm (.inl ⟨rfl, rfl⟩))
                obtain ⟨q0, q1, q2, q3, q4, q5, q6, q7, q8⟩ := row9 HGX.out
                dsimp only at q0 q1 q2 q3 q4 q5 q6 q7 q8
                go_wp2_with (first
                  | (at_builtin
                     refine app_at kindCV rfl _ _ rfl B2 u15 L.length L (by rfl) HRWX.out.own (by have := HXZ.out; omega) HLN.out (⟨3, path, ByteArray.empty, ⟨(⟨path, kind, mode, time, data, link⟩ : FE), ya, yc⟩⟩ : CV) _ (by rfl) 1 (by rfl) ?_
                     intro v' w9 h1 h2 h3
                     have H1 := Lib.hid h1
                     have H2 := Lib.hid h2
                     have H3b := Lib.hid h3
                     clear h1 h2 h3))
                have HRW3 : Hid (CRow w9 B2 v' (L ++ [(⟨3, path, ByteArray.empty, ⟨(⟨path, kind, mode, time, data, link⟩ : FE), ya, yc⟩⟩ : CV)])) := Lib.hid (HRWX.out.snoc HYX.out (fun hd ad e => by
                  have h5 := HYF.out ad e
                  refine ⟨by have := HZ.out; have := HNW.out; (try simp only at h5); omega, fun e2 => ?_⟩
                  have h6 := (HRW.out.own.lt _ e2).2
                  have := HNW.out
                  (try simp only at h5)
                  omega) H1.out H2.out H3b.out)
                have HCH : Hid (Below B2 W4 w9) := Lib.hid (((Chg.alloc1 W4 _).trans (Chg.of_grown H2.out (fun q _ e => e)) : Chg (fun q _ => u15.ownBlock = some q) W4 w9).below HXZ.out (fun q i hq e => by have := (HRWX.out.own.lt q e).1; omega))
                have HREL : Hid (Below B2 wr w9) := Lib.hid (HX4.out.trans HCH.out)
                have HF9 : Hid (MapS w9 bf na (entM (findF xa))) := Lib.hid (HFM.out.low HREL.out HLT.out.1)
                have HG9 : Hid (MapS w9 bg na (goneV g')) := Lib.hid (HGM.out.low HREL.out HLT.out.2.1)
                have HS9 : Hid (MapC w9 bs (na + (j + 1)) S') := Lib.hid ((HSC.out.low HREL.out HLT.out.2.2.1).mono (by omega))
                have HR9 : Hid (SrcR w9 B1 B2 S' Src') := Lib.hid (HRS.out.low (fun q _ hq => HREL.out.block q hq))
                have HSM9 := HSM
                have HB9 : Hid (Below w.heap.size w w9) := Lib.hid (HBEL.out.trans (HREL.out.mono HLT.out.2.2.2))
                have HZ9 : Hid (B2 ≤ w9.heap.size) := Lib.hid (Nat.le_trans HZ.out HREL.out.size)
                clear q0 q1 q2 q3 q4 q5 q6 q7 q8
                go_roundw
                case rel => exact ⟨j + 1, g', S', Src', (L ++ [(⟨3, path, ByteArray.empty, ⟨(⟨path, kind, mode, time, data, link⟩ : FE), ya, yc⟩⟩ : CV)]), by omega, by go_num, HF9, HG9, HS9, HR9, HSM9, HMD9, HRW3, HB9, HZ9⟩
                case measure => simp [intOf]; omega
              · rw [hz] at hl
                clear hz
                go_upto_region 29 with fail
                clear hl m0 m1
                have HGX : Hid (W4.heap[A]? = some (.cells (CV.row (⟨3, path, ByteArray.empty, ⟨(⟨path, kind, mode, time, data, link⟩ : FE), ya, yc⟩⟩ : CV)) 114 (0, 0))) := Lib.hid ((HH4.out.block A (Array.getElem?_eq_some_iff.1 HG3.out).1).trans HG3.out)
                have HYX : Hid (FV.ok W4 ⟨(⟨path, kind, mode, time, data, link⟩ : FE), ya, yc⟩) := Lib.hid (HYO.out.later HH4.out)
                have H4 : Hid (Below (N + 2) W W4) := Lib.hid (H3.out.trans (HH4.out.mono (by have := H3.out.size; have := HWS.out; omega)))
                have HRWX : Hid (CRow W4 B2 u15 L) := Lib.hid (HRW.out.later (HNB.out _ H4.out))
                have HXZ : Hid (B2 ≤ W4.heap.size) := Lib.hid (by have := H4.out.size; have := HWS.out; have := HZ.out; have := HNW.out; omega)
                have HX4 : Hid (Below B2 wr W4) := Lib.hid ((HNB.out _ H4.out).mono (by have := HZ.out; have := HNW.out; omega))
                have HMD9 : Hid (Mid os bs2 (j + 1) (L ++ [(⟨3, path, ByteArray.empty, ⟨(⟨path, kind, mode, time, data, link⟩ : FE), ya, yc⟩⟩ : CV)]) g') := Lib.hid (HMD.out.add HAB.out HJX.out (by rw [HXJ.out]; exact HNK.out) (⟨3, path, ByteArray.empty, ⟨(⟨path, kind, mode, time, data, link⟩ : FE), ya, yc⟩⟩ : CV) ⟨.inr (.inr (.inl rfl)), (fun h => by cases h), (fun h => by cases h), (fun _ => ⟨rfl, rfl, HXE.out⟩)⟩ HXJ.out.symm (.inl ⟨rfl, rfl⟩))
                obtain ⟨q0, q1, q2, q3, q4, q5, q6, q7, q8⟩ := row9 HGX.out
                dsimp only at q0 q1 q2 q3 q4 q5 q6 q7 q8
                go_wp2_with (first
                  | (at_builtin
                     refine app_at kindCV rfl _ _ rfl B2 u15 L.length L (by rfl) HRWX.out.own (by have := HXZ.out; omega) HLN.out (⟨3, path, ByteArray.empty, ⟨(⟨path, kind, mode, time, data, link⟩ : FE), ya, yc⟩⟩ : CV) _ (by rfl) 1 (by rfl) ?_
                     intro v' w9 h1 h2 h3
                     have H1 := Lib.hid h1
                     have H2 := Lib.hid h2
                     have H3b := Lib.hid h3
                     clear h1 h2 h3))
                have HRW3 : Hid (CRow w9 B2 v' (L ++ [(⟨3, path, ByteArray.empty, ⟨(⟨path, kind, mode, time, data, link⟩ : FE), ya, yc⟩⟩ : CV)])) := Lib.hid (HRWX.out.snoc HYX.out (fun hd ad e => by
                  have h5 := HYF.out ad e
                  refine ⟨by have := HZ.out; have := HNW.out; (try simp only at h5); omega, fun e2 => ?_⟩
                  have h6 := (HRW.out.own.lt _ e2).2
                  have := HNW.out
                  (try simp only at h5)
                  omega) H1.out H2.out H3b.out)
                have HCH : Hid (Below B2 W4 w9) := Lib.hid (((Chg.alloc1 W4 _).trans (Chg.of_grown H2.out (fun q _ e => e)) : Chg (fun q _ => u15.ownBlock = some q) W4 w9).below HXZ.out (fun q i hq e => by have := (HRWX.out.own.lt q e).1; omega))
                have HREL : Hid (Below B2 wr w9) := Lib.hid (HX4.out.trans HCH.out)
                have HF9 : Hid (MapS w9 bf na (entM (findF xa))) := Lib.hid (HFM.out.low HREL.out HLT.out.1)
                have HG9 : Hid (MapS w9 bg na (goneV g')) := Lib.hid (HGM.out.low HREL.out HLT.out.2.1)
                have HS9 : Hid (MapC w9 bs (na + (j + 1)) S') := Lib.hid ((HSC.out.low HREL.out HLT.out.2.2.1).mono (by omega))
                have HR9 : Hid (SrcR w9 B1 B2 S' Src') := Lib.hid (HRS.out.low (fun q _ hq => HREL.out.block q hq))
                have HSM9 := HSM
                have HB9 : Hid (Below w.heap.size w w9) := Lib.hid (HBEL.out.trans (HREL.out.mono HLT.out.2.2.2))
                have HZ9 : Hid (B2 ≤ w9.heap.size) := Lib.hid (Nat.le_trans HZ.out HREL.out.size)
                clear q0 q1 q2 q3 q4 q5 q6 q7 q8
                go_roundw
                case rel => exact ⟨j + 1, g', S', Src', (L ++ [(⟨3, path, ByteArray.empty, ⟨(⟨path, kind, mode, time, data, link⟩ : FE), ya, yc⟩⟩ : CV)]), by omega, by go_num, HF9, HG9, HS9, HR9, HSM9, HMD9, HRW3, HB9, HZ9⟩
                case measure => simp [intOf]; omega
            | cons s r =>
              obtain ⟨b0, o0, cp, hs1, hs2, hs3, hs4, hs5, hs6, hs7⟩ := HR4s.out.take hsrc
              have HTK := Lib.hid hs7
              have HSB := Lib.hid (And.intro hs2 (And.intro hs3 (And.intro hs4 hs5)))
              have HSRC := Lib.hid hsrc
              rw [hs1] at hl
              have hl : (Instr.lookup 174 (.map (some bs)) (.agg #[.int .i64 mk, .string ms]) false).run Tryz.prog W4 = .ok (.slice (some ⟨b0, o0, none⟩) (r.length + 1) cp) W4 := hl
              have HS1 := Lib.hid hs1
              have hrn : (r.length : Int) + 1 > 0 := by omega
              have HGX0 : Hid (W4.heap[A]? = some (.cells (CV.row (⟨3, path, ByteArray.empty, ⟨(⟨path, kind, mode, time, data, link⟩ : FE), ya, yc⟩⟩ : CV)) 114 (0, 0))) := Lib.hid ((HH4.out.block A (Array.getElem?_eq_some_iff.1 HG3.out).1).trans HG3.out)
              obtain ⟨q0, q1, q2, q3, q4, q5, q6, q7, q8⟩ := row9 HGX0.out
              dsimp only at q0 q1 q2 q3 q4 q5 q6 q7 q8
              have qf : ∀ i, W4.frozen? ⟨A, i, none⟩ = false := fun i => frozen_of_row _ _ _ _ _ HGX0.out
              have HAM : Hid (A < M ∧ B2 ≤ A) := Lib.hid (by
                have h1 := (Array.getElem?_eq_some_iff.1 HG3.out).1
                have := HMN.out; have := HA2.out; have := HZ.out; have := HNW.out
                omega)
              have hAM : A ≠ M := by have := HAM.out; omega
              have hAb : A ≠ b0 := by have := HAM.out; have := HSB.out; omega
              have hl5 : (Instr.lookup 174 (.map (some bs)) (.agg #[.int .i64 mk, .string ms]) false).run Tryz.prog (W4.setCell ⟨A, 0, none⟩ (.int .i64 2)) = .ok (.slice (some ⟨b0, o0, none⟩) (r.length + 1) cp) (W4.setCell ⟨A, 0, none⟩ (.int .i64 2)) := by
                have h1 := (HS4.out.keep (w' := W4.setCell ⟨A, 0, none⟩ (.int .i64 2)) (Below.heap_setCell _ _ _ _ (by have := HAM.out; have := HLT.out; show bs ≠ A; omega))).look1 mk ms HKW.out.1 HKW.out.2
                rw [HS1.out] at h1
                exact h1
              clear hsrc hs1 hs2 hs3 hs4 hs5 hs7
              go_upto_region 27 with fail
              clear hl hl5 m0 m1 q0 q1 q2 q3 q4 q5 q6 q7 q8 qf hs6
              refine wp_over (fun V => Hid (V.heap[A]? = some (.cells (CV.row (⟨2, path, s, ⟨(⟨path, kind, mode, time, data, link⟩ : FE), ya, yc⟩⟩ : CV)) 114 (0, 0))) ∧ Hid (Chg (fun q _ => q = A) W4 V)) ⟨Lib.hid (row9_set HGX0.out s), Lib.hid ((Chg.setCell1 (M := fun q _ => q = A) _ _ _ _ rfl).trans (Chg.setCell1 (M := fun q _ => q = A) _ _ _ _ rfl))⟩ ?_
              rintro W5 ⟨HG5, HC5⟩
              have HC5D : Hid (Chg (fun q _ => q = A) W4 W5.drew) := Lib.hid (HC5.out.trans (Chg.of_heap rfl rfl rfl rfl))
              have HG5D : Hid (W5.drew.heap[A]? = some (.cells (CV.row (⟨2, path, s, ⟨(⟨path, kind, mode, time, data, link⟩ : FE), ya, yc⟩⟩ : CV)) 114 (0, 0))) := Lib.hid HG5.out
              obtain ⟨VD, hVD⟩ := ex_eq W5.drew
              rw [hVD] at HC5D HG5D
              have HM5 : Hid (VD.cell? ⟨M, 0, none⟩ = some (.int .i64 mk) ∧ VD.cell? ⟨M, 1, none⟩ = some (.string ms)) := Lib.hid (by
                have h1 := (HC5D.out.other M HMS.out (fun _ e => hAM e.symm)).trans HCO.out
                exact ⟨(cell_of_row _ _ _ _ _ _ h1).trans rfl, (cell_of_row _ _ _ _ _ _ h1).trans rfl⟩)
              have HS5 : Hid (MapC VD bs (na + j) S') := Lib.hid (HS4.out.keep (HC5D.out.other bs HS4.out.lt (fun _ e => by have := HAM.out; have := HLT.out; omega)))
              have HL5 : Hid ((Instr.lookup 174 (.map (some bs)) (.agg #[.int .i64 mk, .string ms]) false).run Tryz.prog VD = .ok (.slice (some ⟨b0, o0, none⟩) (r.length + 1) cp) VD) := Lib.hid (by
                have h1 := HS5.out.look1 mk ms HKW.out.1 HKW.out.2
                rw [HS1.out] at h1
                exact h1)
              have hsl := fun W => slice1 b0 o0 r.length cp W
              refine Kit.wp_region_lplan (fun V => (V.cell? ⟨M, 0, none⟩ = some (.int .i64 mk) ∧ V.cell? ⟨M, 1, none⟩ = some (.string ms)) ∧ (Instr.lookup 174 (.map (some bs)) (.agg #[.int .i64 mk, .string ms]) false).run Tryz.prog V = .ok (.slice (some ⟨b0, o0, none⟩) (r.length + 1) cp) V) 6 [(true, 0), (true, 1), (true, 2), (true, 3), (true, 4), (true, 5), (false, 6)] (by kernel_rfl) (by kernel_rfl) (by kernel_rfl) (by kernel_rfl) (by rw [hVD]; exact ⟨HM5.out, HL5.out⟩) ?_
              rw [hVD]
              clear hVD
              iterate 6 (refine Kit.lplan_head (by rfl) (by first | exact .inr ⟨by rfl, rfl⟩ | exact .inl ⟨by rfl, fun w' hS => by (dsimp only at hS); go_simp; (try with_reducible rfl)⟩) ?_; (try simp only [Act.put, List.setIfInBounds_toArray, List.set_cons_zero, List.set_cons_succ]))
              obtain ⟨W6, hput, hm6, hg6, hs6⟩ := HS5.out.put (by unfold maxLen; have := HNA.out; omega) mk ms HKW.out.1 HKW.out.2 (.slice (some ⟨b0, if cp = 1 then o0 else o0 + 1, none⟩) r.length (cp - 1))
              refine Kit.lplan_last (by rfl) (by rfl) fun K hK => ?_
              go_simp
              refine hK _ _ ?_
              clear hK hput hsl
              refine Kit.lplan_done ?_
              (try simp only [Act.put, List.setIfInBounds_toArray, List.set_cons_zero, List.set_cons_succ])
              have HM6 := Lib.hid hm6
              have HG6 := Lib.hid hg6
              have HZ6 := Lib.hid hs6
              clear hm6 hg6 hs6
              have HGN6 : Hid (MapS W6 bg na (goneV g')) := Lib.hid (((HGM.out.low HX4.out HLT.out.2.1).keep (HC5D.out.other bg (HGM.out.low HX4.out HLT.out.2.1).lt (fun _ e => by have := HAM.out; have := HLT.out; omega))).grown HG6.out (fun e => HNE.out.2.2 (Option.some.inj e).symm))
              have HGA6 : Hid (W6.heap[A]? = some (.cells (CV.row (⟨2, path, s, ⟨(⟨path, kind, mode, time, data, link⟩ : FE), ya, yc⟩⟩ : CV)) 114 (0, 0))) := Lib.hid ((HG6.out.block A (Array.getElem?_eq_some_iff.1 HG5D.out).1 (fun e => by have := HAM.out; have := HLT.out; have := Option.some.inj e; omega)).trans HG5D.out)
              obtain ⟨o', ho', hop', hom'⟩ := (HSM.out.mem (mk, ms) s (by rw [HSRC.out]; simp)).2
              have HSS : Hid (s.size ≤ maxLen) := Lib.hid (by
                have h1 := (HOKA.out o' ho').vp.len
                rw [hop', bytes_len] at h1
                unfold maxLen
                omega)
              have HOSR : Hid (∃ o ∈ os, o.path = s ∧ o.kind = kind ∧ sameC o (⟨path, kind, mode, time, data, link⟩ : FE) = true) := Lib.hid (by
                obtain ⟨x', hx', hxe'⟩ := List.mem_map.1 (show o' ∈ xa.map FV.e from HOS.out ▸ ho')
                have h1 := movP_same hom' HMVX.out (HOKA.out o' ho') HXE.out (by rw [← hxe']; exact (HXA.out x' hx').dat.2.1) HXO.out.dat.2.1
                exact ⟨o', ho', hop', h1.1, h1.2⟩)
              have HVPS : Hid (VP s.data.toList) := Lib.hid (by have h1 := (HOKA.out o' ho').vp; rw [hop'] at h1; exact h1)
              have HGS : Hid (g' s.data.toList = true) := Lib.hid (HSM.out.mem (mk, ms) s (by rw [HSRC.out]; simp)).1
              clear ho' hop' hom'
              obtain ⟨W7, hdel, hm7, hg7, hs7⟩ := HGN6.out.del (t := 49) (e := 4) Tryz.underlying49 s HSS.out 0
              obtain ⟨q0, q1, q2, q3, q4, q5, q6, q7, q8⟩ := row9 HGA6.out
              dsimp only at q0 q1 q2 q3 q4 q5 q6 q7 q8
              go_upto_region 29 with fail
              clear hdel q0 q1 q2 q3 q4 q5 q6 q7 q8
              have HM7 := Lib.hid hm7
              have HG7 := Lib.hid hg7
              clear hm7 hg7 hs7
              have HC47 : Hid (Chg (fun q _ => q = A ∨ q = bs ∨ q = bg) W4 W7) := Lib.hid (((HC5D.out.mono (fun q _ _ e => .inl e)).trans (Chg.of_grown HG6.out (fun q _ e => .inr (.inl (Option.some.inj e).symm)))).trans (Chg.of_grown HG7.out (fun q _ e => .inr (.inr (Option.some.inj e).symm))))
              have HGX : Hid (W7.heap[A]? = some (.cells (CV.row (⟨2, path, s, ⟨(⟨path, kind, mode, time, data, link⟩ : FE), ya, yc⟩⟩ : CV)) 114 (0, 0))) := Lib.hid ((HG7.out.block A (Array.getElem?_eq_some_iff.1 HGA6.out).1 (fun e => by have := HAM.out; have := HLT.out; have := Option.some.inj e; omega)).trans HGA6.out)
              have HYX : Hid (FV.ok W7 ⟨(⟨path, kind, mode, time, data, link⟩ : FE), ya, yc⟩) := Lib.hid ((HYO.out.later HH4.out).ok_chg HC47.out (fun hd ad e i e2 => by
                have h5 := HYF.out ad e
                have h6 := HYA.out ad e hd
                (try simp only at h5)
                have := HLT.out; have := HZ.out; have := HNW.out
                omega))
              have HRW4 : Hid (CRow W4 B2 u15 L) := Lib.hid (HRW.out.later (HNB.out _ H4.out))
              have HRWX : Hid (CRow W7 B2 u15 L) := Lib.hid (by
                have h1 : CRow VD B2 u15 L := HRW4.out.but HC5D.out (fun e => by have h2 := (HRW.out.own.lt A e).2; have := HA2.out; have := HNW.out; omega) (fun c hc hd ad e e2 => by
                  have h2 := (HRW.out.ok c hc).blk hd ad e
                  have := HA2.out; have := HNW.out
                  omega)
                exact (h1.grown HG6.out (by have := HLT.out; omega)).grown HG7.out (by have := HLT.out; omega))
              have HXZ : Hid (B2 ≤ W7.heap.size) := Lib.hid (by have h1 := HC47.out.size; have h2 := HX4.out.size; have := HZ.out; omega)
              have HMD9 : Hid (Mid os bs2 (j + 1) (L ++ [(⟨2, path, s, ⟨(⟨path, kind, mode, time, data, link⟩ : FE), ya, yc⟩⟩ : CV)]) (fun p => if p = s.data.toList then false else g' p)) := Lib.hid (HMD.out.add HAB.out HJX.out (by rw [HXJ.out]; exact HNK.out) (⟨2, path, s, ⟨(⟨path, kind, mode, time, data, link⟩ : FE), ya, yc⟩⟩ : CV) ⟨.inr (.inl rfl), (fun h => by cases h), (fun _ => ⟨rfl, HVPS.out, HXE.out, fun e => by have h1 := (movP_kind HMVX.out).1; have h2 := (movP_kind HMVX.out).2; have e : kind = 2 := e; (try simp only at h1 h2); omega⟩), (fun h => by rcases h with h | h <;> cases h)⟩ HXJ.out.symm (.inr ⟨rfl, HGS.out, fun p => rfl, HOSR.out⟩))
              obtain ⟨q0, q1, q2, q3, q4, q5, q6, q7, q8⟩ := row9 HGX.out
              dsimp only at q0 q1 q2 q3 q4 q5 q6 q7 q8
              go_wp2_with (first
                | (at_builtin
                   refine app_at kindCV rfl _ _ rfl B2 u15 L.length L (by rfl) HRWX.out.own (by have := HXZ.out; omega) HLN.out (⟨2, path, s, ⟨(⟨path, kind, mode, time, data, link⟩ : FE), ya, yc⟩⟩ : CV) _ (by rfl) 1 (by rfl) ?_
                   intro v' w9 h1 h2 h3
                   have H1 := Lib.hid h1
                   have H2 := Lib.hid h2
                   have H3b := Lib.hid h3
                   clear h1 h2 h3))
              have HRW3 : Hid (CRow w9 B2 v' (L ++ [(⟨2, path, s, ⟨(⟨path, kind, mode, time, data, link⟩ : FE), ya, yc⟩⟩ : CV)])) := Lib.hid (HRWX.out.snoc HYX.out (fun hd ad e => by
                have h5 := HYF.out ad e
                refine ⟨by have := HZ.out; have := HNW.out; (try simp only at h5); omega, fun e2 => ?_⟩
                have h6 := (HRW.out.own.lt _ e2).2
                have := HNW.out
                (try simp only at h5)
                omega) H1.out H2.out H3b.out)
              have HCH : Hid (Below B2 W7 w9) := Lib.hid (((Chg.alloc1 W7 _).trans (Chg.of_grown H2.out (fun q _ e => e)) : Chg (fun q _ => u15.ownBlock = some q) W7 w9).below HXZ.out (fun q i hq e => by have := (HRWX.out.own.lt q e).1; omega))
              have HF9 : Hid (MapS w9 bf na (entM (findF xa))) := Lib.hid ((((HFM.out.low HX4.out HLT.out.1).keep (HC47.out.other bf (HFM.out.low HX4.out HLT.out.1).lt (fun _ e => by have := HAM.out; have := HLT.out; have := HNE.out; omega))).low HCH.out HLT.out.1))
              have HG9 : Hid (MapS w9 bg na (goneV (fun p => if p = s.data.toList then false else g' p))) := Lib.hid ((HM7.out.low HCH.out HLT.out.2.1).congr (fun p => goneV_minus g' s.data.toList p))
              have HS9 : Hid (MapC w9 bs (na + (j + 1)) (fun x => if x = (mk, ms) then some (.slice (some ⟨b0, if cp = 1 then o0 else o0 + 1, none⟩) r.length (cp - 1)) else S' x)) := Lib.hid ((HM6.out.keep (HG7.out.block bs (by have := HM6.out.lt; omega) (fun e => HNE.out.2.2 (Option.some.inj e).symm))).low HCH.out HLT.out.2.2.1)
              have HR9 : Hid (SrcR w9 B1 B2 (fun x => if x = (mk, ms) then some (.slice (some ⟨b0, if cp = 1 then o0 else o0 + 1, none⟩) r.length (cp - 1)) else S' x) (fun x => if x = (mk, ms) then r else Src' x)) := Lib.hid ((HTK.out _ _ (fun e => by
                have h1 := HSB.out.1
                have h2 : r.length ≠ 0 := fun e2 => e (List.eq_nil_of_length_eq_zero e2)
                rw [if_neg (by omega)]) (by have := HSB.out; omega) (by have := HSB.out; omega)).low (fun q hq1 hq2 => (HCH.out.block q hq2).trans (HC47.out.other q (by have := HX4.out.size; have := HZ.out; omega) (fun _ e => by have := HAM.out; have := HB1.out; omega))))
              have HSM9 := Lib.hid (HSM.out.take HAA.out HSRC.out)
              have HBR : Hid (Below w.heap.size w W7) := Lib.hid ((HBEL.out.trans (HX4.out.mono HLT.out.2.2.2)).trans (HC47.out.below (by have := HBEL.out.size; have := HX4.out.size; omega) (fun q i hq e => by have := HAM.out; have := HLT.out; have := HWB.out; omega)))
              have HB9 : Hid (Below w.heap.size w w9) := Lib.hid (HBR.out.trans (HCH.out.mono HLT.out.2.2.2))
              have HZ9 : Hid (B2 ≤ w9.heap.size) := Lib.hid (by have := HCH.out.size; have := HXZ.out; omega)
              clear q0 q1 q2 q3 q4 q5 q6 q7 q8
              go_roundw
              case rel => exact ⟨j + 1, _, _, _, (L ++ [(⟨2, path, s, ⟨(⟨path, kind, mode, time, data, link⟩ : FE), ya, yc⟩⟩ : CV)]), by omega, by go_num, HF9, HG9, HS9, HR9, HSM9, HMD9, HRW3, HB9, HZ9⟩
              case measure => simp [intOf]; omega
      | true =>
        have hk1 : (kindO == kind) = false := by rw [beq_eq_false_iff_ne]; exact fun h => hkk ⟨rfl, h⟩
        clear hkk
        have HNK : Hid (keptB os (⟨path, kind, mode, time, data, link⟩ : FE) = false) := Lib.hid (by
          rw [Bool.eq_false_iff]
          intro h
          rw [HOS.out, kept_find (by rw [← HOS.out]; exact HAA.out)] at h
          obtain ⟨y, h1, h2⟩ := h
          rcases HOV.out with ⟨h3, h4⟩ | ⟨h3, h4⟩
          · have : (none : Option FV) = some y := h3.symm.trans h1
            cases this
          · have h5 := h3.symm.trans h1
            cases h5
            exact HKD.out ⟨h4, h2⟩)
        go_upto_region 22 with fail
        have HDR : Hid (Below (N + 2) W W.drew) := Lib.hid (Below.refl _ _).drew
        apply joinC (F := (fun A ya yc V => Hid (V.heap[A]? = some (.cells (CV.row (⟨3, path, ByteArray.empty, ⟨(⟨path, kind, mode, time, data, link⟩ : FE), ya, yc⟩⟩ : CV)) 114 (0, 0))) ∧ Hid (FV.ok V ⟨(⟨path, kind, mode, time, data, link⟩ : FE), ya, yc⟩) ∧ Hid (FV.off (N + 2) ⟨(⟨path, kind, mode, time, data, link⟩ : FE), ya, yc⟩) ∧ Hid (Below (N + 2) W V) ∧ Hid (N + 2 ≤ A) ∧ Hid (∀ ad, ya = some ad → data ≠ [] → ad.block ≠ A)))
        case main =>
          intro HJ
          refine Kit.wp_region_tplan (fun V => V.cell? ⟨N, 0, none⟩ = some (.string path) ∧ V.cell? ⟨N, 1, none⟩ = some (.int .i64 kind) ∧ V.cell? ⟨N, 2, none⟩ = some (.int .i64 mode) ∧ V.cell? ⟨N, 3, none⟩ = some (.int .i64 time) ∧ V.cell? ⟨N, 4, none⟩ = some (.slice da data.length dc) ∧ V.cell? ⟨N, 5, none⟩ = some (.string link)) (.heads [0, 1, 2] (.op2 3 (.head 4 (.op1 5 (.op1 6 .done))) 5 (.op1 3 (.head 4 (.op1 6 .done))))) (by kernel_rfl) (by kernel_rfl) (by kernel_rfl) (by kernel_rfl) (HC6.out _ HDR.out) ?_
          iterate 3 (refine Kit.tplan_head (by rfl) (by first | exact .inr ⟨by rfl, rfl⟩ | exact .inl ⟨by rfl, fun w' hS => by (dsimp only at hS); go_simp; (try with_reducible rfl)⟩) ?_; (try simp only [Act.put, List.setIfInBounds_toArray, List.set_cons_zero, List.set_cons_succ]))
          obtain ⟨VD, hVD⟩ := ex_eq W.drew
          rw [hVD] at HDR ⊢
          clear hVD
          refine Kit.tplan_op2 ?_ ?_
          rotate_left
          focus (
            refine Kit.tplan_op1 (by rfl) (by rfl) fun K' hK' => ?_
            go_simp
            have HAG : Hid ((VD.alloc (.cells #[.int .i64 0, .string ⟨#[]⟩, .string ⟨#[]⟩, .string ⟨#[]⟩, .int .i64 0, .int .i64 0, .int .i64 0, .slice none 0 0, .string ⟨#[]⟩] 114)).heap[VD.heap.size]? = some (.cells #[.int .i64 0, .string ⟨#[]⟩, .string ⟨#[]⟩, .string ⟨#[]⟩, .int .i64 0, .int .i64 0, .int .i64 0, .slice none 0 0, .string ⟨#[]⟩] 114 (0, 0))) := Lib.hid (heap_alloc_new _ _)
            have HA1 : Hid (Below (N + 2) W (VD.alloc (.cells #[.int .i64 0, .string ⟨#[]⟩, .string ⟨#[]⟩, .string ⟨#[]⟩, .int .i64 0, .int .i64 0, .int .i64 0, .slice none 0 0, .string ⟨#[]⟩] 114))) := Lib.hid (HDR.out.alloc (by have := HDR.out.size; have := HWS.out; omega) _)
            have HA2 : Hid (N + 2 ≤ VD.heap.size) := Lib.hid (by have := HDR.out.size; have := HWS.out; omega)
            have HLAT : Hid (Below VD.heap.size VD (VD.alloc (.cells #[.int .i64 0, .string ⟨#[]⟩, .string ⟨#[]⟩, .string ⟨#[]⟩, .int .i64 0, .int .i64 0, .int .i64 0, .slice none 0 0, .string ⟨#[]⟩] 114))) := Lib.hid ((Below.refl _ _).alloc (Nat.le_refl _) _)
            obtain ⟨VA, hVO⟩ := ex_eq (VD.alloc (.cells #[.int .i64 0, .string ⟨#[]⟩, .string ⟨#[]⟩, .string ⟨#[]⟩, .int .i64 0, .int .i64 0, .int .i64 0, .slice none 0 0, .string ⟨#[]⟩] 114))
            rw [hVO] at HAG HA1 HLAT ⊢
            clear hVO
            obtain ⟨A, hA⟩ := ex_eq VD.heap.size
            rw [hA] at HAG HA2 ⊢
            clear hA HLAT
            refine hK' _ _ (HC6.out _ HA1.out) ?_
            clear hK' K'
            have HAS : Hid (A < VA.heap.size) := Lib.hid (Array.getElem?_eq_some_iff.1 HAG.out).1
            refine Kit.tplan_op1 (by rfl) (by rfl) fun K' hK' => ?_
            go_simp
            go_at_call 82
            refine (HCP.out _ HA1.out).mono ?_
            rintro e VB ⟨y, rfl, hye, hyo, hyf, hyb⟩
            obtain ⟨ye, ya, yc⟩ := y
            obtain rfl : ye = (⟨path, kind, mode, time, data, link⟩ : FE) := hye
            dsimp only [FV.row]
            have HYO := Lib.hid hyo
            have HYF : Hid (FV.off (N + 2) ⟨(⟨path, kind, mode, time, data, link⟩ : FE), ya, yc⟩) := Lib.hid (fun ad e => by have h5 := hyf ad e; have := HA1.out.size; have := HWS.out; (try simp only at h5); omega)
            have HB1 : Hid (Below (N + 2) W VB) := Lib.hid (HA1.out.trans (hyb.mono (by have := HA1.out.size; have := HWS.out; omega)))
            have HYA : Hid (∀ ad, ya = some ad → data ≠ [] → ad.block ≠ A) := Lib.hid (fun ad e hd e2 => by have h5 := hyf ad e; have := HAS.out; (try simp only at h5); omega)
            replace HAG := Lib.hid ((hyb.block A HAS.out).trans HAG.out)
            clear hyo hyf hyb
            refine hK' _ _ (HC6.out _ HB1.out) ?_
            clear hK' K'
            iterate 1 (refine Kit.tplan_head (by rfl) (by first | exact .inr ⟨by rfl, rfl⟩ | exact .inl ⟨by rfl, fun w' hS => by (dsimp only at hS); go_simp; (try with_reducible rfl)⟩) ?_; (try simp only [Act.put, List.setIfInBounds_toArray, List.set_cons_zero, List.set_cons_succ]))
            obtain ⟨z0, z1, z2, z3, z4, z5, z6, z7, z8⟩ := row9 (c := (⟨0, ⟨#[]⟩, ⟨#[]⟩, ⟨⟨⟨#[]⟩, 0, 0, 0, [], ⟨#[]⟩⟩, none, 0⟩⟩ : CV)) HAG.out
            dsimp only at z0 z1 z2 z3 z4 z5 z6 z7 z8
            have zf : ∀ i, VB.frozen? ⟨A, i, none⟩ = false := fun i => frozen_of_row _ _ _ _ _ HAG.out
            refine Kit.tplan_op1 (by rfl) (by rfl) fun K' hK' => ?_
            go_simp
            have HPB : Hid (Below (N + 2) W (putL A 0 [.int .i64 3, .string path, .string ⟨#[]⟩, .string path, .int .i64 kind, .int .i64 mode, .int .i64 time, .slice ya data.length yc, .string link] VB)) := Lib.hid (putL_below HA2.out [.int .i64 3, .string path, .string ⟨#[]⟩, .string path, .int .i64 kind, .int .i64 mode, .int .i64 time, .slice ya data.length yc, .string link] 0 _ HB1.out)
            refine hK' _ _ (HC6.out _ HPB.out) ?_
            clear hK' K'
            refine Kit.tplan_done ?_
            (try simp only [Act.put, List.setIfInBounds_toArray, List.set_cons_zero, List.set_cons_succ])
            exact HJ A ya yc (putL A 0 [.int .i64 3, .string path, .string ⟨#[]⟩, .string path, .int .i64 kind, .int .i64 mode, .int .i64 time, .slice ya data.length yc, .string link] VB) ⟨Lib.hid (putL_full (cur := [.int .i64 0, .string ⟨#[]⟩, .string ⟨#[]⟩, .string ⟨#[]⟩, .int .i64 0, .int .i64 0, .int .i64 0, .slice none 0 0, .string ⟨#[]⟩]) (vs := [.int .i64 3, .string path, .string ⟨#[]⟩, .string path, .int .i64 kind, .int .i64 mode, .int .i64 time, .slice ya data.length yc, .string link]) HAG.out rfl), Lib.hid (HYO.out.ok_chg (M := fun k _ => k = A) (putL_chg (fun i => rfl) _ 0 _ (Chg.refl _ _)) (fun hd ad e i e2 => HYA.out ad e hd e2)), HYF, HPB, HA2, HYA⟩)
          refine Kit.tplan_op1 (by rfl) (by rfl) fun K' hK' => ?_
          go_simp
          go_at_call 82
          refine (HCP.out _ HDR.out).mono ?_
          rintro e VA ⟨y, rfl, hye, hyo, hyf, hyb⟩
          obtain ⟨ye, ya, yc⟩ := y
          obtain rfl : ye = (⟨path, kind, mode, time, data, link⟩ : FE) := hye
          dsimp only [FV.row]
          have HYO := Lib.hid hyo
          have HYF : Hid (FV.off (N + 2) ⟨(⟨path, kind, mode, time, data, link⟩ : FE), ya, yc⟩) := Lib.hid (fun ad e => by have h5 := hyf ad e; have := HDR.out.size; have := HWS.out; (try simp only at h5); omega)
          have HA1 : Hid (Below (N + 2) W VA) := Lib.hid (HDR.out.trans (hyb.mono (by have := HDR.out.size; have := HWS.out; omega)))
          clear hyo hyf hyb
          refine hK' _ _ (HC6.out _ HA1.out) ?_
          clear hK' K'
          iterate 1 (refine Kit.tplan_head (by rfl) (by first | exact .inr ⟨by rfl, rfl⟩ | exact .inl ⟨by rfl, fun w' hS => by (dsimp only at hS); go_simp; (try with_reducible rfl)⟩) ?_; (try simp only [Act.put, List.setIfInBounds_toArray, List.set_cons_zero, List.set_cons_succ]))
          refine Kit.tplan_op1 (by rfl) (by rfl) fun K' hK' => ?_
          go_simp
          have HAG : Hid ((VA.alloc (.cells #[.int .i64 0, .string ⟨#[]⟩, .string ⟨#[]⟩, .string ⟨#[]⟩, .int .i64 0, .int .i64 0, .int .i64 0, .slice none 0 0, .string ⟨#[]⟩] 114)).heap[VA.heap.size]? = some (.cells #[.int .i64 0, .string ⟨#[]⟩, .string ⟨#[]⟩, .string ⟨#[]⟩, .int .i64 0, .int .i64 0, .int .i64 0, .slice none 0 0, .string ⟨#[]⟩] 114 (0, 0))) := Lib.hid (heap_alloc_new _ _)
          have HB1 : Hid (Below (N + 2) W (VA.alloc (.cells #[.int .i64 0, .string ⟨#[]⟩, .string ⟨#[]⟩, .string ⟨#[]⟩, .int .i64 0, .int .i64 0, .int .i64 0, .slice none 0 0, .string ⟨#[]⟩] 114))) := Lib.hid (HA1.out.alloc (by have := HA1.out.size; have := HWS.out; omega) _)
          have HA2 : Hid (N + 2 ≤ VA.heap.size) := Lib.hid (by have := HA1.out.size; have := HWS.out; omega)
          have HLAT : Hid (Below VA.heap.size VA (VA.alloc (.cells #[.int .i64 0, .string ⟨#[]⟩, .string ⟨#[]⟩, .string ⟨#[]⟩, .int .i64 0, .int .i64 0, .int .i64 0, .slice none 0 0, .string ⟨#[]⟩] 114))) := Lib.hid ((Below.refl _ _).alloc (Nat.le_refl _) _)
          obtain ⟨VB, hVO⟩ := ex_eq (VA.alloc (.cells #[.int .i64 0, .string ⟨#[]⟩, .string ⟨#[]⟩, .string ⟨#[]⟩, .int .i64 0, .int .i64 0, .int .i64 0, .slice none 0 0, .string ⟨#[]⟩] 114))
          rw [hVO] at HAG HB1 HLAT ⊢
          clear hVO
          have HYB := HYO
          replace HYO : Hid (FV.ok VB ⟨(⟨path, kind, mode, time, data, link⟩ : FE), ya, yc⟩) := Lib.hid (HYB.out.later HLAT.out)
          have HYA0 : Hid (∀ ad, ya = some ad → data ≠ [] → ad.block < VA.heap.size) := Lib.hid (fun ad e hd => HYB.out.blk hd ad e)
          obtain ⟨A, hA⟩ := ex_eq VA.heap.size
          rw [hA] at HAG HA2 HYA0 ⊢
          clear hA HLAT
          have HYA : Hid (∀ ad, ya = some ad → data ≠ [] → ad.block ≠ A) := Lib.hid (fun ad e hd e2 => by have h5 := HYA0.out ad e hd; omega)
          refine hK' _ _ (HC6.out _ HB1.out) ?_
          clear hK' K'
          obtain ⟨z0, z1, z2, z3, z4, z5, z6, z7, z8⟩ := row9 (c := (⟨0, ⟨#[]⟩, ⟨#[]⟩, ⟨⟨⟨#[]⟩, 0, 0, 0, [], ⟨#[]⟩⟩, none, 0⟩⟩ : CV)) HAG.out
          dsimp only at z0 z1 z2 z3 z4 z5 z6 z7 z8
          have zf : ∀ i, VB.frozen? ⟨A, i, none⟩ = false := fun i => frozen_of_row _ _ _ _ _ HAG.out
          refine Kit.tplan_op1 (by rfl) (by rfl) fun K' hK' => ?_
          go_simp
          have HPB : Hid (Below (N + 2) W (putL A 0 [.int .i64 3, .string path, .string ⟨#[]⟩, .string path, .int .i64 kind, .int .i64 mode, .int .i64 time, .slice ya data.length yc, .string link] VB)) := Lib.hid (putL_below HA2.out [.int .i64 3, .string path, .string ⟨#[]⟩, .string path, .int .i64 kind, .int .i64 mode, .int .i64 time, .slice ya data.length yc, .string link] 0 _ HB1.out)
          refine hK' _ _ (HC6.out _ HPB.out) ?_
          clear hK' K'
          refine Kit.tplan_done ?_
          (try simp only [Act.put, List.setIfInBounds_toArray, List.set_cons_zero, List.set_cons_succ])
          exact HJ A ya yc (putL A 0 [.int .i64 3, .string path, .string ⟨#[]⟩, .string path, .int .i64 kind, .int .i64 mode, .int .i64 time, .slice ya data.length yc, .string link] VB) ⟨Lib.hid (putL_full (cur := [.int .i64 0, .string ⟨#[]⟩, .string ⟨#[]⟩, .string ⟨#[]⟩, .int .i64 0, .int .i64 0, .int .i64 0, .slice none 0 0, .string ⟨#[]⟩]) (vs := [.int .i64 3, .string path, .string ⟨#[]⟩, .string path, .int .i64 kind, .int .i64 mode, .int .i64 time, .slice ya data.length yc, .string link]) HAG.out rfl), Lib.hid (HYO.out.ok_chg (M := fun k _ => k = A) (putL_chg (fun i => rfl) _ 0 _ (Chg.refl _ _)) (fun hd ad e i e2 => HYA.out ad e hd e2)), HYF, HPB, HA2, HYA⟩
        case rest =>
          rintro A ya yc W3 ⟨HG3, HYO, HYF, H3, HA2, HYA⟩
          obtain ⟨c0, c1, c2, c3, c4, c5⟩ := HC6.out _ H3.out
          cases hmv : movP (⟨path, kind, mode, time, data, link⟩ : FE) with
          | none =>
            rw [hmv] at HMV
            go_upto_region 29 with (first
              | (go_at_call 80
                 (with_reducible refine (HMV.out _ H3.out).mono ?_)
                 rintro e W3b ⟨rfl, hb3⟩
                 dsimp only [movV, contV]
                 have HH3 := Lib.hid hb3
                 clear hb3))
            refine wp_over (fun V => Hid (Below W3.heap.size W3 V)) (Lib.hid (HH3.out.alloc HH3.out.size _)) ?_
            rintro W4 HH4
            clear c0 c1 c2 c3 c4 c5
            have HGX : Hid (W4.heap[A]? = some (.cells (CV.row (⟨3, path, ByteArray.empty, ⟨(⟨path, kind, mode, time, data, link⟩ : FE), ya, yc⟩⟩ : CV)) 114 (0, 0))) := Lib.hid ((HH4.out.block A (Array.getElem?_eq_some_iff.1 HG3.out).1).trans HG3.out)
            have HYX : Hid (FV.ok W4 ⟨(⟨path, kind, mode, time, data, link⟩ : FE), ya, yc⟩) := Lib.hid (HYO.out.later HH4.out)
            have H4 : Hid (Below (N + 2) W W4) := Lib.hid (H3.out.trans (HH4.out.mono (by have := H3.out.size; have := HWS.out; omega)))
            have HRWX : Hid (CRow W4 B2 u15 L) := Lib.hid (HRW.out.later (HNB.out _ H4.out))
            have HXZ : Hid (B2 ≤ W4.heap.size) := Lib.hid (by have := H4.out.size; have := HWS.out; have := HZ.out; have := HNW.out; omega)
            have HX4 : Hid (Below B2 wr W4) := Lib.hid ((HNB.out _ H4.out).mono (by have := HZ.out; have := HNW.out; omega))
            have HMD9 : Hid (Mid os bs2 (j + 1) (L ++ [(⟨3, path, ByteArray.empty, ⟨(⟨path, kind, mode, time, data, link⟩ : FE), ya, yc⟩⟩ : CV)]) g') := Lib.hid (HMD.out.add HAB.out HJX.out (by rw [HXJ.out]; exact HNK.out) (⟨3, path, ByteArray.empty, ⟨(⟨path, kind, mode, time, data, link⟩ : FE), ya, yc⟩⟩ : CV) ⟨.inr (.inr (.inl rfl)), (fun h => by cases h), (fun h => by cases h), (fun _ => ⟨rfl, rfl, HXE.out⟩)⟩ HXJ.out.symm (.inl ⟨rfl, rfl⟩))
            obtain ⟨q0, q1, q2, q3, q4, q5, q6, q7, q8⟩ := row9 HGX.out
            dsimp only at q0 q1 q2 q3 q4 q5 q6 q7 q8
            go_wp2_with (first
              | (at_builtin
                 refine app_at kindCV rfl _ _ rfl B2 u15 L.length L (by rfl) HRWX.out.own (by have := HXZ.out; omega) HLN.out (⟨3, path, ByteArray.empty, ⟨(⟨path, kind, mode, time, data, link⟩ : FE), ya, yc⟩⟩ : CV) _ (by rfl) 1 (by rfl) ?_
                 intro v' w9 h1 h2 h3
                 have H1 := Lib.hid h1
                 have H2 := Lib.hid h2
                 have H3b := Lib.hid h3
                 clear h1 h2 h3))
            have HRW3 : Hid (CRow w9 B2 v' (L ++ [(⟨3, path, ByteArray.empty, ⟨(⟨path, kind, mode, time, data, link⟩ : FE), ya, yc⟩⟩ : CV)])) := Lib.hid (HRWX.out.snoc HYX.out (fun hd ad e => by
              have h5 := HYF.out ad e
              refine ⟨by have := HZ.out; have := HNW.out; (try simp only at h5); omega, fun e2 => ?_⟩
              have h6 := (HRW.out.own.lt _ e2).2
              have := HNW.out
              (try simp only at h5)
              omega) H1.out H2.out H3b.out)
            have HCH : Hid (Below B2 W4 w9) := Lib.hid (((Chg.alloc1 W4 _).trans (Chg.of_grown H2.out (fun q _ e => e)) : Chg (fun q _ => u15.ownBlock = some q) W4 w9).below HXZ.out (fun q i hq e => by have := (HRWX.out.own.lt q e).1; omega))
            have HREL : Hid (Below B2 wr w9) := Lib.hid (HX4.out.trans HCH.out)
            have HF9 : Hid (MapS w9 bf na (entM (findF xa))) := Lib.hid (HFM.out.low HREL.out HLT.out.1)
            have HG9 : Hid (MapS w9 bg na (goneV g')) := Lib.hid (HGM.out.low HREL.out HLT.out.2.1)
            have HS9 : Hid (MapC w9 bs (na + (j + 1)) S') := Lib.hid ((HSC.out.low HREL.out HLT.out.2.2.1).mono (by omega))
            have HR9 : Hid (SrcR w9 B1 B2 S' Src') := Lib.hid (HRS.out.low (fun q _ hq => HREL.out.block q hq))
            have HSM9 := HSM
            have HB9 : Hid (Below w.heap.size w w9) := Lib.hid (HBEL.out.trans (HREL.out.mono HLT.out.2.2.2))
            have HZ9 : Hid (B2 ≤ w9.heap.size) := Lib.hid (Nat.le_trans HZ.out HREL.out.size)
            clear q0 q1 q2 q3 q4 q5 q6 q7 q8
            go_roundw
            case rel => exact ⟨j + 1, g', S', Src', (L ++ [(⟨3, path, ByteArray.empty, ⟨(⟨path, kind, mode, time, data, link⟩ : FE), ya, yc⟩⟩ : CV)]), by omega, by go_num, HF9, HG9, HS9, HR9, HSM9, HMD9, HRW3, HB9, HZ9⟩
            case measure => simp [intOf]; omega
          | some mm =>
            obtain ⟨mk, ms⟩ := mm
            rw [hmv] at HMV
            have HMVX := Lib.hid hmv
            clear hmv
            go_upto_region 24 with (first
              | (go_at_call 80
                 (with_reducible refine (HMV.out _ H3.out).mono ?_)
                 rintro e W3b ⟨rfl, hb3⟩
                 dsimp only [movV, contV]
                 have HH3 := Lib.hid hb3
                 clear hb3))
            refine wp_over (fun V => Hid (V.heap[W3b.heap.size]? = some (.cells #[.int .i64 mk, .string ms] 176 (0, 0))) ∧ Hid (Below W3.heap.size W3 V) ∧ Hid (W3b.heap.size < V.heap.size)) ⟨Lib.hid (heap_alloc_new _ _), Lib.hid (HH3.out.alloc HH3.out.size _), Lib.hid (by simp)⟩ ?_
            rintro W4 ⟨HCO, HH4, HMS⟩
            clear c0 c1 c2 c3 c4 c5
            obtain ⟨M, hM⟩ := ex_eq W3b.heap.size
            rw [hM] at HCO HMS ⊢
            have HMN : Hid (W3.heap.size ≤ M) := Lib.hid (by rw [← hM]; exact HH3.out.size)
            clear hM
            have H4 : Hid (Below (N + 2) W W4) := Lib.hid (H3.out.trans (HH4.out.mono (by have := H3.out.size; have := HWS.out; omega)))
            have HX4 : Hid (Below B2 wr W4) := Lib.hid ((HNB.out _ H4.out).mono (by have := HZ.out; have := HNW.out; omega))
            have HS4 : Hid (MapC W4 bs (na + j) S') := Lib.hid (HSC.out.low HX4.out HLT.out.2.2.1)
            have HR4s : Hid (SrcR W4 B1 B2 S' Src') := Lib.hid (HRS.out.low (fun q _ hq => HX4.out.block q hq))
            have HKW : Hid ((Lit.int .i64 mk).wf = true ∧ ms.size ≤ maxLen) := Lib.hid (by
              have h1 := (movP_kind HMVX.out).2
              refine ⟨wf64 (by (try simp only at h1); omega) (by (try simp only at h1); omega), size_maxLen ?_⟩
              have h2 := HMVX.out
              unfold movP at h2
              split at h2
              · cases h2
                rw [strB_size _ HXO.out.dat.2.1]
                exact HXO.out.sd
              · split at h2
                · cases h2
                  exact HXO.out.sl
                · cases h2)
            have hl := HS4.out.look1 mk ms HKW.out.1 HKW.out.2
            have m0 : W4.cell? ⟨M, 0, none⟩ = some (.int .i64 mk) := (cell_of_row _ _ _ _ _ _ HCO.out).trans rfl
            have m1 : W4.cell? ⟨M, 1, none⟩ = some (.string ms) := (cell_of_row _ _ _ _ _ _ HCO.out).trans rfl
            cases hsrc : Src' (mk, ms) with
            | nil =>
              have hz : (S' (mk, ms)).getD (.slice none 0 0) = .slice none 0 0 ∨ ∃ b0 o0 cp, (S' (mk, ms)).getD (.slice none 0 0) = .slice (some ⟨b0, o0, none⟩) 0 cp := by
                rcases HR4s.out (mk, ms) with ⟨h, _⟩ | ⟨b0, o0, cp, h, _⟩
                · exact .inl h
                · refine .inr ⟨b0, o0, cp, ?_⟩
                  rw [h, hsrc]
                  rfl
              clear hsrc
              rcases hz with hz | ⟨b0, o0, cp, hz⟩
              · rw [hz] at hl
                clear hz
                go_upto_region 29 with fail
                clear hl m0 m1
                have HGX : Hid (W4.heap[A]? = some (.cells (CV.row (⟨3, path, ByteArray.empty, ⟨(⟨path, kind, mode, time, data, link⟩ : FE), ya, yc⟩⟩ : CV)) 114 (0, 0))) := Lib.hid ((HH4.out.block A (Array.getElem?_eq_some_iff.1 HG3.out).1).trans HG3.out)
                have HYX : Hid (FV.ok W4 ⟨(⟨path, kind, mode, time, data, link⟩ : FE), ya, yc⟩) := Lib.hid (HYO.out.later HH4.out)
                have H4 : Hid (Below (N + 2) W W4) := Lib.hid (H3.out.trans (HH4.out.mono (by have := H3.out.size; have := HWS.out; omega)))
                have HRWX : Hid (CRow W4 B2 u15 L) := Lib.hid (HRW.out.later (HNB.out _ H4.out))
                have HXZ : Hid (B2 ≤ W4.heap.size) := Lib.hid (by have := H4.out.size; have := HWS.out; have := HZ.out; have := HNW.out; omega)
                have HX4 : Hid (Below B2 wr W4) := Lib.hid ((HNB.out _ H4.out).mono (by have := HZ.out; have := HNW.out; omega))
                have HMD9 : Hid (Mid os bs2 (j + 1) (L ++ [(⟨3, path, ByteArray.empty, ⟨(⟨path, kind, mode, time, data, link⟩ : FE), ya, yc⟩⟩ : CV)]) g') := Lib.hid (HMD.out.add HAB.out HJX.out (by rw [HXJ.out]; exact HNK.out) (⟨3, path, ByteArray.empty, ⟨(⟨path, kind, mode, time, data, link⟩ : FE), ya, yc⟩⟩ : CV) ⟨.inr (.inr (.inl rfl)), (fun h => by cases h), (fun h => by cases h), (fun _ => ⟨rfl, rfl, HXE.out⟩)⟩ HXJ.out.symm (.inl ⟨rfl, rfl⟩))
                obtain ⟨q0, q1, q2, q3, q4, q5, q6, q7, q8⟩ := row9 HGX.out
                dsimp only at q0 q1 q2 q3 q4 q5 q6 q7 q8
                go_wp2_with (first
                  | (at_builtin
                     refine app_at kindCV rfl _ _ rfl B2 u15 L.length L (by rfl) HRWX.out.own (by have := HXZ.out; omega) HLN.out (⟨3, path, ByteArray.empty, ⟨(⟨path, kind, mode, time, data, link⟩ : FE), ya, yc⟩⟩ : CV) _ (by rfl) 1 (by rfl) ?_
                     intro v' w9 h1 h2 h3
                     have H1 := Lib.hid h1
                     have H2 := Lib.hid h2
                     have H3b := Lib.hid h3
                     clear h1 h2 h3))
                have HRW3 : Hid (CRow w9 B2 v' (L ++ [(⟨3, path, ByteArray.empty, ⟨(⟨path, kind, mode, time, data, link⟩ : FE), ya, yc⟩⟩ : CV)])) := Lib.hid (HRWX.out.snoc HYX.out (fun hd ad e => by
                  have h5 := HYF.out ad e
                  refine ⟨by have := HZ.out; have := HNW.out; (try simp only at h5); omega, fun e2 => ?_⟩
                  have h6 := (HRW.out.own.lt _ e2).2
                  have := HNW.out
                  (try simp only at h5)
                  omega) H1.out H2.out H3b.out)
                have HCH : Hid (Below B2 W4 w9) := Lib.hid (((Chg.alloc1 W4 _).trans (Chg.of_grown H2.out (fun q _ e => e)) : Chg (fun q _ => u15.ownBlock = some q) W4 w9).below HXZ.out (fun q i hq e => by have := (HRWX.out.own.lt q e).1; omega))
                have HREL : Hid (Below B2 wr w9) := Lib.hid (HX4.out.trans HCH.out)
                have HF9 : Hid (MapS w9 bf na (entM (findF xa))) := Lib.hid (HFM.out.low HREL.out HLT.out.1)
                have HG9 : Hid (MapS w9 bg na (goneV g')) := Lib.hid (HGM.out.low HREL.out HLT.out.2.1)
                have HS9 : Hid (MapC w9 bs (na + (j + 1)) S') := Lib.hid ((HSC.out.low HREL.out HLT.out.2.2.1).mono (by omega))
                have HR9 : Hid (SrcR w9 B1 B2 S' Src') := Lib.hid (HRS.out.low (fun q _ hq => HREL.out.block q hq))
                have HSM9 := HSM
                have HB9 : Hid (Below w.heap.size w w9) := Lib.hid (HBEL.out.trans (HREL.out.mono HLT.out.2.2.2))
                have HZ9 : Hid (B2 ≤ w9.heap.size) := Lib.hid (Nat.le_trans HZ.out HREL.out.size)
                clear q0 q1 q2 q3 q4 q5 q6 q7 q8
                go_roundw
                case rel => exact ⟨j + 1, g', S', Src', (L ++ [(⟨3, path, ByteArray.empty, ⟨(⟨path, kind, mode, time, data, link⟩ : FE), ya, yc⟩⟩ : CV)]), by omega, by go_num, HF9, HG9, HS9, HR9, HSM9, HMD9, HRW3, HB9, HZ9⟩
                case measure => simp [intOf]; omega
              · rw [hz] at hl
                clear hz
                go_upto_region 29 with fail
                clear hl m0 m1
                have HGX : Hid (W4.heap[A]? = some (.cells (CV.row (⟨3, path, ByteArray.empty, ⟨(⟨path, kind, mode, time, data, link⟩ : FE), ya, yc⟩⟩ : CV)) 114 (0, 0))) := Lib.hid ((HH4.out.block A (Array.getElem?_eq_some_iff.1 HG3.out).1).trans HG3.out)
                have HYX : Hid (FV.ok W4 ⟨(⟨path, kind, mode, time, data, link⟩ : FE), ya, yc⟩) := Lib.hid (HYO.out.later HH4.out)
                have H4 : Hid (Below (N + 2) W W4) := Lib.hid (H3.out.trans (HH4.out.mono (by have := H3.out.size; have := HWS.out; omega)))
                have HRWX : Hid (CRow W4 B2 u15 L) := Lib.hid (HRW.out.later (HNB.out _ H4.out))
                have HXZ : Hid (B2 ≤ W4.heap.size) := Lib.hid (by have := H4.out.size; have := HWS.out; have := HZ.out; have := HNW.out; omega)
                have HX4 : Hid (Below B2 wr W4) := Lib.hid ((HNB.out _ H4.out).mono (by have := HZ.out; have := HNW.out; omega))
                have HMD9 : Hid (Mid os bs2 (j + 1) (L ++ [(⟨3, path, ByteArray.empty, ⟨(⟨path, kind, mode, time, data, link⟩ : FE), ya, yc⟩⟩ : CV)]) g') := Lib.hid (HMD.out.add HAB.out HJX.out (by rw [HXJ.out]; exact HNK.out) (⟨3, path, ByteArray.empty, ⟨(⟨path, kind, mode, time, data, link⟩ : FE), ya, yc⟩⟩ : CV) ⟨.inr (.inr (.inl rfl)), (fun h => by cases h), (fun h => by cases h), (fun _ => ⟨rfl, rfl, HXE.out⟩)⟩ HXJ.out.symm (.inl ⟨rfl, rfl⟩))
                obtain ⟨q0, q1, q2, q3, q4, q5, q6, q7, q8⟩ := row9 HGX.out
                dsimp only at q0 q1 q2 q3 q4 q5 q6 q7 q8
                go_wp2_with (first
                  | (at_builtin
                     refine app_at kindCV rfl _ _ rfl B2 u15 L.length L (by rfl) HRWX.out.own (by have := HXZ.out; omega) HLN.out (⟨3, path, ByteArray.empty, ⟨(⟨path, kind, mode, time, data, link⟩ : FE), ya, yc⟩⟩ : CV) _ (by rfl) 1 (by rfl) ?_
                     intro v' w9 h1 h2 h3
                     have H1 := Lib.hid h1
                     have H2 := Lib.hid h2
                     have H3b := Lib.hid h3
                     clear h1 h2 h3))
                have HRW3 : Hid (CRow w9 B2 v' (L ++ [(⟨3, path, ByteArray.empty, ⟨(⟨path, kind, mode, time, data, link⟩ : FE), ya, yc⟩⟩ : CV)])) := Lib.hid (HRWX.out.snoc HYX.out (fun hd ad e => by
                  have h5 := HYF.out ad e
                  refine ⟨by have := HZ.out; have := HNW.out; (try simp only at h5); omega, fun e2 => ?_⟩
                  have h6 := (HRW.out.own.lt _ e2).2
                  have := HNW.out
                  (try simp only at h5)
                  omega) H1.out H2.out H3b.out)
                have HCH : Hid (Below B2 W4 w9) := Lib.hid (((Chg.alloc1 W4 _).trans (Chg.of_grown H2.out (fun q _ e => e)) : Chg (fun q _ => u15.ownBlock = some q) W4 w9).below HXZ.out (fun q i hq e => by have := (HRWX.out.own.lt q e).1; omega))
                have HREL : Hid (Below B2 wr w9) := Lib.hid (HX4.out.trans HCH.out)
                have HF9 : Hid (MapS w9 bf na (entM (findF xa))) := Lib.hid (HFM.out.low HREL.out HLT.out.1)
                have HG9 : Hid (MapS w9 bg na (goneV g')) := Lib.hid (HGM.out.low HREL.out HLT.out.2.1)
                have HS9 : Hid (MapC w9 bs (na + (j + 1)) S') := Lib.hid ((HSC.out.low HREL.out HLT.out.2.2.1).mono (by omega))
                have HR9 : Hid (SrcR w9 B1 B2 S' Src') := Lib.hid (HRS.out.low (fun q _ hq => HREL.out.block q hq))
                have HSM9 := HSM
                have HB9 : Hid (Below w.heap.size w w9) := Lib.hid (HBEL.out.trans (HREL.out.mono HLT.out.2.2.2))
                have HZ9 : Hid (B2 ≤ w9.heap.size) := Lib.hid (Nat.le_trans HZ.out HREL.out.size)
                clear q0 q1 q2 q3 q4 q5 q6 q7 q8
                go_roundw
                case rel => exact ⟨j + 1, g', S', Src', (L ++ [(⟨3, path, ByteArray.empty, ⟨(⟨path, kind, mode, time, data, link⟩ : FE), ya, yc⟩⟩ : CV)]), by omega, by go_num, HF9, HG9, HS9, HR9, HSM9, HMD9, HRW3, HB9, HZ9⟩
                case measure => simp [intOf]; omega
            | cons s r =>
              obtain ⟨b0, o0, cp, hs1, hs2, hs3, hs4, hs5, hs6, hs7⟩ := HR4s.out.take hsrc
              have HTK := Lib.hid hs7
              have HSB := Lib.hid (And.intro hs2 (And.intro hs3 (And.intro hs4 hs5)))
              have HSRC := Lib.hid hsrc
              rw [hs1] at hl
              have hl : (Instr.lookup 174 (.map (some bs)) (.agg #[.int .i64 mk, .string ms]) false).run Tryz.prog W4 = .ok (.slice (some ⟨b0, o0, none⟩) (r.length + 1) cp) W4 := hl
              have HS1 := Lib.hid hs1
              have hrn : (r.length : Int) + 1 > 0 := by omega
              have HGX0 : Hid (W4.heap[A]? = some (.cells (CV.row (⟨3, path, ByteArray.empty, ⟨(⟨path, kind, mode, time, data, link⟩ : FE), ya, yc⟩⟩ : CV)) 114 (0, 0))) := Lib.hid ((HH4.out.block A (Array.getElem?_eq_some_iff.1 HG3.out).1).trans HG3.out)
              obtain ⟨q0, q1, q2, q3, q4, q5, q6, q7, q8⟩ := row9 HGX0.out
              dsimp only at q0 q1 q2 q3 q4 q5 q6 q7 q8
              have qf : ∀ i, W4.frozen? ⟨A, i, none⟩ = false := fun i => frozen_of_row _ _ _ _ _ HGX0.out
              have HAM : Hid (A < M ∧ B2 ≤ A) := Lib.hid (by
                have h1 := (Array.getElem?_eq_some_iff.1 HG3.out).1
                have := HMN.out; have := HA2.out; have := HZ.out; have := HNW.out
                omega)
              have hAM : A ≠ M := by have := HAM.out; omega
              have hAb : A ≠ b0 := by have := HAM.out; have := HSB.out; omega
              have hl5 : (Instr.lookup 174 (.map (some bs)) (.agg #[.int .i64 mk, .string ms]) false).run Tryz.prog (W4.setCell ⟨A, 0, none⟩ (.int .i64 2)) = .ok (.slice (some ⟨b0, o0, none⟩) (r.length + 1) cp) (W4.setCell ⟨A, 0, none⟩ (.int .i64 2)) := by
                have h1 := (HS4.out.keep (w' := W4.setCell ⟨A, 0, none⟩ (.int .i64 2)) (Below.heap_setCell _ _ _ _ (by have := HAM.out; have := HLT.out; show bs ≠ A; omega))).look1 mk ms HKW.out.1 HKW.out.2
                rw [HS1.out] at h1
                exact h1
              clear hsrc hs1 hs2 hs3 hs4 hs5 hs7
              go_upto_region 27 with fail
              clear hl hl5 m0 m1 q0 q1 q2 q3 q4 q5 q6 q7 q8 qf hs6
              refine wp_over (fun V => Hid (V.heap[A]? = some (.cells (CV.row (⟨2, path, s, ⟨(⟨path, kind, mode, time, data, link⟩ : FE), ya, yc⟩⟩ : CV)) 114 (0, 0))) ∧ Hid (Chg (fun q _ => q = A) W4 V)) ⟨Lib.hid (row9_set HGX0.out s), Lib.hid ((Chg.setCell1 (M := fun q _ => q = A) _ _ _ _ rfl).trans (Chg.setCell1 (M := fun q _ => q = A) _ _ _ _ rfl))⟩ ?_
              rintro W5 ⟨HG5, HC5⟩
              have HC5D : Hid (Chg (fun q _ => q = A) W4 W5.drew) := Lib.hid (HC5.out.trans (Chg.of_heap rfl rfl rfl rfl))
              have HG5D : Hid (W5.drew.heap[A]? = some (.cells (CV.row (⟨2, path, s, ⟨(⟨path, kind, mode, time, data, link⟩ : FE), ya, yc⟩⟩ : CV)) 114 (0, 0))) := Lib.hid HG5.out
              obtain ⟨VD, hVD⟩ := ex_eq W5.drew
              rw [hVD] at HC5D HG5D
              have HM5 : Hid (VD.cell? ⟨M, 0, none⟩ = some (.int .i64 mk) ∧ VD.cell? ⟨M, 1, none⟩ = some (.string ms)) := Lib.hid (by
                have h1 := (HC5D.out.other M HMS.out (fun _ e => hAM e.symm)).trans HCO.out
                exact ⟨(cell_of_row _ _ _ _ _ _ h1).trans rfl, (cell_of_row _ _ _ _ _ _ h1).trans rfl⟩)
              have HS5 : Hid (MapC VD bs (na + j) S') := Lib.hid (HS4.out.keep (HC5D.out.other bs HS4.out.lt (fun _ e => by have := HAM.out; have := HLT.out; omega)))
              have HL5 : Hid ((Instr.lookup 174 (.map (some bs)) (.agg #[.int .i64 mk, .string ms]) false).run Tryz.prog VD = .ok (.slice (some ⟨b0, o0, none⟩) (r.length + 1) cp) VD) := Lib.hid (by
                have h1 := HS5.out.look1 mk ms HKW.out.1 HKW.out.2
                rw [HS1.out] at h1
                exact h1)
              have hsl := fun W => slice1 b0 o0 r.length cp W
              refine Kit.wp_region_lplan (fun V => (V.cell? ⟨M, 0, none⟩ = some (.int .i64 mk) ∧ V.cell? ⟨M, 1, none⟩ = some (.string ms)) ∧ (Instr.lookup 174 (.map (some bs)) (.agg #[.int .i64 mk, .string ms]) false).run Tryz.prog V = .ok (.slice (some ⟨b0, o0, none⟩) (r.length + 1) cp) V) 6 [(true, 0), (true, 1), (true, 2), (true, 3), (true, 4), (true, 5), (false, 6)] (by kernel_rfl) (by kernel_rfl) (by kernel_rfl) (by kernel_rfl) (by rw [hVD]; exact ⟨HM5.out, HL5.out⟩) ?_
              rw [hVD]
              clear hVD
              iterate 6 (refine Kit.lplan_head (by rfl) (by first | exact .inr ⟨by rfl, rfl⟩ | exact .inl ⟨by rfl, fun w' hS => by (dsimp only at hS); go_simp; (try with_reducible rfl)⟩) ?_; (try simp only [Act.put, List.setIfInBounds_toArray, List.set_cons_zero, List.set_cons_succ]))
              obtain ⟨W6, hput, hm6, hg6, hs6⟩ := HS5.out.put (by unfold maxLen; have := HNA.out; omega) mk ms HKW.out.1 HKW.out.2 (.slice (some ⟨b0, if cp = 1 then o0 else o0 + 1, none⟩) r.length (cp - 1))
              refine Kit.lplan_last (by rfl) (by rfl) fun K hK => ?_
              go_simp
              refine hK _ _ ?_
              clear hK hput hsl
              refine Kit.lplan_done ?_
              (try simp only [Act.put, List.setIfInBounds_toArray, List.set_cons_zero, List.set_cons_succ])
              have HM6 := Lib.hid hm6
              have HG6 := Lib.hid hg6
              have HZ6 := Lib.hid hs6
              clear hm6 hg6 hs6
              have HGN6 : Hid (MapS W6 bg na (goneV g')) := Lib.hid (((HGM.out.low HX4.out HLT.out.2.1).keep (HC5D.out.other bg (HGM.out.low HX4.out HLT.out.2.1).lt (fun _ e => by have := HAM.out; have := HLT.out; omega))).grown HG6.out (fun e => HNE.out.2.2 (Option.some.inj e).symm))
              have HGA6 : Hid (W6.heap[A]? = some (.cells (CV.row (⟨2, path, s, ⟨(⟨path, kind, mode, time, data, link⟩ : FE), ya, yc⟩⟩ : CV)) 114 (0, 0))) := Lib.hid ((HG6.out.block A (Array.getElem?_eq_some_iff.1 HG5D.out).1 (fun e => by have := HAM.out; have := HLT.out; have := Option.some.inj e; omega)).trans HG5D.out)
              obtain ⟨o', ho', hop', hom'⟩ := (HSM.out.mem (mk, ms) s (by rw [HSRC.out]; simp)).2
              have HSS : Hid (s.size ≤ maxLen) := Lib.hid (by
                have h1 := (HOKA.out o' ho').vp.len
                rw [hop', bytes_len] at h1
                unfold maxLen
                omega)
              have HOSR : Hid (∃ o ∈ os, o.path = s ∧ o.kind = kind ∧ sameC o (⟨path, kind, mode, time, data, link⟩ : FE) = true) := Lib.hid (by
                obtain ⟨x', hx', hxe'⟩ := List.mem_map.1 (show o' ∈ xa.map FV.e from HOS.out ▸ ho')
                have h1 := movP_same hom' HMVX.out (HOKA.out o' ho') HXE.out (by rw [← hxe']; exact (HXA.out x' hx').dat.2.1) HXO.out.dat.2.1
                exact ⟨o', ho', hop', h1.1, h1.2⟩)
              have HVPS : Hid (VP s.data.toList) := Lib.hid (by have h1 := (HOKA.out o' ho').vp; rw [hop'] at h1; exact h1)
              have HGS : Hid (g' s.data.toList = true) := Lib.hid (HSM.out.mem (mk, ms) s (by rw [HSRC.out]; simp)).1
              clear ho' hop' hom'
              obtain ⟨W7, hdel, hm7, hg7, hs7⟩ := HGN6.out.del (t := 49) (e := 4) Tryz.underlying49 s HSS.out 0
              obtain ⟨q0, q1, q2, q3, q4, q5, q6, q7, q8⟩ := row9 HGA6.out
              dsimp only at q0 q1 q2 q3 q4 q5 q6 q7 q8
              go_upto_region 29 with fail
              clear hdel q0 q1 q2 q3 q4 q5 q6 q7 q8
              have HM7 := Lib.hid hm7
              have HG7 := Lib.hid hg7
              clear hm7 hg7 hs7
              have HC47 : Hid (Chg (fun q _ => q = A ∨ q = bs ∨ q = bg) W4 W7) := Lib.hid (((HC5D.out.mono (fun q _ _ e => .inl e)).trans (Chg.of_grown HG6.out (fun q _ e => .inr (.inl (Option.some.inj e).symm)))).trans (Chg.of_grown HG7.out (fun q _ e => .inr (.inr (Option.some.inj e).symm))))
              have HGX : Hid (W7.heap[A]? = some (.cells (CV.row (⟨2, path, s, ⟨(⟨path, kind, mode, time, data, link⟩ : FE), ya, yc⟩⟩ : CV)) 114 (0, 0))) := Lib.hid ((HG7.out.block A (Array.getElem?_eq_some_iff.1 HGA6.out).1 (fun e => by have := HAM.out; have := HLT.out; have := Option.some.inj e; omega)).trans HGA6.out)
              have HYX : Hid (FV.ok W7 ⟨(⟨path, kind, mode, time, data, link⟩ : FE), ya, yc⟩) := Lib.hid ((HYO.out.later HH4.out).ok_chg HC47.out (fun hd ad e i e2 => by
                have h5 := HYF.out ad e
                have h6 := HYA.out ad e hd
                (try simp only at h5)
                have := HLT.out; have := HZ.out; have := HNW.out
                omega))
              have HRW4 : Hid (CRow W4 B2 u15 L) := Lib.hid (HRW.out.later (HNB.out _ H4.out))
              have HRWX : Hid (CRow W7 B2 u15 L) := Lib.hid (by
                have h1 : CRow VD B2 u15 L := HRW4.out.but HC5D.out (fun e => by have h2 := (HRW.out.own.lt A e).2; have := HA2.out; have := HNW.out; omega) (fun c hc hd ad e e2 => by
                  have h2 := (HRW.out.ok c hc).blk hd ad e
                  have := HA2.out; have := HNW.out
                  omega)
                exact (h1.grown HG6.out (by have := HLT.out; omega)).grown HG7.out (by have := HLT.out; omega))
              have HXZ : Hid (B2 ≤ W7.heap.size) := Lib.hid (by have h1 := HC47.out.size; have h2 := HX4.out.size; have := HZ.out; omega)
              have HMD9 : Hid (Mid os bs2 (j + 1) (L ++ [(⟨2, path, s, ⟨(⟨path, kind, mode, time, data, link⟩ : FE), ya, yc⟩⟩ : CV)]) (fun p => if p = s.data.toList then false else g' p)) := Lib.hid (HMD.out.add HAB.out HJX.out (by rw [HXJ.out]; exact HNK.out) (⟨2, path, s, ⟨(⟨path, kind, mode, time, data, link⟩ : FE), ya, yc⟩⟩ : CV) ⟨.inr (.inl rfl), (fun h => by cases h), (fun _ => ⟨rfl, HVPS.out, HXE.out, fun e => by have h1 := (movP_kind HMVX.out).1; have h2 := (movP_kind HMVX.out).2; have e : kind = 2 := e; (try simp only at h1 h2); omega⟩), (fun h => by rcases h with h | h <;> cases h)⟩ HXJ.out.symm (.inr ⟨rfl, HGS.out, fun p => rfl, HOSR.out⟩))
              obtain ⟨q0, q1, q2, q3, q4, q5, q6, q7, q8⟩ := row9 HGX.out
              dsimp only at q0 q1 q2 q3 q4 q5 q6 q7 q8
              go_wp2_with (first
                | (at_builtin
                   refine app_at kindCV rfl _ _ rfl B2 u15 L.length L (by rfl) HRWX.out.own (by have := HXZ.out; omega) HLN.out (⟨2, path, s, ⟨(⟨path, kind, mode, time, data, link⟩ : FE), ya, yc⟩⟩ : CV) _ (by rfl) 1 (by rfl) ?_
                   intro v' w9 h1 h2 h3
                   have H1 := Lib.hid h1
                   have H2 := Lib.hid h2
                   have H3b := Lib.hid h3
                   clear h1 h2 h3))
              have HRW3 : Hid (CRow w9 B2 v' (L ++ [(⟨2, path, s, ⟨(⟨path, kind, mode, time, data, link⟩ : FE), ya, yc⟩⟩ : CV)])) := Lib.hid (HRWX.out.snoc HYX.out (fun hd ad e => by
                have h5 := HYF.out ad e
                refine ⟨by have := HZ.out; have := HNW.out; (try simp only at h5); omega, fun e2 => ?_⟩
                have h6 := (HRW.out.own.lt _ e2).2
                have := HNW.out
                (try simp only at h5)
                omega) H1.out H2.out H3b.out)
              have HCH : Hid (Below B2 W7 w9) := Lib.hid (((Chg.alloc1 W7 _).trans (Chg.of_grown H2.out (fun q _ e => e)) : Chg (fun q _ => u15.ownBlock = some q) W7 w9).below HXZ.out (fun q i hq e => by have := (HRWX.out.own.lt q e).1; omega))
              have HF9 : Hid (MapS w9 bf na (entM (findF xa))) := Lib.hid ((((HFM.out.low HX4.out HLT.out.1).keep (HC47.out.other bf (HFM.out.low HX4.out HLT.out.1).lt (fun _ e => by have := HAM.out; have := HLT.out; have := HNE.out; omega))).low HCH.out HLT.out.1))
              have HG9 : Hid (MapS w9 bg na (goneV (fun p => if p = s.data.toList then false else g' p))) := Lib.hid ((HM7.out.low HCH.out HLT.out.2.1).congr (fun p => goneV_minus g' s.data.toList p))
              have HS9 : Hid (MapC w9 bs (na + (j + 1)) (fun x => if x = (mk, ms) then some (.slice (some ⟨b0, if cp = 1 then o0 else o0 + 1, none⟩) r.length (cp - 1)) else S' x)) := Lib.hid ((HM6.out.keep (HG7.out.block bs (by have := HM6.out.lt; omega) (fun e => HNE.out.2.2 (Option.some.inj e).symm))).low HCH.out HLT.out.2.2.1)
              have HR9 : Hid (SrcR w9 B1 B2 (fun x => if x = (mk, ms) then some (.slice (some ⟨b0, if cp = 1 then o0 else o0 + 1, none⟩) r.length (cp - 1)) else S' x) (fun x => if x = (mk, ms) then r else Src' x)) := Lib.hid ((HTK.out _ _ (fun e => by
                have h1 := HSB.out.1
                have h2 : r.length ≠ 0 := fun e2 => e (List.eq_nil_of_length_eq_zero e2)
                rw [if_neg (by omega)]) (by have := HSB.out; omega) (by have := HSB.out; omega)).low (fun q hq1 hq2 => (HCH.out.block q hq2).trans (HC47.out.other q (by have := HX4.out.size; have := HZ.out; omega) (fun _ e => by have := HAM.out; have := HB1.out; omega))))
              have HSM9 := Lib.hid (HSM.out.take HAA.out HSRC.out)
              have HBR : Hid (Below w.heap.size w W7) := Lib.hid ((HBEL.out.trans (HX4.out.mono HLT.out.2.2.2)).trans (HC47.out.below (by have := HBEL.out.size; have := HX4.out.size; omega) (fun q i hq e => by have := HAM.out; have := HLT.out; have := HWB.out; omega)))
              have HB9 : Hid (Below w.heap.size w w9) := Lib.hid (HBR.out.trans (HCH.out.mono HLT.out.2.2.2))
              have HZ9 : Hid (B2 ≤ w9.heap.size) := Lib.hid (by have := HCH.out.size; have := HXZ.out; omega)
              clear q0 q1 q2 q3 q4 q5 q6 q7 q8
              go_roundw
              case rel => exact ⟨j + 1, _, _, _, (L ++ [(⟨2, path, s, ⟨(⟨path, kind, mode, time, data, link⟩ : FE), ya, yc⟩⟩ : CV)]), by omega, by go_num, HF9, HG9, HS9, HR9, HSM9, HMD9, HRW3, HB9, HZ9⟩
              case measure => simp [intOf]; omega
end Go.Proofs.YtmcbnhkcjhlbaaaGreatDoor.Tp

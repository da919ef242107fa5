/- Texts Tdt of the proof, each as a section; no premises beyond those that each theorem states. -/
import Derived.Test.YtmcbnhkcjhlbaaaGreatDoorP21
set_option linter.unusedVariables false
set_option linter.unusedSimpArgs false
namespace Go.Proofs.YtmcbnhkcjhlbaaaGreatDoor.Tp
open Go.RowKit
open Kit (Chg)
open Go.Maps
open Go.WideMaps
open Go.Proofs.YtmcbnhkcjhlbaaaGreatDoor.One

theorem app_at2 {α : Type} {f : α → List Value} {n : Nat} {T : TypeId} {P : Program} {ST : TypeId} {z : Value} {bytes : Nat} (K : Kind (T := T) P f n ST z bytes) {ops : Array Oper} {rest : List Oper} {o : Oper} {a : Act} {Q : Exit → Act → World → Prop} {w0 : World} (hgd : o.guard = none) (s x : Operand) (ho : o.op = .call { callee := .builtin .append, args := #[s, x], argTypes := #[ST, ST] })
    (base : Nat) (v : Value) (L : Nat) (xs : List α) (hs : a.eval s = v) (hown : w0.ownsRow base T n v L (xs.flatMap f)) (hb : base ≤ w0.heap.size) (hL : L ≤ 5000000)
    (y : α) (q c : Nat) (hx : a.eval x = .slice (some ⟨q, 0, none⟩) 1 c) (hq : ∀ j, j < n → w0.cell? ⟨q, j, none⟩ = (f y)[j]?)
    (h : ∀ v' w', w'.ownsRow base T n v' (L + 1) ((xs ++ [y]).flatMap f) → w0.grownBy w' v.ownBlock → (v'.ownBlock = v.ownBlock ∨ v'.ownBlock = some w0.heap.size) → wpList P ops Q rest (a.put o.dst v') w') : wpList P ops Q (o :: rest) a w0 := by
  obtain ⟨i0, hi, hz0, hz1, hz2⟩ := info_parts3 K.info
  have hy : [y].flatMap f = f y := by simp
  refine wpList_append_own_at _ hgd s x ST ho base T i0 z n bytes K.under hi hz0 hz1 hz2 K.zlen K.pos v L (xs.flatMap f) hs hown ⟨q, 0, none⟩ 1 c ([y].flatMap f) hx (by rw [hy, K.len, Nat.one_mul]) (fun j u hu => by
    rw [add_none, Nat.zero_add]
    rw [hy] at hu
    rw [hq j (by have := (List.getElem?_eq_some_iff.1 hu).1; rw [K.len] at this; exact this)]
    exact hu) (flat_one K _) (by unfold maxLen; omega) ?_ hb ?_
  · exact Nat.le_trans (Nat.mul_le_mul (show L + 1 ≤ 10000000 by omega) K.most) (by omega)
  intro v' w4 h1 h2 _ hat
  exact h v' w4 (by rw [List.flatMap_append]; exact h1) h2 hat
theorem run_makeMap_none {P : Program} {t k e : TypeId} (ht : P.underlying t = some (.map k e)) (w : World) : (Instr.makeMap t none).run P w = .ok (.map (some w.heap.size)) (w.alloc (.map #[] 0)) := by
  simp [Instr.makeMap, run_underlying ht]
set_option maxRecDepth 100000 in
set_option maxHeartbeats 4000000 in
theorem difference_any (a : Option Addr) (na ca : Nat) (xa : List FV) (b : Option Addr) (nb cb : Nat) (xb : List FV) (hna : xa.length = na) (hnb : xb.length = nb) (hca : na ≤ ca) (hcb : nb ≤ cb) (hna2 : na ≤ 4096) (hnb2 : nb ≤ 4096) (w : World) (hX : FEsAt w a xa) (hY : FEsAt w b xb)
    (oka : ∀ e ∈ xa.map FV.e, e.ok) (okb : ∀ x ∈ xb, x.e.ok) (haa : (xa.map FV.e).Pairwise (fun a b => cmpP a.p b.p < 0)) (hab : (xb.map FV.e).Pairwise (fun a b => cmpP a.p b.p < 0)) : Calls Tryz.prog 39 #[.slice a na ca, .slice b nb cb] w (DiffP (xa.map FV.e) (xb.map FV.e) w) := by
  have HN := Lib.hid hna
  have HNB := Lib.hid hnb
  have HXA := Lib.hid hX
  have HXB := Lib.hid hY
  have HOKA := Lib.hid oka
  have HOKB := Lib.hid okb
  have HAA := Lib.hid haa
  have HAB := Lib.hid hab
  have HPA := Lib.hid (byPath_any a na ca xa hna hca (by omega) w hX)
  have HPB := Lib.hid (fun V (h : Below w.heap.size w V) => byPath_any b nb cb xb hnb hcb (by omega) V (hY.later h))
  clear hna hnb hX hY oka okb haa hab
  go_enter Tryz.func39, Tryz.ntmps39
  go_upto_region 2 with (first
    | (go_at_call 41
       (with_reducible refine HPA.out.mono ?_)
       rintro e W1 ⟨bf, rfl, hbf, hmf, hb1⟩
       have HBF := Lib.hid hbf
       have HMF := Lib.hid hmf
       have H1 := Lib.hid hb1
       clear hbf hmf hb1)
    | (go_at_call 41
       (with_reducible refine (HPB.out _ H1.out).mono ?_)
       rintro e W2 ⟨ba, rfl, hba, hma, hb2⟩
       have HBA := Lib.hid hba
       have HMA := Lib.hid hma
       have H2 := Lib.hid hb2
       clear hba hma hb2))
  have HMF2 := Lib.hid (HMF.out.later H2.out)
  have HMFL := Lib.hid HMF.out.lt
  have HMAL := Lib.hid HMA.out.lt
  have hmk1 := fun W => run_makeMap_none (P := Tryz.prog) (t := 49) Tryz.underlying49 W
  have hmk2 := fun W => run_makeMap_none (P := Tryz.prog) (t := 174) Tryz.underlying174 W
  go_upto_region 5 with fail
  clear hmk1 hmk2
  have hal1 := (Below.refl W2.heap.size W2).alloc (Nat.le_refl _) (.map #[] 0)
  have hal2 := (Below.refl (W2.alloc (.map #[] 0)).heap.size (W2.alloc (.map #[] 0))).alloc (Nat.le_refl _) (.map #[] 0)
  refine wp_over (fun V => Hid (MapS V bf na (entM (findF xa))) ∧ Hid (MapS V ba nb (entM (findF xb))) ∧ Hid (MapS V W2.heap.size 0 (goneV (goneK (xb.map FV.e) []))) ∧ Hid (MapC V (W2.heap.size + 1) 0 (fun _ => none)) ∧ Hid (Below W2.heap.size W2 V) ∧ Hid (V.heap.size = W2.heap.size + 2)) ⟨Lib.hid ((HMF2.out.later hal1).later hal2), Lib.hid ((HMA.out.later hal1).later hal2), Lib.hid (((MapS.start W2).congr (fun p => rfl)).later hal2), Lib.hid (by have h := MapC.start (W2.alloc (.map #[] 0)); rw [World.size_alloc] at h; exact h), Lib.hid (hal1.trans (hal2.mono (by simp))), Lib.hid (by simp)⟩ ?_
  clear hal1 hal2
  rintro W3 ⟨HF3, HA3, HG3, HS3, HB3, HZ3⟩
  obtain ⟨bg, hbg⟩ := ex_eq W2.heap.size
  obtain ⟨bs, hbs⟩ := ex_eq (W2.heap.size + 1)
  have HLT : Hid (w.heap.size ≤ bf ∧ bf < bg ∧ w.heap.size ≤ ba ∧ ba < bg ∧ bg < bs ∧ bs < W3.heap.size) := Lib.hid (by have := HBF.out; have := HBA.out; have := H1.out.size; have := H2.out.size; have := HMFL.out; have := HMAL.out; have := HZ3.out; omega)
  have HB03 : Hid (Below w.heap.size w W3) := Lib.hid ((H1.out.trans (H2.out.mono H1.out.size)).trans (HB3.out.mono (by have := H1.out.size; have := H2.out.size; omega)))
  rw [hbs] at HS3 ⊢
  rw [hbg] at HG3 ⊢
  clear hbg hbs
  have HNE : Hid (bf ≠ bg ∧ ba ≠ bg ∧ bg ≠ bs ∧ bf ≠ bs ∧ ba ≠ bs) := Lib.hid (by have := HLT.out; omega)
  obtain ⟨B1, hB1⟩ := ex_eq W3.heap.size
  have HLT : Hid (w.heap.size ≤ bf ∧ bf < bg ∧ w.heap.size ≤ ba ∧ ba < bg ∧ bg < bs ∧ bs < B1) := Lib.hid (by rw [← hB1]; exact HLT.out)
  have HZ0 : Hid (B1 ≤ W3.heap.size) := Lib.hid (by rw [hB1]; exact Nat.le_refl _)
  clear hB1
  go_loopw [32] (fun z wr => ∃ (k : Nat) (S : Int × ByteArray → Option Value), k ≤ na ∧ z = .int .i64 (k : Int) ∧ Hid (MapS wr bf na (entM (findF xa))) ∧ Hid (MapS wr ba nb (entM (findF xb))) ∧ Hid (MapS wr bg (k) (goneV (goneK (xb.map FV.e) ((xa.map FV.e).take (k))))) ∧ Hid (MapC wr bs (k) S) ∧ Hid (SrcsAt wr B1 S (srcK (xb.map FV.e) ((xa.map FV.e).take (k)))) ∧ Hid (Below w.heap.size w wr) ∧ Hid (B1 ≤ wr.heap.size)) (fun z _ => na - (intOf z).toNat)
  case atStart => exact ⟨0, fun _ => none, Nat.zero_le _, rfl, HF3, HA3, HG3, HS3, Lib.hid (SrcsAt.start _ _), HB03, HZ0⟩
  case round =>
    obtain ⟨k, S, hk, rfl, HFM, HAM, HGM, HSC, HRS, HBEL, HZ⟩ := hrel
    clear HF3 HA3 HG3 HS3 HB3 HZ3 HB03 HZ0
    by_cases hlt : k < na
    rotate_left
    · have hkn : k = na := by omega
      subst hkn
      have HTKN : Hid ((xa.map FV.e).take k = xa.map FV.e) := Lib.hid (List.take_of_length_le (by rw [List.length_map, HN.out]; exact Nat.le_refl _))
      have HG0 : Hid (MapS wr bg k (goneV (goneK (xb.map FV.e) (xa.map FV.e)))) := Lib.hid (by have h1 := HGM.out; rw [HTKN.out] at h1; exact h1)
      have HR0 : Hid (SrcsAt wr B1 S (srcK (xb.map FV.e) (xa.map FV.e))) := Lib.hid (by have h1 := HRS.out; rw [HTKN.out] at h1; exact h1)
      repeat (first | (refine (?_ : Code.wp _ (Code.seq (Code.region 14 _ _) _) _ _ _); exact diff_rest2 (xa.map FV.e) (xb.map FV.e) xa xb b nb cb w wr bf bg bs B1 wr.heap.size k (goneK (xb.map FV.e) (xa.map FV.e)) S (srcK (xb.map FV.e) (xa.map FV.e)) HNB.out hcb hnb2 rfl rfl (by rw [List.length_map, HN.out]; exact hna2) HXA.out.2 HXB.out HOKA.out HOKB.out HAA.out HAB.out HFM.out HG0.out HSC.out (SrcR.of HR0.out) (SrcM.start HAA.out) (Mid.start (fun p => goneK_iff)) (Nat.le_refl _) HBEL.out ⟨HNE.out.1, HNE.out.2.2.2.1, HNE.out.2.2.1⟩ ⟨by have := HLT.out; have := HZ.out; omega, by have := HLT.out; have := HZ.out; omega, by have := HLT.out; have := HZ.out; omega, by have := HLT.out; have := HZ.out; omega⟩ ⟨by have := HLT.out; omega, by have := HLT.out; omega, by have := HLT.out; omega⟩ ⟨by have := HLT.out; omega, by have := HLT.out; omega, by have := HLT.out; omega⟩ hna2 _ _ _ _ _ _ _ _ _ _ _ _ _ _ _ _ _ _ _ _ _ _ _ _ _ _ _ _ _ _ _ _ _ _ _ _ _ _ _ _ _ _ _ _ _ _ _ _ _ _ _ _ _ _ _ _ _ _ _ _ _ _ _ _ _ _ _ _ _ _ _ _ _ _ _ _ _ _ _ _ _ _ _ _ _ _ _ _ _ _ _ _ _ _ _ _ _ _ _ _ _ _ _ _ _ _ _ _ _ _ _ _ _ _ _ _ _ _ _ _ _ _ _ _ _ _ _ _ _ _ _ _ _ _ _ _ _ _ _ _ _ _ _ _ _ _ _ _ _ _ _ _) | go_step)
    have hkx : k < xa.length := by rw [HN.out]; exact hlt
    have HXW := Lib.hid (HXA.out.later HBEL.out)
    obtain ⟨b0, o0, rfl, c0, c1, c2, c3, c4, c5⟩ := HXW.out.six k hkx
    obtain ⟨x, hx⟩ : ∃ x, xa[k] = x := ⟨_, rfl⟩
    rw [hx] at c0 c1 c2 c3 c4 c5
    have HXO : Hid (x.ok w) := Lib.hid (by rw [← hx]; exact HXA.out.2 _ (List.getElem_mem hkx))
    have HTK : Hid ((xa.map FV.e).take (k + 1) = (xa.map FV.e).take k ++ [x.e]) := Lib.hid (by rw [List.take_succ_eq_append_getElem (by rw [List.length_map]; exact hkx), List.getElem_map, hx])
    clear hx
    obtain ⟨⟨path, kind, mode, time, data, link⟩, da, dc⟩ := x
    dsimp only at c0 c1 c2 c3 c4 c5 HTK
    obtain ⟨ov, th, hov, hlook⟩ : ∃ (ov : FV) (th : Bool), ((findF xb path.data.toList = none ∧ th = false ∧ ov = fvZero) ∨ (findF xb path.data.toList = some ov ∧ th = true)) ∧ ∀ V, Below wr.heap.size wr V → (Instr.lookup 109 (.map (some ba)) (.string path) true).run Tryz.prog V = .ok (.tuple #[ov.val, .bool th]) V := by
      have hz : ∀ V : World, (zeroValue 54).run Tryz.prog V = .ok fvZero.val V := fun V => by kernel_rfl
      refine ⟨(findF xb path.data.toList).getD fvZero, (findF xb path.data.toList).isSome, ?_, fun V hb => ?_⟩
      · cases findF xb path.data.toList with
        | none => exact .inl ⟨rfl, rfl, rfl⟩
        | some y => exact .inr ⟨rfl, rfl⟩
      · have h1 := (HAM.out.later hb).look (t := 109) (e := 54) Tryz.underlying109 (hz V) path (size_maxLen HXO.out.sp)
        rw [entM_getD, entM_isSome] at h1
        exact h1
    have HOV : Hid ((findF xb path.data.toList = none ∧ th = false) ∨ (findF xb path.data.toList = some ov ∧ th = true)) := Lib.hid (by
      rcases hov with ⟨h1, h2, _⟩ | h
      · exact .inl ⟨h1, h2⟩
      · exact .inr h)
    have HLK := Lib.hid hlook
    clear hov hlook
    obtain ⟨⟨pathO, kindO, modeO, timeO, dataO, linkO⟩, daO, dcO⟩ := ov
    unfold FV.val FV.row at HLK
    dsimp only at HLK
    have hlook := HLK.out _ ((Below.refl wr.heap.size wr).alloc (Nat.le_refl _) (.cells #[.string path, .int .i64 kind, .int .i64 mode, .int .i64 time, .slice da data.length dc, .string link] 54))
    go_upto_region 8 with fail
    refine wp_over (fun V => Hid (V.heap[wr.heap.size]? = some (.cells (FV.row (⟨⟨path, kind, mode, time, data, link⟩, da, dc⟩ : FV)) 54 (0, 0))) ∧ Hid (V.heap[wr.heap.size + 1]? = some (.cells (FV.row (⟨⟨pathO, kindO, modeO, timeO, dataO, linkO⟩, daO, dcO⟩ : FV)) 54 (0, 0))) ∧ Hid (Below wr.heap.size wr V) ∧ Hid (V.heap.size = wr.heap.size + 2)) ⟨Lib.hid two_rows1, Lib.hid two_rows2, Lib.hid two_below, Lib.hid two_size⟩ ?_
    rintro W ⟨HGE, HGO, HWB1, HWS⟩
    obtain ⟨N, hN⟩ := ex_eq wr.heap.size
    rw [hN] at HGE HGO HWS ⊢
    have HNW := Lib.hid hN
    clear hN hlook c0 c1 c2 c3 c4 c5
    have HNBW : Hid (∀ V, Below (N + 2) W V → Below wr.heap.size wr V) := Lib.hid (fun V h => HWB1.out.trans (h.mono (by have := HNW.out; omega)))
    have HBW : Hid (∀ V, Below (N + 2) W V → Below w.heap.size w V) := Lib.hid (fun V h => HBEL.out.trans ((HNBW.out V h).mono HBEL.out.size))
    obtain ⟨c0, c1, c2, c3, c4, c5⟩ := row6 HGE.out
    obtain ⟨d0, d1, d2, d3, d4, d5⟩ := row6 HGO.out
    dsimp only at c0 c1 c2 c3 c4 c5 d0 d1 d2 d3 d4 d5
    by_cases hkk : th = true ∧ kindO = kind
    · obtain ⟨hth, hkk⟩ := hkk
      subst hth
      have hk1 : (kindO == kind) = true := by rw [hkk]; simp
      have HKT : Hid (keptB (xb.map FV.e) (⟨path, kind, mode, time, data, link⟩ : FE) = true) := Lib.hid ((kept_find HAB.out).2 ⟨(⟨⟨pathO, kindO, modeO, timeO, dataO, linkO⟩, daO, dcO⟩ : FV), by
        rcases HOV.out with ⟨_, h⟩ | ⟨h, _⟩
        · cases h
        · exact h, hkk⟩)
      clear hkk
      have HX := Lib.hid (HNBW.out _ (Below.refl _ _))
      go_wp2_with fail
      have HF9 := Lib.hid (HFM.out.later HX.out)
      have HA9 := Lib.hid (HAM.out.later HX.out)
      have HG9 : Hid (MapS W bg (k + 1) (goneV (goneK (xb.map FV.e) ((xa.map FV.e).take (k + 1))))) := Lib.hid (((HGM.out.later HX.out).mono (Nat.le_succ k)).congr (fun p => by rw [HTK.out, goneV_kept _ _ _ HKT.out]))
      have HS9 := Lib.hid ((HSC.out.later HX.out).mono (Nat.le_succ k))
      have HR9 : Hid (SrcsAt W B1 S (srcK (xb.map FV.e) ((xa.map FV.e).take (k + 1)))) := Lib.hid (by
        have e : srcK (xb.map FV.e) ((xa.map FV.e).take (k + 1)) = srcK (xb.map FV.e) ((xa.map FV.e).take k) := by
          funext c
          rw [HTK.out, srcK_snoc, if_neg (fun h => by rw [HKT.out] at h; cases h.1)]
        rw [e]
        exact HRS.out.later HX.out)
      have HB9 : Hid (Below w.heap.size w W) := Lib.hid (HBW.out _ (Below.refl _ _))
      have HZ9 : Hid (B1 ≤ W.heap.size) := Lib.hid (by have := HX.out.size; have := HZ.out; omega)
      go_roundw
      case rel => exact ⟨k + 1, S, by omega, by go_num, HF9, HA9, HG9, HS9, HR9, HB9, HZ9⟩
      case measure => simp [intOf]; omega
    · have HKD := Lib.hid hkk
      cases th with
      | false =>
        clear hkk
        have HNK : Hid (keptB (xb.map FV.e) (⟨path, kind, mode, time, data, link⟩ : FE) = false) := Lib.hid (by
          rw [Bool.eq_false_iff]
          intro h
          rw [kept_find HAB.out] at h
          obtain ⟨y, h1, h2⟩ := h
          rcases HOV.out with ⟨h3, h4⟩ | ⟨h3, h4⟩
          · have : (none : Option FV) = some y := h3.symm.trans h1
            cases this
          · have h5 := h3.symm.trans h1
            cases h5
            exact HKD.out ⟨h4, h2⟩)
        obtain ⟨W3, hput, hm3, hg3, hs3⟩ := (HGM.out.low (HNBW.out _ (Below.refl _ _)) HGM.out.lt).put (t := 49) (e := 4) Tryz.underlying49 (by unfold maxLen; omega) path (size_maxLen HXO.out.sp) (.bool true)
        have HG9a : Hid (MapS W3 bg (k + 1) (goneV (goneK (xb.map FV.e) ((xa.map FV.e).take (k + 1))))) := Lib.hid (hm3.congr (fun p => by
          rw [HTK.out, goneV_gone _ _ _ HNK.out]
          rfl))
        have HG3 := Lib.hid hg3
        have HS3 : Hid (W3.heap.size = N + 2) := Lib.hid (by rw [hs3]; exact HWS.out)
        clear hm3 hg3 hs3
        have HCG : Hid (Chg (fun q _ => q = bg) W W3) := Lib.hid (Chg.of_grown HG3.out (fun q _ e => (Option.some.inj e).symm))
        have HE3 : Hid (W3.heap[N]? = some (.cells (FV.row (⟨⟨path, kind, mode, time, data, link⟩, da, dc⟩ : FV)) 54 (0, 0))) := Lib.hid ((HCG.out.other N (by have := HWS.out; omega) (fun _ e => by have := HLT.out; have := HZ.out; have := HNW.out; omega)).trans HGE.out)
        have HBW3 : Hid (Below w.heap.size w W3) := Lib.hid ((HBW.out _ (Below.refl _ _)).trans (HCG.out.below (HBW.out _ (Below.refl _ _)).size (fun q i hq e => by have := HLT.out; omega)))
        have HF3 : Hid (MapS W3 bf na (entM (findF xa))) := Lib.hid ((HFM.out.low (HNBW.out _ (Below.refl _ _)) HFM.out.lt).keep (HCG.out.other bf (HFM.out.low (HNBW.out _ (Below.refl _ _)) HFM.out.lt).lt (fun _ e => HNE.out.1 e)))
        have HA3 : Hid (MapS W3 ba nb (entM (findF xb))) := Lib.hid ((HAM.out.low (HNBW.out _ (Below.refl _ _)) HAM.out.lt).keep (HCG.out.other ba (HAM.out.low (HNBW.out _ (Below.refl _ _)) HAM.out.lt).lt (fun _ e => HNE.out.2.1 e)))
        have HSC3 : Hid (MapC W3 bs k S) := Lib.hid ((HSC.out.low (HNBW.out _ (Below.refl _ _)) HSC.out.lt).keep (HCG.out.other bs (HSC.out.low (HNBW.out _ (Below.refl _ _)) HSC.out.lt).lt (fun _ e => HNE.out.2.2.1 e.symm)))
        have HRS3 : Hid (SrcsAt W3 B1 S (srcK (xb.map FV.e) ((xa.map FV.e).take k))) := Lib.hid ((HRS.out.later (HNBW.out _ (Below.refl _ _))).grown HG3.out (fun c v e e2 => by have := ((HRS.out.row c v e).lt _ e2).1; have := HLT.out; omega))
        have HMV3 : Hid (∀ V, Below W3.heap.size W3 V → Calls Tryz.prog 80 #[.agg #[.string path, .int .i64 kind, .int .i64 mode, .int .i64 time, .slice da data.length dc, .string link]] V fun e w' => e = .returned (movV (movP (⟨path, kind, mode, time, data, link⟩ : FE))) ∧ Below V.heap.size V w') := Lib.hid (fun V h => movable_any (⟨⟨path, kind, mode, time, data, link⟩, da, dc⟩ : FV) V (HXO.out.later (HBW3.out.trans (h.mono HBW3.out.size))))
        go_upto_region 10 with fail
        clear hput c0 c1 c2 c3 c4 c5 d0 d1 d2 d3 d4 d5
        obtain ⟨c0, c1, c2, c3, c4, c5⟩ := row6 HE3.out
        dsimp only at c0 c1 c2 c3 c4 c5
        cases hmv : movP (⟨path, kind, mode, time, data, link⟩ : FE) with
        | none =>
          rw [hmv] at HMV3
          have HMVX := Lib.hid hmv
          clear hmv
          go_upto_region 13 with (first
            | (go_at_call 80
               (with_reducible refine (HMV3.out _ (Below.refl _ _)).mono ?_)
               rintro e W4 ⟨rfl, hb4⟩
               dsimp only [movV, contV]
               have HH4 := Lib.hid hb4
               clear hb4))
          refine wp_over (fun V => Hid (Below W3.heap.size W3 V)) (Lib.hid (HH4.out.alloc HH4.out.size _)) ?_
          rintro X HX
          clear c0 c1 c2 c3 c4 c5
          have HF9 := Lib.hid (HF3.out.later HX.out)
          have HA9 := Lib.hid (HA3.out.later HX.out)
          have HG9 := Lib.hid (HG9a.out.later HX.out)
          have HS9 := Lib.hid ((HSC3.out.later HX.out).mono (Nat.le_succ k))
          have HR9 : Hid (SrcsAt X B1 S (srcK (xb.map FV.e) ((xa.map FV.e).take (k + 1)))) := Lib.hid (by
            have e : srcK (xb.map FV.e) ((xa.map FV.e).take (k + 1)) = srcK (xb.map FV.e) ((xa.map FV.e).take k) := by
              funext c
              rw [HTK.out, srcK_snoc, if_neg (fun h => by rw [HMVX.out] at h; cases h.2)]
            rw [e]
            exact HRS3.out.later HX.out)
          have HB9 : Hid (Below w.heap.size w X) := Lib.hid (HBW3.out.trans (HX.out.mono HBW3.out.size))
          have HZ9 : Hid (B1 ≤ X.heap.size) := Lib.hid (by have := HX.out.size; have := HS3.out; have := HZ.out; have := HNW.out; omega)
          go_wp2_with fail
          go_roundw
          case rel => exact ⟨k + 1, S, by omega, by go_num, HF9, HA9, HG9, HS9, HR9, HB9, HZ9⟩
          case measure => simp [intOf]; omega
        | some mm =>
          obtain ⟨mk, ms⟩ := mm
          rw [hmv] at HMV3
          have HMVX := Lib.hid hmv
          clear hmv
          have HKW : Hid ((Lit.int .i64 mk).wf = true ∧ ms.size ≤ maxLen) := Lib.hid (by
            have h1 := (movP_kind HMVX.out).2
            refine ⟨wf64 (by (try simp only at h1); omega) (by (try simp only at h1); omega), size_maxLen ?_⟩
            have h2 := HMVX.out
            unfold movP at h2
            split at h2
            · cases h2
              rw [strB_size _ HXO.out.dat.2.1]
              exact HXO.out.sd
            · split at h2
              · cases h2
                exact HXO.out.sl
              · cases h2)
          go_upto_region 12 with (first
            | (go_at_call 80
               (with_reducible refine (HMV3.out _ (Below.refl _ _)).mono ?_)
               rintro e W4 ⟨rfl, hb4⟩
               dsimp only [movV, contV]
               have HH4 := Lib.hid hb4
               clear hb4))
          refine wp_over (fun V => Hid (V.heap[W4.heap.size]? = some (.cells #[.int .i64 mk, .string ms] 176 (0, 0))) ∧ Hid (Below W3.heap.size W3 V) ∧ Hid (W4.heap.size < V.heap.size)) ⟨Lib.hid (heap_alloc_new _ _), Lib.hid (HH4.out.alloc HH4.out.size _), Lib.hid (by simp)⟩ ?_
          rintro W5 ⟨HCO, HX, HMS⟩
          clear c0 c1 c2 c3 c4 c5
          obtain ⟨M, hM⟩ := ex_eq W4.heap.size
          rw [hM] at HCO HMS ⊢
          clear hM
          have hcN := row6 ((HX.out.block N (by have := HS3.out; omega)).trans HE3.out)
          have m0 : W5.cell? ⟨M, 0, none⟩ = some (.int .i64 mk) := (cell_of_row _ _ _ _ _ _ HCO.out).trans rfl
          have m1 : W5.cell? ⟨M, 1, none⟩ = some (.string ms) := (cell_of_row _ _ _ _ _ _ HCO.out).trans rfl
          have c0 : W5.cell? ⟨N, 0, none⟩ = some (.string path) := hcN.1
          have HAL : Hid (Below W5.heap.size W5 (W5.alloc (.cells #[.string path] 9))) := Lib.hid ((Below.refl _ _).alloc (Nat.le_refl _) _)
          have HSC5 : Hid (MapC (W5.alloc (.cells #[.string path] 9)) bs k S) := Lib.hid ((HSC3.out.later HX.out).later HAL.out)
          have HRS5 : Hid (SrcsAt (W5.alloc (.cells #[.string path] 9)) B1 S (srcK (xb.map FV.e) ((xa.map FV.e).take k))) := Lib.hid ((HRS3.out.later HX.out).later HAL.out)
          obtain ⟨st, w1, hent, hg1, hs1, hst⟩ := HSC5.out.entry (by unfold maxLen; omega) mk ms HKW.out.1 HKW.out.2
          have HST := Lib.hid hst
          have HG1 := Lib.hid hg1
          have HS1 : Hid (w1.heap.size = W5.heap.size + 1) := Lib.hid (by rw [hs1]; simp)
          have HRS1 : Hid (SrcsAt w1 B1 S (srcK (xb.map FV.e) ((xa.map FV.e).take k))) := Lib.hid (HRS5.out.grown HG1.out (fun c v e e2 => by have := ((HRS5.out.row c v e).lt _ e2).1; have := HLT.out; omega))
          have HZ5 : Hid (B1 ≤ W5.heap.size) := Lib.hid (by have := HX.out.size; have := HS3.out; have := HZ.out; have := HNW.out; omega)
          have HQ : Hid (w1.heap[W5.heap.size]? = some (.cells #[.string path] 9 (0, 0))) := Lib.hid ((HG1.out.block W5.heap.size (by simp) (fun e => by have := HLT.out; have := HZ5.out; have := Option.some.inj e; omega)).trans (heap_alloc_new _ _))
          have HSR := Lib.hid (HRS1.out.srcRow (mk, ms))
          obtain ⟨u, hu⟩ := ex_eq ((S (mk, ms)).getD (.slice none 0 0))
          rw [hu] at hent HSR
          have HU := Lib.hid hu
          clear hst hg1 hs1 hu hcN
          obtain ⟨Q0, hQ0⟩ := ex_eq W5.heap.size
          have HSL : Hid ((srcK (xb.map FV.e) ((xa.map FV.e).take k) (mk, ms)).length ≤ 5000000) := Lib.hid (by
            unfold srcK
            rw [List.length_map]
            have h1 := List.length_filter_le (fun e => !keptB (xb.map FV.e) e && decide (movP e = some (mk, ms))) ((xa.map FV.e).take k)
            rw [List.length_take, List.length_map] at h1
            omega)
          go_wp2_with (first
            | (at_builtin
               refine app_at2 kindStr rfl _ _ rfl B1 u _ (srcK (xb.map FV.e) ((xa.map FV.e).take k) (mk, ms)) (by rfl) HSR.out (by have := HS1.out; have := HZ5.out; omega) HSL.out path W5.heap.size 1 (by first | rfl | (rw [hQ0]; rfl)) (fun j hj => by
                 obtain rfl : j = 0 := by omega
                 rw [cell_of_row _ _ _ _ _ _ HQ.out]
                 rfl) ?_
               intro v' w6 h1 h2 h3
               have HBS : Hid (w6.heap[bs]? = w1.heap[bs]?) := Lib.hid (h2.block bs (by have := HS1.out; have := HZ5.out; have := HLT.out; omega) (fun e => by have := (HSR.out.lt bs e.symm).1; have := HLT.out; omega))
               obtain ⟨w9, hes, hm9, hg9, hs9⟩ := HST.out w6 v' HBS.out
               have H1 := Lib.hid h1
               have H2 := Lib.hid h2
               have H3 := Lib.hid h3
               have HM9 := Lib.hid hm9
               have HG9b := Lib.hid hg9
               clear h1 h2 h3 hm9 hg9 hs9))
          have HRS6 : Hid (SrcsAt w6 B1 (fun x => if x = (mk, ms) then some v' else S x) (fun x => if x = (mk, ms) then srcK (xb.map FV.e) ((xa.map FV.e).take k) (mk, ms) ++ [path] else srcK (xb.map FV.e) ((xa.map FV.e).take k) x)) := Lib.hid (HRS1.out.snoc (mk, ms) path v' (by rw [HU.out]; exact H2.out) (by
            show w6.ownsRow B1 9 1 v' (srcK (xb.map FV.e) ((xa.map FV.e).take k) (mk, ms) ++ [path]).length _
            rw [List.length_append]
            exact H1.out) (by
            rw [HU.out]
            rcases H3.out with h | h
            · exact .inl h
            · exact .inr (fun g e => by rw [h] at e; have := Option.some.inj e; omega)))
          have HC59 : Hid (Chg (fun q _ => q = bs ∨ u.ownBlock = some q) W5 w9) := Lib.hid ((((Chg.alloc1 W5 _).trans (Chg.of_grown HG1.out (fun q _ e => .inl (Option.some.inj e).symm))).trans (Chg.of_grown H2.out (fun q _ e => .inr e))).trans (Chg.of_grown HG9b.out (fun q _ e => .inl (Option.some.inj e).symm)))
          have HUB : Hid (∀ q, u.ownBlock = some q → B1 ≤ q) := Lib.hid (fun q e => (HSR.out.lt q e).1)
          have HF9 : Hid (MapS w9 bf na (entM (findF xa))) := Lib.hid ((HF3.out.later HX.out).keep (HC59.out.other bf (HF3.out.later HX.out).lt (fun _ e => by
            rcases e with e | e
            · exact HNE.out.2.2.2.1 e
            · have := HUB.out _ e; have := HLT.out; omega)))
          have HA9 : Hid (MapS w9 ba nb (entM (findF xb))) := Lib.hid ((HA3.out.later HX.out).keep (HC59.out.other ba (HA3.out.later HX.out).lt (fun _ e => by
            rcases e with e | e
            · exact HNE.out.2.2.2.2 e
            · have := HUB.out _ e; have := HLT.out; omega)))
          have HG9 : Hid (MapS w9 bg (k + 1) (goneV (goneK (xb.map FV.e) ((xa.map FV.e).take (k + 1))))) := Lib.hid ((HG9a.out.later HX.out).keep (HC59.out.other bg (HG9a.out.later HX.out).lt (fun _ e => by
            rcases e with e | e
            · exact HNE.out.2.2.1 e
            · have := HUB.out _ e; have := HLT.out; omega)))
          have HS9 := HM9
          have HR9 : Hid (SrcsAt w9 B1 (fun x => if x = (mk, ms) then some v' else S x) (srcK (xb.map FV.e) ((xa.map FV.e).take (k + 1)))) := Lib.hid (by
            have e : srcK (xb.map FV.e) ((xa.map FV.e).take (k + 1)) = (fun x => if x = (mk, ms) then srcK (xb.map FV.e) ((xa.map FV.e).take k) (mk, ms) ++ [path] else srcK (xb.map FV.e) ((xa.map FV.e).take k) x) := by
              funext c
              rw [HTK.out, srcK_snoc, HMVX.out]
              by_cases h : c = (mk, ms)
              · subst h
                rw [if_pos ⟨HNK.out, rfl⟩, if_pos rfl]
              · rw [if_neg (fun h2 => h (Option.some.inj h2.2).symm), if_neg h]
            rw [e]
            exact HRS6.out.grown HG9b.out (fun c v e e2 => by have := ((HRS6.out.row c v e).lt _ e2).1; have := HLT.out; omega))
          have HB9 : Hid (Below w.heap.size w w9) := Lib.hid ((HBW3.out.trans (HX.out.mono HBW3.out.size)).trans (HC59.out.below (by have := HBW3.out.size; have := HX.out.size; omega) (fun q i hq e => by
            rcases e with e | e
            · have := HLT.out; omega
            · have := HUB.out _ e; have := HLT.out; omega)))
          have HZ9 : Hid (B1 ≤ w9.heap.size) := Lib.hid (by have := HC59.out.size; have := HZ5.out; omega)
          go_roundw
          case rel => exact ⟨k + 1, (fun x => if x = (mk, ms) then some v' else S x), by omega, by go_num, HF9, HA9, HG9, HS9, HR9, HB9, HZ9⟩
          case measure => simp [intOf]; omega
      | true =>
        have hk1 : (kindO == kind) = false := by rw [beq_eq_false_iff_ne]; exact fun h => hkk ⟨rfl, h⟩
        clear hkk
        have HNK : Hid (keptB (xb.map FV.e) (⟨path, kind, mode, time, data, link⟩ : FE) = false) := Lib.hid (by
          rw [Bool.eq_false_iff]
          intro h
          rw [kept_find HAB.out] at h
          obtain ⟨y, h1, h2⟩ := h
          rcases HOV.out with ⟨h3, h4⟩ | ⟨h3, h4⟩
          · have : (none : Option FV) = some y := h3.symm.trans h1
            cases this
          · have h5 := h3.symm.trans h1
            cases h5
            exact HKD.out ⟨h4, h2⟩)
        obtain ⟨W3, hput, hm3, hg3, hs3⟩ := (HGM.out.low (HNBW.out _ (Below.refl _ _)) HGM.out.lt).put (t := 49) (e := 4) Tryz.underlying49 (by unfold maxLen; omega) path (size_maxLen HXO.out.sp) (.bool true)
        have HG9a : Hid (MapS W3 bg (k + 1) (goneV (goneK (xb.map FV.e) ((xa.map FV.e).take (k + 1))))) := Lib.hid (hm3.congr (fun p => by
          rw [HTK.out, goneV_gone _ _ _ HNK.out]
          rfl))
        have HG3 := Lib.hid hg3
        have HS3 : Hid (W3.heap.size = N + 2) := Lib.hid (by rw [hs3]; exact HWS.out)
        clear hm3 hg3 hs3
        have HCG : Hid (Chg (fun q _ => q = bg) W W3) := Lib.hid (Chg.of_grown HG3.out (fun q _ e => (Option.some.inj e).symm))
        have HE3 : Hid (W3.heap[N]? = some (.cells (FV.row (⟨⟨path, kind, mode, time, data, link⟩, da, dc⟩ : FV)) 54 (0, 0))) := Lib.hid ((HCG.out.other N (by have := HWS.out; omega) (fun _ e => by have := HLT.out; have := HZ.out; have := HNW.out; omega)).trans HGE.out)
        have HBW3 : Hid (Below w.heap.size w W3) := Lib.hid ((HBW.out _ (Below.refl _ _)).trans (HCG.out.below (HBW.out _ (Below.refl _ _)).size (fun q i hq e => by have := HLT.out; omega)))
        have HF3 : Hid (MapS W3 bf na (entM (findF xa))) := Lib.hid ((HFM.out.low (HNBW.out _ (Below.refl _ _)) HFM.out.lt).keep (HCG.out.other bf (HFM.out.low (HNBW.out _ (Below.refl _ _)) HFM.out.lt).lt (fun _ e => HNE.out.1 e)))
        have HA3 : Hid (MapS W3 ba nb (entM (findF xb))) := Lib.hid ((HAM.out.low (HNBW.out _ (Below.refl _ _)) HAM.out.lt).keep (HCG.out.other ba (HAM.out.low (HNBW.out _ (Below.refl _ _)) HAM.out.lt).lt (fun _ e => HNE.out.2.1 e)))
        have HSC3 : Hid (MapC W3 bs k S) := Lib.hid ((HSC.out.low (HNBW.out _ (Below.refl _ _)) HSC.out.lt).keep (HCG.out.other bs (HSC.out.low (HNBW.out _ (Below.refl _ _)) HSC.out.lt).lt (fun _ e => HNE.out.2.2.1 e.symm)))
        have HRS3 : Hid (SrcsAt W3 B1 S (srcK (xb.map FV.e) ((xa.map FV.e).take k))) := Lib.hid ((HRS.out.later (HNBW.out _ (Below.refl _ _))).grown HG3.out (fun c v e e2 => by have := ((HRS.out.row c v e).lt _ e2).1; have := HLT.out; omega))
        have HMV3 : Hid (∀ V, Below W3.heap.size W3 V → Calls Tryz.prog 80 #[.agg #[.string path, .int .i64 kind, .int .i64 mode, .int .i64 time, .slice da data.length dc, .string link]] V fun e w' => e = .returned (movV (movP (⟨path, kind, mode, time, data, link⟩ : FE))) ∧ Below V.heap.size V w') := Lib.hid (fun V h => movable_any (⟨⟨path, kind, mode, time, data, link⟩, da, dc⟩ : FV) V (HXO.out.later (HBW3.out.trans (h.mono HBW3.out.size))))
        go_upto_region 10 with fail
        clear hput c0 c1 c2 c3 c4 c5 d0 d1 d2 d3 d4 d5
        obtain ⟨c0, c1, c2, c3, c4, c5⟩ := row6 HE3.out
        dsimp only at c0 c1 c2 c3 c4 c5
        cases hmv : movP (⟨path, kind, mode, time, data, link⟩ : FE) with
        | none =>
          rw [hmv] at HMV3
          have HMVX := Lib.hid hmv
          clear hmv
          go_upto_region 13 with (first
            | (go_at_call 80
               (with_reducible refine (HMV3.out _ (Below.refl _ _)).mono ?_)
               rintro e W4 ⟨rfl, hb4⟩
               dsimp only [movV, contV]
               have HH4 := Lib.hid hb4
               clear hb4))
          refine wp_over (fun V => Hid (Below W3.heap.size W3 V)) (Lib.hid (HH4.out.alloc HH4.out.size _)) ?_
          rintro X HX
          clear c0 c1 c2 c3 c4 c5
          have HF9 := Lib.hid (HF3.out.later HX.out)
          have HA9 := Lib.hid (HA3.out.later HX.out)
          have HG9 := Lib.hid (HG9a.out.later HX.out)
          have HS9 := Lib.hid ((HSC3.out.later HX.out).mono (Nat.le_succ k))
          have HR9 : Hid (SrcsAt X B1 S (srcK (xb.map FV.e) ((xa.map FV.e).take (k + 1)))) := Lib.hid (by
            have e : srcK (xb.map FV.e) ((xa.map FV.e).take (k + 1)) = srcK (xb.map FV.e) ((xa.map FV.e).take k) := by
              funext c
              rw [HTK.out, srcK_snoc, if_neg (fun h => by rw [HMVX.out] at h; cases h.2)]
            rw [e]
            exact HRS3.out.later HX.out)
          have HB9 : Hid (Below w.heap.size w X) := Lib.hid (HBW3.out.trans (HX.out.mono HBW3.out.size))
          have HZ9 : Hid (B1 ≤ X.heap.size) := Lib.hid (by have := HX.out.size; have := HS3.out; have := HZ.out; have := HNW.out; omega)
          go_wp2_with fail
          go_roundw
          case rel => exact ⟨k + 1, S, by omega, by go_num, HF9, HA9, HG9, HS9, HR9, HB9, HZ9⟩
          case measure => simp [intOf]; omega
        | some mm =>
          obtain ⟨mk, ms⟩ := mm
          rw [hmv] at HMV3
          have HMVX := Lib.hid hmv
          clear hmv
          have HKW : Hid ((Lit.int .i64 mk).wf = true ∧ ms.size ≤ maxLen) := Lib.hid (by
            have h1 := (movP_kind HMVX.out).2
            refine ⟨wf64 (by (try simp only at h1); omega) (by (try simp only at h1); omega), size_maxLen ?_⟩
            have h2 := HMVX.out
            unfold movP at h2
            split at h2
            · cases h2
              rw [strB_size _ HXO.out.dat.2.1]
              exact HXO.out.sd
            · split at h2
              · cases h2
                exact HXO.out.sl
              · cases h2)
          go_upto_region 12 with (first
            | (go_at_call 80
               (with_reducible refine (HMV3.out _ (Below.refl _ _)).mono ?_)
               rintro e W4 ⟨rfl, hb4⟩
               dsimp only [movV, contV]
               have HH4 := Lib.hid hb4
               clear hb4))
          refine wp_over (fun V => Hid (V.heap[W4.heap.size]? = some (.cells #[.int .i64 mk, .string ms] 176 (0, 0))) ∧ Hid (Below W3.heap.size W3 V) ∧ Hid (W4.heap.size < V.heap.size)) ⟨Lib.hid (heap_alloc_new _ _), Lib.hid (HH4.out.alloc HH4.out.size _), Lib.hid (by simp)⟩ ?_
          rintro W5 ⟨HCO, HX, HMS⟩
          clear c0 c1 c2 c3 c4 c5
          obtain ⟨M, hM⟩ := ex_eq W4.heap.size
          rw [hM] at HCO HMS ⊢
          clear hM
          have hcN := row6 ((HX.out.block N (by have := HS3.out; omega)).trans HE3.out)
          have m0 : W5.cell? ⟨M, 0, none⟩ = some (.int .i64 mk) := (cell_of_row _ _ _ _ _ _ HCO.out).trans rfl
          have m1 : W5.cell? ⟨M, 1, none⟩ = some (.string ms) := (cell_of_row _ _ _ _ _ _ HCO.out).trans rfl
          have c0 : W5.cell? ⟨N, 0, none⟩ = some (.string path) := hcN.1
          have HAL : Hid (Below W5.heap.size W5 (W5.alloc (.cells #[.string path] 9))) := Lib.hid ((Below.refl _ _).alloc (Nat.le_refl _) _)
          have HSC5 : Hid (MapC (W5.alloc (.cells #[.string path] 9)) bs k S) := Lib.hid ((HSC3.out.later HX.out).later HAL.out)
          have HRS5 : Hid (SrcsAt (W5.alloc (.cells #[.string path] 9)) B1 S (srcK (xb.map FV.e) ((xa.map FV.e).take k))) := Lib.hid ((HRS3.out.later HX.out).later HAL.out)
          obtain ⟨st, w1, hent, hg1, hs1, hst⟩ := HSC5.out.entry (by unfold maxLen; omega) mk ms HKW.out.1 HKW.out.2
          have HST := Lib.hid hst
          have HG1 := Lib.hid hg1
          have HS1 : Hid (w1.heap.size = W5.heap.size + 1) := Lib.hid (by rw [hs1]; simp)
          have HRS1 : Hid (SrcsAt w1 B1 S (srcK (xb.map FV.e) ((xa.map FV.e).take k))) := Lib.hid (HRS5.out.grown HG1.out (fun c v e e2 => by have := ((HRS5.out.row c v e).lt _ e2).1; have := HLT.out; omega))
          have HZ5 : Hid (B1 ≤ W5.heap.size) := Lib.hid (by have := HX.out.size; have := HS3.out; have := HZ.out; have := HNW.out; omega)
          have HQ : Hid (w1.heap[W5.heap.size]? = some (.cells #[.string path] 9 (0, 0))) := Lib.hid ((HG1.out.block W5.heap.size (by simp) (fun e => by have := HLT.out; have := HZ5.out; have := Option.some.inj e; omega)).trans (heap_alloc_new _ _))
          have HSR := Lib.hid (HRS1.out.srcRow (mk, ms))
          obtain ⟨u, hu⟩ := ex_eq ((S (mk, ms)).getD (.slice none 0 0))
          rw [hu] at hent HSR
          have HU := Lib.hid hu
          clear hst hg1 hs1 hu hcN
          obtain ⟨Q0, hQ0⟩ := ex_eq W5.heap.size
          have HSL : Hid ((srcK (xb.map FV.e) ((xa.map FV.e).take k) (mk, ms)).length ≤ 5000000) := Lib.hid (by
            unfold srcK
            rw [List.length_map]
            have h1 := List.length_filter_le (fun e => !keptB (xb.map FV.e) e && decide (movP e = some (mk, ms))) ((xa.map FV.e).take k)
            rw [List.length_take, List.length_map] at h1
            omega)
          go_wp2_with (first
            | (at_builtin
               refine app_at2 kindStr rfl _ _ rfl B1 u _ (srcK (xb.map FV.e) ((xa.map FV.e).take k) (mk, ms)) (by rfl) HSR.out (by have := HS1.out; have := HZ5.out; omega) HSL.out path W5.heap.size 1 (by first | rfl | (rw [hQ0]; rfl)) (fun j hj => by
                 obtain rfl : j = 0 := by omega
                 rw [cell_of_row _ _ _ _ _ _ HQ.out]
                 rfl) ?_
               intro v' w6 h1 h2 h3
               have HBS : Hid (w6.heap[bs]? = w1.heap[bs]?) := Lib.hid (h2.block bs (by have := HS1.out; have := HZ5.out; have := HLT.out; omega) (fun e => by have := (HSR.out.lt bs e.symm).1; have := HLT.out; omega))
               obtain ⟨w9, hes, hm9, hg9, hs9⟩ := HST.out w6 v' HBS.out
               have H1 := Lib.hid h1
               have H2 := Lib.hid h2
               have H3 := Lib.hid h3
               have HM9 := Lib.hid hm9
               have HG9b := Lib.hid hg9
               clear h1 h2 h3 hm9 hg9 hs9))
          have HRS6 : Hid (SrcsAt w6 B1 (fun x => if x = (mk, ms) then some v' else S x) (fun x => if x = (mk, ms) then srcK (xb.map FV.e) ((xa.map FV.e).take k) (mk, ms) ++ [path] else srcK (xb.map FV.e) ((xa.map FV.e).take k) x)) := Lib.hid (HRS1.out.snoc (mk, ms) path v' (by rw [HU.out]; exact H2.out) (by
            show w6.ownsRow B1 9 1 v' (srcK (xb.map FV.e) ((xa.map FV.e).take k) (mk, ms) ++ [path]).length _
            rw [List.length_append]
            exact H1.out) (by
            rw [HU.out]
            rcases H3.out with h | h
            · exact .inl h
            · exact .inr (fun g e => by rw [h] at e; have := Option.some.inj e; omega)))
          have HC59 : Hid (Chg (fun q _ => q = bs ∨ u.ownBlock = some q) W5 w9) := Lib.hid ((((Chg.alloc1 W5 _).trans (Chg.of_grown HG1.out (fun q _ e => .inl (Option.some.inj e).symm))).trans (Chg.of_grown H2.out (fun q _ e => .inr e))).trans (Chg.of_grown HG9b.out (fun q _ e => .inl (Option.some.inj e).symm)))
          have HUB : Hid (∀ q, u.ownBlock = some q → B1 ≤ q) := Lib.hid (fun q e => (HSR.out.lt q e).1)
          have HF9 : Hid (MapS w9 bf na (entM (findF xa))) := Lib.hid ((HF3.out.later HX.out).keep (HC59.out.other bf (HF3.out.later HX.out).lt (fun _ e => by
            rcases e with e | e
            · exact HNE.out.2.2.2.1 e
            · have := HUB.out _ e; have := HLT.out; omega)))
          have HA9 : Hid (MapS w9 ba nb (entM (findF xb))) := Lib.hid ((HA3.out.later HX.out).keep (HC59.out.other ba (HA3.out.later HX.out).lt (fun _ e => by
            rcases e with e | e
            · exact HNE.out.2.2.2.2 e
            · have := HUB.out _ e; have := HLT.out; omega)))
          have HG9 : Hid (MapS w9 bg (k + 1) (goneV (goneK (xb.map FV.e) ((xa.map FV.e).take (k + 1))))) := Lib.hid ((HG9a.out.later HX.out).keep (HC59.out.other bg (HG9a.out.later HX.out).lt (fun _ e => by
            rcases e with e | e
            · exact HNE.out.2.2.1 e
            · have := HUB.out _ e; have := HLT.out; omega)))
          have HS9 := HM9
          have HR9 : Hid (SrcsAt w9 B1 (fun x => if x = (mk, ms) then some v' else S x) (srcK (xb.map FV.e) ((xa.map FV.e).take (k + 1)))) := Lib.hid (by
            have e : srcK (xb.map FV.e) ((xa.map FV.e).take (k + 1)) = (fun x => if x = (mk, ms) then srcK (xb.map FV.e) ((xa.map FV.e).take k) (mk, ms) ++ [path] else srcK (xb.map FV.e) ((xa.map FV.e).take k) x) := by
              funext c
              rw [HTK.out, srcK_snoc, HMVX.out]
              by_cases h : c = (mk, ms)
              · subst h
                rw [if_pos ⟨HNK.out, rfl⟩, if_pos rfl]
              · rw [if_neg (fun h2 => h (Option.some.inj h2.2).symm), if_neg h]
            rw [e]
            exact HRS6.out.grown HG9b.out (fun c v e e2 => by have := ((HRS6.out.row c v e).lt _ e2).1; have := HLT.out; omega))
          have HB9 : Hid (Below w.heap.size w w9) := Lib.hid ((HBW3.out.trans (HX.out.mono HBW3.out.size)).trans (HC59.out.below (by have := HBW3.out.size; have := HX.out.size; omega) (fun q i hq e => by
            rcases e with e | e
            · have := HLT.out; omega
            · have := HUB.out _ e; have := HLT.out; omega)))
          have HZ9 : Hid (B1 ≤ w9.heap.size) := Lib.hid (by have := HC59.out.size; have := HZ5.out; omega)
          go_roundw
          case rel => exact ⟨k + 1, (fun x => if x = (mk, ms) then some v' else S x), by omega, by go_num, HF9, HA9, HG9, HS9, HR9, HB9, HZ9⟩
          case measure => simp [intOf]; omega
end Go.Proofs.YtmcbnhkcjhlbaaaGreatDoor.Tp

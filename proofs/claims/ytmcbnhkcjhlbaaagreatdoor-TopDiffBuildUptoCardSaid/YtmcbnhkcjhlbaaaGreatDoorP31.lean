/- Texts Tcb, Tcc of the proof, each as a section; no premises beyond those that each theorem states. -/
import Derived.Test.YtmcbnhkcjhlbaaaGreatDoorP30
set_option linter.unusedVariables false
set_option linter.unusedSimpArgs false
section
namespace Go.Proofs.YtmcbnhkcjhlbaaaGreatDoor.Tp
open Go.RowKit
open Kit (Chg)
open Go.Maps
open Go.WideMaps
open Go.Proofs.YtmcbnhkcjhlbaaaGreatDoor.One

theorem Sc.snoc {w w' : World} {g bb bk N0 n : Nat} {at_ : Int} {fv nv nv' : Value} {rd : Int} {c : Ck.Chk.Cut} {fs : List FlV} {nl : List BV} {b : BV} (h : Sc w g bb bk N0 n at_ fv nv rd c fs nl)
    (hk : MapS w' bk (n + 1) (sumK ((nl ++ [b]).map BV.d))) (hrow : w'.heap[g]? = some (.cells (coRow at_ fv nv' rd bb bk c) 124 (0, 0))) (hc : Chg (fun q _ => q = g ∨ q = bk ∨ nv.ownBlock = some q) w w')
    (hnews : w'.ownsRow N0 52 1 nv' (nl.length + 1) ((nl ++ [b]).flatMap nvC)) (hown : nv'.ownBlock = nv.ownBlock ∨ ∃ q, nv'.ownBlock = some q ∧ w.heap.size ≤ q)
    (hb : BytesAt w' b.a b.d) (hoff : ∀ ad, b.a = some ad → w.heap.size ≤ ad.block ∧ ad.block < w'.heap.size ∧ nv'.ownBlock ≠ some ad.block) :
    Sc w' g bb bk N0 (n + 1) at_ fv nv' rd c fs (nl ++ [b]) ∧ Bt g bk nv nl nv' (nl ++ [b]) w w' := by
  have hl := h.lt
  have ho : ∀ q, q < w.heap.size → nv.ownBlock ≠ some q → nv'.ownBlock ≠ some q := fun q hq hn e => by
    rcases hown with h1 | ⟨q2, h1, h2⟩
    · exact hn (h1 ▸ e)
    · rw [h1] at e
      cases e
      omega
  refine ⟨⟨hrow, h.bef.keep (hc.other bb (by omega) (fun i e => ?_)), hk, ownsRow_keepM h.files hc (fun q hq i e => ?_), by rw [List.length_append]; exact hnews, fun x hx => ?_, fun x hx ad e => ?_, fun q hq => ho q (h.files.lt q hq).2 (h.ap q hq), ⟨hl.1, hl.2.1, hl.2.2.1, Nat.le_trans hl.2.2.2 hc.size⟩, h.ne⟩, ⟨hc.mono (fun q i _ e => ?_), hown, fun x hx => ?_⟩⟩
  · have := h.ne
    rcases e with e | e | e
    · exact this.1 e.symm
    · exact this.2.2 e
    · have := (h.news.lt bb e).1; omega
  · have h1 := (h.files.lt q hq).1
    rcases e with e | e | e
    · omega
    · omega
    · exact h.ap q hq e
  · rcases List.mem_append.1 hx with h4 | h4
    · by_cases hd : x.d = []
      · have h1 := h.dat x h4
        rw [hd] at h1 ⊢
        exact ⟨.inl rfl, h1.2⟩
      · refine bytesAt_chg (h.dat x h4) hc (fun ad e i e2 => ?_)
        have h5 := h.off x h4 ad e
        rcases e2 with e2 | e2 | e2
        · omega
        · omega
        · exact h5.2.2.1 e2
    · rw [List.mem_singleton.1 h4]; exact hb
  · rcases List.mem_append.1 hx with h4 | h4
    · have h5 := h.off x h4 ad e
      exact ⟨h5.1, Nat.lt_of_lt_of_le h5.2.1 hc.size, ho _ h5.2.1 h5.2.2.1, h5.2.2.2⟩
    · rw [List.mem_singleton.1 h4] at e
      have h5 := hoff ad e
      exact ⟨by omega, h5.2.1, h5.2.2, fun e2 => by have := (h.files.lt _ e2).2; omega⟩
  · rcases e with e | e | e
    · exact .inl e
    · exact .inr (.inl e)
    · exact .inr (.inr (.inl e))
  · rcases List.mem_append.1 hx with h4 | h4
    · exact .inl h4
    · exact .inr (fun hd ad e => (hoff ad (by rw [List.mem_singleton.1 h4] at e; exact e)).1)
theorem Bt.bytesS {g bb bk N0 n : Nat} {at_ : Int} {fv nv nv1 : Value} {rd : Int} {c : Ck.Chk.Cut} {fs : List FlV} {nl nl1 : List BV} {W W' : World} (hS : Sc W g bb bk N0 n at_ fv nv rd c fs nl) (h : Bt g bk nv nl nv1 nl1 W W') (q : Nat) (cur : Array Value) (f : Nat × Nat) (hq : W.heap[q]? = some (.cells cur 5 f)) : W'.heap[q]? = W.heap[q]? := by
  refine h.chg.other q (Array.getElem?_eq_some_iff.1 hq).1 (fun i e => ?_)
  rcases e with e | e | e | e
  · subst e
    have h1 := hS.row
    rw [hq] at h1
    cases h1
  · obtain ⟨D, ⟨es, clock, hb, _⟩, _⟩ := hS.kno
    subst e
    rw [hq] at hb
    cases hb
  · rcases hS.news.2 with ⟨e2, _⟩ | ⟨g2, cap2, cur2, e2, _, h4, _⟩
    · rw [e2] at e; cases e
    · rw [e2] at e
      have h5 : g2 = q := by simpa [Value.ownBlock] using e
      rw [h5, hq] at h4
      cases h4
  · have := (Array.getElem?_eq_some_iff.1 hq).1
    omega
theorem Bt.belowS {g bb bk N0 n : Nat} {at_ : Int} {fv nv nv1 : Value} {rd : Int} {c : Ck.Chk.Cut} {fs : List FlV} {nl nl1 : List BV} {W W' : World} (hS : Sc W g bb bk N0 n at_ fv nv rd c fs nl) (h : Bt g bk nv nl nv1 nl1 W W') {B : Nat} (hg : B ≤ g) (hk : B ≤ bk) : Below B W W' :=
  h.chg.below (by have := hS.lt; omega) (fun q i hq e => by
    have := hS.lt
    rcases e with e | e | e | e
    · omega
    · omega
    · have := (hS.news.lt q e).1
      omega
    · omega)
def ReadP (g bb bk N0 n : Nat) (at_ : Int) (fv nv : Value) (rd : Int) (c : Ck.Chk.Cut) (fs : List FlV) (nl : List BV) (cs : List (List Nat)) (w : World) (e : Ending) (w' : World) : Prop := ∃ (nv' : Value) (nl' : List BV) (a : Option Addr) (m cp : Nat), e = .returned (.tuple #[.slice a m cp, .int .i64 0]) ∧ nl'.map BV.d = newS (nl.map BV.d) cs ∧ Sc w' g bb bk N0 (n + cs.length) at_ fv nv' rd c fs nl' ∧ Bt g bk nv nl nv' nl' w w'
set_option maxRecDepth 100000 in
set_option maxHeartbeats 4000000 in
theorem read_any (g bb bk N0 n : Nat) (at_ : Int) (fv nv : Value) (rd : Int) (c : Ck.Chk.Cut) (hc : c.Ok) (fs : List FlV) (nl : List BV) (a : Option Addr) (cap L : Nat) (ds : List Nat) (hL : ds.length = L) (hcap : L ≤ cap) (hl : L ≤ 10000) (hbl : nl.length + L ≤ 100000) (hn : n + L ≤ 100000) (w : World) (hB : BytesAt w a ds) (hS : Sc w g bb bk N0 n at_ fv nv rd c fs nl) (hlo : 7 ≤ g ∧ 7 ≤ bk) (hT : Top w) : Calls Tryz.prog 92 #[.pointer (some ⟨g, 0, none⟩), .slice a L cap] w (ReadP g bb bk N0 n at_ fv nv rd c fs nl (Ck.Chk.chunks c ds) w) := by
  have HSP := Lib.hid (Ck.split_any c hc a cap ds (by omega) (by omega) w hB hT.tab)
  rw [hL] at HSP
  have HL := Lib.hid hL
  have HNB : Hid (nl.length + L ≤ 100000 ∧ n + L ≤ 100000) := Lib.hid ⟨hbl, hn⟩
  have HST := Lib.hid hS
  have HT := Lib.hid hT
  have HLO := Lib.hid hlo
  have HLB : Hid (L ≤ 10000) := Lib.hid hl
  have HCF : Hid ((Ck.Chk.chunks c ds).length ≤ L) := Lib.hid (by rw [← hL]; exact chunks_few c ds)
  obtain ⟨CS, hCS⟩ := ex_eq (Ck.Chk.chunks c ds)
  have HCL : Hid (∀ x ∈ CS, x.length ≤ 10000) := Lib.hid (by rw [← hCS]; intro x hx; have := chunk_len c ds x hx; omega)
  have HCP : Hid (∀ x ∈ CS, 1 ≤ x.length) := Lib.hid (by rw [← hCS]; exact chunks_pos c ds)
  have HCN : Hid ((Ck.Chk.cuts c ds).length = CS.length) := Lib.hid (by rw [← hCS, Ck.Chk.chunks_pieces, Ck.pieces_length])
  rw [hCS] at HSP HCF ⊢
  rw [HCN.out] at HSP
  obtain ⟨m, hm⟩ := ex_eq CS.length
  rw [hm] at HSP HCF
  have HM := Lib.hid hm
  obtain ⟨g0, g1, g2, g3, g4, g5, g6, g7, g8, g9, g10, g11, g12, g13⟩ := rowCo hS.row
  clear hL hcap hl hbl hn hS hlo hT hCS hm hB hc g0 g1 g2 g3 g4 g5 g6 g7 g8
  go_enter Tryz.func92, Tryz.ntmps92
  go_upto_region 2 with (first
    | (go_at_call 13
       (with_reducible refine HSP.out.mono ?_)
       rintro e W1 ⟨sv, xs, rfl, hown, hch, hb⟩
       have HCH := Lib.hid hch
       have HOWN := Lib.hid hown
       have HB1 := Lib.hid hb
       clear hch hown hb))
  clear g9 g10 g11 g12 g13
  have HXN : Hid (xs.length = m) := Lib.hid (by rw [HCH.out.1, HM.out])
  obtain ⟨sa, sc, rfl, hq1, hsc, hq2, hsr, hq3, hsb⟩ := rows_of_own (f := slC) (n := 1) (fun _ => rfl) (by decide) (xs := xs) (by rw [slC_map]; exact HOWN.out)
  have HSR := Lib.hid hsr
  have HSB := Lib.hid hsb
  have HSC := Lib.hid hsc
  have HS1 := Lib.hid (HST.out.later HB1.out)
  have HT1 := Lib.hid (HT.out.later HB1.out)
  have HGN : Hid (g < N0 ∧ bb < N0 ∧ bk < N0 ∧ N0 ≤ w.heap.size ∧ w.heap.size ≤ W1.heap.size) := Lib.hid (by have := HST.out.lt; have := HB1.out.size; omega)
  have HFV : Hid (∀ q, fv.ownBlock = some q → q < W1.heap.size) := Lib.hid (fun q hq => (HS1.out.files.lt q hq).2)
  clear hsr hsb hsc hq1 hq2 hq3
  go_upto_region 6 with fail
  go_loopw [8, 26] (fun v z wr => ∃ (k : Nat) (nv1 : Value) (nl1 : List BV) (ps : List PV), k ≤ m ∧ z = .int .i64 (k : Int) ∧ Hid (nl1.map BV.d = newS (nl.map BV.d) (CS.take k)) ∧ Hid (Sc wr g bb bk N0 (n + k) at_ fv nv1 rd c fs nl1) ∧ Hid (Bt g bk nv nl nv1 nl1 W1 wr) ∧ Hid (wr.ownsRow W1.heap.size 193 2 v k (ps.flatMap PV.cells)) ∧ Hid (∀ q, v.ownBlock = some q → Free q nv1 nl1)) (fun _ z _ => m - (intOf z).toNat)
  case atStart =>
    refine ⟨0, nv, nl, [], Nat.zero_le _, rfl, Lib.hid (by rw [List.take_zero]; rfl), Lib.hid HS1.out, Lib.hid (Bt.refl _ _ _ _ _), Lib.hid (World.ownsRow_nil _ _ _ _), Lib.hid (fun q e => by cases e)⟩
  case round =>
    obtain ⟨k, nv1, nl1, ps, hk, rfl, HND, HBS, HBT, HRW, HFR⟩ := hrel
    by_cases hlt : k < m
    rotate_left
    · go_wp2_with fail
      have hkm : CS.take k = CS := List.take_of_length_le (by have := HM.out; omega)
      have hke : k = CS.length := by have := HM.out; omega
      obtain ⟨ra, rc, hv, hq1, hrc, hq2, hrr, hq3, hrb⟩ := rows_of_own PV.len (by decide) HRW.out
      go_ret2
      refine ⟨nv1, nl1, ra, k, rc, ?_, ?_, ?_, (Bt.of_below HB1.out).trans HBT.out⟩
      · rw [hv]; rfl
      · rw [← hkm]; exact HND.out
      · rw [← hke]; exact HBS.out
    have hkx : k < xs.length := by rw [HXN.out]; exact hlt
    have hkc : k < CS.length := by rw [HM.out]; exact hlt
    have HKC := Lib.hid hkc
    obtain ⟨q, qc, hx1, hx2, hx3, hx4⟩ := (HCH.out.keep (fun q cur f hq => HBT.out.bytesS HS1.out q cur f hq)).2 k hkc
    obtain ⟨X, hX⟩ := ex_eq (CS.getD k [])
    rw [hX] at hx1 hx2 hx3
    have HXE : Hid (CS[k] = X) := Lib.hid (by rw [← hX, List.getD_eq_getElem?_getD, List.getElem?_eq_getElem hkc]; rfl)
    have HTK : Hid (CS.take (k + 1) = CS.take k ++ [X]) := Lib.hid ((List.take_succ_eq_append_getElem hkc).trans (congrArg (fun z => CS.take k ++ [z]) HXE.out))
    have HXL : Hid (X.length ≤ 10000) := Lib.hid (HCL.out X (by rw [← HXE.out]; exact List.getElem_mem hkc))
    obtain ⟨b, o, hsa, hcell⟩ := HSR.out.one k hkx
    subst hsa
    have hc0 : wr.cell? ⟨b, o + k, none⟩ = some (.slice (some ⟨q, 0, none⟩) X.length qc) := by
      have h1 := hcell 0 (by decide)
      have h2 : xs[k] = (some ⟨q, 0, none⟩, X.length, qc) := by
        rw [List.getElem?_eq_getElem hkx] at hx1
        exact Option.some.inj hx1
      rw [h2, Nat.mul_one, Nat.add_zero] at h1
      have h3 : W1.cell? ⟨b, o + k, none⟩ = some (.slice (some ⟨q, 0, none⟩) X.length qc) := h1
      have h4 := HSB.out ⟨b, o, none⟩ rfl
      have h5 := HGN.out
      refine HBT.out.chg.cell h3 (fun e => HBT.out.keeps (q := b) h4.2.1 (by have := h4.1; (try simp only at this); omega) (by have := h4.1; (try simp only at this); omega) (HST.out.fresh h4.1).1 (o + k) e)
    obtain ⟨l, hl⟩ := ex_eq X.length
    rw [hl] at hc0 hx3 HXL
    have HXN2 := Lib.hid hl
    have HXB : Hid (BytesAt wr (some ⟨q, 0, none⟩) X) := Lib.hid hx2
    have HX4 := Lib.hid hx4
    have HXC := Lib.hid hx3
    have HTW : Hid (Top wr) := Lib.hid (HT1.out.low (HBT.out.belowS HS1.out HLO.out.1 HLO.out.2) (Nat.le_refl _))
    have HAL : Hid (nl1.length ≤ 100000 ∧ n + k ≤ 100000) := Lib.hid (by
      have h1 := congrArg List.length HND.out
      have h2 := newS_len (CS.take k) (nl.map BV.d)
      rw [List.length_map] at h1 h2
      rw [List.length_take] at h2
      have := HNB.out
      have := HCF.out
      omega)
    have HSUM := Lib.hid (sum_l (some ⟨q, 0, none⟩) qc X l hl (by rw [hl]; exact hx3) (fun e => by cases e) (by have := HXL.out; omega) wr hx2 (fun ad e hp => (show BytesAt wr (some ⟨q, 0, none⟩) X from hx2).blk ad e (List.length_pos_iff.1 hp)) HTW.out.laid)
    have HXP : Hid (0 < X.length) := Lib.hid (by have := HCP.out X (by rw [← HXE.out]; exact List.getElem_mem hkc); omega)
    clear hx1 hx2 hx3 hx4 hX hcell hl hkc
    go_upto_region 9 with (first
      | (go_at_call 14
         (with_reducible refine HSUM.out.mono ?_)
         rintro e w1 ⟨u, rfl, h1, h2⟩
         have HU := Lib.hid h1
         have HW1 := Lib.hid h2
         clear h1 h2))
    clear hc0
    have hm4 : m ≤ 10000 := by have := HCF.out; have := HNB.out; have := HLB.out; omega
    have HRW1 := Lib.hid (own_later HRW.out HW1.out)
    have HK5 : Hid (k ≤ 5000000) := Lib.hid (by have := HAL.out; omega)
    have HZ1 : Hid (W1.heap.size ≤ w1.heap.size ∧ wr.heap.size ≤ w1.heap.size ∧ W1.heap.size ≤ wr.heap.size) := Lib.hid (by have := HBT.out.size; have := HW1.out.size; omega)
    have HB9 : Hid (W1.heap.size ≤ w1.heap.size) := Lib.hid HZ1.out.1
    go_upto_region 10 with (first
      | (at_builtin
         refine app_at kindPV rfl _ _ rfl W1.heap.size u8 k ps (by rfl) HRW1.out HB9.out HK5.out ⟨u, l⟩ _ (by rfl) 1 (by rfl) ?_
         intro v2 w2 h1 h2 h3
         have H1 := Lib.hid h1
         have H2 := Lib.hid h2
         have H3 := Lib.hid h3
         clear h1 h2 h3))
    have HCH2 : Hid (Chg (fun q _ => u8.ownBlock = some q) w1 w2) := Lib.hid ((Chg.alloc1 w1 _).trans (Chg.of_grown H2.out (fun q _ e => e)))
    have HUF : Hid (∀ q, u8.ownBlock = some q → N0 ≤ q ∧ Free q nv1 nl1 ∧ fv.ownBlock ≠ some q) := Lib.hid (fun q hq => ⟨by have := (HRW.out.lt q hq).1; have := HGN.out; omega, HFR.out q hq, fun e => by have := (HRW.out.lt q hq).1; have := HFV.out q e; omega⟩)
    have HS2 : Hid (Sc w2 g bb bk N0 (n + k) at_ fv nv1 rd c fs nl1) := Lib.hid ((HBS.out.later HW1.out).turn HCH2.out HUF.out)
    have HBT2 : Hid (Bt g bk nv nl nv1 nl1 W1 w2) := Lib.hid ((HBT.out.trans (Bt.of_below HW1.out)).more HCH2.out (fun q i _ e => (HRW.out.lt q e).1))
    have HFR2 : Hid (∀ q, v2.ownBlock = some q → Free q nv1 nl1 ∧ q < w2.heap.size ∧ W1.heap.size ≤ q) := Lib.hid (fun q hq => by
      refine ⟨?_, H1.out.lt q hq |>.2, (H1.out.lt q hq).1⟩
      rcases H3.out with h3 | h3
      · exact HFR.out q (h3 ▸ hq)
      · rw [h3] at hq
        cases hq
        exact ((HBS.out.later HW1.out).fresh (Nat.le_succ _)).1)
    have HQ2 : Hid (w2.heap[q]? = wr.heap[q]?) := Lib.hid (by
      obtain ⟨cur, f, h4⟩ := HX4.out
      have h5 := (HW1.out.block q (Array.getElem?_eq_some_iff.1 h4).1)
      refine (HCH2.out.other q (by have := (Array.getElem?_eq_some_iff.1 h4).1; have := HZ1.out; omega) (fun i e => ?_)).trans h5
      have e : u8.ownBlock = some q := e
      rcases HRW1.out.2 with ⟨e2, _⟩ | ⟨g2, cap2, cur2, e2, _, h6, _⟩
      · rw [e2] at e; cases e
      · rw [e2] at e
        have h7 : g2 = q := by simpa [Value.ownBlock] using e
        rw [h7, h5, h4] at h6
        cases h6)
    have HXB2 : Hid (BytesAt w2 (some ⟨q, 0, none⟩) X) := Lib.hid (bytesAt_same HXB.out HQ2.out)
    have HQB : Hid (q ≠ bk ∧ q < w2.heap.size) := Lib.hid (by
      obtain ⟨cur, f, h4⟩ := HX4.out
      have h5 := HQ2.out.trans h4
      refine ⟨fun e => ?_, (Array.getElem?_eq_some_iff.1 h5).1⟩
      obtain ⟨D, ⟨es, clock, hb, _⟩, _⟩ := HS2.out.kno
      rw [← e, h5] at hb
      cases hb)
    obtain ⟨g0, g1, g2, g3, g4, g5, g6, g7, g8, g9, g10, g11, g12, g13⟩ := rowCo HS2.out.row
    clear g0 g1 g2 g4 g5 g6 g7 g9 g10 g11 g12 g13
    have HUS : Hid (u.size = 32) := Lib.hid (nb_size HU.out (Sha.sum_length _))
    obtain ⟨KB, hKB⟩ := ex_eq (decide (Sha.sum X ∈ (nl1.map BV.d).map Sha.sum))
    have HKB := Lib.hid hKB
    have hlook := HS2.out.kno.look1 (t := 49) (e := 4) Tryz.underlying49 (z := .bool false) (by kernel_rfl) u (by have := HUS.out; unfold maxLen; omega)
    rw [sumK_at (nl1.map BV.d) u X HU.out, hKB] at hlook
    clear hKB
    cases KB with
    | true =>
      have HMEM : Hid (addN (nl1.map BV.d) X = nl1.map BV.d) := Lib.hid (by unfold addN; rw [if_pos (of_decide_eq_true HKB.out)])
      go_wp2_with fail
      clear hlook g3 g8
      go_roundw
      case rel =>
        refine ⟨k + 1, nv1, nl1, ps ++ [⟨u, l⟩], by omega, by go_num, Lib.hid ?_, Lib.hid (HS2.out.mono (Nat.le_succ _)), HBT2, Lib.hid H1.out, Lib.hid (fun q2 hq => (HFR2.out q2 hq).1)⟩
        rw [HTK.out, newS_snoc, ← HND.out]
        exact HMEM.out.symm
      case measure => simp [intOf]; omega
    | false =>
      have HNM : Hid (addN (nl1.map BV.d) X = nl1.map BV.d ++ [X]) := Lib.hid (by unfold addN; rw [if_neg (of_decide_eq_false HKB.out)])
      obtain ⟨w3, hput, hm3, hg3, hs3⟩ := HS2.out.kno.put (t := 49) (e := 4) Tryz.underlying49 (by have := HAL.out; unfold maxLen; omega) u (by have := HUS.out; unfold maxLen; omega) (.bool true)
      go_upto_region 12 with fail
      clear hlook hput g3 g8
      have HM3 := Lib.hid hm3
      have HG3 := Lib.hid hg3
      have HS3 := Lib.hid hs3
      clear hm3 hg3 hs3
      have HC3 : Hid (Chg (fun q _ => q = bk) w2 w3) := Lib.hid (Chg.of_grown HG3.out (fun q _ e => (Option.some.inj e).symm))
      have HXB3 : Hid (BytesAt w3 (some ⟨q, 0, none⟩) X) := Lib.hid (bytesAt_same HXB2.out (HC3.out.other q HQB.out.2 (fun i e => HQB.out.1 e)))
      have HGR : Hid (w3.heap[g]? = some (.cells (coRow at_ fv nv1 rd bb bk c) 124 (0, 0))) := Lib.hid ((HC3.out.other g (by have := HS2.out.lt; omega) (fun i e => HS2.out.ne.2.1 e)).trans HS2.out.row)
      have HNO : Hid (∀ q2, nv1.ownBlock = some q2 → N0 ≤ q2 ∧ q2 < w2.heap.size) := Lib.hid (fun q2 hq => HS2.out.news.lt q2 hq)
      have HLT2 := Lib.hid HS2.out.lt
      have HC12 : Hid (∀ V, Chg (fun q _ => nv1.ownBlock = some q) w3 V → V.cell? ⟨g, 3, none⟩ = some nv1) := Lib.hid (fun V h => h.cell (rowCo HGR.out).2.2.2.1 (fun e => by have := HNO.out g e; have := HLT2.out; omega))
      have HDR : Hid (Below w3.heap.size w3 w3.drew) := Lib.hid (Below.refl _ _).drew
      obtain ⟨VD, hVD⟩ := ex_eq w3.drew
      rw [hVD] at HDR
      refine Kit.wp_region_lplan (fun V => V.cell? ⟨g, 3, none⟩ = some nv1) 13 [(true, 0), (true, 1), (true, 2), (true, 3), (true, 4), (true, 5), (true, 6), (false, 7), (false, 8), (false, 9), (false, 10), (false, 11), (true, 12), (false, 13)] (by kernel_rfl) (by kernel_rfl) (by kernel_rfl) (by kernel_rfl) (by rw [hVD]; exact HC12.out _ (Chg.of_below HDR.out)) ?_
      rw [hVD]
      clear hVD
      iterate 7 (refine Kit.lplan_head (by rfl) (by first | exact .inr ⟨by rfl, rfl⟩ | exact .inl ⟨by rfl, fun w' hS => by (dsimp only at hS); go_simp; (try with_reducible rfl)⟩) ?_; (try simp only [Act.put, List.setIfInBounds_toArray, List.set_cons_zero, List.set_cons_succ]))
      refine Kit.lplan_op (by rfl) (by rfl) (fun K' hK' => ?_) (by decide)
      go_simp
      go_at_call 139
      refine (cloneB_any ⟨q, 0, none⟩ l qc X HXN2.out (by have := HXL.out; omega) VD (HXB3.out.later HDR.out)).mono ?_
      rintro e W7 ⟨a7, c7, rfl, hb7, hc7, hn7, ho7, hw7⟩
      have HB7 := Lib.hid hb7
      have HO7 := Lib.hid ho7
      have HW7 : Hid (Below w3.heap.size w3 W7) := Lib.hid (HDR.out.trans (hw7.mono HDR.out.size))
      have HVS := Lib.hid HDR.out.size
      clear hb7 hc7 hn7 ho7 hw7
      refine hK' _ _ (HC12.out _ (Chg.of_below HW7.out)) ?_
      clear hK' K'
      refine Kit.lplan_op (by rfl) (by rfl) (fun K' hK' => ?_) (by decide)
      go_simp
      refine hK' _ _ (HC12.out _ (Chg.of_below (HW7.out.alloc HW7.out.size _))) ?_
      clear hK' K'
      have HNVC : Hid (nvC (⟨refZ, X, a7, c7⟩ : BV) = [.slice a7 l c7]) := Lib.hid (by rw [← HXN2.out]; rfl)
      have HNW : Hid (W7.ownsRow N0 52 1 nv1 nl1.length (nl1.flatMap nvC)) := Lib.hid (own_later (ownsRow_keepM HS2.out.news HC3.out (fun q2 hq i e => by have e2 : q2 = bk := e; have := HNO.out q2 hq; have := HLT2.out; omega)) HW7.out)
      refine Kit.lplan_op (by rfl) (by rfl) (fun K' hK' => ?_) (by decide)
      refine wp_app_at kindNV _ _ (by rfl) N0 nv1 nl1.length nl1 (by rfl) HNW.out (by have := HLT2.out; have := HW7.out.size; have := HS3.out; omega) (by have := HAL.out; omega) (⟨refZ, X, a7, c7⟩ : BV) _ (by rw [HNVC.out]) 1 (by rfl) ?_
      intro v' w9 h1 h2 h3
      have HCH9 : Hid (Chg (fun q _ => nv1.ownBlock = some q) W7 w9) := Lib.hid ((Chg.alloc1 W7 _).trans (Chg.of_grown h2 (fun q _ e => e)))
      have HV1 := Lib.hid h1
      have HV3 := Lib.hid h3
      have HZ9 : Hid (W7.heap.size + 1 ≤ w9.heap.size) := Lib.hid (by have := h2.size; simpa using this)
      clear h1 h2 h3
      have HC39 : Hid (Chg (fun q _ => nv1.ownBlock = some q) w3 w9) := Lib.hid ((Chg.of_below HW7.out).trans HCH9.out)
      refine hK' _ _ (HC12.out _ HC39.out) ?_
      clear hK' K'
      refine Kit.lplan_op (by rfl) (by rfl) (fun K' hK' => ?_) (by decide)
      go_simp
      refine hK' _ _ (HC12.out _ HC39.out) ?_
      clear hK' K'
      refine Kit.lplan_op (by rfl) (by rfl) (fun K' hK' => ?_) (by decide)
      go_simp
      refine hK' _ _ (HC12.out _ HC39.out) ?_
      clear hK' K'
      iterate 1 (refine Kit.lplan_head (by rfl) (by first | exact .inr ⟨by rfl, rfl⟩ | exact .inl ⟨by rfl, fun w' hS => by (dsimp only at hS); go_simp; (try with_reducible rfl)⟩) ?_; (try simp only [Act.put, List.setIfInBounds_toArray, List.set_cons_zero, List.set_cons_succ]))
      have HG9 : Hid (w9.heap[g]? = some (.cells (coRow at_ fv nv1 rd bb bk c) 124 (0, 0))) := Lib.hid ((HC39.out.other g (by have := HLT2.out; have := HS3.out; omega) (fun i e => by have := HNO.out g e; have := HLT2.out; omega)).trans HGR.out)
      have hf3 : w9.frozen? ⟨g, 3, none⟩ = false := frozen_of_row _ _ _ _ _ HG9.out
      have hc3 := HC12.out _ HC39.out
      obtain ⟨p', l', c', hv'⟩ : ∃ p l c, v' = .slice p l c := by
        rcases HV1.out.2 with h | ⟨g2, cap2, cur2, h, _⟩
        · first | exact ⟨_, _, _, h⟩ | exact ⟨_, _, _, h.1⟩ | exact ⟨_, _, _, h.1.1⟩
        · exact ⟨_, _, _, h⟩
      subst hv'
      refine Kit.lplan_last (by rfl) (by rfl) fun K' hK' => ?_
      go_simp
      refine hK' _ _ ?_
      clear hK' K' hf3 hc3
      refine Kit.lplan_done ?_
      (try simp only [Act.put, List.setIfInBounds_toArray, List.set_cons_zero, List.set_cons_succ])
      have HC10 : Hid (Chg (fun q _ => q = g) w9 (w9.setCell ⟨g, 3, none⟩ (.slice p' l' c'))) := Lib.hid (Chg.setCell1 _ _ _ _ rfl)
      have HG10 : Hid ((w9.setCell ⟨g, 3, none⟩ (.slice p' l' c')).heap[g]? = some (.cells (coRow at_ fv (.slice p' l' c') rd bb bk c) 124 (0, 0))) := Lib.hid (heap_setCell_same w9 g 3 _ _ _ HG9.out)
      obtain ⟨w10, hw10⟩ := ex_eq (w9.setCell ⟨g, 3, none⟩ (.slice p' l' c'))
      rw [hw10] at HC10 HG10 ⊢
      clear hw10
      have HCA : Hid (Chg (fun q _ => q = g ∨ q = bk ∨ nv1.ownBlock = some q) w2 w10) := Lib.hid (((HC3.out.mono fun q i _ e => Or.inr (Or.inl e)).trans (HC39.out.mono fun q i _ e => Or.inr (Or.inr e))).trans (HC10.out.mono fun q i _ e => Or.inl e))
      have HMK : Hid (MapS w10 bk (n + k + 1) (sumK ((nl1 ++ [(⟨refZ, X, a7, c7⟩ : BV)]).map BV.d))) := Lib.hid (by
        have h1 := (HM3.out.keep (w' := w9) (HC39.out.other bk (by have := HLT2.out; have := HS3.out; omega) (fun i e => by have := HNO.out bk e; have := HLT2.out; omega))).keep (w' := w10) (HC10.out.other bk (by have := HLT2.out; have := HS3.out; have := HC39.out.size; omega) (fun i e => HS2.out.ne.2.1 (by have e2 : bk = g := e; exact e2.symm)))
        refine h1.congr (fun p => ?_)
        rw [List.map_append, List.map_singleton]
        exact sumK_put (nl1.map BV.d) u X HU.out p)
      have HNR : Hid (w10.ownsRow N0 52 1 (.slice p' l' c') (nl1.length + 1) ((nl1 ++ [(⟨refZ, X, a7, c7⟩ : BV)]).flatMap nvC)) := Lib.hid (ownsRow_keepM HV1.out HC10.out (fun q2 hq i e => by have e2 : q2 = g := e; have := (HV1.out.lt q2 hq).1; have := HLT2.out; omega))
      have HWZ : Hid (w2.heap.size ≤ W7.heap.size ∧ W7.heap.size + 1 ≤ w10.heap.size ∧ w3.heap.size = w2.heap.size) := Lib.hid (by
        have h1 := HW7.out.size
        have h2 := HC10.out.size
        have h3 := HS3.out
        have h4 := HZ9.out
        omega)
      obtain ⟨hSn, hBn⟩ := HS2.out.snoc (b := (⟨refZ, X, a7, c7⟩ : BV)) HMK.out HG10.out HCA.out HNR.out (by
        rcases HV3.out with h3 | h3
        · exact .inl h3
        · exact .inr ⟨_, h3, by have := HWZ.out; omega⟩) (bytesAt_chg (bytesAt_chg HB7.out HCH9.out (fun ad e i e2 => by have := HO7.out ad e; have := HNO.out _ e2; have := HVS.out; have := HS3.out; omega)) HC10.out (fun ad e i e2 => by have := HO7.out ad e; have e3 : ad.block = g := e2; have := HLT2.out; have := HVS.out; have := HS3.out; omega)) (fun ad e => by
        have h5 := HO7.out ad e
        have h6 := HVS.out
        have h7 := HS3.out
        have h8 := HB7.out.blk ad e (List.length_pos_iff.1 HXP.out)
        have h9 := HWZ.out
        refine ⟨(show w2.heap.size ≤ ad.block by omega), (show ad.block < w10.heap.size by omega), fun e2 => ?_⟩
        rcases HV3.out with h3 | h3
        · have := HNO.out ad.block (h3 ▸ e2)
          omega
        · have := Option.some.inj (h3.symm.trans e2)
          omega)
      have HSN := Lib.hid hSn
      have HBN := Lib.hid hBn
      clear hSn hBn
      go_wp2_with fail
      go_roundw
      case rel =>
        refine ⟨k + 1, .slice p' l' c', nl1 ++ [(⟨refZ, X, a7, c7⟩ : BV)], ps ++ [⟨u, l⟩], by omega, by go_num, Lib.hid ?_, HSN, Lib.hid (HBT2.out.trans HBN.out), Lib.hid ?_, Lib.hid (fun q2 hq => HBN.out.free (HFR2.out q2 hq).1 (HFR2.out q2 hq).2.1)⟩
        · rw [HTK.out, newS_snoc, ← HND.out, HNM.out, List.map_append]
          rfl
        · exact ownsRow_keepM H1.out HCA.out (fun q2 hq i e => by
            have h3 := HFR2.out q2 hq
            have := HLT2.out
            have := HGN.out
            rcases e with e | e | e
            · omega
            · omega
            · exact h3.1.1 e)
      case measure => simp [intOf]; omega
end Go.Proofs.YtmcbnhkcjhlbaaaGreatDoor.Tp
end
section
namespace Go.Proofs.YtmcbnhkcjhlbaaaGreatDoor.Tp
open Go.RowKit
open Kit (Chg)
open Go.Maps
open Go.WideMaps
open Go.Proofs.YtmcbnhkcjhlbaaaGreatDoor.One

theorem Sc.setG {w w' : World} {g bb bk N0 n : Nat} {at_ at2 : Int} {fv nv : Value} {rd rd' : Int} {c : Ck.Chk.Cut} {fs : List FlV} {nl : List BV} (h : Sc w g bb bk N0 n at_ fv nv rd c fs nl) (hr : w'.heap[g]? = some (.cells (coRow at2 fv nv rd' bb bk c) 124 (0, 0))) (hc : Chg (fun q _ => q = g) w w') : Sc w' g bb bk N0 n at2 fv nv rd' c fs nl := by
  have hl := h.lt
  have hne := h.ne
  refine ⟨hr, h.bef.keep (hc.other bb (by omega) (fun i e => hne.1 e.symm)), h.kno.keep (hc.other bk (by omega) (fun i e => hne.2.1 e.symm)), ownsRow_keepM h.files hc (fun q hq i e => by have e2 : q = g := e; have := (h.files.lt q hq).1; omega), ownsRow_keepM h.news hc (fun q hq i e => by have e2 : q = g := e; have := (h.news.lt q hq).1; omega), fun b hb => ?_, fun b hb ad e => ?_, h.ap, ⟨hl.1, hl.2.1, hl.2.2.1, Nat.le_trans hl.2.2.2 hc.size⟩, hne⟩
  · exact bytesAt_chg (h.dat b hb) hc (fun ad e i e2 => by have e3 : ad.block = g := e2; have := (h.off b hb ad e).1; omega)
  · have h1 := h.off b hb ad e
    exact ⟨h1.1, Nat.lt_of_lt_of_le h1.2.1 hc.size, h1.2.2⟩
theorem Sc.file {w w' : World} {g bb bk N0 n : Nat} {at_ : Int} {fv fv' nv : Value} {rd : Int} {c : Ck.Chk.Cut} {fs : List FlV} {nl : List BV} {x : FlV} (h : Sc w g bb bk N0 n at_ fv nv rd c fs nl) (hr : w'.heap[g]? = some (.cells (coRow at_ fv' nv rd bb bk c) 124 (0, 0))) (hc : Chg (fun q _ => q = g ∨ fv.ownBlock = some q) w w') (hf : w'.ownsRow N0 190 7 fv' (fs.length + 1) ((fs ++ [x]).flatMap FlV.cells)) (hown : fv'.ownBlock = fv.ownBlock ∨ ∃ q, fv'.ownBlock = some q ∧ w.heap.size ≤ q) : Sc w' g bb bk N0 n at_ fv' nv rd c (fs ++ [x]) nl := by
  have hl := h.lt
  have hne := h.ne
  have ho : ∀ q, q < w.heap.size → fv.ownBlock ≠ some q → fv'.ownBlock ≠ some q := fun q hq hn e => by
    rcases hown with h1 | ⟨q2, h1, h2⟩
    · exact hn (h1 ▸ e)
    · rw [h1] at e
      cases e
      omega
  have hm : ∀ q, q < N0 → q ≠ g → ∀ i : Nat, ¬ (q = g ∨ fv.ownBlock = some q) := fun q h1 h2 i e => by
    rcases e with e | e
    · exact h2 e
    · have := (h.files.lt q e).1; omega
  refine ⟨hr, h.bef.keep (hc.other bb (by omega) (hm bb hl.2.1 (fun e => hne.1 e.symm))), h.kno.keep (hc.other bk (by omega) (hm bk hl.2.2.1 (fun e => hne.2.1 e.symm))), by rw [List.length_append]; exact hf, ownsRow_keepM h.news hc (fun q hq i e => ?_), fun b hb => ?_, fun b hb ad e => ?_, fun q hq e => ?_, ⟨hl.1, hl.2.1, hl.2.2.1, Nat.le_trans hl.2.2.2 hc.size⟩, hne⟩
  · rcases e with e | e
    · have := (h.news.lt q hq).1; omega
    · exact h.ap q e hq
  · refine bytesAt_chg (h.dat b hb) hc (fun ad e i e2 => ?_)
    have h1 := h.off b hb ad e
    rcases e2 with e2 | e2
    · omega
    · exact h1.2.2.2 e2
  · have h1 := h.off b hb ad e
    exact ⟨h1.1, Nat.lt_of_lt_of_le h1.2.1 hc.size, h1.2.2.1, ho _ h1.2.1 h1.2.2.2⟩
  · exact ho q (h.news.lt q e).2 (fun e2 => h.ap q e2 e) hq
def filC (c : Ck.Chk.Cut) (e : FE) : List (List Nat) := if e.kind = 1 then Ck.Chk.chunks c e.data else []
def AddF (g bb bk N0 n : Nat) (at_ : Int) (rd : Nat) (c : Ck.Chk.Cut) (fs : List FlV) (nl : List BV) (x : FE) (w : World) (e : Ending) (w' : World) : Prop := ∃ (fv' nv' : Value) (fs' : List FlV) (nl' : List BV) (rd' : Nat), e = .returned (.int .i64 0) ∧ fs'.length = fs.length + 1 ∧ nl'.map BV.d = newS (nl.map BV.d) (filC c x) ∧ rd' ≤ rd + 1 ∧ Sc w' g bb bk N0 (n + (filC c x).length) at_ fv' nv' (rd' : Int) c fs' nl' ∧ Chg (fun q _ => q = g ∨ q = bk ∨ N0 ≤ q) w w'
set_option maxRecDepth 100000 in
set_option maxHeartbeats 4000000 in
theorem addF_any (g bb bk N0 n : Nat) (at_ : Int) (fv nv : Value) (rd : Nat) (hrd : rd ≤ 100000) (c : Ck.Chk.Cut) (hc : c.Ok) (fs : List FlV) (nl : List BV) (x : FV) (hxe : x.e.ok) (hl : x.e.data.length ≤ 10000) (hfl : fs.length ≤ 100000) (hbl : nl.length + x.e.data.length ≤ 100000) (hn : n + x.e.data.length ≤ 100000) (w : World) (hx : x.ok w) (hS : Sc w g bb bk N0 n at_ fv nv (rd : Int) c fs nl) (hlo : 7 ≤ g ∧ 7 ≤ bk) (hT : Top w) : Calls Tryz.prog 49 #[.pointer (some ⟨g, 0, none⟩), .agg x.row] w (AddF g bb bk N0 n at_ rd c fs nl x.e w) := by
  have HRD := Lib.hid hrd
  have HC := Lib.hid hc
  have HX := Lib.hid hx
  have HXE := Lib.hid hxe
  have HXL := Lib.hid hl
  have HFL := Lib.hid hfl
  have HNB : Hid (nl.length + x.e.data.length ≤ 100000 ∧ n + x.e.data.length ≤ 100000) := Lib.hid ⟨hbl, hn⟩
  have HST := Lib.hid hS
  have HLO := Lib.hid hlo
  have HT := Lib.hid hT
  clear hrd hc hx hxe hl hfl hbl hn hS hlo hT
  obtain ⟨⟨path, kind, mode, time, data, link⟩, da, dc⟩ := x
  unfold FV.row
  dsimp only
  obtain ⟨dl, hdl⟩ := ex_eq data.length
  have HDL := Lib.hid hdl
  rw [hdl]
  clear hdl
  go_enter Tryz.func49, Tryz.ntmps49
  go_upto_region 1 with fail
  refine wp_over (fun V => Hid (V.heap[w.heap.size]? = some (.cells (FV.row (⟨⟨path, kind, mode, time, data, link⟩, da, dc⟩ : FV)) 54 (0, 0))) ∧ Hid (Below w.heap.size w V) ∧ Hid (V.heap.size = w.heap.size + 1)) ⟨Lib.hid (by rw [← HDL.out]; exact heap_alloc_new _ _), Lib.hid ((Below.refl _ _).alloc (Nat.le_refl _) _), Lib.hid (by simp)⟩ ?_
  rintro W ⟨HGE, HWB, HWS⟩
  obtain ⟨N, hN⟩ := ex_eq w.heap.size
  rw [hN] at HGE HWS ⊢
  have HNN := Lib.hid hN
  clear hN
  obtain ⟨t0, t1, t2, t3, t4, t5⟩ := row6 HGE.out
  dsimp only at t0 t1 t2 t3 t4 t5
  rw [HDL.out] at t4
  go_upto_region 2 with fail
  clear t0 t1 t2 t3 t4 t5
  refine wp_over (fun V => Hid (V.heap[W.heap.size]? = some (.cells (FlV.row ⟨path, kind, mode, time, (dl : Int), link, none, 0, 0⟩) 190 (0, 0))) ∧ Hid (Below W.heap.size W V) ∧ Hid (V.heap.size = W.heap.size + 1)) ⟨Lib.hid (heap_alloc_new _ _), Lib.hid ((Below.refl _ _).alloc (Nat.le_refl _) _), Lib.hid (by simp)⟩ ?_
  rintro W1 ⟨HGM, HWB1, HWS1⟩
  obtain ⟨M, hM⟩ := ex_eq W.heap.size
  rw [hM] at HGM HWS1 ⊢
  have HMM : Hid (M = N + 1 ∧ W1.heap.size = N + 2 ∧ w.heap.size = N) := Lib.hid (by have := HWS.out; have := HWS1.out; have := HNN.out; omega)
  have HB1 : Hid (Below w.heap.size w W1) := Lib.hid (HWB.out.trans (HWB1.out.mono (by have := HWS.out; have := HNN.out; omega)))
  have HGE1 : Hid (W1.heap[N]? = some (.cells (FV.row (⟨⟨path, kind, mode, time, data, link⟩, da, dc⟩ : FV)) 54 (0, 0))) := Lib.hid ((HWB1.out.block N (by have := HWS.out; omega)).trans HGE.out)
  clear hM
  have HS1 := Lib.hid (HST.out.later HB1.out)
  have HT1 := Lib.hid (HT.out.later HB1.out)
  have HLT := Lib.hid HST.out.lt
  have HFN : Hid (∀ q, N ≤ q → Free q nv nl ∧ fv.ownBlock ≠ some q) := Lib.hid (fun q hq => HST.out.fresh (by have := HNN.out; omega))
  obtain ⟨t0, t1, t2, t3, t4, t5⟩ := row6 HGE1.out
  dsimp only at t0 t1 t2 t3 t4 t5
  rw [HDL.out] at t4
  by_cases hk1 : kind = 1
  focus (
    subst hk1
    go_upto_region 3 with fail
    clear t0 t1 t2 t3 t4 t5
    have HS3 : Hid (∀ X, Below (N + 2) W1 X → X.cell? ⟨g, 7, none⟩ = some (.map (some bb)) ∧ X.cell? ⟨N, 0, none⟩ = some (.string path) ∧ (Instr.lookup 120 (.map (some bb)) (.string path) true).run Tryz.prog X = .ok (.tuple #[.agg #[.string ⟨#[]⟩, .int .i64 0, .int .i64 0, .int .i64 0, .int .i64 0, .string ⟨#[]⟩, .slice none 0 0], .bool false]) X) := Lib.hid (fun X h => by
      have hl := HLT.out
      have hn := HMM.out
      have hg := (h.block g (by omega)).trans HS1.out.row
      have hb := (HS1.out.bef.keep (h.block bb (by omega))).look (t := 120) (e := 190) Tryz.underlying120 (z := .agg #[.string ⟨#[]⟩, .int .i64 0, .int .i64 0, .int .i64 0, .int .i64 0, .string ⟨#[]⟩, .slice none 0 0]) (by kernel_rfl) path (by have h4 := HX.out.sp; unfold maxLen; dsimp only at h4; omega)
      exact ⟨(rowCo hg).2.2.2.2.2.2.2.1, (row6 ((h.block N (by omega)).trans HGE1.out)).1, hb⟩)
    have HDR : Hid (Below (N + 2) W1 W1.drew) := Lib.hid (Below.refl _ _).drew
    obtain ⟨VD, hVD⟩ := ex_eq W1.drew
    rw [hVD] at HDR
    refine Kit.wp_region_hplan (fun V => V.cell? ⟨g, 7, none⟩ = some (.map (some bb)) ∧ V.cell? ⟨N, 0, none⟩ = some (.string path) ∧ (Instr.lookup 120 (.map (some bb)) (.string path) true).run Tryz.prog V = .ok (.tuple #[.agg #[.string ⟨#[]⟩, .int .i64 0, .int .i64 0, .int .i64 0, .int .i64 0, .string ⟨#[]⟩, .slice none 0 0], .bool false]) V) [(true, 0), (true, 1), (true, 2), (true, 3), (true, 4), (true, 5), (true, 6), (true, 7), (true, 8), (true, 9), (false, 10), (false, 11), (true, 12)] (by kernel_rfl) (by kernel_rfl) (by kernel_rfl) (by kernel_rfl) (by rw [hVD]; exact HS3.out _ HDR.out) ?_
    rw [hVD]
    clear hVD
    iterate 10 (refine Kit.hplan_head (by rfl) (by first | exact .inr ⟨by rfl, rfl⟩ | exact .inl ⟨by rfl, fun w' hS => by (dsimp only at hS); go_simp; (try with_reducible rfl)⟩) ?_; (try simp only [Act.put, List.setIfInBounds_toArray, List.set_cons_zero, List.set_cons_succ]))
    refine Kit.hplan_op (by rfl) (by rfl) fun K' hK' => ?_
    go_simp
    have HAG : Hid ((VD.alloc (.cells #[.string ⟨#[]⟩, .int .i64 0, .int .i64 0, .int .i64 0, .int .i64 0, .string ⟨#[]⟩, .slice none 0 0] 190)).heap[VD.heap.size]? = some (.cells #[.string ⟨#[]⟩, .int .i64 0, .int .i64 0, .int .i64 0, .int .i64 0, .string ⟨#[]⟩, .slice none 0 0] 190 (0, 0))) := Lib.hid (heap_alloc_new _ _)
    have HA1 : Hid (Below (N + 2) W1 (VD.alloc (.cells #[.string ⟨#[]⟩, .int .i64 0, .int .i64 0, .int .i64 0, .int .i64 0, .string ⟨#[]⟩, .slice none 0 0] 190))) := Lib.hid (HDR.out.alloc (by have := HDR.out.size; have := HMM.out; omega) _)
    have HA2 : Hid (N + 2 ≤ VD.heap.size) := Lib.hid (by have := HDR.out.size; have := HMM.out; omega)
    obtain ⟨VA, hVA⟩ := ex_eq (VD.alloc (.cells #[.string ⟨#[]⟩, .int .i64 0, .int .i64 0, .int .i64 0, .int .i64 0, .string ⟨#[]⟩, .slice none 0 0] 190))
    rw [hVA] at HAG HA1 ⊢
    clear hVA
    obtain ⟨A, hA⟩ := ex_eq VD.heap.size
    rw [hA] at HAG HA2 ⊢
    clear hA
    refine hK' _ _ (HS3.out _ HA1.out) ?_
    clear hK' K'
    obtain ⟨z0, z1, z2, z3, z4, z5, z6⟩ := row7 (x := (⟨⟨#[]⟩, 0, 0, 0, 0, ⟨#[]⟩, none, 0, 0⟩ : FlV)) HAG.out
    dsimp only at z0 z1 z2 z3 z4 z5 z6
    have zf : ∀ i, VA.frozen? ⟨A, i, none⟩ = false := fun i => frozen_of_row _ _ _ _ _ HAG.out
    refine Kit.hplan_op (by rfl) (by rfl) fun K' hK' => ?_
    go_simp
    have HPB : Hid (Below (N + 2) W1 (putL A 0 [.string ⟨#[]⟩, .int .i64 0, .int .i64 0, .int .i64 0, .int .i64 0, .string ⟨#[]⟩, .slice none 0 0] VA)) := Lib.hid (putL_below HA2.out _ 0 _ HA1.out)
    refine hK' _ _ (HS3.out _ HPB.out) ?_
    clear hK' K'
    iterate 1 (refine Kit.hplan_head (by rfl) (by first | exact .inr ⟨by rfl, rfl⟩ | exact .inl ⟨by rfl, fun w' hS => by (dsimp only at hS); go_simp; (try with_reducible rfl)⟩) ?_; (try simp only [Act.put, List.setIfInBounds_toArray, List.set_cons_zero, List.set_cons_succ]))
    refine Kit.hplan_done ?_
    (try simp only [Act.put, List.setIfInBounds_toArray, List.set_cons_zero, List.set_cons_succ])
    obtain ⟨V2, hV2⟩ := ex_eq (putL A 0 [.string ⟨#[]⟩, .int .i64 0, .int .i64 0, .int .i64 0, .int .i64 0, .string ⟨#[]⟩, .slice none 0 0] VA)
    rw [hV2] at HPB
    clear z0 z1 z2 z3 z4 z5 z6 zf
    (try go_wp2_with fail)
    refine wp_over (fun V => V = V2) hV2 ?_
    rintro V rfl
    clear hV2
    obtain ⟨V3, hV3⟩ := ex_eq V.drew
    have HDR3 : Hid (Below (N + 2) W1 V3) := Lib.hid (by rw [← hV3]; exact HPB.out.drew)
    refine Kit.wp_region_hplan (fun V => True) [(true, 0), (true, 1), (true, 2), (true, 3), (true, 4), (true, 5), (true, 6), (true, 7), (false, 8), (true, 9)] (by kernel_rfl) (by kernel_rfl) (by kernel_rfl) (by kernel_rfl) trivial ?_
    rw [hV3]
    clear hV3
    iterate 8 (refine Kit.hplan_head (by rfl) (by first | exact .inr ⟨by rfl, rfl⟩ | exact .inl ⟨by rfl, fun w' hS => by (dsimp only at hS); go_simp; (try with_reducible rfl)⟩) ?_; (try simp only [Act.put, List.setIfInBounds_toArray, List.set_cons_zero, List.set_cons_succ]))
    refine Kit.hplan_skip (by rfl) (by rfl) ?_
    (try simp only [Act.put, List.setIfInBounds_toArray, List.set_cons_zero, List.set_cons_succ])
    iterate 1 (refine Kit.hplan_head (by rfl) (by first | exact .inr ⟨by rfl, rfl⟩ | exact .inl ⟨by rfl, fun w' hS => by (dsimp only at hS); go_simp; (try with_reducible rfl)⟩) ?_; (try simp only [Act.put, List.setIfInBounds_toArray, List.set_cons_zero, List.set_cons_succ]))
    refine Kit.hplan_done ?_
    (try simp only [Act.put, List.setIfInBounds_toArray, List.set_cons_zero, List.set_cons_succ])
    obtain ⟨t0, t1, t2, t3, t4, t5⟩ := row6 ((HDR3.out.block N (by omega)).trans HGE1.out)
    dsimp only at t0 t1 t2 t3 t4 t5
    rw [HDL.out] at t4
    have HBV : Hid (Below W1.heap.size W1 V3) := Lib.hid (by have h := HMM.out.2.1; rw [h]; exact HDR3.out)
    have HSV := Lib.hid (HS1.out.later HBV.out)
    have HTV := Lib.hid (HT1.out.later HBV.out)
    have HDA : Hid (BytesAt V3 da data) := Lib.hid (((HX.out.later HB1.out).later HBV.out).dat)
    have HLS : Hid (dl ≤ dc ∧ dl ≤ 10000 ∧ nl.length + dl ≤ 100000 ∧ n + dl ≤ 100000) := Lib.hid (by
      have h1 := HX.out.cap
      have h2 := HXL.out
      have h3 := HNB.out
      dsimp only at h1 h2 h3
      rw [HDL.out] at h1 h2 h3
      exact ⟨h1, h2, h3⟩)
    have HRE := Lib.hid (read_any g bb bk N0 n at_ fv nv (rd : Int) c HC.out fs nl da dc dl data HDL.out HLS.out.1 HLS.out.2.1 HLS.out.2.2.1 HLS.out.2.2.2 V3 HDA.out HSV.out HLO.out HTV.out)
    obtain ⟨CS, hCS⟩ := ex_eq (Ck.Chk.chunks c data)
    rw [hCS] at HRE
    have HFC : Hid (filC c (⟨path, 1, mode, time, data, link⟩ : FE) = CS) := Lib.hid (by unfold filC; rw [if_pos rfl]; exact hCS)
    clear hCS
    go_upto_region 10 with (first
      | (go_at_call 92
         (with_reducible refine HRE.out.mono ?_)
         rintro e w2 ⟨nv2, nl2, pa, pm, pc, rfl, h1, h2, h3⟩
         have HND := Lib.hid h1
         have HS2 := Lib.hid h2
         have HT2 := Lib.hid h3
         clear h1 h2 h3))
    clear t0 t1 t2 t3 t4 t5
    have HGM3 : Hid (V3.heap[M]? = some (.cells (FlV.row (⟨path, 1, mode, time, (dl : Int), link, none, 0, 0⟩ : FlV)) 190 (0, 0))) := Lib.hid ((HDR3.out.block M (by have := HMM.out; omega)).trans HGM.out)
    have HMV : Hid (M < V3.heap.size ∧ N0 ≤ M ∧ M ≠ g ∧ M ≠ bk) := Lib.hid ⟨(Array.getElem?_eq_some_iff.1 HGM3.out).1, by have := HLT.out; have := HMM.out; omega, by have := HLT.out; have := HMM.out; omega, by have := HLT.out; have := HMM.out; omega⟩
    have HFM := Lib.hid (HFN.out M (by have := HMM.out; omega))
    have HGM2 : Hid (w2.heap[M]? = some (.cells (FlV.row (⟨path, 1, mode, time, (dl : Int), link, none, 0, 0⟩ : FlV)) 190 (0, 0))) := Lib.hid ((HT2.out.chg.other M HMV.out.1 (HT2.out.keeps HMV.out.1 HMV.out.2.2.1 HMV.out.2.2.2 HFM.out.1)).trans HGM3.out)
    obtain ⟨y0, y1, y2, y3, y4, y5, y6⟩ := row7 HGM2.out
    dsimp only at y0 y1 y2 y3 y4 y5 y6
    have yf : ∀ i, w2.frozen? ⟨M, i, none⟩ = false := fun i => frozen_of_row _ _ _ _ _ HGM2.out
    go_upto_region 11 with fail
    clear y0 y1 y2 y3 y4 y5 y6 yf
    refine wp_over (fun Y => Hid (Y.heap[M]? = some (.cells (FlV.row (⟨path, 1, mode, time, (dl : Int), link, pa, pm, pc⟩ : FlV)) 190 (0, 0))) ∧ Hid (Chg (fun q _ => q = M) w2 Y)) ⟨Lib.hid (heap_setCell_same w2 M 6 _ _ _ HGM2.out), Lib.hid (Chg.setCell1 _ _ _ _ rfl)⟩ ?_
    rintro Y ⟨HMY, HCY⟩
    have HSY : Hid (Sc Y g bb bk N0 (n + CS.length) at_ fv nv2 (rd : Int) c fs nl2) := Lib.hid (HS2.out.turn HCY.out (fun q e => by
      have e2 : q = M := e
      subst e2
      exact ⟨HMV.out.2.1, HT2.out.free HFM.out.1 HMV.out.1, HFM.out.2⟩))
    have g4 := (rowCo HSY.out.row).2.2.2.2.1
    have gf : Y.frozen? ⟨g, 4, none⟩ = false := frozen_of_row _ _ _ _ _ HSY.out.row
    have hr5 : rd ≤ 100000 := HRD.out
    go_upto_region 12 with fail
    clear g4 gf hr5
    refine wp_over (fun Z => Hid (Z.heap[g]? = some (.cells (coRow at_ fv nv2 ((rd + 1 : Nat) : Int) bb bk c) 124 (0, 0))) ∧ Hid (Chg (fun q _ => q = g) Y Z)) ⟨Lib.hid (heap_setCell_same Y g 4 _ _ _ HSY.out.row), Lib.hid (Chg.setCell1 _ _ _ _ rfl)⟩ ?_
    rintro Z ⟨HGZ, HCG⟩
    have HSZ := Lib.hid (HSY.out.setG HGZ.out HCG.out)
    have HCZ : Hid (Chg (fun q _ => q = g ∨ q = bk ∨ N0 ≤ q) w Z) := Lib.hid (by
      have h1 : Chg (fun q _ => q = g ∨ q = bk ∨ N0 ≤ q) w V3 := (Chg.of_below HB1.out).trans (Chg.of_below HBV.out)
      have h2 : Chg (fun q _ => q = g ∨ q = bk ∨ N0 ≤ q) V3 w2 := HT2.out.chg.mono (fun q i hq e => by
        rcases e with e | e | e | e
        · exact .inl e
        · exact .inr (.inl e)
        · exact .inr (.inr (HSV.out.news.lt q e).1)
        · omega)
      exact ((h1.trans h2).trans (HCY.out.mono (fun q i _ e => .inr (.inr (by have e2 : q = M := e; have := HMV.out; omega))))).trans (HCG.out.mono (fun q i _ e => .inl e)))
    obtain ⟨x, hx⟩ : ∃ x : FlV, x = ⟨path, 1, mode, time, (dl : Int), link, pa, pm, pc⟩ := ⟨_, rfl⟩
    obtain ⟨rd2, hr2⟩ := ex_eq (rd + 1)
    rw [hr2] at HSZ
    have HR2 : Hid (rd2 ≤ rd + 1) := Lib.hid (Nat.le_of_eq hr2.symm)
    have HMZ : Hid (Z.heap[M]? = some (.cells (FlV.row x) 190 (0, 0))) := Lib.hid (by rw [hx]; exact (HCG.out.other M (by have := HT2.out.size; have := HCY.out.size; have := HMV.out; omega) (fun i e => HMV.out.2.2.1 e)).trans HMY.out)
    have HMF : Hid (fv.ownBlock ≠ some M) := Lib.hid HFM.out.2
    clear hx hr2)
  rotate_left
  focus (
    go_upto_region 12 with fail
    clear t0 t1 t2 t3 t4 t5
    obtain ⟨Z, hZ⟩ := ex_eq W1
    obtain ⟨nv2, hnv⟩ := ex_eq nv
    obtain ⟨nl2, hnl⟩ := ex_eq nl
    obtain ⟨rd2, hr2⟩ := ex_eq rd
    obtain ⟨CS, hCS⟩ : ∃ CS : List (List Nat), CS = [] := ⟨_, rfl⟩
    have HFC : Hid (filC c (⟨path, kind, mode, time, data, link⟩ : FE) = CS) := Lib.hid (by unfold filC; rw [if_neg hk1, hCS])
    have HSZ : Hid (Sc Z g bb bk N0 (n + CS.length) at_ fv nv2 (rd2 : Int) c fs nl2) := Lib.hid (by rw [hCS, ← hZ, ← hnv, ← hnl, ← hr2]; exact HS1.out)
    have HND : Hid (nl2.map BV.d = newS (nl.map BV.d) CS) := Lib.hid (by rw [hCS, ← hnl]; rfl)
    have HR2 : Hid (rd2 ≤ rd + 1) := Lib.hid (by omega)
    have HCZ : Hid (Chg (fun q _ => q = g ∨ q = bk ∨ N0 ≤ q) w Z) := Lib.hid (by rw [← hZ]; exact Chg.of_below HB1.out)
    obtain ⟨x, hx⟩ : ∃ x : FlV, x = ⟨path, kind, mode, time, (dl : Int), link, none, 0, 0⟩ := ⟨_, rfl⟩
    have HMZ : Hid (Z.heap[M]? = some (.cells (FlV.row x) 190 (0, 0))) := Lib.hid (by rw [← hZ, hx]; exact HGM.out)
    have HMF : Hid (fv.ownBlock ≠ some M) := Lib.hid (HFN.out M (by have := HMM.out; omega)).2
    rw [hZ]
    clear hx hr2 hnl hnv hZ hCS)
  all_goals (
    have HMS : Hid (M < Z.heap.size) := Lib.hid (Array.getElem?_eq_some_iff.1 HMZ.out).1
    have HLZ := Lib.hid HSZ.out.lt
    have HFO : Hid (∀ q, fv.ownBlock = some q → N0 ≤ q ∧ q < Z.heap.size ∧ q ≠ M) := Lib.hid (fun q hq => ⟨(HSZ.out.files.lt q hq).1, (HSZ.out.files.lt q hq).2, fun e => HMF.out (e ▸ hq)⟩)
    have HS12 : Hid (∀ X, Chg (fun q _ => fv.ownBlock = some q) Z X → X.cell? ⟨g, 1, none⟩ = some fv ∧ (X.cell? ⟨M, 0, none⟩ = some (.string x.path) ∧ X.cell? ⟨M, 1, none⟩ = some (.int .i64 x.kind) ∧ X.cell? ⟨M, 2, none⟩ = some (.int .i64 x.mode) ∧ X.cell? ⟨M, 3, none⟩ = some (.int .i64 x.time) ∧ X.cell? ⟨M, 4, none⟩ = some (.int .i64 x.size) ∧ X.cell? ⟨M, 5, none⟩ = some (.string x.link) ∧ X.cell? ⟨M, 6, none⟩ = some (.slice x.a x.n x.c))) := Lib.hid (fun X h => by
      obtain ⟨y0, y1, y2, y3, y4, y5, y6⟩ := row7 HMZ.out
      have f : ∀ i {z : Value}, Z.cell? ⟨M, i, none⟩ = some z → X.cell? ⟨M, i, none⟩ = some z := fun i z hz => h.cell hz (fun e => (HFO.out M e).2.2 rfl)
      exact ⟨h.cell (rowCo HSZ.out.row).2.1 (fun e => by have := (HFO.out g e).1; have := HLZ.out; omega), f _ y0, f _ y1, f _ y2, f _ y3, f _ y4, f _ y5, f _ y6⟩)
    have HDRZ : Hid (Below Z.heap.size Z Z.drew) := Lib.hid (Below.refl _ _).drew
    obtain ⟨VE, hVE⟩ := ex_eq Z.drew
    rw [hVE] at HDRZ
    refine Kit.wp_region_lplan (fun V => V.cell? ⟨g, 1, none⟩ = some fv ∧ (V.cell? ⟨M, 0, none⟩ = some (.string x.path) ∧ V.cell? ⟨M, 1, none⟩ = some (.int .i64 x.kind) ∧ V.cell? ⟨M, 2, none⟩ = some (.int .i64 x.mode) ∧ V.cell? ⟨M, 3, none⟩ = some (.int .i64 x.time) ∧ V.cell? ⟨M, 4, none⟩ = some (.int .i64 x.size) ∧ V.cell? ⟨M, 5, none⟩ = some (.string x.link) ∧ V.cell? ⟨M, 6, none⟩ = some (.slice x.a x.n x.c))) 14 [(true, 0), (true, 1), (true, 2), (true, 3), (true, 4), (true, 5), (true, 6), (true, 7), (false, 8), (false, 9), (false, 10), (false, 11), (false, 12), (true, 13), (false, 14)] (by kernel_rfl) (by kernel_rfl) (by kernel_rfl) (by kernel_rfl) (by rw [hVE]; exact HS12.out _ (Chg.of_below HDRZ.out)) ?_
    rw [hVE]
    clear hVE
    iterate 8 (refine Kit.lplan_head (by rfl) (by first | exact .inr ⟨by rfl, rfl⟩ | exact .inl ⟨by rfl, fun w' hS => by (dsimp only at hS); go_simp; (try with_reducible rfl)⟩) ?_; (try simp only [Act.put, List.setIfInBounds_toArray, List.set_cons_zero, List.set_cons_succ]))
    refine Kit.lplan_op (by rfl) (by rfl) (fun K' hK' => ?_) (by decide)
    go_simp
    refine hK' _ _ (HS12.out _ (Chg.of_below (HDRZ.out.alloc HDRZ.out.size _))) ?_
    clear hK' K'
    have HFW : Hid (VE.ownsRow N0 190 7 fv fs.length (fs.flatMap FlV.cells)) := Lib.hid (own_later HSZ.out.files HDRZ.out)
    refine Kit.lplan_op (by rfl) (by rfl) (fun K' hK' => ?_) (by decide)
    refine wp_app_at kindFl _ _ (by rfl) N0 fv fs.length fs (by rfl) HFW.out (by have := HLZ.out; have := HDRZ.out.size; omega) (by have := HFL.out; omega) x _ (by rfl) 1 (by rfl) ?_
    intro v' w9 h1 h2 h3
    have HCH9 : Hid (Chg (fun q _ => fv.ownBlock = some q) Z w9) := Lib.hid ((Chg.of_below HDRZ.out).trans ((Chg.alloc1 VE _).trans (Chg.of_grown h2 (fun q _ e => e))))
    have HV1 := Lib.hid h1
    have HV3 := Lib.hid h3
    clear h1 h2 h3
    refine hK' _ _ (HS12.out _ HCH9.out) ?_
    clear hK' K'
    iterate 3 (
      refine Kit.lplan_op (by rfl) (by rfl) (fun K' hK' => ?_) (by decide)
      go_simp
      refine hK' _ _ (HS12.out _ HCH9.out) ?_
      clear hK' K')
    iterate 1 (refine Kit.lplan_head (by rfl) (by first | exact .inr ⟨by rfl, rfl⟩ | exact .inl ⟨by rfl, fun w' hS => by (dsimp only at hS); go_simp; (try with_reducible rfl)⟩) ?_; (try simp only [Act.put, List.setIfInBounds_toArray, List.set_cons_zero, List.set_cons_succ]))
    have HG9 : Hid (w9.heap[g]? = some (.cells (coRow at_ fv nv2 (rd2 : Int) bb bk c) 124 (0, 0))) := Lib.hid ((HCH9.out.other g (by have := HLZ.out; omega) (fun i e => by have := (HFO.out g e).1; have := HLZ.out; omega)).trans HSZ.out.row)
    have hf3 : w9.frozen? ⟨g, 1, none⟩ = false := frozen_of_row _ _ _ _ _ HG9.out
    have hc3 := (HS12.out _ HCH9.out).1
    obtain ⟨p', l', c', hv'⟩ : ∃ p l c, v' = .slice p l c := by
      rcases HV1.out.2 with h | ⟨g2, cap2, cur2, h, _⟩
      · first | exact ⟨_, _, _, h⟩ | exact ⟨_, _, _, h.1⟩ | exact ⟨_, _, _, h.1.1⟩
      · exact ⟨_, _, _, h⟩
    subst hv'
    refine Kit.lplan_last (by rfl) (by rfl) fun K' hK' => ?_
    go_simp
    refine hK' _ _ ?_
    clear hK' K' hf3 hc3
    refine Kit.lplan_done ?_
    (try simp only [Act.put, List.setIfInBounds_toArray, List.set_cons_zero, List.set_cons_succ])
    have HC10 : Hid (Chg (fun q _ => q = g) w9 (w9.setCell ⟨g, 1, none⟩ (.slice p' l' c'))) := Lib.hid (Chg.setCell1 _ _ _ _ rfl)
    have HG10 : Hid ((w9.setCell ⟨g, 1, none⟩ (.slice p' l' c')).heap[g]? = some (.cells (coRow at_ (.slice p' l' c') nv2 (rd2 : Int) bb bk c) 124 (0, 0))) := Lib.hid (heap_setCell_same w9 g 1 _ _ _ HG9.out)
    obtain ⟨w10, hw10⟩ := ex_eq (w9.setCell ⟨g, 1, none⟩ (.slice p' l' c'))
    rw [hw10] at HC10 HG10 ⊢
    clear hw10
    have HCA : Hid (Chg (fun q _ => q = g ∨ fv.ownBlock = some q) Z w10) := Lib.hid ((HCH9.out.mono fun q i _ e => Or.inr e).trans (HC10.out.mono fun q i _ e => Or.inl e))
    have HNR : Hid (w10.ownsRow N0 190 7 (.slice p' l' c') (fs.length + 1) ((fs ++ [x]).flatMap FlV.cells)) := Lib.hid (ownsRow_keepM HV1.out HC10.out (fun q2 hq i e => by have e2 : q2 = g := e; have := (HV1.out.lt q2 hq).1; have := HLZ.out; omega))
    have HSF := Lib.hid (HSZ.out.file HG10.out HCA.out HNR.out (by
      rcases HV3.out with h3 | h3
      · exact .inl h3
      · exact .inr ⟨_, h3, by have := HDRZ.out.size; omega⟩))
    (try go_wp2_with fail)
    go_ret
    refine ⟨.slice p' l' c', nv2, fs ++ [x], nl2, rd2, rfl, by simp, ?_, HR2.out, ?_, HCZ.out.trans (HCA.out.mono fun q i _ e => ?_)⟩
    · rw [HFC.out]; exact HND.out
    · rw [HFC.out]; exact HSF.out
    · rcases e with e | e
      · exact .inl e
      · exact .inr (.inr (HFO.out q e).1))
end Go.Proofs.YtmcbnhkcjhlbaaaGreatDoor.Tp
end

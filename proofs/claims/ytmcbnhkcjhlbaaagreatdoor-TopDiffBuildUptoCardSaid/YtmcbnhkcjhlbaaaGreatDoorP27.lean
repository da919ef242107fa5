/- Texts Tnd, Tne, Tnf of the proof, each as a section; no premises beyond those that each theorem states. -/
import Derived.Test.YtmcbnhkcjhlbaaaGreatDoorP10
import Derived.Test.YtmcbnhkcjhlbaaaGreatDoorP26
set_option linter.unusedVariables false
set_option linter.unusedSimpArgs false
section
namespace Go.Proofs.YtmcbnhkcjhlbaaaGreatDoor.Tp
open Go.RowKit
open Kit (Chg)
open Go.Proofs.YtmcbnhkcjhlbaaaGreatDoor.One

def tailI (t : IT) : List Nat := if t.kind = 1 then num t.chunks.length ++ t.chunks.flatMap encR else if t.kind = 2 then encR t.node else num t.link.size ++ nb t.link
def headI (t : IT) : List Nat := (num t.name.size ++ nb t.name) ++ num t.kind.toNat ++ num t.mode.toNat ++ num t.time.toNat
def encI (t : IT) : List Nat := headI t ++ tailI t
def encN (ts : List IT) : List Nat := num ts.length ++ ts.flatMap encI
theorem encR_len2 {r : RefP} (h : r.ok) : (encR r).length ≤ 43 := by
  unfold encR
  rw [List.length_append, List.length_append, nb_length, h.n, num_small (by decide : 0 < 128)]
  have h2 := num_len10 (n := r.size) (by have := h.s; omega)
  simp only [List.length_singleton]
  omega
theorem flat_len {α : Type} (f : α → List Nat) (m : Nat) : ∀ (l : List α), (∀ x ∈ l, (f x).length ≤ m) → (l.flatMap f).length ≤ l.length * m
  | [], _ => by simp
  | x :: l, h => by
    rw [List.flatMap_cons, List.length_append, List.length_cons, Nat.succ_mul]
    have h1 := h x (by simp)
    have h2 := flat_len f m l (fun y hy => h y (List.mem_cons_of_mem _ hy))
    omega
structure IT.small (t : IT) : Prop where
  ok : t.ok
  few : t.chunks.length ≤ 60
  time : t.time ≤ 9223372036854775807
theorem IT.ok.name64 {t : IT} (h : t.ok) : t.name.size ≤ 64 := by
  have h1 := (h.vp.comp t.name.data.toList (by rw [cutS_one _ h.free]; simp)).len
  rw [bytes_len] at h1
  exact h1
theorem headI_len {t : IT} (h : t.small) : (headI t).length ≤ 110 := by
  unfold headI
  simp only [List.length_append, nb_length]
  have h1 := num_len10 (n := t.name.size) (by have := h.ok.name64; omega)
  have h2 := num_len10 (n := t.kind.toNat) (by rcases h.ok.kinds with k | k | k <;> rw [k] <;> decide)
  have h3 := num_len10 (n := t.mode.toNat) (by have := h.ok.mode1; omega)
  have h4 := num_len10 (n := t.time.toNat) (by have := h.time; omega)
  have := h.ok.name64
  omega
theorem chunks_len {t : IT} (h : t.small) (hk : t.kind = 1) (j : Nat) : ((t.chunks.take j).flatMap encR).length ≤ 2580 := by
  have h1 := flat_len encR 43 (t.chunks.take j) (fun r hr => encR_len2 ((h.ok.file hk).2.2.1 r (List.mem_of_mem_take hr)).1)
  have h2 : (t.chunks.take j).length ≤ 60 := by rw [List.length_take]; have := h.few; omega
  have h3 := Nat.mul_le_mul_right 43 h2
  omega
theorem encI_len {t : IT} (h : t.small) : (encI t).length ≤ 2800 := by
  unfold encI
  rw [List.length_append]
  have h1 := headI_len h
  have h2 : (tailI t).length ≤ 2600 := by
    unfold tailI
    rcases h.ok.kinds with k | k | k
    · rw [if_pos k, List.length_append]
      have h3 := num_len10 (n := t.chunks.length) (by have := h.few; omega)
      have h4 := chunks_len h k t.chunks.length
      rw [List.take_length] at h4
      omega
    · rw [if_neg (by omega), if_pos k]
      have := encR_len2 (h.ok.dir k).2.2.2
      omega
    · rw [if_neg (by omega), if_neg (by omega), List.length_append, nb_length]
      have h3 := (h.ok.lnk k).2.2.2.2.1
      have h4 := num_len10 (n := t.link.size) (by omega)
      omega
  omega
theorem nodes_len {ts : List IT} (h : ∀ t ∈ ts, t.small) (hn : ts.length ≤ 8) (k : Nat) : (num ts.length ++ (ts.take k).flatMap encI).length ≤ 22500 := by
  rw [List.length_append]
  have h1 := num_len10 (n := ts.length) (by omega)
  have h2 := flat_len encI 2800 (ts.take k) (fun t ht => encI_len (h t (List.mem_of_mem_take ht)))
  have h3 : (ts.take k).length ≤ 8 := by rw [List.length_take]; omega
  have h4 := Nat.mul_le_mul_right 2800 h3
  omega
set_option maxRecDepth 100000 in
set_option maxHeartbeats 4000000 in
theorem node_ok (a : Option Addr) (n cap : Nat) (xs : List IV) (hn : xs.length = n) (hcap : n ≤ cap) (hm : n ≤ 8) (w : World) (hX : ISAt w a xs) (hok : ∀ x ∈ xs, x.t.small) (hord : (xs.map IV.t).Pairwise NameOrd) (hT : Top w) : Calls Tryz.prog 74 #[.slice a n cap] w fun e w' => ∃ a' L cap', e = .returned (.tuple #[.slice a' L cap', .int .i64 0]) ∧ (encN (xs.map IV.t)).length = L ∧ L ≤ 22500 ∧ L ≤ cap' ∧ BytesAt w' a' (encN (xs.map IV.t)) ∧ (a' = none → cap' = 0) ∧ (∀ ad, a' = some ad → w.heap.size ≤ ad.block) ∧ Below w.heap.size w w' := by
  have HN := Lib.hid hn
  have HX := Lib.hid hX
  have HOKS := Lib.hid hok
  have HSM : Hid (∀ t ∈ xs.map IV.t, t.small) := Lib.hid (fun t ht => by
    obtain ⟨x, hx, rfl⟩ := List.mem_map.1 ht
    exact hok x hx)
  have HTN : Hid ((xs.map IV.t).length = n) := Lib.hid (by rw [List.length_map]; exact hn)
  have HVN := Lib.hid (validNode_ok a n cap xs hn hcap (by omega) w hX (fun x hx => (hok x hx).ok) hord hT)
  clear hn hX hok hord hT
  go_enter Tryz.func74, Tryz.ntmps74
  go_upto_region 4 with (first
    | (go_at_call 119
       (with_reducible refine HVN.out.mono ?_)
       rintro e W0 ⟨rfl, hb⟩
       have HB0 := Lib.hid hb
       clear hb)
    | (go_at_call 120
       (with_reducible refine (newWriter_ok _).mono ?_)
       rintro e W1 ⟨g, rfl, hg, hgs, hb⟩
       have HG := Lib.hid hg
       have HGS := Lib.hid hgs
       have HB1 := Lib.hid hb
       clear hg hgs hb))
  obtain ⟨B, hB⟩ := ex_eq W1.heap.size
  have HWR : Hid (WrAt W1 g B []) := Lib.hid (WrAt.start HG.out (by rw [← hB]; exact (Array.getElem?_eq_some_iff.1 HG.out).1) (by omega))
  have HBS : Hid (W1.heap.size = B) := Lib.hid hB
  have HWG : Hid (w.heap.size ≤ g ∧ g < B) := Lib.hid ⟨by have := HB0.out.size; have := HGS.out; omega, by rw [← hB]; exact (Array.getElem?_eq_some_iff.1 HG.out).1⟩
  have HBW1 : Hid (Below w.heap.size w W1) := Lib.hid (HB0.out.trans (HB1.out.mono HB0.out.size))
  clear hB
  have HCO := Lib.hid (wrCount_t g B [] n (by omega) (by simp) W1 HWR.out)
  go_upto_region 6 with (first
    | (go_at_call 121
       (with_reducible refine HCO.out.mono ?_)
       rintro e W2 ⟨rfl, h1, h2⟩
       have HW2 := Lib.hid h1
       have HT2 := Lib.hid h2
       clear h1 h2))
  have HW2 : Hid (WrAt W2 g B (num n ++ ((xs.map IV.t).take 0).flatMap encI)) := Lib.hid (by have h := HW2.out; rw [List.nil_append] at h; rw [List.take_zero, List.flatMap_nil, List.append_nil]; exact h)
  go_loopw [21] (fun z wr => ∃ k : Nat, k ≤ n ∧ z = .int .i64 (k : Int) ∧ Hid (WrAt wr g B (num n ++ ((xs.map IV.t).take k).flatMap encI)) ∧ Hid (Tw g B W1 wr)) (fun z _ => n - (intOf z).toNat)
  case atStart => exact ⟨0, Nat.zero_le _, rfl, HW2, HT2⟩
  case round =>
    obtain ⟨k, hk, rfl, HWK, HTK⟩ := hrel
    have HB : Hid (Below w.heap.size w wr) := Lib.hid (HBW1.out.trans (HTK.out.below HWG.out.1 (by have := HWG.out; omega) HBW1.out.size))
    have HLEN := Lib.hid (nodes_len HSM.out (by rw [HTN.out]; exact hm) k)
    rw [HTN.out] at HLEN
    by_cases hlt : k < n
    rotate_left
    · have HE : Hid (num n ++ ((xs.map IV.t).take k).flatMap encI = encN (xs.map IV.t)) := Lib.hid (by
        unfold encN
        rw [HTN.out, List.take_of_length_le (by rw [HTN.out]; omega)])
      rw [HE.out] at HWK HLEN
      have HDN := Lib.hid (wrDone_ok g B (encN (xs.map IV.t)) (by have := HLEN.out; omega) wr HWK.out)
      go_wp2_with (first
        | (go_at_call 125
           (with_reducible refine HDN.out.mono ?_)
           rintro e W3 ⟨ra, L, rc, rfl, hL, hLc, hby, hnil, hoff, hb3⟩
           have HR := Lib.hid (And.intro hL (And.intro hLc (And.intro hby (And.intro hnil (And.intro hoff hb3)))))
           have hl3 : ¬ (32768 : Int) < (L : Int) := by have := HLEN.out; omega
           have HL2 : Hid (L ≤ 22500) := Lib.hid (by have := HLEN.out; omega)
           clear hL hLc hby hnil hoff hb3))
      go_ret2
      obtain ⟨hL, hLc, hby, hnil, hoff, hb3⟩ := HR.out
      exact ⟨ra, L, rc, rfl, hL, HL2.out, hLc, hby, hnil, fun ad e => Nat.le_trans HB.out.size (hoff ad e), HB.out.trans (hb3.mono HB.out.size)⟩
    have hkx : k < xs.length := by rw [HN.out]; exact hlt
    have HXW := Lib.hid (HX.out.later HB.out)
    obtain ⟨b, o, rfl, c0, c1, c2, c3, c4, c5, c6, c7, c8, c9⟩ := HXW.out.ten k hkx
    obtain ⟨x, hx⟩ : ∃ x, xs[k] = x := ⟨_, rfl⟩
    rw [hx] at c0 c1 c2 c3 c4 c5 c6 c7 c9
    have HXO : Hid (x.ok w) := Lib.hid (by rw [← hx]; exact HX.out.2 _ (List.getElem_mem hkx))
    have HS : Hid x.t.small := Lib.hid (by rw [← hx]; exact HOKS.out _ (List.getElem_mem hkx))
    have HTI : Hid ((xs.map IV.t).take (k + 1) = (xs.map IV.t).take k ++ [x.t]) := Lib.hid (by rw [List.take_succ_eq_append_getElem (by rw [List.length_map]; exact hkx), List.getElem_map, hx])
    obtain ⟨P, hP⟩ := ex_eq (num n ++ ((xs.map IV.t).take k).flatMap encI)
    have HPE : Hid (num n ++ ((xs.map IV.t).take (k + 1)).flatMap encI = P ++ (headI x.t ++ tailI x.t)) := Lib.hid (by
      rw [HTI.out, List.flatMap_append, ← List.append_assoc, hP]
      simp [encI])
    rw [hP] at HWK HLEN
    clear hx hP
    have HHL := Lib.hid (headI_len HS.out)
    have hm0 := HS.out.ok.mode0
    have hm1 := HS.out.ok.mode1
    have ht0 := HS.out.ok.time0
    have ht1 := HS.out.time
    have hkk := HS.out.ok.kinds
    have hnm := HS.out.ok.name64
    obtain ⟨⟨name, kind, mode, time, size, link, chunks, ⟨nname, nsize⟩⟩, ca, cc⟩ := x
    dsimp only at c0 c1 c2 c3 c4 c5 c6 c7 c8 c9 hm0 hm1 ht0 ht1 hkk hnm
    go_upto_region 8 with fail
    refine wp_over (fun V => Hid (V.heap[wr.heap.size]? = some (.cells (IV.row (⟨⟨name, kind, mode, time, size, link, chunks, ⟨nname, nsize⟩⟩, ca, cc⟩ : IV)) 149 (0, 0))) ∧ Hid (Below wr.heap.size wr V)) ⟨Lib.hid (new_row10 (x := (⟨⟨name, kind, mode, time, size, link, chunks, ⟨nname, nsize⟩⟩, ca, cc⟩ : IV))), Lib.hid ((Below.refl _ _).alloc (Nat.le_refl _) _)⟩ ?_
    rintro W ⟨HR, HWB⟩
    clear c0 c1 c2 c3 c4 c5 c6 c7 c8 c9
    have HNG : Hid (wr.heap.size ≠ g) := Lib.hid (by have := HWG.out; have := HTK.out.size; have := HBS.out; omega)
    have HWW := Lib.hid (HWK.out.later HWB.out)
    have HTW : Hid (Tw g B W1 W) := Lib.hid (HTK.out.trans (Tw.of_below HWB.out))
    obtain ⟨N, hN⟩ := ex_eq wr.heap.size
    rw [hN] at HR HNG ⊢
    clear hN
    have HTA : Hid (P.length ≤ 22500) := HLEN
    obtain ⟨K0, hK0⟩ : ∃ K0 : Nat, kind = (K0 : Int) := ⟨kind.toNat, by omega⟩
    obtain ⟨M0, hM0⟩ : ∃ M0 : Nat, mode = (M0 : Int) := ⟨mode.toNat, by omega⟩
    obtain ⟨T0, hT0⟩ : ∃ T0 : Nat, time = (T0 : Int) := ⟨time.toNat, by omega⟩
    subst hK0 hM0 hT0
    have hw1 : IntKind.u64.wrap (K0 : Int) = (K0 : Int) := by rw [IntKind.wrap_u64]; omega
    have hw2 : IntKind.u64.wrap (M0 : Int) = (M0 : Int) := by rw [IntKind.wrap_u64]; omega
    have hw3 : IntKind.u64.wrap (T0 : Int) = (T0 : Int) := by rw [IntKind.wrap_u64]; omega
    have HHD : Hid (headI (IV.t (⟨⟨name, (K0 : Int), (M0 : Int), (T0 : Int), size, link, chunks, ⟨nname, nsize⟩⟩, ca, cc⟩ : IV)) = (num name.size ++ nb name) ++ num K0 ++ num M0 ++ num T0) := Lib.hid rfl
    obtain ⟨c0, c1, c2, c3, c4, c5, c6, c7, c8, c9⟩ := row10 HR.out
    dsimp only at c0 c1 c2 c3 c4 c5 c6 c7 c8 c9
    have HC3 := Lib.hid (wrText_t g B P name name.size rfl (by have := HTA.out; omega) (by omega) W HWW.out)
    go_upto_region 9 with (first
      | (go_at_call 122
         (with_reducible refine HC3.out.mono ?_)
         rintro e W3 ⟨rfl, h1, h2⟩
         have HW3 := Lib.hid h1
         have HT3 := Lib.hid h2
         clear h1 h2 c0 c1 c2 c3 c4 c5 c6 c7 c8 c9))
    have HR3 := Lib.hid (HT3.out.row _ _ _ _ HR.out (by decide) HNG.out)
    obtain ⟨c0, c1, c2, c3, c4, c5, c6, c7, c8, c9⟩ := row10 HR3.out
    dsimp only at c0 c1 c2 c3 c4 c5 c6 c7 c8 c9
    have HL3 : Hid ((P ++ (num name.size ++ nb name)).length ≤ 22600) := Lib.hid (by rw [List.length_append, List.length_append, nb_length]; have := num_len10 (n := name.size) (by omega); have := HTA.out; omega)
    have HC4 := Lib.hid (wrUint_t g B (P ++ (num name.size ++ nb name)) K0 (by omega) (by have := HL3.out; omega) W3 HW3.out)
    go_upto_region 10 with (first
      | (go_at_call 123
         (with_reducible refine HC4.out.mono ?_)
         rintro e W4 ⟨rfl, h1, h2⟩
         have HW4 := Lib.hid h1
         have HT4 := Lib.hid h2
         clear h1 h2 c0 c1 c2 c3 c4 c5 c6 c7 c8 c9))
    have HR4 := Lib.hid (HT4.out.row _ _ _ _ HR3.out (by decide) HNG.out)
    obtain ⟨c0, c1, c2, c3, c4, c5, c6, c7, c8, c9⟩ := row10 HR4.out
    dsimp only at c0 c1 c2 c3 c4 c5 c6 c7 c8 c9
    have HL4 : Hid ((P ++ (num name.size ++ nb name) ++ num K0).length ≤ 22610) := Lib.hid (by rw [List.length_append]; have := num_len10 (n := K0) (by omega); have := HL3.out; omega)
    have HC5 := Lib.hid (wrUint_t g B (P ++ (num name.size ++ nb name) ++ num K0) M0 (by omega) (by have := HL4.out; omega) W4 HW4.out)
    go_upto_region 11 with (first
      | (go_at_call 123
         (with_reducible refine HC5.out.mono ?_)
         rintro e W5 ⟨rfl, h1, h2⟩
         have HW5 := Lib.hid h1
         have HT5 := Lib.hid h2
         clear h1 h2 c0 c1 c2 c3 c4 c5 c6 c7 c8 c9))
    have HR5 := Lib.hid (HT5.out.row _ _ _ _ HR4.out (by decide) HNG.out)
    obtain ⟨c0, c1, c2, c3, c4, c5, c6, c7, c8, c9⟩ := row10 HR5.out
    dsimp only at c0 c1 c2 c3 c4 c5 c6 c7 c8 c9
    have HL5 : Hid ((P ++ (num name.size ++ nb name) ++ num K0 ++ num M0).length ≤ 22620) := Lib.hid (by rw [List.length_append]; have := num_len10 (n := M0) (by omega); have := HL4.out; omega)
    have HC6 := Lib.hid (wrUint_t g B (P ++ (num name.size ++ nb name) ++ num K0 ++ num M0) T0 (by omega) (by have := HL5.out; omega) W5 HW5.out)
    go_upto_region 12 with (first
      | (go_at_call 123
         (with_reducible refine HC6.out.mono ?_)
         rintro e W6 ⟨rfl, h1, h2⟩
         have HW6 := Lib.hid h1
         have HT6 := Lib.hid h2
         clear h1 h2 c0 c1 c2 c3 c4 c5 c6 c7 c8 c9))
    have HR6 := Lib.hid (HT6.out.row _ _ _ _ HR5.out (by decide) HNG.out)
    obtain ⟨c0, c1, c2, c3, c4, c5, c6, c7, c8, c9⟩ := row10 HR6.out
    dsimp only at c0 c1 c2 c3 c4 c5 c6 c7 c8 c9
    have HT16 : Hid (Tw g B W1 W6) := Lib.hid ((((HTW.out.trans HT3.out).trans HT4.out).trans HT5.out).trans HT6.out)
    have HQE : Hid (P ++ (num name.size ++ nb name) ++ num K0 ++ num M0 ++ num T0 = P ++ headI (IV.t (⟨⟨name, (K0 : Int), (M0 : Int), (T0 : Int), size, link, chunks, ⟨nname, nsize⟩⟩, ca, cc⟩ : IV))) := Lib.hid (by rw [HHD.out]; simp only [List.append_assoc])
    obtain ⟨Q0, hQ0⟩ := ex_eq (P ++ (num name.size ++ nb name) ++ num K0 ++ num M0 ++ num T0)
    rw [hQ0] at HW6 HQE
    have HL6 : Hid (Q0.length ≤ 22630) := Lib.hid (by rw [← hQ0, List.length_append]; have := num_len10 (n := T0) (by omega); have := HL5.out; omega)
    have HPE2 : Hid (num n ++ ((xs.map IV.t).take (k + 1)).flatMap encI = Q0 ++ tailI (IV.t (⟨⟨name, (K0 : Int), (M0 : Int), (T0 : Int), size, link, chunks, ⟨nname, nsize⟩⟩, ca, cc⟩ : IV))) := Lib.hid (by rw [HQE.out, HPE.out, List.append_assoc])
    have HB6 : Hid (Below w.heap.size w W6) := Lib.hid (HBW1.out.trans (HT16.out.below HWG.out.1 (by have := HWG.out; omega) HBW1.out.size))
    clear hQ0 hw1 hw2 hw3
    rcases hkk with hk1 | hk1 | hk1
    · obtain rfl : K0 = 1 := by omega
      have HFI := Lib.hid (HS.out.ok.file hk1)
      have HFW := Lib.hid HS.out.few
      have HCL := Lib.hid (fun j => chunks_len HS.out hk1 j)
      dsimp only at HFI HFW HCL
      obtain ⟨L, hL⟩ := ex_eq chunks.length
      have HLE := Lib.hid hL
      rw [hL] at c6 HFW
      have hL60 : L ≤ 60 := HFW.out
      have HTL : Hid (tailI (IV.t (⟨⟨name, ((1 : Nat) : Int), (M0 : Int), (T0 : Int), size, link, chunks, ⟨nname, nsize⟩⟩, ca, cc⟩ : IV)) = num L ++ chunks.flatMap encR) := Lib.hid (by rw [← hL]; rfl)
      have HC7 := Lib.hid (wrCount_t g B Q0 L (by omega) (by have := HL6.out; omega) W6 HW6.out)
      clear hk1 hL
      go_upto_region 15 with (first
        | (go_at_call 121
           (with_reducible refine HC7.out.mono ?_)
           rintro e W7 ⟨rfl, h1, h2⟩
           have HW7 := Lib.hid h1
           have HT7 := Lib.hid h2
           clear h1 h2 c0 c1 c2 c3 c4 c5 c6 c7 c8 c9))
      have HR7 := Lib.hid (HT7.out.row _ _ _ _ HR6.out (by decide) HNG.out)
      obtain ⟨c0, c1, c2, c3, c4, c5, c6, c7, c8, c9⟩ := row10 HR7.out
      dsimp only at c0 c1 c2 c3 c4 c5 c6 c7 c8 c9
      rw [HLE.out] at c6
      go_upto_region 16 with fail
      clear c0 c1 c2 c3 c4 c5 c6 c7 c8 c9
      have HB7 : Hid (Below w.heap.size w W7) := Lib.hid (HBW1.out.trans ((HT16.out.trans HT7.out).below HWG.out.1 (by have := HWG.out; omega) HBW1.out.size))
      have HW7 : Hid (WrAt W7 g B (Q0 ++ num L ++ (chunks.take 0).flatMap encR)) := Lib.hid (by rw [List.take_zero, List.flatMap_nil, List.append_nil]; exact HW7.out)
      go_loopw [56] (fun z wq => ∃ j : Nat, j ≤ L ∧ z = .int .i64 (j : Int) ∧ Hid (WrAt wq g B (Q0 ++ num L ++ (chunks.take j).flatMap encR)) ∧ Hid (Tw g B W7 wq)) (fun z _ => L - (intOf z).toNat)
      case atStart => exact ⟨0, Nat.zero_le _, rfl, HW7, Lib.hid (Tw.refl _ _ _)⟩
      case round =>
        obtain ⟨j, hj, rfl, HWJ, HTJ⟩ := hrel
        have HT1J : Hid (Tw g B W1 wr) := Lib.hid ((HT16.out.trans HT7.out).trans HTJ.out)
        have HBJ : Hid (Below w.heap.size w wr) := Lib.hid (HBW1.out.trans (HT1J.out.below HWG.out.1 (by have := HWG.out; omega) HBW1.out.size))
        by_cases hjl : j < L
        rotate_left
        · have HE : Hid (Q0 ++ num L ++ (chunks.take j).flatMap encR = Q0 ++ tailI (IV.t (⟨⟨name, ((1 : Nat) : Int), (M0 : Int), (T0 : Int), size, link, chunks, ⟨nname, nsize⟩⟩, ca, cc⟩ : IV))) := Lib.hid (by rw [HTL.out, List.take_of_length_le (by rw [HLE.out]; omega), List.append_assoc])
          rw [HE.out] at HWJ
          go_wp2_with fail
          go_roundw
          case rel => exact ⟨k + 1, by omega, by go_num, Lib.hid (by rw [HPE2.out]; exact HWJ.out), HT1J⟩
          case measure => simp [intOf]; omega
        have hjx : j < chunks.length := by rw [HLE.out]; exact hjl
        have HRW := Lib.hid (HXO.out.row.later RefP.len HBJ.out)
        dsimp only at HRW
        obtain ⟨b2, o2, e2, r0, r1, r2⟩ := HRW.out.ref3 j hjx
        subst e2
        have hrk := (HFI.out.2.2.1 chunks[j] (List.getElem_mem hjx)).1
        have HTJ1 : Hid (chunks.take (j + 1) = chunks.take j ++ [chunks[j]]) := Lib.hid (List.take_succ_eq_append_getElem hjx)
        obtain ⟨x, hx⟩ : ∃ x, chunks[j] = x := ⟨_, rfl⟩
        rw [hx] at r0 r2 hrk HTJ1
        clear hx
        have HJL : Hid ((Q0 ++ num L ++ (chunks.take j).flatMap encR).length ≤ 26000) := Lib.hid (by
          rw [List.length_append, List.length_append]
          have := num_len10 (n := L) (by omega)
          have := HCL.out j
          have := HL6.out
          omega)
        have HWRX := Lib.hid (fun V (h : WrAt V g B (Q0 ++ num L ++ (chunks.take j).flatMap encR)) => writeRef_ok g B _ x hrk (by have := HJL.out; omega) V h)
        obtain ⟨rn, rs⟩ := x
        unfold RefP.row at HWRX
        dsimp only at r0 r1 r2 HWRX
        go_upto_region 18 with fail
        refine wp_over (fun V => Hid (V.heap[wr.heap.size]? = some (.cells (RefP.row ⟨rn, rs⟩) 45 (0, 0))) ∧ Hid (Below wr.heap.size wr V)) ⟨Lib.hid (heap_alloc_new _ _), Lib.hid ((Below.refl _ _).alloc (Nat.le_refl _) _)⟩ ?_
        rintro W8 ⟨HG8, HB8⟩
        clear r0 r1 r2
        obtain ⟨N8, hN8⟩ := ex_eq wr.heap.size
        rw [hN8] at HG8 ⊢
        clear hN8
        have HC8 := Lib.hid (HWRX.out W8 (HWJ.out.later HB8.out))
        obtain ⟨r0, r1, r2⟩ := row3R HG8.out
        dsimp only at r0 r1 r2
        go_wp2_with (first
          | (go_at_call 124
             (with_reducible refine HC8.out.mono ?_)
             rintro e W9 ⟨rfl, h1, h2⟩
             have HW9 := Lib.hid h1
             have HT9 := Lib.hid h2
             clear h1 h2 r0 r1 r2))
        go_roundw
        case rel =>
          refine ⟨j + 1, by omega, by go_num, Lib.hid ?_, Lib.hid ((HTJ.out.trans (Tw.of_below HB8.out)).trans HT9.out)⟩
          have h := HW9.out
          rw [List.append_assoc] at h
          rw [HTJ1.out, List.flatMap_append, List.flatMap_cons, List.flatMap_nil, List.append_nil]
          exact h
        case measure => simp [intOf]; omega
    · obtain rfl : K0 = 2 := by omega
      have HC7 := Lib.hid (writeRef_ok g B Q0 ⟨nname, nsize⟩ (HS.out.ok.dir hk1).2.2.2 (by have := HL6.out; omega) W6 HW6.out)
      unfold RefP.row at HC7
      dsimp only at HC7
      clear hk1
      go_wp2_with (first
        | (go_at_call 124
           (with_reducible refine HC7.out.mono ?_)
           rintro e W7 ⟨rfl, h1, h2⟩
           have HW7 := Lib.hid h1
           have HT7 := Lib.hid h2
           clear h1 h2 c0 c1 c2 c3 c4 c5 c6 c7 c8 c9))
      go_roundw
      case rel => exact ⟨k + 1, by omega, by go_num, Lib.hid (by rw [HPE2.out]; exact HW7.out), Lib.hid (HT16.out.trans HT7.out)⟩
      case measure => simp [intOf]; omega
    · obtain rfl : K0 = 3 := by omega
      have hl5 := (HS.out.ok.lnk hk1).2.2.2.2.1
      dsimp only at hl5
      have HC7 := Lib.hid (wrText_t g B Q0 link link.size rfl (by have := HL6.out; omega) (by omega) W6 HW6.out)
      clear hk1
      go_wp2_with (first
        | (go_at_call 122
           (with_reducible refine HC7.out.mono ?_)
           rintro e W7 ⟨rfl, h1, h2⟩
           have HW7 := Lib.hid h1
           have HT7 := Lib.hid h2
           clear h1 h2 c0 c1 c2 c3 c4 c5 c6 c7 c8 c9))
      go_roundw
      case rel => exact ⟨k + 1, by omega, by go_num, Lib.hid (by rw [HPE2.out]; exact HW7.out), Lib.hid (HT16.out.trans HT7.out)⟩
      case measure => simp [intOf]; omega
end Go.Proofs.YtmcbnhkcjhlbaaaGreatDoor.Tp
end
section
namespace Go.Proofs.YtmcbnhkcjhlbaaaGreatDoor.Tp
open Go.RowKit
open Kit (Chg)
open Go.Maps
open Go.WideMaps
open Go.WideElems
open Go.Proofs.YtmcbnhkcjhlbaaaGreatDoor.One

theorem keyLits_three {P : Program} {t : TypeId} {f1 f2 f3 : Field} {m : Nat} (hu : P.underlying t = some (.struct #[f1, f2, f3])) (hc : P.cellsOf t = 3) (n1 : (f1.name != "_") = true) (n2 : (f2.name != "_") = true) (n3 : (f3.name != "_") = true) (o1 : f1.offset = 0) (o2 : f2.offset = 1) (o3 : f3.offset = 2) (c1 : P.cellsOf f1.type = 1) (c2 : P.cellsOf f2.type = 1) (c3 : P.cellsOf f3.type = 1) (a b c : Value) :
    P.keyLits (m + 1 + 1) t [a, b, c] = (P.keyLits (m + 1) f1.type [a]).bind fun x => (P.keyLits (m + 1) f2.type [b]).bind fun y => (P.keyLits (m + 1) f3.type [c]).bind fun z => some (x ++ (y ++ z)) := by
  conv => lhs; unfold Program.keyLits
  rw [hu]
  dsimp only
  rw [if_pos ⟨by rw [hc]; rfl, by simp [n1, n2, n3]⟩]
  simp only [List.mapM_cons, List.mapM_nil, o1, o2, o3, c1, c2, c3, List.drop_zero, List.take_succ_cons, List.take_zero, List.drop_succ_cons]
  cases P.keyLits (m + 1) f1.type [a] with
  | none => rfl
  | some x =>
    cases P.keyLits (m + 1) f2.type [b] with
    | none => rfl
    | some y =>
      cases P.keyLits (m + 1) f3.type [c] with
      | none => rfl
      | some z => simp
theorem refLaw : KeyLaw Tryz.prog 45 := deep_law_laid Tryz.laidQ (m := 3) (by omega) (of_decide_eq_true (by kernel_rfl)) (by kernel_rfl) (by kernel_rfl)
theorem refKeyed : Keyed Tryz.prog 45 := Keyed.of_law refLaw
theorem refDeep : Tryz.prog.keyType 45 = true := by kernel_rfl
theorem keyOf_three {P : Program} {t : TypeId} {fs : Array Field} (hu : P.underlying t = some (.struct fs)) (hk : P.keyType t = true) (hc : P.cellsOf t = 3) (a b c : Value) : keyOf P t (.agg #[a, b, c]) = ((P.keyLits (P.types.size + 1) t (Value.agg #[a, b, c]).cells.toList).map fun ls => .string (keyBytes ls)) := by
  unfold keyOf
  rw [hu]
  have : (Value.agg #[a, b, c]).formed P t = true := by unfold Value.formed; simp only [hu]; rw [hc]; rfl
  simp only [hk, this, Bool.and_self, if_true]
def refV (r : RefP) : Value := .agg #[.string r.name, .int .i64 0, .int .i64 (r.size : Int)]
theorem refV_inj {r s : RefP} (h : refV r = refV s) : r = s := by
  obtain ⟨a, b⟩ := r
  obtain ⟨c, d⟩ := s
  unfold refV at h
  injection h with h
  have h2 := congrArg Array.toList h
  simp at h2
  have h3 : b = d := by omega
  rw [h2.1, h3]
theorem refKey {r : RefP} (hr : r.ok) : ∃ l, keyOf Tryz.prog 45 (refV r) = some l := by
  obtain ⟨m, hm⟩ := Tryz.sizeT
  have h1 : r.name.size ≤ maxLen := by have := hr.n; unfold maxLen; omega
  have h2 : (Lit.int .i64 0).wf = true := wf64 (by decide) (by decide)
  have h3 : (Lit.int .i64 (r.size : Int)).wf = true := wf64 (by omega) (by have := hr.s; omega)
  unfold refV
  have hc : (Value.agg #[.string r.name, .int .i64 0, .int .i64 (r.size : Int)]).cells.toList = [.string r.name, .int .i64 0, .int .i64 (r.size : Int)] := rfl
  rw [keyOf_three Tryz.underlying45 refDeep (by kernel_rfl), hm, hc, keyLits_three Tryz.underlying45 (by kernel_rfl) (by decide) (by decide) (by decide) rfl rfl rfl (by kernel_rfl) (by kernel_rfl) (by kernel_rfl), keyLits_str Tryz.underlying9, keyLits_int Tryz.underlying3, keyLits_int Tryz.underlying3]
  simp only [h1, h2, h3, and_self, if_true]
  exact ⟨_, rfl⟩
open Classical in
noncomputable def knownF (rs : List RefP) (v : Value) : Option Value := if ∃ r ∈ rs, refV r = v then some (.bool true) else none
def MapR (w : World) (b n : Nat) (rs : List RefP) : Prop := MapV Tryz.prog 45 w b n (knownF rs)
theorem MapR.start (w : World) : MapR (w.alloc (.map #[] 0)) w.heap.size 0 [] := (MapV.start (P := Tryz.prog) (k := 45) w).congr (fun key kl h => by simp [knownF])
theorem MapR.lt {w : World} {b n : Nat} {rs : List RefP} (h : MapR w b n rs) : b < w.heap.size := MapV.lt h
theorem MapR.keep {w w' : World} {b n : Nat} {rs : List RefP} (h : MapR w b n rs) (he : w'.heap[b]? = w.heap[b]?) : MapR w' b n rs := MapV.keep h he
theorem MapR.later {w w' : World} {b n : Nat} {rs : List RefP} (h : MapR w b n rs) (hb : Below w.heap.size w w') : MapR w' b n rs := MapV.later h hb
theorem MapR.mono {w : World} {b n n' : Nat} {rs : List RefP} (h : MapR w b n rs) (hn : n ≤ n') : MapR w b n' rs := MapV.mono h hn
open Classical in
theorem MapR.look {w : World} {b n : Nat} {rs : List RefP} (h : MapR w b n rs) (r : RefP) (hr : r.ok) : (Instr.lookup 91 (.map (some b)) (.agg #[.string r.name, .int .i64 0, .int .i64 (r.size : Int)]) false).run Tryz.prog w = .ok (.bool (decide (r ∈ rs))) w := by
  obtain ⟨l, hl⟩ := refKey hr
  have h1 := MapV.look1 h refKeyed Tryz.underlying91 (z := .bool false) (by kernel_rfl) hl
  have h2 : (knownF rs (refV r)).getD (.bool false) = .bool (decide (r ∈ rs)) := by
    unfold knownF
    by_cases hm : r ∈ rs
    · rw [if_pos ⟨r, hm, rfl⟩]
      simp [hm]
    · rw [if_neg (fun ⟨s, hs, e⟩ => hm (refV_inj e ▸ hs))]
      simp [hm]
  rw [h2] at h1
  exact h1
theorem MapR.put {w : World} {b n : Nat} {rs : List RefP} (h : MapR w b n rs) (hn : n < maxLen) (r : RefP) (hr : r.ok) : ∃ w', (Instr.mapUpdate 91 (.map (some b)) (.agg #[.string r.name, .int .i64 0, .int .i64 (r.size : Int)]) (.bool true)).run Tryz.prog w = .ok () w' ∧ MapR w' b (n + 1) (rs ++ [r]) ∧ w.grownBy w' (some b) ∧ w'.heap.size = w.heap.size := by
  obtain ⟨l, hl⟩ := refKey hr
  refine MapV.put h refKeyed Tryz.underlying91 hn hl (.bool true) (knownF (rs ++ [r])) ?_ ?_
  · show knownF (rs ++ [r]) (refV r) = _
    unfold knownF
    rw [if_pos ⟨r, by simp, rfl⟩]
  · intro x l' hx hne
    have hne : x ≠ refV r := hne
    unfold knownF
    by_cases hm : ∃ s ∈ rs, refV s = x
    · obtain ⟨s, hs, e⟩ := hm
      rw [if_pos ⟨s, List.mem_append_left _ hs, e⟩, if_pos ⟨s, hs, e⟩]
    · rw [if_neg hm, if_neg]
      rintro ⟨s, hs, e⟩
      rcases List.mem_append.1 hs with h1 | h1
      · exact hm ⟨s, h1, e⟩
      · rw [List.mem_singleton.1 h1] at e
        exact hne e.symm
end Go.Proofs.YtmcbnhkcjhlbaaaGreatDoor.Tp
end
section
namespace Go.Proofs.YtmcbnhkcjhlbaaaGreatDoor.Tp
open Go.RowKit
open Kit (Chg)
open Go.Maps
open Go.WideMaps
open Go.Proofs.YtmcbnhkcjhlbaaaGreatDoor.One

structure BV where
  r : RefP
  d : List Nat
  a : Option Addr
  c : Nat
def BV.cells (b : BV) : List Value := [.string b.r.name, .int .i64 0, .int .i64 (b.r.size : Int), .slice b.a b.d.length b.c]
theorem BV.len (b : BV) : b.cells.length = 4 := rfl
theorem BV.one (b : BV) : ∀ v ∈ b.cells, v.oneCell' = true := fun v h => by
  simp only [BV.cells, List.mem_cons, List.not_mem_nil, or_false] at h
  rcases h with rfl | rfl | rfl | rfl <;> rfl
theorem kindBV : Kind Tryz.prog BV.cells 4 46 57 (.agg #[.string ByteArray.empty, .int .i64 0, .int .i64 0, .slice none 0 0]) 56 := ⟨BV.len, BV.one, by decide, Tryz.underlying46, by kernel_rfl, rfl, by decide⟩
def refOf (k : KV) (xs : List Nat) : RefP := ⟨strB (nameB k xs), xs.length⟩
theorem refOf_ok (k : KV) {xs : List Nat} (h : xs.length ≤ 32768) : (refOf k xs).ok := ⟨by
  show (strB (tag (nb k.n) (0 :: xs))).size = 32
  rw [strB_size _ (show ∀ x ∈ tag (nb k.n) (0 :: xs), x < 256 from Sha.sum_lt _)]
  exact Sha.sum_length _, h⟩
structure BRow (w : World) (base : Nat) (v : Value) (L : List BV) : Prop where
  own : w.ownsRow base 57 4 v L.length (L.flatMap BV.cells)
  dat : ∀ b ∈ L, b.d ≠ [] → BytesAt w b.a b.d
  off : ∀ b ∈ L, b.d ≠ [] → ∀ ad, b.a = some ad → base ≤ ad.block ∧ v.ownBlock ≠ some ad.block
theorem BRow.nil (w : World) (base : Nat) : BRow w base (.slice none 0 0) [] := ⟨World.ownsRow_nil _ _ _ _, by simp, by simp⟩
theorem BRow.later {w w' : World} {base : Nat} {v : Value} {L : List BV} (h : BRow w base v L) (hb : Below w.heap.size w w') : BRow w' base v L := ⟨own_later h.own hb, fun b hb2 hd => (h.dat b hb2 hd).later hb, h.off⟩
theorem BRow.under {w w' : World} {base : Nat} {v : Value} {L : List BV} (h : BRow w base v L) (hc : Chg (fun q _ => q < base) w w') : BRow w' base v L := by
  refine ⟨ownsRow_keep h.own hc (fun q hq i e => by omega), fun b hb hd => ?_, h.off⟩
  exact bytesAt_chg (h.dat b hb hd) hc (fun ad e i e2 => by have := (h.off b hb hd ad e).1; omega)
theorem BRow.snoc {w w' : World} {base : Nat} {v v' : Value} {L : List BV} {y : BV} {o : Obj} (h : BRow w base v L) (hy : y.d ≠ [] → BytesAt w y.a y.d) (hoff : y.d ≠ [] → ∀ ad, y.a = some ad → base ≤ ad.block ∧ v.ownBlock ≠ some ad.block)
    (h1 : w'.ownsRow base 57 4 v' (L.length + 1) ((L ++ [y]).flatMap BV.cells)) (h2 : (w.alloc o).grownBy w' v.ownBlock) (h3 : v'.ownBlock = v.ownBlock ∨ v'.ownBlock = some (w.heap.size + 1)) : BRow w' base v' (L ++ [y]) := by
  have hc : Chg (fun q _ => v.ownBlock = some q) w w' := (Chg.alloc1 w o).trans (Chg.of_grown h2 (fun q _ e => e))
  have key : ∀ b : BV, (b.d ≠ [] → BytesAt w b.a b.d) → (b.d ≠ [] → ∀ ad, b.a = some ad → base ≤ ad.block ∧ v.ownBlock ≠ some ad.block) → (b.d ≠ [] → BytesAt w' b.a b.d) ∧ (b.d ≠ [] → ∀ ad, b.a = some ad → base ≤ ad.block ∧ v'.ownBlock ≠ some ad.block) := fun b hb ho => by
    refine ⟨fun hd => bytesAt_chg (hb hd) hc (fun ad e i => (ho hd ad e).2), fun hd ad e => ⟨(ho hd ad e).1, ?_⟩⟩
    rcases h3 with h3 | h3
    · rw [h3]; exact (ho hd ad e).2
    · rw [h3]
      have := (hb hd).blk ad e hd
      intro e2
      have := Option.some.inj e2
      omega
  refine ⟨by rw [List.length_append]; exact h1, fun b hb => ?_, fun b hb => ?_⟩
  · rcases List.mem_append.1 hb with h4 | h4
    · exact (key b (h.dat b h4) (h.off b h4)).1
    · rw [List.mem_singleton.1 h4]; exact (key y hy hoff).1
  · rcases List.mem_append.1 hb with h4 | h4
    · exact (key b (h.dat b h4) (h.off b h4)).2
    · rw [List.mem_singleton.1 h4]; exact (key y hy hoff).2
def bRow (K : KV) (c : Ck.Chk.Cut) (bi : Nat) (blv : Value) (bk : Nat) : Array Value := #[.string K.n, .string K.s, .string K.c, .string K.i, .string K.t, .int .i64 c.mn, .int .i64 c.mx, .int .i64 c.win, .int .i64 c.bits, .int .u64 (Ck.Roll.u c.seed), .map none, .map (some bi), blv, .map (some bk)]
structure BS (w : World) (g bi bk N0 n : Nat) (K : KV) (c : Ck.Chk.Cut) (blv : Value) (bl : List BV) : Prop where
  row : w.heap[g]? = some (.cells (bRow K c bi blv bk) 93 (0, 0))
  known : MapR w bk n (bl.map BV.r)
  blobs : BRow w N0 blv bl
  lt : g < N0 ∧ bi < N0 ∧ bk < N0 ∧ N0 ≤ w.heap.size
  ne : g ≠ bi ∧ g ≠ bk ∧ bi ≠ bk
theorem BS.later {w w' : World} {g bi bk N0 n : Nat} {K : KV} {c : Ck.Chk.Cut} {blv : Value} {bl : List BV} (h : BS w g bi bk N0 n K c blv bl) (hb : Below w.heap.size w w') : BS w' g bi bk N0 n K c blv bl :=
  ⟨(hb.block g (by have := h.lt; omega)).trans h.row, h.known.later hb, h.blobs.later hb, by have := h.lt; have := hb.size; omega, h.ne⟩
theorem BS.mono {w : World} {g bi bk N0 n n' : Nat} {K : KV} {c : Ck.Chk.Cut} {blv : Value} {bl : List BV} (h : BS w g bi bk N0 n K c blv bl) (hn : n ≤ n') : BS w g bi bk N0 n' K c blv bl := ⟨h.row, h.known.mono hn, h.blobs, h.lt, h.ne⟩
theorem row14B {w : World} {g bi bk : Nat} {K : KV} {c : Ck.Chk.Cut} {blv : Value} {T : TypeId} {f : Nat × Nat} (h : w.heap[g]? = some (.cells (bRow K c bi blv bk) T f)) : w.cell? ⟨g, 0, none⟩ = some (.string K.n) ∧ w.cell? ⟨g, 1, none⟩ = some (.string K.s) ∧ w.cell? ⟨g, 2, none⟩ = some (.string K.c) ∧ w.cell? ⟨g, 3, none⟩ = some (.string K.i) ∧ w.cell? ⟨g, 4, none⟩ = some (.string K.t) ∧ w.cell? ⟨g, 5, none⟩ = some (.int .i64 c.mn) ∧ w.cell? ⟨g, 6, none⟩ = some (.int .i64 c.mx) ∧ w.cell? ⟨g, 7, none⟩ = some (.int .i64 c.win) ∧ w.cell? ⟨g, 8, none⟩ = some (.int .i64 c.bits) ∧ w.cell? ⟨g, 9, none⟩ = some (.int .u64 (Ck.Roll.u c.seed)) ∧ w.cell? ⟨g, 10, none⟩ = some (.map none) ∧ w.cell? ⟨g, 11, none⟩ = some (.map (some bi)) ∧ w.cell? ⟨g, 12, none⟩ = some blv ∧ w.cell? ⟨g, 13, none⟩ = some (.map (some bk)) :=
  ⟨(cell_of_row _ _ _ _ _ _ h).trans rfl, (cell_of_row _ _ _ _ _ _ h).trans rfl, (cell_of_row _ _ _ _ _ _ h).trans rfl, (cell_of_row _ _ _ _ _ _ h).trans rfl, (cell_of_row _ _ _ _ _ _ h).trans rfl, (cell_of_row _ _ _ _ _ _ h).trans rfl, (cell_of_row _ _ _ _ _ _ h).trans rfl, (cell_of_row _ _ _ _ _ _ h).trans rfl, (cell_of_row _ _ _ _ _ _ h).trans rfl, (cell_of_row _ _ _ _ _ _ h).trans rfl, (cell_of_row _ _ _ _ _ _ h).trans rfl, (cell_of_row _ _ _ _ _ _ h).trans rfl, (cell_of_row _ _ _ _ _ _ h).trans rfl, (cell_of_row _ _ _ _ _ _ h).trans rfl⟩
def AddP (k : KV) (xs : List Nat) (bl bl' : List BV) : Prop := (refOf k xs ∈ bl.map BV.r ∧ bl' = bl) ∨ (refOf k xs ∉ bl.map BV.r ∧ ∃ a c, bl' = bl ++ [⟨refOf k xs, xs, a, c⟩])
structure Bt (g bk : Nat) (v : Value) (bl : List BV) (v' : Value) (bl' : List BV) (w w' : World) : Prop where
  chg : Chg (fun q _ => q = g ∨ q = bk ∨ v.ownBlock = some q ∨ w.heap.size ≤ q) w w'
  own : v'.ownBlock = v.ownBlock ∨ ∃ q, v'.ownBlock = some q ∧ w.heap.size ≤ q
  new : ∀ b ∈ bl', b ∈ bl ∨ (b.d ≠ [] → ∀ ad, b.a = some ad → w.heap.size ≤ ad.block)
theorem Bt.refl (g bk : Nat) (v : Value) (bl : List BV) (w : World) : Bt g bk v bl v bl w w := ⟨Chg.refl _ _, .inl rfl, fun b h => .inl h⟩
theorem Bt.of_below {g bk : Nat} {v : Value} {bl : List BV} {w w' : World} (h : Below w.heap.size w w') : Bt g bk v bl v bl w w' := ⟨Chg.of_below h, .inl rfl, fun b h => .inl h⟩
theorem Bt.trans {g bk : Nat} {v v1 v2 : Value} {bl bl1 bl2 : List BV} {w w1 w2 : World} (h : Bt g bk v bl v1 bl1 w w1) (h2 : Bt g bk v1 bl1 v2 bl2 w1 w2) : Bt g bk v bl v2 bl2 w w2 := by
  refine ⟨h.chg.trans (h2.chg.mono fun q i hq e => ?_), ?_, fun b hb => ?_⟩
  · rcases e with e | e | e | e
    · exact .inl e
    · exact .inr (.inl e)
    · rcases h.own with h3 | ⟨q2, h3, h4⟩
      · exact .inr (.inr (.inl (h3 ▸ e)))
      · rw [h3] at e
        cases e
        exact .inr (.inr (.inr h4))
    · exact .inr (.inr (.inr (Nat.le_trans h.chg.size e)))
  · rcases h2.own with h3 | ⟨q, h3, h4⟩
    · rw [h3]; exact h.own
    · exact .inr ⟨q, h3, Nat.le_trans h.chg.size h4⟩
  · rcases h2.new b hb with h3 | h3
    · exact h.new b h3
    · exact .inr (fun hd ad e => Nat.le_trans h.chg.size (h3 hd ad e))
theorem Bt.more {g bk : Nat} {v v1 : Value} {bl bl1 : List BV} {w w1 w2 : World} {M : Nat → Nat → Prop} (h : Bt g bk v bl v1 bl1 w w1) (hc : Chg M w1 w2) (hM : ∀ q i, q < w1.heap.size → M q i → w.heap.size ≤ q) : Bt g bk v bl v1 bl1 w w2 :=
  ⟨h.chg.trans (hc.mono fun q i hq e => .inr (.inr (.inr (hM q i hq e)))), h.own, h.new⟩
theorem Bt.size {g bk : Nat} {v v' : Value} {bl bl' : List BV} {w w' : World} (h : Bt g bk v bl v' bl' w w') : w.heap.size ≤ w'.heap.size := h.chg.size
def Free (q : Nat) (v : Value) (bl : List BV) : Prop := v.ownBlock ≠ some q ∧ ∀ b ∈ bl, b.d ≠ [] → ∀ ad, b.a = some ad → ad.block ≠ q
theorem BS.fresh {w : World} {g bi bk N0 n : Nat} {K : KV} {c : Ck.Chk.Cut} {blv : Value} {bl : List BV} (h : BS w g bi bk N0 n K c blv bl) {q : Nat} (hq : w.heap.size ≤ q) : Free q blv bl :=
  ⟨fun e => by have := (h.blobs.own.lt q e).2; omega, fun b hb hd ad e => by have := (h.blobs.dat b hb hd).blk ad e hd; omega⟩
theorem Bt.free {g bk : Nat} {v v' : Value} {bl bl' : List BV} {w w' : World} (h : Bt g bk v bl v' bl' w w') {q : Nat} (hf : Free q v bl) (hq : q < w.heap.size) : Free q v' bl' := by
  refine ⟨fun e => ?_, fun b hb hd ad e => ?_⟩
  · rcases h.own with h1 | ⟨q2, h1, h2⟩
    · exact hf.1 (h1 ▸ e)
    · rw [h1] at e
      cases e
      omega
  · rcases h.new b hb with h1 | h1
    · exact hf.2 b h1 hd ad e
    · have := h1 hd ad e
      omega
theorem Bt.keeps {g bk : Nat} {v v' : Value} {bl bl' : List BV} {w w' : World} (h : Bt g bk v bl v' bl' w w') {q : Nat} (hq : q < w.heap.size) (hg : q ≠ g) (hk : q ≠ bk) (hf : Free q v bl) : ∀ i : Nat, ¬ (q = g ∨ q = bk ∨ v.ownBlock = some q ∨ w.heap.size ≤ q) := fun i e => by
  rcases e with e | e | e | e
  · exact hg e
  · exact hk e
  · exact hf.1 e
  · omega
theorem BS.turn {w w' : World} {g bi bk N0 n : Nat} {K : KV} {c : Ck.Chk.Cut} {blv : Value} {bl : List BV} {M : Nat → Prop} (h : BS w g bi bk N0 n K c blv bl) (hc : Chg (fun q _ => M q) w w') (hM : ∀ q, M q → N0 ≤ q ∧ Free q blv bl) : BS w' g bi bk N0 n K c blv bl := by
  have hl := h.lt
  have low : ∀ q, q < N0 → w'.heap[q]? = w.heap[q]? := fun q hq => hc.other q (by omega) (fun i e => by have := (hM q e).1; omega)
  refine ⟨(low g hl.1).trans h.row, h.known.keep (low bk hl.2.2.1), ⟨ownsRow_keepM h.blobs.own hc (fun q hq i e => (hM q e).2.1 hq), fun b hb hd => bytesAt_chg (h.blobs.dat b hb hd) hc (fun ad e i e2 => (hM _ e2).2.2 b hb hd ad e rfl), h.blobs.off⟩, ⟨hl.1, hl.2.1, hl.2.2.1, Nat.le_trans hl.2.2.2 hc.size⟩, h.ne⟩
end Go.Proofs.YtmcbnhkcjhlbaaaGreatDoor.Tp
end

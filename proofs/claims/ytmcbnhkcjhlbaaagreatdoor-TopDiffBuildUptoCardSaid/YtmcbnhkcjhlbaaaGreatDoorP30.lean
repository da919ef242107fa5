/- Texts Tnl, Tca of the proof, each as a section; no premises beyond those that each theorem states. -/
import Derived.Laws.IdiomRangeMap
import Derived.Test.YtmcbnhkcjhlbaaaGreatDoorP12
import Derived.Test.YtmcbnhkcjhlbaaaGreatDoorP29
set_option linter.unusedVariables false
set_option linter.unusedSimpArgs false
section
namespace Go.Proofs.YtmcbnhkcjhlbaaaGreatDoor.Tp
open Go.RowKit
open Kit (Chg)
open Go.Maps
open Go.WideMaps
open Go.Proofs.YtmcbnhkcjhlbaaaGreatDoor.One

theorem results_cell_row_tmp2 {P : Program} {fn : Func} {p u v : Tmp} {ty : TypeId} (h : fn.results = #[.cell p ty, .tmp u, .tmp v]) (tmps : Array Value) (w : World) (g : Nat) (t : TypeId) (cs : Array Value) (fr : Nat × Nat) (d : TypeDesc)
    (hp : tmps.getD p undef = .pointer (some ⟨g, 0, none⟩)) (hg : w.heap[g]? = some (.cells cs t fr))
    (hu : P.underlying ty = some d) (hd : (match d with | .struct _ | .array _ _ => true | _ => false) = true) (hi : (P.info? ty).map (·.size) = some cs.size) :
    (results fn tmps).run P w = .ok (.tuple #[.agg cs, tmps.getD u undef, tmps.getD v undef]) w := by
  have hp' : tmps[p]?.getD undef = .pointer (some ⟨g, 0, none⟩) := by simpa using hp
  simp [results, h, hp', asAddr, run_loadVar_row w g t ty cs fr d hg hu hd hi]
def kidsV (xs : List FV) (p : Bs) : List FV := xs.filter fun x => decide (parP x.e.p = p)
theorem kidsV_map (xs : List FV) (p : Bs) : (kidsV xs p).map FV.e = kidsF (xs.map FV.e) p := by
  unfold kidsV kidsF
  rw [List.filter_map]
  rfl
theorem kidsV_snoc (xs : List FV) (x : FV) (p : Bs) : kidsV (xs ++ [x]) p = if p = parP x.e.p then kidsV xs p ++ [x] else kidsV xs p := by
  unfold kidsV
  rw [List.filter_append]
  by_cases h : p = parP x.e.p
  · rw [if_pos h]
    simp [h]
  · rw [if_neg h]
    simp [Ne.symm h]
structure DirsAt (w : World) (base : Nat) (S : Bs → Option Value) (X : Bs → List FV) : Prop where
  row : ∀ p v, S p = some v → w.ownsRow base 54 6 v (X p).length ((X p).flatMap FV.cells)
  no : ∀ p, S p = none → X p = []
  apart : ∀ p p' v v', S p = some v → S p' = some v' → p ≠ p' → v.ownBlock = none ∨ v.ownBlock ≠ v'.ownBlock
theorem DirsAt.start (w : World) (base : Nat) : DirsAt w base (fun _ => none) (kidsV []) := ⟨(fun c v h => by cases h), (fun _ _ => rfl), (fun c c' v v' h => by cases h)⟩
theorem DirsAt.chg {w w' : World} {base : Nat} {S : Bs → Option Value} {X : Bs → List FV} {M : Nat → Nat → Prop} (h : DirsAt w base S X) (hc : Chg M w w') (hM : ∀ q, base ≤ q → q < w.heap.size → ∀ i, ¬ M q i) : DirsAt w' base S X := ⟨fun p v e => ownsRow_keepM (h.row p v e) hc (fun q hq => hM q ((h.row p v e).lt q hq).1 ((h.row p v e).lt q hq).2), h.no, h.apart⟩
theorem DirsAt.at {w : World} {base : Nat} {S : Bs → Option Value} {X : Bs → List FV} (h : DirsAt w base S X) (p : Bs) : w.ownsRow base 54 6 ((S p).getD (.slice none 0 0)) (X p).length ((X p).flatMap FV.cells) := by
  cases hs : S p with
  | none => rw [h.no p hs]; exact World.ownsRow_nil _ _ _ _
  | some v => exact h.row p v hs
theorem DirsAt.snoc {w w' : World} {base : Nat} {S : Bs → Option Value} {X : Bs → List FV} (h : DirsAt w base S X) (c : Bs) (x : FV) (v' : Value) (hc : Chg (fun q _ => ((S c).getD (.slice none 0 0)).ownBlock = some q) w w') (hv : w'.ownsRow base 54 6 v' ((X c).length + 1) ((X c ++ [x]).flatMap FV.cells)) (hnew : v'.ownBlock = ((S c).getD (.slice none 0 0)).ownBlock ∨ ∀ g, v'.ownBlock = some g → w.heap.size ≤ g) :
    DirsAt w' base (fun p => if p = c then some v' else S p) (fun p => if p = c then X p ++ [x] else X p) := by
  have hlt : ∀ p u g, S p = some u → u.ownBlock = some g → g < w.heap.size := fun p u g hu e => ((h.row p u hu).lt g e).2
  have hap : ∀ p u, S p = some u → p ≠ c → u.ownBlock = none ∨ u.ownBlock ≠ ((S c).getD (.slice none 0 0)).ownBlock := fun p u hu hne => by
    cases hc : S c with
    | none =>
      by_cases e : u.ownBlock = none
      · exact .inl e
      · exact .inr (fun e2 => e (e2.trans rfl))
    | some v => exact h.apart p c u v hu hc hne
  have hap' : ∀ p u, S p = some u → p ≠ c → u.ownBlock = none ∨ u.ownBlock ≠ v'.ownBlock := fun p u hu hne => by
    rcases hap p u hu hne with e | e
    · exact .inl e
    · rcases hnew with h1 | h1
      · exact .inr (by rw [h1]; exact e)
      · cases hb : u.ownBlock with
        | none => exact .inl rfl
        | some g => exact .inr (fun e2 => by have := h1 g e2.symm; have := hlt p u g hu hb; omega)
  refine ⟨fun p v hp => ?_, fun p hp => ?_, fun p y v u hx hy hne => ?_⟩
  · by_cases e : p = c
    · subst e
      simp only [if_true] at hp ⊢
      cases hp
      rw [List.length_append]
      exact hv
    · simp only [if_neg e] at hp ⊢
      refine ownsRow_keepM (h.row p v hp) hc (fun q hq i e2 => ?_)
      rcases hap p v hp e with e3 | e3
      · rw [e3] at hq; cases hq
      · exact e3 (hq.trans e2.symm)
  · by_cases e : p = c
    · subst e
      simp only [if_true] at hp
      cases hp
    · simp only [if_neg e] at hp ⊢
      exact h.no p hp
  · by_cases e : p = c
    · have hy2 : y ≠ c := fun e2 => hne (e.trans e2.symm)
      simp only [if_pos e] at hx
      simp only [if_neg hy2] at hy
      cases hx
      cases hb : v'.ownBlock with
      | none => exact .inl rfl
      | some g =>
        rcases hap' y u hy hy2 with h1 | h1
        · exact .inr (by rw [h1]; simp)
        · exact .inr (fun e2 => h1 (by rw [← e2, hb]))
    · by_cases e2 : y = c
      · simp only [if_neg e] at hx
        simp only [if_pos e2] at hy
        cases hy
        exact hap' p v hx e
      · simp only [if_neg e] at hx
        simp only [if_neg e2] at hy
        exact h.apart p y v u hx hy hne
theorem FV.ok.low' {w w' : World} {x : FV} {N : Nat} (h : x.ok w) (hb : Below N w w') (hk : x.e.data ≠ [] → ∀ ad, x.a = some ad → ad.block < N) : x.ok w' := by
  by_cases hd : x.e.data = []
  · refine ⟨h.nil, h.cap, ?_, h.sp, h.sl, h.sd⟩
    exact ⟨.inl hd, h.dat.2⟩
  · exact h.ok_chg (Chg.of_below' (M := fun q _ => N ≤ q) hb (fun k i h1 _ => h1)) (fun hd ad e i e2 => by have := hk hd ad e; omega)
theorem FEsAt.low' {w w1 w2 : World} {a : Option Addr} {xs : List FV} {B b : Nat} (h : FEsAt w a xs) (h1 : Below w.heap.size w w1) (h2 : Below B w1 w2) (hb : w.heap.size = b) (hB : b + 3 ≤ B) : FEsAt w2 a xs := by
  have h3 := h.later h1
  refine ⟨h3.1.low FV.len (by decide) h2 (fun ad e hne => ?_), fun x hx => (h3.2 x hx).low' h2 (fun hd ad e => ?_)⟩
  · have := h.1.blk FV.len (by decide) ad e hne
    omega
  · have := (h.2 x hx).blk hd ad e
    omega
def BuildP (K : KV) (c : Ck.Chk.Cut) (es : List FE) (w : World) (e : Ending) (w' : World) : Prop := ∃ (v : Value) (bl : List BV) (B : Nat), e = .returned (.tuple #[.agg (refOf K (nodeF K c es (es.length + 1) [])).row, v, .int .i64 0]) ∧ AddsP K (dirC K c es (es.length + 1) []) [] bl ∧ w.heap.size ≤ B ∧ BRow w' B v bl ∧ Below w.heap.size w w'
def cRow (c : Ck.Chk.Cut) : Array Value := #[.int .i64 c.mn, .int .i64 c.mx, .int .i64 c.win, .int .i64 c.bits, .int .u64 (Ck.Roll.u c.seed)]
theorem row5 {w : World} {b : Nat} {a0 a1 a2 a3 a4 : Value} {T : TypeId} {f : Nat × Nat} (h : w.heap[b]? = some (.cells #[a0, a1, a2, a3, a4] T f)) : w.cell? ⟨b, 0, none⟩ = some a0 ∧ w.cell? ⟨b, 1, none⟩ = some a1 ∧ w.cell? ⟨b, 2, none⟩ = some a2 ∧ w.cell? ⟨b, 3, none⟩ = some a3 ∧ w.cell? ⟨b, 4, none⟩ = some a4 :=
  ⟨(cell_of_row _ _ _ _ _ _ h).trans rfl, (cell_of_row _ _ _ _ _ _ h).trans rfl, (cell_of_row _ _ _ _ _ _ h).trans rfl, (cell_of_row _ _ _ _ _ _ h).trans rfl, (cell_of_row _ _ _ _ _ _ h).trans rfl⟩
theorem three_below {w : World} {A B C : Obj} : Below w.heap.size w (((w.alloc A).alloc B).alloc C) := (((Below.refl _ _).alloc (Nat.le_refl _) _).alloc (by simp) _).alloc (by simp; omega) _
set_option maxRecDepth 100000 in
set_option maxHeartbeats 4000000 in
theorem build_any (K : KV) (hK : K.ok) (c : Ck.Chk.Cut) (hc : c.Ok) (a : Option Addr) (n cap : Nat) (xs : List FV) (hn : xs.length = n) (hcap : n ≤ cap) (w : World) (hX : FEsAt w a xs) (hE : SmallT (xs.map FV.e)) (hT : Top w) : Calls Tryz.prog 12 #[.agg K.row, .agg (cRow c), .slice a n cap, .map none] w (BuildP K c (xs.map FV.e) w) := by
  have HK := Lib.hid hK
  have HC := Lib.hid hc
  have HN := Lib.hid hn
  have HX := Lib.hid hX
  have HE := Lib.hid hE
  have HT := Lib.hid hT
  have hn8 : n ≤ 8 := by have := hE.few; rw [List.length_map, hn] at this; exact this
  have HSC := Lib.hid (fun V (h : Below w.heap.size w V) => sealCheck_nil K hK V (hT.later h))
  have HVC := Lib.hid (fun V => Ck.valid_any (c.mn : Int) (c.mx : Int) (c.win : Int) (c.bits : Int) c.seed V)
  rw [Ck.valid_of hc] at HVC
  have HCK := Lib.hid (fun V (h : Below w.heap.size w V) => check_any a n cap xs hn hcap (by omega) V (hX.later h) (fun x hx => hE.ok.ok x.e (List.mem_map_of_mem hx)) hE.ok.asc (hT.later h))
  unfold cRow
  unfold KV.row at HSC ⊢
  clear hK hc hn hX hE hT
  have hrg := fun W => run_range_nilMap (P := Tryz.prog) W 83 9 3 Tryz.underlying83
  have hnx := fun W ty => run_next_nilMap (P := Tryz.prog) W ty 0 0 #[]
  have hmk1 := fun W => run_makeMap_none (P := Tryz.prog) (t := 90) Tryz.underlying90 W
  have hmk2 := fun W => run_makeMap_none (P := Tryz.prog) (t := 91) Tryz.underlying91 W
  go_enter Tryz.func12, Tryz.ntmps12
  go_upto_region 1 with fail
  refine wp_over (fun V => Hid (V.heap[w.heap.size]? = some (.cells #[.string K.n, .string K.s, .string K.c, .string K.i, .string K.t] 38 (0, 0))) ∧ Hid (V.heap[w.heap.size + 1]? = some (.cells #[.int .i64 c.mn, .int .i64 c.mx, .int .i64 c.win, .int .i64 c.bits, .int .u64 (Ck.Roll.u c.seed)] 42 (0, 0))) ∧ Hid (V.heap[w.heap.size + 2]? = some (.cells (RefP.row refZ) 45 (0, 0))) ∧ Hid (Below w.heap.size w V) ∧ Hid (V.heap.size = w.heap.size + 3)) ⟨Lib.hid (Ck.alloc3 _ _ _ _).1, Lib.hid (Ck.alloc3 _ _ _ _).2.1, Lib.hid (Ck.alloc3 _ _ _ _).2.2, Lib.hid three_below, Lib.hid (by simp)⟩ ?_
  rintro W ⟨HKR, HCR, HRZ, HWB, HWS⟩
  obtain ⟨b0, hb0⟩ := ex_eq w.heap.size
  rw [hb0] at HKR HCR HRZ HWS ⊢
  have HB0 := Lib.hid hb0
  clear hb0
  have HKC : Hid (∀ X, Below (b0 + 3) W X → X.cell? ⟨b0, 0, none⟩ = some (.string K.n) ∧ X.cell? ⟨b0, 1, none⟩ = some (.string K.s) ∧ X.cell? ⟨b0, 2, none⟩ = some (.string K.c) ∧ X.cell? ⟨b0, 3, none⟩ = some (.string K.i) ∧ X.cell? ⟨b0, 4, none⟩ = some (.string K.t)) := Lib.hid (fun X h => row5 ((h.block b0 (by omega)).trans HKR.out))
  have HCC : Hid (∀ X, Below (b0 + 3) W X → X.cell? ⟨b0 + 1, 0, none⟩ = some (.int .i64 c.mn) ∧ X.cell? ⟨b0 + 1, 1, none⟩ = some (.int .i64 c.mx) ∧ X.cell? ⟨b0 + 1, 2, none⟩ = some (.int .i64 c.win) ∧ X.cell? ⟨b0 + 1, 3, none⟩ = some (.int .i64 c.bits) ∧ X.cell? ⟨b0 + 1, 4, none⟩ = some (.int .u64 (Ck.Roll.u c.seed))) := Lib.hid (fun X h => row5 ((h.block (b0 + 1) (by omega)).trans HCR.out))
  obtain ⟨k0, k1, k2, k3, k4⟩ := HKC.out W (Below.refl _ _)
  go_upto_region 2 with (first
    | (go_at_call 30
       (with_reducible refine (HSC.out _ HWB.out).mono ?_)
       rintro e W1 ⟨v1, rfl, hb⟩
       have HB1 := Lib.hid hb
       clear hb))
  clear k0 k1 k2 k3 k4
  have HW1 : Hid (Below (b0 + 3) W W1) := Lib.hid (HB1.out.mono (by have := HWS.out; omega))
  obtain ⟨k0, k1, k2, k3, k4⟩ := HCC.out W1 HW1.out
  go_upto_region 4 with (first
    | (go_at_call 21
       (with_reducible refine (HVC.out _).mono ?_)
       rintro e W2 ⟨rfl, hb⟩
       have HB2 := Lib.hid hb
       clear hb))
  clear k0 k1 k2 k3 k4
  go_upto_region 5 with fail
  go_loopw [14] (fun z wr => wr = W2.alloc (.mapIter none 0 #[] 0)) (fun _ _ => 0)
  case atStart => rfl
  case round =>
    subst hrel
    have HWC : Hid (Below w.heap.size w (W2.alloc (.mapIter none 0 #[] 0))) := Lib.hid (by
      have h0 := HB0.out
      have h1 := HWB.out
      have h2 := HB1.out
      have h3 := HB2.out
      have h4 := HWS.out
      exact ((h1.trans (h2.mono (by omega))).trans (h3.mono (by have := h2.size; omega))).alloc (by have := h2.size; have := h3.size; omega) _)
    have HW3 : Hid (Below (b0 + 3) W (W2.alloc (.mapIter none 0 #[] 0))) := Lib.hid (by
      have h2 := HB1.out
      have h3 := HB2.out
      have h4 := HWS.out
      exact (HW1.out.trans (h3.mono (by have := h2.size; omega))).alloc (by have := h2.size; have := h3.size; omega) _)
    go_upto_region 12 with (first
      | (go_at_call 20
         (with_reducible refine (HCK.out _ HWC.out).mono ?_)
         rintro e W4 ⟨r, rfl, _, hr, hb⟩
         obtain rfl := hr HE.out.ok
         have HB4 := Lib.hid hb
         clear hb hr))
    have HW4 : Hid (Below (b0 + 3) W W4) := Lib.hid (HW3.out.trans (HB4.out.mono (by have := HW3.out.size; have := HWS.out; omega)))
    have HWC4 : Hid (Below w.heap.size w W4) := Lib.hid (HWC.out.trans (HB4.out.mono HWC.out.size))
    obtain ⟨k0, k1, k2, k3, k4⟩ := HKC.out _ HW4.out
    obtain ⟨l0, l1, l2, l3, l4⟩ := HCC.out _ HW4.out
    clear hrg hnx
    go_upto_region 13 with fail
    clear k0 k1 k2 k3 k4 l0 l1 l2 l3 l4 hmk1 hmk2
    have hal1 := (Below.refl W4.heap.size W4).alloc (Nat.le_refl _) (.map #[] 0)
    have hal2 := (Below.refl (W4.alloc (.map #[] 0)).heap.size (W4.alloc (.map #[] 0))).alloc (Nat.le_refl _) (.map #[] 0)
    refine wp_over (fun V => Hid (MapS V W4.heap.size 0 (fun _ => none)) ∧ Hid (MapR V (W4.heap.size + 1) 0 []) ∧ Hid (V.heap[W4.heap.size + 2]? = some (.cells (bRow K c W4.heap.size (.slice none 0 0) (W4.heap.size + 1)) 93 (0, 0))) ∧ Hid (Below W4.heap.size W4 V) ∧ Hid (V.heap.size = W4.heap.size + 3)) ⟨Lib.hid (((MapS.start W4).later hal2).later ((Below.refl _ _).alloc (Nat.le_refl _) _)), Lib.hid (by
      have h := MapR.start (W4.alloc (.map #[] 0))
      rw [World.size_alloc] at h
      exact h.later ((Below.refl _ _).alloc (Nat.le_refl _) _)), Lib.hid (Ck.alloc3 _ _ _ _).2.2, Lib.hid three_below, Lib.hid (by simp)⟩ ?_
    clear hal1 hal2
    rintro W5 ⟨HM5, HK5, HG5, HB5, HS5⟩
    have HW5 : Hid (Below (b0 + 3) W W5) := Lib.hid (HW4.out.trans (HB5.out.mono (by have := HW4.out.size; have := HWS.out; omega)))
    have HWC5 : Hid (Below w.heap.size w W5) := Lib.hid (HWC4.out.trans (HB5.out.mono HWC4.out.size))
    have HLT : Hid (7 ≤ w.heap.size ∧ w.heap.size = b0 ∧ b0 + 3 ≤ W4.heap.size) := Lib.hid ⟨HT.out.size, HB0.out, by have := HW4.out.size; have := HWS.out; omega⟩
    obtain ⟨bi, hbi⟩ := ex_eq W4.heap.size
    rw [hbi] at HM5 HK5 HG5 HS5 HLT ⊢
    clear hbi
    obtain ⟨bk, hbk⟩ := ex_eq (bi + 1)
    obtain ⟨g, hg⟩ := ex_eq (bi + 2)
    rw [hbk] at HK5
    have HG5' : Hid (W5.heap[g]? = some (.cells (bRow K c bi (.slice none 0 0) bk) 93 (0, 0))) := Lib.hid (by rw [← hbk, ← hg]; exact HG5.out)
    have HBG : Hid (b0 + 3 ≤ bi ∧ bk = bi + 1 ∧ g = bi + 2 ∧ W5.heap.size = bi + 3) := Lib.hid ⟨HLT.out.2.2, hbk.symm, hg.symm, HS5.out⟩
    (try rw [hg])
    clear HG5 hbk hg
    have HT5 := Lib.hid (HT.out.later HWC5.out)
    go_upto_region 14 with fail
    go_loopw [64] (fun z wr => ∃ (k : Nat) (S : Bs → Option Value), k ≤ n ∧ z = .int .i64 (k : Int) ∧ Hid (MapS wr bi k S) ∧ Hid (DirsAt wr W5.heap.size S (kidsV (xs.take k))) ∧ Hid (Chg (fun q _ => q = bi ∨ W5.heap.size ≤ q) W5 wr)) (fun z _ => n - (intOf z).toNat)
    case atStart => exact ⟨0, fun _ => none, Nat.zero_le _, rfl, HM5, Lib.hid (by rw [List.take_zero]; exact DirsAt.start _ _), Lib.hid (Chg.refl _ _)⟩
    case round =>
      obtain ⟨k, S, hk, rfl, HMS, HDS, HCH⟩ := hrel
      have HLO : Hid (∀ q, q < bi ∨ q = bk ∨ q = g → wr.heap[q]? = W5.heap[q]?) := Lib.hid (fun q hq => HCH.out.other q (by have := HBG.out; omega) (fun i e => by have := HBG.out; omega))
      have HBI : Hid (Below bi W5 wr) := Lib.hid (HCH.out.below (by have := HBG.out; omega) (fun q i hq e => by have := HBG.out; omega))
      have HXR : Hid (FEsAt wr a xs) := Lib.hid (HX.out.low' HWC5.out HBI.out HLT.out.2.1 HBG.out.1)
      have HTR : Hid (Top wr) := Lib.hid (HT5.out.low HBI.out (by have := HBG.out; have := HLT.out; omega))
      by_cases hlt : k < n
      rotate_left
      · go_upto_region 19 with fail
        have HEL : Hid ((xs.map FV.e).length = n) := Lib.hid (by rw [List.length_map]; exact HN.out)
        have HTKN : Hid (xs.take k = xs) := Lib.hid (List.take_of_length_le (by have := HN.out; omega))
        rw [HTKN.out] at HDS
        have HG6 : Hid (wr.heap[g]? = some (.cells (bRow K c bi (.slice none 0 0) bk) 93 (0, 0))) := Lib.hid ((HLO.out g (.inr (.inr rfl))).trans HG5'.out)
        have HSZ : Hid (W5.heap.size ≤ wr.heap.size) := Lib.hid HCH.out.size
        have HBS : Hid (BS wr g bi bk wr.heap.size 0 K c (.slice none 0 0) []) := Lib.hid ⟨HG6.out, HK5.out.keep (HLO.out bk (.inr (.inl rfl))), BRow.nil _ _, by have := HBG.out; have := HSZ.out; omega, by have := HBG.out; omega⟩
        have HIT : Hid (Items wr g bi bk wr.heap.size (xs.map FV.e) k S) := Lib.hid ⟨HMS.out, fun p v hv => by
          obtain ⟨ra, rc, h1, h2, h3, _, h4, _, h5⟩ := rows_of_own FV.len (by decide) (HDS.out.row p v hv)
          refine ⟨ra, rc, kidsV xs p, h1, h3, kidsV_map xs p, ⟨h4, fun x hx => HXR.out.2 x (List.mem_filter.1 hx).1⟩, fun ad e _ => ?_, fun x hx hd ad e => ?_⟩
          · have h6 := h5 ad e
            have := HBG.out
            exact ⟨h6.2.1, by omega, by omega⟩
          · have h6 := (HX.out.2 x (List.mem_filter.1 hx).1).blk hd ad e
            have := HBG.out
            have := HLT.out
            have := HSZ.out
            exact ⟨by omega, by omega, by omega⟩, fun p hp => by rw [← kidsV_map, HDS.out.no p hp]; rfl⟩
        have HDM := Lib.hid (dirC_most (K := K) (c := c) HE.out ((xs.map FV.e).length + 1) [])
        have HDI := Lib.hid (dir_any g bi bk wr.heap.size k K HK.out c HC.out (xs.map FV.e) HE.out S ⟨by have := HBG.out; have := HLT.out; omega, by have := HBG.out; have := HLT.out; omega⟩ ((xs.map FV.e).length + 1) (xs.map FV.e).length [] (Nat.lt_succ_self _) (Late.root _ _) ⟨#[]⟩ rfl (by decide) 0 (.slice none 0 0) [] wr (by have := HDM.out; rw [List.length_nil]; omega) (by have := HDM.out; omega) HBS.out HIT.out HTR.out)
        obtain ⟨r, hr⟩ := ex_eq (refOf K (nodeF K c (xs.map FV.e) ((xs.map FV.e).length + 1) []))
        rw [hr] at HDI
        have HRE := Lib.hid hr
        obtain ⟨rn, rs⟩ := r
        unfold DirP RefP.row at HDI
        dsimp only at HDI
        clear hr
        go_upto_region 20 with (first
          | (go_at_call 32
             (with_reducible refine HDI.out.mono ?_)
             rintro e w3 ⟨blv2, bl2, rfl, h1, h2, h3⟩
             have HA3 := Lib.hid h1
             have HS3 := Lib.hid h2
             have HT3 := Lib.hid h3
             clear h1 h2 h3))
        refine wp_over (fun V => Hid (V.heap[w3.heap.size]? = some (.cells (RefP.row ⟨rn, rs⟩) 45 (0, 0))) ∧ Hid (Below w3.heap.size w3 V)) ⟨Lib.hid (new_row3 (r := ⟨rn, rs⟩)), Lib.hid ((Below.refl _ _).alloc (Nat.le_refl _) _)⟩ ?_
        rintro V ⟨HRM, HVB⟩
        obtain ⟨M, hM⟩ := ex_eq w3.heap.size
        rw [hM] at HRM ⊢
        have HMM := Lib.hid hM
        clear hM
        have HSV := Lib.hid (HS3.out.later HVB.out)
        have HRR : Hid (V.heap[b0 + 2]? = some (.cells (RefP.row refZ) 45 (0, 0))) := Lib.hid ((HVB.out.block (b0 + 2) (by have := HT3.out.size; have := HSZ.out; have := HBG.out; omega)).trans ((HT3.out.chg.other (b0 + 2) (by have := HSZ.out; have := HBG.out; omega) (HT3.out.keeps (by have := HSZ.out; have := HBG.out; omega) (by have := HBG.out; omega) (by have := HBG.out; omega) ⟨by simp [Value.ownBlock], by simp⟩)).trans ((HLO.out (b0 + 2) (.inl (by have := HBG.out; omega))).trans ((HW5.out.block (b0 + 2) (by omega)).trans HRZ.out))))
        go_upto_region 22 with fail
        have HC22 : Hid (∀ X, Chg (fun q _ => q = b0 + 2) V X → X.cell? ⟨g, 12, none⟩ = some blv2 ∧ (X.cell? ⟨M, 0, none⟩ = some (.string rn) ∧ X.cell? ⟨M, 1, none⟩ = some (.int .i64 0) ∧ X.cell? ⟨M, 2, none⟩ = some (.int .i64 (rs : Int)))) := Lib.hid (fun X h => by
          have hg12 := (row14B HSV.out.row).2.2.2.2.2.2.2.2.2.2.2.2.1
          obtain ⟨q0, q1, q2⟩ := row3R (r := ⟨rn, rs⟩) HRM.out
          have f : ∀ q i {z : Value}, q ≠ b0 + 2 → V.cell? ⟨q, i, none⟩ = some z → X.cell? ⟨q, i, none⟩ = some z := fun q i z hq hz => h.cell hz hq
          have hm : M ≠ b0 + 2 := by have := HMM.out; have := HT3.out.size; have := HSZ.out; have := HBG.out; omega
          exact ⟨f _ _ (by have := HBG.out; omega) hg12, f _ _ hm q0, f _ _ hm q1, f _ _ hm q2⟩)
        have HDR : Hid (Below V.heap.size V V.drew) := Lib.hid (Below.refl _ _).drew
        obtain ⟨VD, hVD⟩ := ex_eq V.drew
        rw [hVD] at HDR
        refine Kit.wp_region_hplan (fun V => V.cell? ⟨g, 12, none⟩ = some blv2 ∧ (V.cell? ⟨M, 0, none⟩ = some (.string rn) ∧ V.cell? ⟨M, 1, none⟩ = some (.int .i64 0) ∧ V.cell? ⟨M, 2, none⟩ = some (.int .i64 (rs : Int)))) [(true, 0), (true, 1), (true, 2), (true, 3), (true, 4), (false, 5), (true, 6), (true, 7)] (by kernel_rfl) (by kernel_rfl) (by kernel_rfl) (by kernel_rfl) (by rw [hVD]; exact HC22.out _ (Chg.of_below HDR.out)) ?_
        rw [hVD]
        clear hVD
        iterate 5 (refine Kit.hplan_head (by rfl) (by first | exact .inr ⟨by rfl, rfl⟩ | exact .inl ⟨by rfl, fun w' hS => by (dsimp only at hS); go_simp; (try with_reducible rfl)⟩) ?_; (try simp only [Act.put, List.setIfInBounds_toArray, List.set_cons_zero, List.set_cons_succ]))
        have HRD : Hid (VD.heap[b0 + 2]? = some (.cells (RefP.row refZ) 45 (0, 0))) := Lib.hid ((HDR.out.block (b0 + 2) (Array.getElem?_eq_some_iff.1 HRR.out).1).trans HRR.out)
        obtain ⟨z0, z1, z2⟩ := row3R HRD.out
        dsimp only [refZ] at z0 z1 z2
        have zf : ∀ i, VD.frozen? ⟨b0 + 2, i, none⟩ = false := fun i => frozen_of_row _ _ _ _ _ HRD.out
        refine Kit.hplan_op (by rfl) (by rfl) fun K' hK' => ?_
        go_simp
        have HPC : Hid (Chg (fun q _ => q = b0 + 2) V (putL (b0 + 2) 0 [.string rn, .int .i64 0, .int .i64 (rs : Int)] VD)) := Lib.hid (putL_chg (fun i => rfl) _ _ _ (Chg.of_below HDR.out))
        refine hK' _ _ (HC22.out _ HPC.out) ?_
        clear hK' K'
        iterate 2 (refine Kit.hplan_head (by rfl) (by first | exact .inr ⟨by rfl, rfl⟩ | exact .inl ⟨by rfl, fun w' hS => by (dsimp only at hS); go_simp; (try with_reducible rfl)⟩) ?_; (try simp only [Act.put, List.setIfInBounds_toArray, List.set_cons_zero, List.set_cons_succ]))
        refine Kit.hplan_done ?_
        (try simp only [Act.put, List.setIfInBounds_toArray, List.set_cons_zero, List.set_cons_succ])
        (try go_wp2_with fail)
        have HRF := Lib.hid (putL_full (cur := [.string refZ.name, .int .i64 0, .int .i64 (refZ.size : Int)]) (vs := [.string rn, .int .i64 0, .int .i64 (rs : Int)]) HRD.out rfl)
        refine bodyPost_ret (results_cell_row_tmp2 (p := 8) (u := 9) (v := 10) rfl _ _ (b0 + 2) 45 #[.string rn, .int .i64 0, .int .i64 (rs : Int)] (0, 0) _ (by rfl) HRF.out Tryz.underlying45 rfl (by kernel_rfl)) rfl ?_
        obtain ⟨Z, hZ⟩ := ex_eq (putL (b0 + 2) 0 [.string rn, .int .i64 0, .int .i64 (rs : Int)] VD)
        have hpc := HPC.out
        rw [hZ] at hpc
        have hfin : (putL (b0 + 2) 0 [.string rn, .int .i64 0, .int .i64 (rs : Int)] VD) = Z := hZ
        refine ⟨blv2, bl2, wr.heap.size, ?_, HA3.out, by have := HLT.out; have := HBG.out; have := HSZ.out; omega, ?_, ?_⟩
        · rw [HRE.out]; rfl
        · show BRow (putL (b0 + 2) 0 [.string rn, .int .i64 0, .int .i64 (rs : Int)] VD) _ _ _
          rw [hfin]
          exact HSV.out.blobs.under (hpc.mono (fun q i _ e => by have e2 : q = b0 + 2 := e; have := HSZ.out; have := HBG.out; omega))
        · show Below _ _ (putL (b0 + 2) 0 [.string rn, .int .i64 0, .int .i64 (rs : Int)] VD)
          rw [hfin]
          have h1 : Below w.heap.size w wr := HWC5.out.trans (HBI.out.mono (by have := HBG.out; have := HLT.out; omega))
          have h2 : Below w.heap.size w w3 := h1.trans (HT3.out.below HBS.out (by have := HBG.out; have := HLT.out; omega) (by have := HBG.out; have := HLT.out; omega))
          have h3 : Below w.heap.size w V := h2.trans (HVB.out.mono h2.size)
          exact h3.trans (hpc.below h3.size (fun q i hq e => by have e2 : q = b0 + 2 := e; have := HLT.out; omega))
      have hkx : k < xs.length := by rw [HN.out]; exact hlt
      obtain ⟨b, o, hia, s0, s1, s2, s3, s4, s5⟩ := HXR.out.six k hkx
      obtain ⟨x, hx⟩ : ∃ x, xs[k] = x := ⟨_, rfl⟩
      rw [hx] at s0 s1 s2 s3 s4 s5
      have HEO : Hid x.e.ok := Lib.hid (HE.out.ok.ok _ (List.mem_map_of_mem (by rw [← hx]; exact List.getElem_mem hkx)))
      have HTK : Hid (xs.take (k + 1) = xs.take k ++ [x]) := Lib.hid (by rw [List.take_succ_eq_append_getElem hkx, hx])
      subst hia
      clear hx
      obtain ⟨⟨path, kind, mode, time, data, link⟩, da, dc⟩ := x
      dsimp only at s0 s1 s2 s3 s4 s5
      go_upto_region 16 with fail
      clear s0 s1 s2 s3 s4 s5
      refine wp_over (fun V => Hid (V.heap[wr.heap.size]? = some (.cells (FV.row (⟨⟨path, kind, mode, time, data, link⟩, da, dc⟩ : FV)) 54 (0, 0))) ∧ Hid (Below wr.heap.size wr V) ∧ Hid (V.heap.size = wr.heap.size + 1)) ⟨Lib.hid (heap_alloc_new _ _), Lib.hid ((Below.refl _ _).alloc (Nat.le_refl _) _), Lib.hid (by simp)⟩ ?_
      rintro V ⟨HGE, HVB, HVS⟩
      obtain ⟨N, hN⟩ := ex_eq wr.heap.size
      rw [hN] at HGE HVS ⊢
      have HNN := Lib.hid hN
      clear hN
      have HPA := Lib.hid (parent_ok path HEO.out.vp V (HTR.out.later HVB.out))
      obtain ⟨t0, t1, t2, t3, t4, t5⟩ := row6 HGE.out
      dsimp only at t0 t1 t2 t3 t4 t5
      go_upto_region 17 with (first
        | (go_at_call 31
           (with_reducible refine HPA.out.mono ?_)
           rintro e V1 ⟨u, rfl, hu, hb⟩
           have HU := Lib.hid hu
           have HVV := Lib.hid hb
           clear hu hb))
      clear t0 t1 t2 t3 t4 t5
      have HV1 : Hid (Below wr.heap.size wr V1) := Lib.hid (HVB.out.trans (HVV.out.mono (by have := HVS.out; have := HNN.out; omega)))
      have HGE1 : Hid (V1.heap[N]? = some (.cells (FV.row (⟨⟨path, kind, mode, time, data, link⟩, da, dc⟩ : FV)) 54 (0, 0))) := Lib.hid ((HVV.out.block N (by have := HVS.out; omega)).trans HGE.out)
      have HV1S : Hid (N + 1 ≤ V1.heap.size) := Lib.hid (by have := HVV.out.size; have := HVS.out; omega)
      have HUS : Hid (u.size ≤ 512) := Lib.hid (by
        have h1 := congrArg List.length HU.out
        rw [bytes_len] at h1
        have h2 := joinP_dropLast path.data.toList
        have h3 := HEO.out.vp.len
        have h4 : path.data.toList.length ≤ 512 := h3
        omega)
      have HMV : Hid (MapS V1 bi k S) := Lib.hid (HMS.out.later HV1.out)
      have HDV : Hid (DirsAt V1 W5.heap.size S (kidsV (xs.take k))) := Lib.hid (HDS.out.chg (M := fun _ _ => False) (Chg.of_below HV1.out) (fun _ _ _ _ h => h))
      obtain ⟨p, hp⟩ := ex_eq u.data.toList
      have HP := Lib.hid hp
      obtain ⟨cur, hcur⟩ := ex_eq ((S p).getD (.slice none 0 0))
      have HCUR := Lib.hid hcur
      have HOWC : Hid (V1.ownsRow W5.heap.size 54 6 cur (kidsV (xs.take k) p).length ((kidsV (xs.take k) p).flatMap FV.cells)) := Lib.hid (by have h := HDV.out.at p; rw [hcur] at h; exact h)
      have HCB : Hid (∀ q, cur.ownBlock = some q → W5.heap.size ≤ q ∧ q < N) := Lib.hid (fun q hq => by
        have h := HDS.out.at p
        rw [hcur] at h
        have h1 := h.lt q hq
        have := HNN.out
        omega)
      clear hp hcur
      have HSZ : Hid (W5.heap.size ≤ wr.heap.size) := Lib.hid HCH.out.size
      have HS17 : Hid (∀ X, Chg (fun q _ => W5.heap.size ≤ q ∧ q < N) V1 X → X.cell? ⟨g, 11, none⟩ = some (.map (some bi)) ∧ (X.cell? ⟨N, 0, none⟩ = some (.string path) ∧ X.cell? ⟨N, 1, none⟩ = some (.int .i64 kind) ∧ X.cell? ⟨N, 2, none⟩ = some (.int .i64 mode) ∧ X.cell? ⟨N, 3, none⟩ = some (.int .i64 time) ∧ X.cell? ⟨N, 4, none⟩ = some (.slice da data.length dc) ∧ X.cell? ⟨N, 5, none⟩ = some (.string link)) ∧ (Instr.lookup 90 (.map (some bi)) (.string u) false).run Tryz.prog X = .ok cur X) := Lib.hid (fun X h => by
        have hg : V1.heap[g]? = some (.cells (bRow K c bi (.slice none 0 0) bk) 93 (0, 0)) := (HV1.out.block g (by have := HBG.out; have := HSZ.out; omega)).trans ((HLO.out g (.inr (.inr rfl))).trans HG5'.out)
        have hgc := (row14B hg).2.2.2.2.2.2.2.2.2.2.2.1
        obtain ⟨t0, t1, t2, t3, t4, t5⟩ := row6 HGE1.out
        have f : ∀ q i {z : Value}, ¬ (W5.heap.size ≤ q ∧ q < N) → V1.cell? ⟨q, i, none⟩ = some z → X.cell? ⟨q, i, none⟩ = some z := fun q i z hq hz => h.cell hz hq
        have hM : MapS X bi k S := HMV.out.keep (h.other bi HMV.out.lt (fun i e => by have := HBG.out; have e2 : W5.heap.size ≤ bi ∧ bi < N := e; omega))
        refine ⟨f _ _ (by have := HBG.out; omega) hgc, ⟨f _ _ (by omega) t0, f _ _ (by omega) t1, f _ _ (by omega) t2, f _ _ (by omega) t3, f _ _ (by omega) t4, f _ _ (by omega) t5⟩, ?_⟩
        have h1 := hM.look1 (t := 90) (e := 22) Tryz.underlying90 (z := .slice none 0 0) (by kernel_rfl) u (by have := HUS.out; unfold maxLen; omega)
        rw [HP.out, HCUR.out] at h1
        exact h1)
      have HDR : Hid (Below V1.heap.size V1 V1.drew) := Lib.hid (Below.refl _ _).drew
      obtain ⟨VD, hVD⟩ := ex_eq V1.drew
      rw [hVD] at HDR
      refine Kit.wp_region_lplan (fun V => V.cell? ⟨g, 11, none⟩ = some (.map (some bi)) ∧ (V.cell? ⟨N, 0, none⟩ = some (.string path) ∧ V.cell? ⟨N, 1, none⟩ = some (.int .i64 kind) ∧ V.cell? ⟨N, 2, none⟩ = some (.int .i64 mode) ∧ V.cell? ⟨N, 3, none⟩ = some (.int .i64 time) ∧ V.cell? ⟨N, 4, none⟩ = some (.slice da data.length dc) ∧ V.cell? ⟨N, 5, none⟩ = some (.string link)) ∧ (Instr.lookup 90 (.map (some bi)) (.string u) false).run Tryz.prog V = .ok cur V) 14 [(true, 0), (true, 1), (true, 2), (true, 3), (true, 4), (true, 5), (true, 6), (true, 7), (true, 8), (true, 9), (true, 10), (true, 11), (false, 12), (false, 13), (false, 14)] (by kernel_rfl) (by kernel_rfl) (by kernel_rfl) (by kernel_rfl) (by rw [hVD]; exact HS17.out _ (Chg.of_below HDR.out)) ?_
      rw [hVD]
      clear hVD
      iterate 12 (refine Kit.lplan_head (by rfl) (by first | exact .inr ⟨by rfl, rfl⟩ | exact .inl ⟨by rfl, fun w' hS => by (dsimp only at hS); go_simp; (try with_reducible rfl)⟩) ?_; (try simp only [Act.put, List.setIfInBounds_toArray, List.set_cons_zero, List.set_cons_succ]))
      refine Kit.lplan_op (by rfl) (by rfl) (fun K' hK' => ?_) (by decide)
      go_simp
      refine hK' _ _ (HS17.out _ (Chg.of_below (HDR.out.alloc HDR.out.size _))) ?_
      clear hK' K'
      refine Kit.lplan_op (by rfl) (by rfl) (fun K' hK' => ?_) (by decide)
      have HOWD : Hid (VD.ownsRow W5.heap.size 54 6 cur (kidsV (xs.take k) p).length ((kidsV (xs.take k) p).flatMap FV.cells)) := Lib.hid (own_later HOWC.out HDR.out)
      have HKL : Hid ((kidsV (xs.take k) p).length ≤ 5000000) := Lib.hid (by
        have h1 : (kidsV (xs.take k) p).length ≤ (xs.take k).length := List.length_filter_le _ _
        rw [List.length_take] at h1
        omega)
      refine wp_app_at kindFE _ _ (by rfl) W5.heap.size cur _ (kidsV (xs.take k) p) (by rfl) HOWD.out (by have := HDR.out.size; have := HV1.out.size; have := HSZ.out; omega) HKL.out (⟨⟨path, kind, mode, time, data, link⟩, da, dc⟩ : FV) _ (by rfl) 1 (by rfl) ?_
      intro v' w3 h1 h2 h3
      have HCH3 : Hid (Chg (fun q _ => cur.ownBlock = some q) V1 w3) := Lib.hid ((Chg.of_below HDR.out).trans ((Chg.alloc1 VD _).trans (Chg.of_grown h2 (fun q _ e => e))))
      have H1 := Lib.hid h1
      have H3 := Lib.hid h3
      have HVDS := Lib.hid HDR.out.size
      clear h1 h2 h3
      refine hK' _ _ (HS17.out _ (HCH3.out.mono (fun q i _ e => HCB.out q e))) ?_
      clear hK' K'
      have HM3 : Hid (MapS w3 bi k S) := Lib.hid (HMV.out.keep (HCH3.out.other bi HMV.out.lt (fun i e => by have := (HCB.out bi e).1; have := HBG.out; omega)))
      obtain ⟨w6, hput, hm6, hg6, hs6⟩ := HM3.out.put (t := 90) (e := 22) Tryz.underlying90 (by unfold maxLen; omega) u (by have := HUS.out; unfold maxLen; omega) v'
      refine Kit.lplan_last (by rfl) (by rfl) fun K' hK' => ?_
      go_simp
      refine hK' _ _ ?_
      clear hK' hput K'
      refine Kit.lplan_done ?_
      (try simp only [Act.put, List.setIfInBounds_toArray, List.set_cons_zero, List.set_cons_succ])
      have HM6 := Lib.hid hm6
      have HG6 := Lib.hid hg6
      clear hm6 hg6 hs6
      go_wp2_with fail
      go_roundw
      case rel =>
        have hc6 : Chg (fun q _ => q = bi) w3 w6 := Chg.of_grown HG6.out (fun q _ e => (Option.some.inj e).symm)
        refine ⟨k + 1, _, by omega, by go_num, HM6, Lib.hid ?_, Lib.hid ?_⟩
        · have h1 : DirsAt w3 W5.heap.size (fun q => if q = p then some v' else S q) (fun q => if q = p then kidsV (xs.take k) q ++ [(⟨⟨path, kind, mode, time, data, link⟩, da, dc⟩ : FV)] else kidsV (xs.take k) q) := HDV.out.snoc p (⟨⟨path, kind, mode, time, data, link⟩, da, dc⟩ : FV) v' (by rw [HCUR.out]; exact HCH3.out) H1.out (by
            rw [HCUR.out]
            rcases H3.out with h3 | h3
            · exact .inl h3
            · exact .inr (fun g2 e => by rw [h3] at e; cases e; have := HVDS.out; omega))
          have h2 := h1.chg hc6 (fun q h3 _ i e => by have e2 : q = bi := e; have := HBG.out; omega)
          have h3 : kidsV (xs.take (k + 1)) = fun q => if q = p then kidsV (xs.take k) q ++ [(⟨⟨path, kind, mode, time, data, link⟩, da, dc⟩ : FV)] else kidsV (xs.take k) q := by
            funext q
            rw [HTK.out, kidsV_snoc]
            have h4 : parP (FE.p (FV.e (⟨⟨path, kind, mode, time, data, link⟩, da, dc⟩ : FV))) = p := by
              rw [← HP.out, HU.out]
              rfl
            rw [h4]
          rw [h3, HP.out]
          exact h2
        · have h1 : Chg (fun q _ => q = bi ∨ W5.heap.size ≤ q) wr V1 := Chg.of_below HV1.out
          exact ((HCH.out.trans h1).trans (HCH3.out.mono (fun q i _ e => .inr (HCB.out q e).1))).trans (hc6.mono (fun q i _ e => .inl e))
      case measure => simp [intOf]; omega
end Go.Proofs.YtmcbnhkcjhlbaaaGreatDoor.Tp
end
section
namespace Go.Proofs.YtmcbnhkcjhlbaaaGreatDoor.Tp
open Go.RowKit
open Kit (Chg)
open Go.Maps
open Go.WideMaps
open Go.Proofs.YtmcbnhkcjhlbaaaGreatDoor.One

structure FlV where
  path : ByteArray
  kind : Int
  mode : Int
  time : Int
  size : Int
  link : ByteArray
  a : Option Addr
  n : Nat
  c : Nat
def FlV.cells (x : FlV) : List Value := [.string x.path, .int .i64 x.kind, .int .i64 x.mode, .int .i64 x.time, .int .i64 x.size, .string x.link, .slice x.a x.n x.c]
def FlV.row (x : FlV) : Array Value := #[.string x.path, .int .i64 x.kind, .int .i64 x.mode, .int .i64 x.time, .int .i64 x.size, .string x.link, .slice x.a x.n x.c]
theorem FlV.len (x : FlV) : x.cells.length = 7 := rfl
theorem FlV.one (x : FlV) : ∀ v ∈ x.cells, v.oneCell' = true := fun v h => by
  simp only [FlV.cells, List.mem_cons, List.not_mem_nil, or_false] at h
  rcases h with rfl | rfl | rfl | rfl | rfl | rfl | rfl <;> rfl
theorem kindFl : Kind Tryz.prog FlV.cells 7 28 190 (.agg #[.string ByteArray.empty, .int .i64 0, .int .i64 0, .int .i64 0, .int .i64 0, .string ByteArray.empty, .slice none 0 0]) 88 := ⟨FlV.len, FlV.one, by decide, Tryz.underlying28, by kernel_rfl, rfl, by decide⟩
theorem row7 {w : World} {b : Nat} {x : FlV} {T : TypeId} {f : Nat × Nat} (h : w.heap[b]? = some (.cells x.row T f)) : w.cell? ⟨b, 0, none⟩ = some (.string x.path) ∧ w.cell? ⟨b, 1, none⟩ = some (.int .i64 x.kind) ∧ w.cell? ⟨b, 2, none⟩ = some (.int .i64 x.mode) ∧ w.cell? ⟨b, 3, none⟩ = some (.int .i64 x.time) ∧ w.cell? ⟨b, 4, none⟩ = some (.int .i64 x.size) ∧ w.cell? ⟨b, 5, none⟩ = some (.string x.link) ∧ w.cell? ⟨b, 6, none⟩ = some (.slice x.a x.n x.c) :=
  ⟨(cell_of_row _ _ _ _ _ _ h).trans rfl, (cell_of_row _ _ _ _ _ _ h).trans rfl, (cell_of_row _ _ _ _ _ _ h).trans rfl, (cell_of_row _ _ _ _ _ _ h).trans rfl, (cell_of_row _ _ _ _ _ _ h).trans rfl, (cell_of_row _ _ _ _ _ _ h).trans rfl, (cell_of_row _ _ _ _ _ _ h).trans rfl⟩
structure PV where
  s : ByteArray
  n : Nat
def PV.cells (x : PV) : List Value := [.string x.s, .int .i64 (x.n : Int)]
theorem PV.len (x : PV) : x.cells.length = 2 := rfl
theorem PV.one (x : PV) : ∀ v ∈ x.cells, v.oneCell' = true := fun v h => by
  simp only [PV.cells, List.mem_cons, List.not_mem_nil, or_false] at h
  rcases h with rfl | rfl <;> rfl
theorem kindPV : Kind Tryz.prog PV.cells 2 188 193 (.agg #[.string ByteArray.empty, .int .i64 0]) 24 := ⟨PV.len, PV.one, by decide, Tryz.underlying188, by kernel_rfl, rfl, by decide⟩
def nvC (b : BV) : List Value := [.slice b.a b.d.length b.c]
theorem kindNV : Kind Tryz.prog nvC 1 32 52 (.slice none 0 0) 24 := ⟨fun _ => rfl, (fun x v h => by rw [List.mem_singleton.1 h]; rfl), by decide, Tryz.underlying32, by kernel_rfl, rfl, by decide⟩
def u8C (x : Nat) : List Value := [.int .u8 (x : Int)]
theorem u8C_flat (xs : List Nat) : xs.flatMap u8C = bvals xs := by
  induction xs with
  | nil => rfl
  | cons x xs ih => rw [List.flatMap_cons, ih]; rfl
theorem kindU8 : Kind Tryz.prog u8C 1 52 5 (.int .u8 0) 1 := ⟨fun _ => rfl, (fun x v h => by rw [List.mem_singleton.1 h]; rfl), by decide, Tryz.underlying52, by kernel_rfl, rfl, by decide⟩
/-! ### which contents are new -/
def addN (N : List (List Nat)) (x : List Nat) : List (List Nat) := if Sha.sum x ∈ N.map Sha.sum then N else N ++ [x]
def newS (N : List (List Nat)) (xs : List (List Nat)) : List (List Nat) := xs.foldl addN N
theorem newS_snoc (N : List (List Nat)) (xs : List (List Nat)) (x : List Nat) : newS N (xs ++ [x]) = addN (newS N xs) x := by unfold newS; rw [List.foldl_append]; rfl
theorem newS_app (N : List (List Nat)) (xs ys : List (List Nat)) : newS N (xs ++ ys) = newS (newS N xs) ys := by unfold newS; rw [List.foldl_append]
theorem addN_len (N : List (List Nat)) (x : List Nat) : (addN N x).length ≤ N.length + 1 := by
  unfold addN
  split
  · omega
  · simp
theorem newS_len : ∀ (xs : List (List Nat)) (N : List (List Nat)), (newS N xs).length ≤ N.length + xs.length
  | [], N => by simp [newS]
  | x :: xs, N => by
    have h1 := newS_len xs (addN N x)
    have h2 := addN_len N x
    rw [List.length_cons]
    show (newS (addN N x) xs).length ≤ _
    omega
def sumK (N : List (List Nat)) (p : Bs) : Option Value := if p.map UInt8.toNat ∈ N.map Sha.sum then some (.bool true) else none
theorem sumK_at (N : List (List Nat)) (u : ByteArray) (x : List Nat) (h : nb u = Sha.sum x) : (sumK N u.data.toList).getD (.bool false) = .bool (decide (Sha.sum x ∈ N.map Sha.sum)) := by
  unfold sumK
  rw [show u.data.toList.map UInt8.toNat = Sha.sum x from h]
  by_cases h1 : Sha.sum x ∈ N.map Sha.sum
  · rw [if_pos h1]; simp [h1]
  · rw [if_neg h1]; simp [h1]
theorem map_toNat_inj : ∀ {p q : Bs}, p.map UInt8.toNat = q.map UInt8.toNat → p = q
  | [], [], _ => rfl
  | [], _ :: _, h => by simp at h
  | _ :: _, [], h => by simp at h
  | a :: p, b :: q, h => by
    rw [List.map_cons, List.map_cons] at h
    injection h with h1 h2
    rw [UInt8.toNat_inj.1 h1, map_toNat_inj h2]
theorem sumK_put (N : List (List Nat)) (u : ByteArray) (x : List Nat) (h : nb u = Sha.sum x) (p : Bs) : sumK (N ++ [x]) p = if p = u.data.toList then some (.bool true) else sumK N p := by
  unfold sumK
  rw [List.map_append, List.map_singleton]
  by_cases h1 : p = u.data.toList
  · subst h1
    rw [if_pos rfl, if_pos]
    rw [show u.data.toList.map UInt8.toNat = Sha.sum x from h]
    simp
  · rw [if_neg h1]
    have h2 : p.map UInt8.toNat ≠ Sha.sum x := fun e => h1 (map_toNat_inj (e.trans (show Sha.sum x = u.data.toList.map UInt8.toNat from h.symm)))
    by_cases h3 : p.map UInt8.toNat ∈ N.map Sha.sum
    · rw [if_pos h3, if_pos (List.mem_append_left _ h3)]
    · rw [if_neg h3, if_neg]
      intro h4
      rcases List.mem_append.1 h4 with h5 | h5
      · exact h3 h5
      · exact h2 (List.mem_singleton.1 h5)
/-! ### the collector -/
def coRow (at_ : Int) (fv nv : Value) (rd : Int) (bb bk : Nat) (c : Ck.Chk.Cut) : Array Value := #[.int .i64 at_, fv, .slice none 0 0, nv, .int .i64 rd, .int .i64 0, .int .i64 0, .map (some bb), .map (some bk), .int .i64 c.mn, .int .i64 c.mx, .int .i64 c.win, .int .i64 c.bits, .int .u64 (Ck.Roll.u c.seed)]
theorem rowCo {w : World} {g : Nat} {at_ : Int} {fv nv : Value} {rd : Int} {bb bk : Nat} {c : Ck.Chk.Cut} {T : TypeId} {f : Nat × Nat} (h : w.heap[g]? = some (.cells (coRow at_ fv nv rd bb bk c) T f)) : w.cell? ⟨g, 0, none⟩ = some (.int .i64 at_) ∧ w.cell? ⟨g, 1, none⟩ = some fv ∧ w.cell? ⟨g, 2, none⟩ = some (.slice none 0 0) ∧ w.cell? ⟨g, 3, none⟩ = some nv ∧ w.cell? ⟨g, 4, none⟩ = some (.int .i64 rd) ∧ w.cell? ⟨g, 5, none⟩ = some (.int .i64 0) ∧ w.cell? ⟨g, 6, none⟩ = some (.int .i64 0) ∧ w.cell? ⟨g, 7, none⟩ = some (.map (some bb)) ∧ w.cell? ⟨g, 8, none⟩ = some (.map (some bk)) ∧ w.cell? ⟨g, 9, none⟩ = some (.int .i64 c.mn) ∧ w.cell? ⟨g, 10, none⟩ = some (.int .i64 c.mx) ∧ w.cell? ⟨g, 11, none⟩ = some (.int .i64 c.win) ∧ w.cell? ⟨g, 12, none⟩ = some (.int .i64 c.bits) ∧ w.cell? ⟨g, 13, none⟩ = some (.int .u64 (Ck.Roll.u c.seed)) :=
  ⟨(cell_of_row _ _ _ _ _ _ h).trans rfl, (cell_of_row _ _ _ _ _ _ h).trans rfl, (cell_of_row _ _ _ _ _ _ h).trans rfl, (cell_of_row _ _ _ _ _ _ h).trans rfl, (cell_of_row _ _ _ _ _ _ h).trans rfl, (cell_of_row _ _ _ _ _ _ h).trans rfl, (cell_of_row _ _ _ _ _ _ h).trans rfl, (cell_of_row _ _ _ _ _ _ h).trans rfl, (cell_of_row _ _ _ _ _ _ h).trans rfl, (cell_of_row _ _ _ _ _ _ h).trans rfl, (cell_of_row _ _ _ _ _ _ h).trans rfl, (cell_of_row _ _ _ _ _ _ h).trans rfl, (cell_of_row _ _ _ _ _ _ h).trans rfl, (cell_of_row _ _ _ _ _ _ h).trans rfl⟩
structure Sc (w : World) (g bb bk N0 n : Nat) (at_ : Int) (fv nv : Value) (rd : Int) (c : Ck.Chk.Cut) (fs : List FlV) (nl : List BV) : Prop where
  row : w.heap[g]? = some (.cells (coRow at_ fv nv rd bb bk c) 124 (0, 0))
  bef : MapS w bb 0 (fun _ => none)
  kno : MapS w bk n (sumK (nl.map BV.d))
  files : w.ownsRow N0 190 7 fv fs.length (fs.flatMap FlV.cells)
  news : w.ownsRow N0 52 1 nv nl.length (nl.flatMap nvC)
  dat : ∀ b ∈ nl, BytesAt w b.a b.d
  off : ∀ b ∈ nl, ∀ ad, b.a = some ad → N0 ≤ ad.block ∧ ad.block < w.heap.size ∧ nv.ownBlock ≠ some ad.block ∧ fv.ownBlock ≠ some ad.block
  ap : ∀ q, fv.ownBlock = some q → nv.ownBlock ≠ some q
  lt : g < N0 ∧ bb < N0 ∧ bk < N0 ∧ N0 ≤ w.heap.size
  ne : g ≠ bb ∧ g ≠ bk ∧ bb ≠ bk
theorem Sc.turn {w w' : World} {g bb bk N0 n : Nat} {at_ : Int} {fv nv : Value} {rd : Int} {c : Ck.Chk.Cut} {fs : List FlV} {nl : List BV} {M : Nat → Prop} (h : Sc w g bb bk N0 n at_ fv nv rd c fs nl) (hc : Chg (fun q _ => M q) w w') (hM : ∀ q, M q → N0 ≤ q ∧ Free q nv nl ∧ fv.ownBlock ≠ some q) : Sc w' g bb bk N0 n at_ fv nv rd c fs nl := by
  have hl := h.lt
  have low : ∀ q, q < N0 → w'.heap[q]? = w.heap[q]? := fun q hq => hc.other q (by omega) (fun i e => by have := (hM q e).1; omega)
  refine ⟨(low g hl.1).trans h.row, h.bef.keep (low bb hl.2.1), h.kno.keep (low bk hl.2.2.1), ownsRow_keepM h.files hc (fun q hq i e => (hM q e).2.2 hq), ownsRow_keepM h.news hc (fun q hq i e => (hM q e).2.1.1 hq), fun b hb => ?_, fun b hb ad e => ?_, h.ap, ⟨hl.1, hl.2.1, hl.2.2.1, Nat.le_trans hl.2.2.2 hc.size⟩, h.ne⟩
  · by_cases hd : b.d = []
    · have h1 := h.dat b hb
      rw [hd] at h1 ⊢
      exact ⟨.inl rfl, h1.2⟩
    · exact bytesAt_chg (h.dat b hb) hc (fun ad e i e2 => (hM _ e2).2.1.2 b hb hd ad e rfl)
  · have h1 := h.off b hb ad e
    exact ⟨h1.1, Nat.lt_of_lt_of_le h1.2.1 hc.size, h1.2.2⟩
theorem Sc.later {w w' : World} {g bb bk N0 n : Nat} {at_ : Int} {fv nv : Value} {rd : Int} {c : Ck.Chk.Cut} {fs : List FlV} {nl : List BV} (h : Sc w g bb bk N0 n at_ fv nv rd c fs nl) (hb : Below w.heap.size w w') : Sc w' g bb bk N0 n at_ fv nv rd c fs nl := h.turn (M := fun _ => False) (Chg.of_below hb) (fun _ h => absurd h id)
theorem Sc.fresh {w : World} {g bb bk N0 n : Nat} {at_ : Int} {fv nv : Value} {rd : Int} {c : Ck.Chk.Cut} {fs : List FlV} {nl : List BV} (h : Sc w g bb bk N0 n at_ fv nv rd c fs nl) {q : Nat} (hq : w.heap.size ≤ q) : Free q nv nl ∧ fv.ownBlock ≠ some q :=
  ⟨⟨fun e => by have := (h.news.lt q e).2; omega, fun b hb hd ad e => by have := (h.off b hb ad e).2.1; omega⟩, fun e => by have := (h.files.lt q e).2; omega⟩
theorem Sc.mono {w : World} {g bb bk N0 n n' : Nat} {at_ : Int} {fv nv : Value} {rd : Int} {c : Ck.Chk.Cut} {fs : List FlV} {nl : List BV} (h : Sc w g bb bk N0 n at_ fv nv rd c fs nl) (hn : n ≤ n') : Sc w g bb bk N0 n' at_ fv nv rd c fs nl := { h with kno := h.kno.mono hn }
theorem cloneB_any (ad : Addr) (n c : Nat) (bs : List Nat) (hn : bs.length = n) (hl : n ≤ 4000000) (w : World) (h : BytesAt w (some ad) bs) : Calls Tryz.prog 139 #[.slice (some ad) n c] w fun e w' => ∃ (a' : Option Addr) (c' : Nat), e = .returned (.slice a' n c') ∧ BytesAt w' a' bs ∧ n ≤ c' ∧ (a' = none → c' = 0) ∧ (∀ ad, a' = some ad → w.heap.size ≤ ad.block) ∧ Below w.heap.size w w' := by
  have hq : ∀ (w : World) (a : Option Addr) (n c n' c' : Nat), (binOp .eql 52 (.slice a n c) (.slice none n' c')).run Tryz.prog w = .ok (.bool a.isNone) w := fun w a n c n' c' => Lib.run_eql_slice_nil w _ _ a n c n' c' Tryz.underlying52
  have HNL := Lib.hid hn
  have HLT := Lib.hid h.2
  have HBA := Lib.hid (h.later ((Below.refl w.heap.size w).alloc (Nat.le_refl _) (.cells #[] 5)))
  have HW1 : Hid (w.heap.size ≤ (w.alloc (.cells #[] 5)).heap.size) := Lib.hid (by simp)
  have HE := Lib.hid (own_none0 w 5 1)
  have HBW : Hid (Below w.heap.size w (w.alloc (.cells #[] 5))) := Lib.hid ((Below.refl _ _).alloc (Nat.le_refl _) _)
  clear h hn
  go_enter Tryz.func139, Tryz.ntmps139
  go_wp2_with (first
    | (at_builtin
       refine app_any kindU8 rfl _ _ rfl w.heap.size _ 0 [] (by rfl) HE.out HW1.out (by decide) (some ad) n c bs (by rfl) (by
         have h1 := HBA.out.src c (fun e => by cases e)
         rw [HNL.out, ← u8C_flat] at h1
         exact h1) (by omega) ?_
       intro v3 w3 ho3 h3
       have HO3 := Lib.hid ho3
       have H3 := Lib.hid (HBW.out.trans (grown_below HE.out HW1.out h3))
       clear ho3 h3))
  have ho3 := HO3.out
  rw [List.nil_append, Nat.zero_add, u8C_flat] at ho3
  obtain ⟨h1, a', cap, hv, h2, h3, h4, h5⟩ := bytes_of_own ho3 HLT.out.1 HLT.out.2
  subst hv
  rw [HNL.out] at *
  go_ret
  refine ⟨a', cap, rfl, h4, by omega, h5, fun ad' e => ?_, H3.out⟩
  exact (ho3.lt ad'.block (by rw [e]; rfl)).1
end Go.Proofs.YtmcbnhkcjhlbaaaGreatDoor.Tp
end

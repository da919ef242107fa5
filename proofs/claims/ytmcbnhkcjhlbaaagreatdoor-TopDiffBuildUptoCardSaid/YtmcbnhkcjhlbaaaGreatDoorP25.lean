/- Texts Tdy, Tsa, Tna, Tnb of the proof, each as a section; no premises beyond those that each theorem states. -/
import Derived.Test.YtmcbnhkcjhlbaaaGreatDoorP12
import Derived.Test.YtmcbnhkcjhlbaaaGreatDoorP24
set_option linter.unusedVariables false
set_option linter.unusedSimpArgs false
section
namespace Go.Proofs.YtmcbnhkcjhlbaaaGreatDoor.Tp
open Go.RowKit
open Kit (Chg)
open Go.Maps
open Go.WideMaps
open Go.Proofs.YtmcbnhkcjhlbaaaGreatDoor.One

def DiffR (os bs : List FE) (w : World) (e : Ending) (w' : World) : Prop := ∃ (v : Value) (L : List CV) (B : Nat), e = .returned (.tuple #[v, .int .i64 0]) ∧ w.heap.size ≤ B ∧ CRow w' B v L ∧ L.length ≤ 20000 ∧ DiffOf os bs L ∧ Below w.heap.size w w'
set_option maxRecDepth 100000 in
set_option maxHeartbeats 4000000 in
theorem diff_any (a : Option Addr) (na ca : Nat) (xa : List FV) (b : Option Addr) (nb cb : Nat) (xb : List FV) (hna : xa.length = na) (hnb : xb.length = nb) (hca : na ≤ ca) (hcb : nb ≤ cb) (w : World) (hX : FEsAt w a xa) (hY : FEsAt w b xb) (hoa : OkTree (xa.map FV.e)) (hob : OkTree (xb.map FV.e)) (hT : Top w) : Calls Tryz.prog 15 #[.slice a na ca, .slice b nb cb] w (DiffR (xa.map FV.e) (xb.map FV.e) w) := by
  have ha4 : na ≤ 4096 := by have := hoa.len; rw [List.length_map, hna] at this; exact this
  have hb4 : nb ≤ 4096 := by have := hob.len; rw [List.length_map, hnb] at this; exact this
  have HCA := Lib.hid (check_any a na ca xa hna hca ha4 w hX (fun x hx => hoa.ok _ (List.mem_map.2 ⟨x, hx, rfl⟩)) hoa.asc hT)
  have HCB := Lib.hid (fun V (h : Below w.heap.size w V) => check_any b nb cb xb hnb hcb hb4 V (hY.later h) (fun x hx => hob.ok _ (List.mem_map.2 ⟨x, hx, rfl⟩)) hob.asc (hT.later h))
  have HDF := Lib.hid (fun V (h : Below w.heap.size w V) => difference_any a na ca xa b nb cb xb hna hnb hca hcb ha4 hb4 V (hX.later h) (hY.later h) hoa.ok (fun x hx => hob.ok _ (List.mem_map.2 ⟨x, hx, rfl⟩)) hoa.asc hob.asc)
  have HOA := Lib.hid hoa
  have HOB := Lib.hid hob
  clear hna hnb hX hY hoa hob hT
  go_enter Tryz.func15, Tryz.ntmps15
  go_wp2_with (first
    | (go_at_call 20
       (with_reducible refine HCA.out.mono ?_)
       rintro e W1 ⟨r, rfl, _, hr, hb⟩
       obtain rfl : r = 0 := hr HOA.out
       have HB1 := Lib.hid hb
       clear hr hb HCA)
    | (go_at_call 20
       (with_reducible refine (HCB.out _ HB1.out).mono ?_)
       rintro e W2 ⟨r, rfl, _, hr, hb⟩
       obtain rfl : r = 0 := hr HOB.out
       have HB2 : Hid (Below w.heap.size w W2) := Lib.hid (HB1.out.trans (hb.mono HB1.out.size))
       clear hr hb HCB)
    | (go_at_call 39
       (with_reducible refine (HDF.out _ HB2.out).mono ?_)
       rintro e W3 ⟨v, L, B, rfl, hB, hrow, hlen, hD, hb⟩
       have HR := Lib.hid (And.intro hB (And.intro hrow (And.intro hlen (And.intro hD hb))))
       clear hB hrow hlen hD hb))
  go_ret2
  obtain ⟨hB, hrow, hlen, hD, hb⟩ := HR.out
  exact ⟨v, L, B, rfl, Nat.le_trans HB2.out.size hB, hrow, hlen, hD, HB2.out.trans (hb.mono HB2.out.size)⟩
set_option maxRecDepth 100000 in
set_option maxHeartbeats 4000000 in
theorem invert_any (ad : Option Addr) (n cap : Nat) (xa : List FV) (l : Option Addr) (m c : Nat) (L : List CV) (bs : List FE) (hn : xa.length = n) (hcap : n ≤ cap) (hm : L.length = m) (hmc : m ≤ c) (hm2 : m ≤ 20000) (w : World) (hX : FEsAt w ad xa) (hoa : OkTree (xa.map FV.e)) (hob : OkTree bs) (hL : CsAt w l L) (hD : DiffOf (xa.map FV.e) bs L) (hT : Top w) : Calls Tryz.prog 17 #[.slice ad n cap, .slice l m c] w (DiffR bs (xa.map FV.e) w) := by
  have HAP := Lib.hid (apply_any ad n cap xa l m c L bs hn hcap hm hmc hm2 w hX hoa hob hL hD hT)
  have ha4 : n ≤ 4096 := by have := hoa.len; rw [List.length_map, hn] at this; exact this
  have HDF := Lib.hid (fun (r : Option Addr) (k rc : Nat) (xs : List FV) (hk : xs.length = k) (hkc : k ≤ rc) (hxs : xs.map FV.e = bs) V (h : Below w.heap.size w V) (hf : FEsAt V r xs) => difference_any r k rc xs ad n cap xa hk hn hkc hcap (by have := hob.len; rw [← hxs, List.length_map, hk] at this; exact this) ha4 V hf (hX.later h) (by rw [hxs]; exact hob.ok) (fun x hx => hoa.ok _ (List.mem_map.2 ⟨x, hx, rfl⟩)) (by rw [hxs]; exact hob.asc) hoa.asc)
  clear hn hX hoa hob hL hD hT hm
  go_enter Tryz.func17, Tryz.ntmps17
  go_wp2_with (first
    | (go_at_call 16
       (with_reducible refine HAP.out.mono ?_)
       rintro e W1 ⟨v, xs, B, rfl, hB, her, hxs, hb⟩
       obtain ⟨ra, rc, rfl, hrc, hfe⟩ := her.at
       have HB1 := Lib.hid hb
       have HXS := Lib.hid hxs
       have HDF2 := Lib.hid (HDF.out ra xs.length rc xs rfl hrc hxs W1 hb hfe)
       clear hB her hxs hb hfe hrc)
    | (go_at_call 39
       (with_reducible refine HDF2.out.mono ?_)
       rintro e W3 ⟨v, L, B, rfl, hB, hrow, hlen, hD, hb⟩
       have HR := Lib.hid (And.intro hB (And.intro hrow (And.intro hlen (And.intro hD hb))))
       clear hB hrow hlen hD hb))
  go_ret2
  obtain ⟨hB, hrow, hlen, hD, hb⟩ := HR.out
  exact ⟨v, L, B, rfl, Nat.le_trans HB1.out.size hB, hrow, hlen, by rw [HXS.out] at hD; exact hD, HB1.out.trans (hb.mono HB1.out.size)⟩
end Go.Proofs.YtmcbnhkcjhlbaaaGreatDoor.Tp
end
section
namespace Go.Proofs.YtmcbnhkcjhlbaaaGreatDoor.Tp
open Go.RowKit
open Kit (Chg)
open Sha (v)
open Go.Proofs.YtmcbnhkcjhlbaaaGreatDoor.One

set_option maxRecDepth 100000 in
set_option maxHeartbeats 4000000 in
theorem tag_big (key : ByteArray) (hk : key.size ≤ 64) (a : Option Addr) (cap : Nat) (xs : List Nat) (hcap : xs.length ≤ cap) (hnil : a = none → cap = 0) (hl : xs.length ≤ 100000) (w : World) (hB : BytesAt w a xs) (hlt : ∀ ad, a = some ad → 0 < xs.length → ad.block < w.heap.size) (hL : Laid w) :
    Calls Tryz.prog 69 #[.string key, .slice a xs.length cap] w fun e w' => ∃ bs : List Nat, e = .returned (.string (strB bs)) ∧ bs = tag (nb key) xs ∧ Below w.heap.size w w' := by
  have HB := Lib.hid hB
  have HL := Lib.hid hL
  have HLT := Lib.hid hlt
  have HNIL := Lib.hid hnil
  have HCAP := Lib.hid hcap
  have HLL := Lib.hid hl
  have HKL : Hid ((key64 (nb key)).length = 64) := Lib.hid (key64_length (by rw [nb_length]; exact hk))
  clear hB hL hlt hnil hcap hl
  go_enter Tryz.func69, Tryz.ntmps69
  go_upto_region 2 with (first
    | (with_reducible refine (macNew_any key hk _ HL.out).mono ?_
       rintro e w1 ⟨g, rfl, h1, h2, h3⟩
       have H1 := Lib.hid h1
       have H2 := Lib.hid h2
       have H3 := Lib.hid h3
       clear h1 h2 h3))
  have HL1 : Hid (Laid w1) := Lib.hid (HL.out.later H3.out (Nat.le_refl _))
  have HGK : Hid (g ≠ 1) := Lib.hid (by have := HL.out.kon.lt; have := H1.out; omega)
  have HB1 : Hid (BytesAt w1 a xs) := Lib.hid (HB.out.later H3.out)
  have HLT1 : Hid (∀ ad, a = some ad → 0 < xs.length → ad.block ≠ g) := Lib.hid (fun ad e h => by have := HLT.out ad e h; have := H1.out; omega)
  go_upto_region 3 with (first
    | (with_reducible refine (macWrite_any g (key64 (nb key)) [] a cap xs HCAP.out HNIL.out (by have := HLL.out; simp; omega) HKL.out _ H2.out HB1.out HLT1.out HL1.out HGK.out).mono ?_
       rintro e w2 ⟨rfl, h4, h5⟩
       have H4 := Lib.hid h4
       have H5 := Lib.hid h5
       clear h4 h5))
  have HB2 : Hid (Below w.heap.size w w2) := Lib.hid (H3.out.trans (H5.out.below (H3.out.size) (fun k i hk hm => by have := hm.1; have := H1.out; omega)))
  have HL2 : Hid (Laid w2) := Lib.hid (HL.out.later HB2.out (Nat.le_refl _))
  go_wp2_with (first
    | (with_reducible refine (macSum_any g (key64 (nb key)) ([] ++ xs) (by have := HLL.out; simp; omega) HKL.out _ H4.out HL2.out).mono ?_
       rintro e w3 ⟨bs, rfl, h6, h7⟩
       have H6 := Lib.hid h6
       have H7 := Lib.hid h7
       clear h6 h7))
  go_ret
  exact ⟨bs, rfl, H6.out, HB2.out.trans (H7.out.mono HB2.out.size)⟩
structure KV where
  n : ByteArray
  s : ByteArray
  c : ByteArray
  i : ByteArray
  t : ByteArray
def KV.row (k : KV) : Array Value := #[.string k.n, .string k.s, .string k.c, .string k.i, .string k.t]
structure KV.ok (k : KV) : Prop where
  n : k.n.size = 32
  s : k.s.size = 32
  c : k.c.size = 32
  i : k.i.size = 32
  t : k.t.size = 32
theorem wp_append_src {P : Program} {w : World} {o : Oper} {a : Act} {K : Act → World → Prop} {Q : Exit → Act → World → Prop} (s x : Operand) (t : TypeId)
    (ho : o.op = .call { callee := .builtin .append, args := #[s, x], argTypes := #[t, t] })
    (base : Nat) (e : TypeId) (i : TypeInfo) (z : Value) (size bytes : Nat) (ht : P.underlying t = some (.slice e)) (hi : P.info? e = some i) (hz : i.zero = some z)
    (hsize : i.size = size) (hby : i.bytes = bytes) (hzs : z.cells.size = size) (hsz : 0 < size)
    (v : Value) (n : Nat) (xs : List Value) (hs : a.eval s = v) (hown : w.ownsRow base e size v n xs)
    (ao : Option Addr) (m c : Nat) (news : List Value) (hx : a.eval x = .slice ao m c) (hsrc : SrcAt w ao m c size news) (h1 : ∀ u ∈ news, u.oneCell' = true)
    (h63 : n + m ≤ maxLen) (hbytes : (n + m) * bytes ≤ 140737488355328) (hbase : base ≤ w.heap.size)
    (h : ∀ v' w', w'.ownsRow base e size v' (n + m) (xs ++ news) → w.grownBy w' v.ownBlock → K (a.put o.dst v') w') : o.wp P a w K Q := by
  rcases hsrc with ⟨rfl, rfl, rfl, rfl⟩ | ⟨hl, ad, rfl, hnews⟩
  · have hrun := run_append_owned_none (P := P) (w := w) base t o.type e i size ht hi v n xs hown
    unfold Oper.wp execOp
    simp only [ho, resolve, invoke, builtin, Sem.run_bind, Sem.run_pure, Result.andThen_ok, List.map_toArray, List.map_cons, List.map_nil, hs, hx, hrun]
    refine h v w ?_ ⟨rfl, rfl, rfl, Nat.le_refl _, fun _ _ _ => rfl⟩
    rw [List.append_nil, Nat.add_zero]
    exact hown
  · obtain ⟨v', w', hr, h2, h3, _⟩ := run_append_own (P := P) w base t o.type e i z size bytes ht hi hz hsize hby hzs hsz v n xs hown ad m c news hl hnews h1 h63 hbytes hbase
    unfold Oper.wp execOp
    simp only [ho, resolve, invoke, builtin, Sem.run_bind, Sem.run_pure, Result.andThen_ok, List.map_toArray, List.map_cons, List.map_nil, hs, hx, hr]
    exact h v' w' h2 h3
theorem rowK {w : World} {b : Nat} {k : KV} {T : TypeId} {f : Nat × Nat} (h : w.heap[b]? = some (.cells k.row T f)) : w.cell? ⟨b, 0, none⟩ = some (.string k.n) ∧ w.cell? ⟨b, 1, none⟩ = some (.string k.s) ∧ w.cell? ⟨b, 2, none⟩ = some (.string k.c) ∧ w.cell? ⟨b, 3, none⟩ = some (.string k.i) ∧ w.cell? ⟨b, 4, none⟩ = some (.string k.t) :=
  ⟨(cell_of_row _ _ _ _ _ _ h).trans rfl, (cell_of_row _ _ _ _ _ _ h).trans rfl, (cell_of_row _ _ _ _ _ _ h).trans rfl, (cell_of_row _ _ _ _ _ _ h).trans rfl, (cell_of_row _ _ _ _ _ _ h).trans rfl⟩
set_option maxRecDepth 100000 in
set_option maxHeartbeats 4000000 in
theorem sealValid_ok (k : KV) (hk : k.ok) (w : World) : Calls Tryz.prog 68 #[.agg k.row] w fun e w' => e = .returned (.bool true) ∧ Below w.heap.size w w' := by
  have HK := Lib.hid hk
  obtain ⟨kn, ks, kc, ki, kt⟩ := k
  unfold KV.row
  dsimp only
  clear hk
  go_enter Tryz.func68, Tryz.ntmps68
  go_upto_region 2 with fail
  refine wp_over (fun W => Hid (W.heap[w.heap.size + 1]? = some (.cells #[.string kn, .string ks, .string kc, .string ki, .string kt] 9 (0, 0))) ∧ Hid (Below w.heap.size w W)) ⟨Lib.hid two_rows2, Lib.hid two_below⟩ ?_
  rintro W ⟨HG, HB⟩
  obtain ⟨N, hN⟩ := ex_eq (w.heap.size + 1)
  rw [hN] at HG ⊢
  clear hN
  have hc : ∀ i, i < 5 → ∃ s : ByteArray, W.cell? ⟨N, i, none⟩ = some (.string s) ∧ s.size = 32 := fun i hi => by
    match i, hi with
    | 0, _ => exact ⟨kn, (cell_of_row _ _ _ _ _ _ HG.out).trans rfl, HK.out.n⟩
    | 1, _ => exact ⟨ks, (cell_of_row _ _ _ _ _ _ HG.out).trans rfl, HK.out.s⟩
    | 2, _ => exact ⟨kc, (cell_of_row _ _ _ _ _ _ HG.out).trans rfl, HK.out.c⟩
    | 3, _ => exact ⟨ki, (cell_of_row _ _ _ _ _ _ HG.out).trans rfl, HK.out.i⟩
    | 4, _ => exact ⟨kt, (cell_of_row _ _ _ _ _ _ HG.out).trans rfl, HK.out.t⟩
  have HC := Lib.hid hc
  clear hc
  go_loop [17] (fun i => ∃ j : Nat, j ≤ 5 ∧ i = .int .i64 (j : Int)) (fun i => 5 - (intOf i).toNat)
  case atStart => exact ⟨0, Nat.zero_le _, rfl⟩
  case round =>
    obtain ⟨j, hj, rfl⟩ := hrel
    by_cases hlt : j < 5
    · obtain ⟨s, hs, hz⟩ := HC.out j hlt
      have hz2 : ((s.size : Int) != 32) = false := by rw [hz]; rfl
      clear hz
      go_wp2
      go_round
      case rel => exact ⟨j + 1, by omega, by go_num⟩
      case measure => simp [intOf]; omega
    · go_wp2
      go_ret
      exact ⟨rfl, HB.out⟩
set_option maxRecDepth 100000 in
set_option maxHeartbeats 4000000 in
theorem sealCheck_nil (k : KV) (hk : k.ok) (w : World) (hT : Top w) : Calls Tryz.prog 30 #[.agg k.row, .slice none 0 0] w fun e w' => ∃ v, e = .returned (.tuple #[v, .int .i64 0]) ∧ Below w.heap.size w w' := by
  have HV := Lib.hid (fun W => sealValid_ok k hk W)
  have HTG := Lib.hid (fun W (hb : Below w.heap.size w W) => tag_big k.c (by rw [hk.c]; decide) none 0 [] (Nat.le_refl _) (fun _ => rfl) (by simp) W ⟨.inl rfl, by simp, by simp⟩ (fun ad e => by cases e) (hT.later hb).laid)
  obtain ⟨kn, ks, kc, ki, kt⟩ := k
  unfold KV.row at HV ⊢
  dsimp only at HV HTG ⊢
  clear hk hT
  go_enter Tryz.func30, Tryz.ntmps30
  go_upto_region 1 with fail
  refine wp_over (fun W => Hid (W.heap[w.heap.size]? = some (.cells #[.string kn, .string ks, .string kc, .string ki, .string kt] 38 (0, 0))) ∧ Hid (Below w.heap.size w W) ∧ Hid (W.heap.size = w.heap.size + 1)) ⟨Lib.hid (heap_alloc_new _ _), Lib.hid ((Below.refl _ _).alloc (Nat.le_refl _) _), Lib.hid (by simp)⟩ ?_
  rintro W ⟨HG, HB, HS⟩
  obtain ⟨N, hN⟩ := ex_eq w.heap.size
  rw [hN] at HG HS ⊢
  have HN := Lib.hid hN
  clear hN
  obtain ⟨c0, c1, c2, c3, c4⟩ := rowK (k := ⟨kn, ks, kc, ki, kt⟩) HG.out
  dsimp only at c0 c1 c2 c3 c4
  have HVW := Lib.hid (HV.out W)
  go_upto_region 5 with (first
    | (go_at_call 68
       (with_reducible refine HVW.out.mono ?_)
       rintro e W1 ⟨rfl, hb⟩
       have HB1 := Lib.hid hb
       clear hb c0 c1 c2 c3 c4))
  have HBW : Hid (Below w.heap.size w W1) := Lib.hid (HB.out.trans (HB1.out.mono HB.out.size))
  obtain ⟨c0, c1, c2, c3, c4⟩ := rowK (k := ⟨kn, ks, kc, ki, kt⟩) ((HB1.out.block N (by have := HS.out; omega)).trans HG.out)
  dsimp only at c0 c1 c2 c3 c4
  have HT1 := Lib.hid (HTG.out W1 HBW.out)
  go_wp2_with fail
  refine HT1.out.mono ?_
  rintro e W2 ⟨bs, rfl, hbs, hb2⟩
  have hz : (16 : Int) ≤ ((strB bs).size : Int) := by
    have h1 : (strB bs).size = 32 := by rw [strB_size _ (by rw [hbs]; exact Sha.sum_lt _), hbs]; exact Sha.sum_length _
    omega
  have HB2 : Hid (Below w.heap.size w W2) := Lib.hid (HBW.out.trans (hb2.mono HBW.out.size))
  clear hbs hb2
  have hcv := run_bytes_of_string (P := Tryz.prog) W2 9 52 5 ((strB bs).extract 0 16) Tryz.underlying9 Tryz.underlying52 Tryz.underlying5
  go_wp2_with fail
  go_ret2
  exact ⟨_, rfl, HB2.out.drew.alloc HB2.out.size _⟩
def nameB (k : KV) (xs : List Nat) : List Nat := tag (nb k.n) (0 :: xs)
set_option maxRecDepth 100000 in
set_option maxHeartbeats 4000000 in
theorem sealName_ok (k : KV) (hk : k.ok) (a : Option Addr) (cap L : Nat) (xs : List Nat) (hL : xs.length = L) (hcap : L ≤ cap) (hnil : a = none → cap = 0) (hl : L ≤ 32768) (w : World) (hB : BytesAt w a xs) (hT : Top w) : Calls Tryz.prog 126 #[.agg k.row, .int .i64 0, .slice a L cap] w fun e w' => ∃ u : ByteArray, e = .returned (.tuple #[.string u, .int .i64 0]) ∧ nb u = nameB k xs ∧ u.size = 32 ∧ Below w.heap.size w w' := by
  have HV := Lib.hid (fun W => sealValid_ok k hk W)
  have HBX := Lib.hid hB
  have HLE := Lib.hid hL
  have HNIL := Lib.hid hnil
  have HT := Lib.hid hT
  have HTG := Lib.hid (fun (a' : Option Addr) (c' : Nat) W (hb : Below w.heap.size w W) (h1 : BytesAt W a' (0 :: xs)) (h2 : (0 :: xs).length ≤ c') (h3 : a' = none → c' = 0) (h4 : ∀ ad, a' = some ad → 0 < (0 :: xs).length → ad.block < W.heap.size) => tag_big k.n (by rw [hk.n]; decide) a' c' (0 :: xs) h2 h3 (by rw [List.length_cons]; omega) W h1 h4 (hT.later hb).laid)
  unfold nameB
  obtain ⟨kn, ks, kc, ki, kt⟩ := k
  unfold KV.row at HV ⊢
  dsimp only at HV HTG ⊢
  have hli : ¬ (32768 : Int) < (L : Int) := by omega
  clear hk hT hB hL hnil
  go_enter Tryz.func126, Tryz.ntmps126
  go_upto_region 1 with fail
  refine wp_over (fun W => Hid (W.heap[w.heap.size]? = some (.cells #[.string kn, .string ks, .string kc, .string ki, .string kt] 38 (0, 0))) ∧ Hid (Below w.heap.size w W) ∧ Hid (W.heap.size = w.heap.size + 1)) ⟨Lib.hid (heap_alloc_new _ _), Lib.hid ((Below.refl _ _).alloc (Nat.le_refl _) _), Lib.hid (by simp)⟩ ?_
  rintro W ⟨HG, HB, HS⟩
  obtain ⟨N, hN⟩ := ex_eq w.heap.size
  rw [hN] at HG HS ⊢
  have HN := Lib.hid hN
  clear hN
  obtain ⟨c0, c1, c2, c3, c4⟩ := rowK (k := ⟨kn, ks, kc, ki, kt⟩) HG.out
  dsimp only at c0 c1 c2 c3 c4
  have HVW := Lib.hid (HV.out W)
  go_upto_region 5 with (first
    | (go_at_call 68
       (with_reducible refine HVW.out.mono ?_)
       rintro e W1 ⟨rfl, hb⟩
       have HB1 := Lib.hid hb
       clear hb c0 c1 c2 c3 c4))
  have HBW : Hid (Below w.heap.size w W1) := Lib.hid (HB.out.trans (HB1.out.mono HB.out.size))
  have HC : Hid (∀ V, Below W1.heap.size W1 V → V.cell? ⟨N, 0, none⟩ = some (.string kn)) := Lib.hid (fun V h => (rowK (k := ⟨kn, ks, kc, ki, kt⟩) ((h.block N (by have := HB1.out.size; have := HS.out; omega)).trans ((HB1.out.block N (by have := HS.out; omega)).trans HG.out))).1)
  have HDR : Hid (Below W1.heap.size W1 W1.drew) := Lib.hid (Below.refl _ _).drew
  obtain ⟨VD, hVD⟩ := ex_eq W1.drew
  rw [hVD] at HDR
  refine Kit.wp_region_hplan (fun V => V.cell? ⟨N, 0, none⟩ = some (.string kn)) [(true, 0), (true, 1), (true, 2), (true, 3), (true, 5), (false, 4), (false, 6), (false, 7), (true, 8), (true, 9)] (by kernel_rfl) (by kernel_rfl) (by kernel_rfl) (by kernel_rfl) (by rw [hVD]; exact HC.out _ HDR.out) ?_
  rw [hVD]
  clear hVD
  iterate 5 (refine Kit.hplan_head (by rfl) (by first | exact .inr ⟨by rfl, rfl⟩ | exact .inl ⟨by rfl, fun w' hS => by (dsimp only at hS); go_simp; (try with_reducible rfl)⟩) ?_; (try simp only [Act.put, List.setIfInBounds_toArray, List.set_cons_zero, List.set_cons_succ]))
  refine Kit.hplan_op (by rfl) (by rfl) fun K hK => ?_
  go_simp
  go_at_call 166
  refine (appUint_l none 0 [] 0 rfl (fun _ => rfl) 0 (by decide) (by simp) VD ⟨.inl rfl, by simp, by simp⟩ [0] (by rw [num_small (by decide)]; rfl)).mono ?_
  rintro e W2 ⟨v2, c2, rfl, hc2, hown, hb2⟩
  have hc21 : c2 = 1 := hc2
  subst hc21
  have HO2 := Lib.hid hown
  have H2 : Hid (Below W1.heap.size W1 W2) := Lib.hid (HDR.out.trans (hb2.mono HDR.out.size))
  have HVS : Hid (W1.heap.size ≤ VD.heap.size) := Lib.hid HDR.out.size
  have HV2 : Hid (VD.heap.size ≤ W2.heap.size) := Lib.hid hb2.size
  clear hc2 hown hb2
  refine hK _ _ (HC.out _ H2.out) ?_
  clear hK K
  refine Kit.hplan_op (by rfl) (by rfl) fun K hK => ?_
  obtain ⟨i0, hi, hz0, hz1, hz2⟩ := info_parts Tryz.info5
  refine wp_append_src _ _ 52 (by rfl) VD.heap.size 5 i0 (.int .u8 0) 1 1 Tryz.underlying52 hi hz0 hz1 hz2 rfl (by decide) v2 1 (bvals [0]) (by rfl) HO2.out a L cap (bvals xs) (by rfl) (by
    have h1 : BytesAt W2 a xs := (HBX.out.later HBW.out).later H2.out
    have h2 := h1.src cap HNIL.out
    rw [HLE.out] at h2
    exact h2) (bvals_one _) (by unfold maxLen; omega) (by omega) HV2.out ?_
  intro v3 W3 hown3 hg3
  have HO3 : Hid (W3.ownsRow VD.heap.size 5 1 v3 (1 + L) (bvals (0 :: xs))) := Lib.hid (by
    have e : bvals (0 :: xs) = bvals [0] ++ bvals xs := by rw [← bvals_append]; rfl
    rw [e]
    exact hown3)
  have H3 : Hid (Below W1.heap.size W1 W3) := Lib.hid (H2.out.trans ((Chg.of_grown hg3 (fun q _ e => (HO2.out.lt q e).1) : Chg (fun q _ => VD.heap.size ≤ q) W2 W3).below H2.out.size (fun q i hq h => by have := HVS.out; omega)))
  clear hown3 hg3
  refine hK _ _ (HC.out _ H3.out) ?_
  clear hK K
  have hx256 : ∀ x ∈ 0 :: xs, x < 256 := fun x hx => by
    rcases List.mem_cons.1 hx with h | h
    · rw [h]; decide
    · exact HBX.out.2.1 x h
  obtain ⟨hlen3, a3, c3, hv3, hc3, _, hB3, hn3⟩ := bytes_of_own HO3.out hx256 (by rw [List.length_cons]; have := HLE.out; unfold maxLen; omega)
  have HTC := Lib.hid (HTG.out a3 c3 W3 (HBW.out.trans (H3.out.mono HBW.out.size)) hB3 hc3 hn3 (fun ad e _ => hB3.blk ad e (by simp)))
  subst hv3
  clear hx256 hlen3 hc3 hB3 hn3
  refine Kit.hplan_op (by rfl) (by rfl) fun K hK => ?_
  go_simp
  go_at_call 69
  refine HTC.out.mono ?_
  rintro e W4 ⟨bs, rfl, hbs, hb4⟩
  have HBS := Lib.hid hbs
  have H4 : Hid (Below W1.heap.size W1 W4) := Lib.hid (H3.out.trans (hb4.mono H3.out.size))
  clear hbs hb4
  refine hK _ _ (HC.out _ H4.out) ?_
  clear hK K
  iterate 2 (refine Kit.hplan_head (by rfl) (by first | exact .inr ⟨by rfl, rfl⟩ | exact .inl ⟨by rfl, fun w' hS => by (dsimp only at hS); go_simp; (try with_reducible rfl)⟩) ?_; (try simp only [Act.put, List.setIfInBounds_toArray, List.set_cons_zero, List.set_cons_succ]))
  refine Kit.hplan_done ?_
  (try simp only [Act.put, List.setIfInBounds_toArray, List.set_cons_zero, List.set_cons_succ])
  (try go_wp2_with fail)
  go_ret2
  have hlt : ∀ x ∈ bs, x < 256 := by rw [HBS.out]; exact Sha.sum_lt _
  exact ⟨strB bs, rfl, by rw [nb_strB hlt]; exact HBS.out, by rw [strB_size _ hlt, HBS.out]; exact Sha.sum_length _, HBW.out.trans (H4.out.mono HBW.out.size)⟩
end Go.Proofs.YtmcbnhkcjhlbaaaGreatDoor.Tp
end
section
namespace Go.Proofs.YtmcbnhkcjhlbaaaGreatDoor.Tp
open Go.RowKit
open Kit (Chg)
open Go.Proofs.YtmcbnhkcjhlbaaaGreatDoor.One

structure RefP where
  name : ByteArray
  size : Nat
def RefP.cells (r : RefP) : List Value := [.string r.name, .int .i64 0, .int .i64 (r.size : Int)]
def RefP.row (r : RefP) : Array Value := #[.string r.name, .int .i64 0, .int .i64 (r.size : Int)]
theorem RefP.len (r : RefP) : r.cells.length = 3 := rfl
theorem RefP.one (r : RefP) : ∀ v ∈ r.cells, v.oneCell' = true := fun v h => by
  simp only [RefP.cells, List.mem_cons, List.not_mem_nil, or_false] at h
  rcases h with rfl | rfl | rfl <;> rfl
def refZ : RefP := ⟨ByteArray.empty, 0⟩
theorem kindRef : Kind Tryz.prog RefP.cells 3 147 45 (.agg #[.string ByteArray.empty, .int .i64 0, .int .i64 0]) 32 := ⟨RefP.len, RefP.one, by decide, Tryz.underlying147, by kernel_rfl, rfl, by decide⟩
structure RefP.ok (r : RefP) : Prop where
  n : r.name.size = 32
  s : r.size ≤ 32768
def sumR (rs : List RefP) : Nat := (rs.map RefP.size).sum
theorem sumR_take (rs : List RefP) (k : Nat) (h : k < rs.length) : sumR (rs.take (k + 1)) = sumR (rs.take k) + rs[k].size := by
  unfold sumR
  rw [List.take_succ_eq_append_getElem h, List.map_append, List.sum_append]
  simp
theorem sumR_le (rs : List RefP) (k : Nat) : sumR (rs.take k) ≤ sumR rs := by
  unfold sumR
  have h : rs.map RefP.size = (rs.take k).map RefP.size ++ (rs.drop k).map RefP.size := by rw [← List.map_append, List.take_append_drop]
  rw [h, List.sum_append]
  omega
theorem row3R {w : World} {b : Nat} {r : RefP} {T : TypeId} {f : Nat × Nat} (h : w.heap[b]? = some (.cells r.row T f)) : w.cell? ⟨b, 0, none⟩ = some (.string r.name) ∧ w.cell? ⟨b, 1, none⟩ = some (.int .i64 0) ∧ w.cell? ⟨b, 2, none⟩ = some (.int .i64 (r.size : Int)) :=
  ⟨(cell_of_row _ _ _ _ _ _ h).trans rfl, (cell_of_row _ _ _ _ _ _ h).trans rfl, (cell_of_row _ _ _ _ _ _ h).trans rfl⟩
theorem RowsAt.ref3 {w : World} {a : Option Addr} {rs : List RefP} (h : RowsAt RefP.cells 3 w a rs) (k : Nat) (hk : k < rs.length) : ∃ b o, a = some ⟨b, o, none⟩ ∧ w.cell? ⟨b, o + k * 3, none⟩ = some (.string rs[k].name) ∧ w.cell? ⟨b, o + k * 3 + 1, none⟩ = some (.int .i64 0) ∧ w.cell? ⟨b, o + k * 3 + 2, none⟩ = some (.int .i64 (rs[k].size : Int)) := by
  obtain ⟨b, o, e, hc⟩ := h.one k hk
  exact ⟨b, o, e, hc 0 (by decide), hc 1 (by decide), hc 2 (by decide)⟩
set_option maxRecDepth 100000 in
set_option maxHeartbeats 4000000 in
theorem validRef_ok (r : RefP) (hr : r.ok) (w : World) : Calls Tryz.prog 198 #[.agg r.row] w fun e w' => e = .returned (.bool true) ∧ Below w.heap.size w w' := by
  obtain ⟨name, size⟩ := r
  have h1 : ((name.size : Int) == 32) = true := by have := hr.n; dsimp only at this; rw [this]; rfl
  have h2 : (size : Int) ≤ 32768 := by have := hr.s; dsimp only at this; omega
  have h3 : (0 : Int) ≤ (size : Int) := by omega
  unfold RefP.row
  dsimp only
  clear hr
  go_enter Tryz.func198, Tryz.ntmps198
  go_wp2_with fail
  go_ret
  exact ⟨rfl, (Below.refl _ _).alloc (Nat.le_refl _) _⟩
set_option maxRecDepth 100000 in
set_option maxHeartbeats 4000000 in
theorem total_ok (a : Option Addr) (n cap : Nat) (rs : List RefP) (hn : rs.length = n) (hcap : n ≤ cap) (hm : n ≤ 100000) (hs : sumR rs ≤ 1000000000) (w : World) (hR : RowsAt RefP.cells 3 w a rs) : Calls Tryz.prog 225 #[.slice a n cap] w fun e w' => e = .returned (.int .i64 (sumR rs : Int)) ∧ Below w.heap.size w w' := by
  have HN := Lib.hid hn
  have HR := Lib.hid hR
  have HS := Lib.hid hs
  clear hn hR hs
  go_enter Tryz.func225, Tryz.ntmps225
  go_upto_region 3 with fail
  go_loopw [3, 8] (fun s z wr => ∃ k : Nat, k ≤ n ∧ z = .int .i64 (k : Int) ∧ s = .int .i64 (sumR (rs.take k) : Int) ∧ Hid (Below w.heap.size w wr)) (fun _ z _ => n - (intOf z).toNat)
  case atStart => exact ⟨0, Nat.zero_le _, rfl, rfl, Lib.hid (Below.refl _ _)⟩
  case round =>
    obtain ⟨k, hk, rfl, rfl, HB⟩ := hrel
    by_cases hlt : k < n
    rotate_left
    · have HE : Hid (sumR (rs.take k) = sumR rs) := Lib.hid (by rw [List.take_of_length_le (by rw [HN.out]; omega)])
      go_wp2_with fail
      go_ret
      exact ⟨by first | (rw [HE.out]; rfl) | rw [HE.out], HB.out⟩
    have hkx : k < rs.length := by rw [HN.out]; exact hlt
    obtain ⟨b, o, rfl, c0, c1, c2⟩ := (HR.out.later RefP.len HB.out).ref3 k hkx
    have HT := Lib.hid (sumR_take rs k hkx)
    have h9 := sumR_le rs (k + 1)
    rw [HT.out] at h9
    have h8 := HS.out
    obtain ⟨x, hx⟩ : ∃ x, rs[k] = x := ⟨_, rfl⟩
    rw [hx] at c0 c2 HT h9
    clear hx
    obtain ⟨name, size⟩ := x
    dsimp only at c0 c2 HT h9
    obtain ⟨S0, hS0⟩ := ex_eq (sumR (rs.take k))
    rw [hS0] at HT h9 ⊢
    have h7 : S0 + size ≤ 1000000000 := by omega
    clear hS0 h8 h9
    go_upto_region 5 with fail
    refine wp_over (fun V => Hid (V.heap[wr.heap.size]? = some (.cells (RefP.row ⟨name, size⟩) 45 (0, 0))) ∧ Hid (Below wr.heap.size wr V)) ⟨Lib.hid (heap_alloc_new _ _), Lib.hid ((Below.refl _ _).alloc (Nat.le_refl _) _)⟩ ?_
    rintro W ⟨HG, HWB⟩
    clear c0 c1 c2
    have HBW : Hid (Below w.heap.size w W) := Lib.hid (HB.out.trans (HWB.out.mono HB.out.size))
    obtain ⟨N, hN⟩ := ex_eq wr.heap.size
    rw [hN] at HG ⊢
    clear hN
    obtain ⟨c0, c1, c2⟩ := row3R HG.out
    dsimp only at c0 c1 c2
    go_wp2_with fail
    go_roundw
    case rel => exact ⟨k + 1, by omega, by go_num, by rw [HT.out]; go_num, HBW⟩
    case measure => simp [intOf]; omega
structure IT where
  name : ByteArray
  kind : Int
  mode : Int
  time : Int
  size : Nat
  link : ByteArray
  chunks : List RefP
  node : RefP
structure IV where
  t : IT
  a : Option Addr
  c : Nat
def IV.cells (x : IV) : List Value := [.string x.t.name, .int .i64 x.t.kind, .int .i64 x.t.mode, .int .i64 x.t.time, .int .i64 (x.t.size : Int), .string x.t.link, .slice x.a x.t.chunks.length x.c, .string x.t.node.name, .int .i64 0, .int .i64 (x.t.node.size : Int)]
def IV.row (x : IV) : Array Value := #[.string x.t.name, .int .i64 x.t.kind, .int .i64 x.t.mode, .int .i64 x.t.time, .int .i64 (x.t.size : Int), .string x.t.link, .slice x.a x.t.chunks.length x.c, .string x.t.node.name, .int .i64 0, .int .i64 (x.t.node.size : Int)]
theorem IV.len (x : IV) : x.cells.length = 10 := rfl
theorem IV.one (x : IV) : ∀ v ∈ x.cells, v.oneCell' = true := fun v h => by
  simp only [IV.cells, List.mem_cons, List.not_mem_nil, or_false] at h
  rcases h with rfl | rfl | rfl | rfl | rfl | rfl | rfl | rfl | rfl | rfl <;> rfl
theorem kindIT : Kind Tryz.prog IV.cells 10 146 149 (.agg #[.string ByteArray.empty, .int .i64 0, .int .i64 0, .int .i64 0, .int .i64 0, .string ByteArray.empty, .slice none 0 0, .string ByteArray.empty, .int .i64 0, .int .i64 0]) 120 := ⟨IV.len, IV.one, by decide, Tryz.underlying146, by kernel_rfl, rfl, by decide⟩
structure IV.ok (w : World) (x : IV) : Prop where
  cap : x.t.chunks.length ≤ x.c
  row : RowsAt RefP.cells 3 w x.a x.t.chunks
theorem IV.ok.later {w w' : World} {x : IV} (h : x.ok w) (hb : Below w.heap.size w w') : x.ok w' := ⟨h.cap, h.row.later RefP.len hb⟩
structure IT.ok (t : IT) : Prop where
  vp : VP t.name.data.toList
  free : 47 ∉ t.name.data.toList
  mode0 : 0 ≤ t.mode
  mode1 : t.mode ≤ 511
  time0 : 0 ≤ t.time
  kinds : t.kind = 1 ∨ t.kind = 2 ∨ t.kind = 3
  file : t.kind = 1 → t.link.size = 0 ∧ t.node = refZ ∧ (∀ r ∈ t.chunks, r.ok ∧ 1 ≤ r.size) ∧ t.size = sumR t.chunks ∧ t.size ≤ 1048576 ∧ t.chunks.length ≤ 100000
  dir : t.kind = 2 → t.link.size = 0 ∧ t.size = 0 ∧ t.chunks = [] ∧ t.node.ok
  lnk : t.kind = 3 → t.size = 0 ∧ t.chunks = [] ∧ t.node = refZ ∧ 1 ≤ t.link.size ∧ t.link.size ≤ 512 ∧ ∀ c ∈ t.link.data.toList, c ≠ 0
theorem row10 {w : World} {b : Nat} {x : IV} {T : TypeId} {f : Nat × Nat} (h : w.heap[b]? = some (.cells x.row T f)) : w.cell? ⟨b, 0, none⟩ = some (.string x.t.name) ∧ w.cell? ⟨b, 1, none⟩ = some (.int .i64 x.t.kind) ∧ w.cell? ⟨b, 2, none⟩ = some (.int .i64 x.t.mode) ∧ w.cell? ⟨b, 3, none⟩ = some (.int .i64 x.t.time) ∧ w.cell? ⟨b, 4, none⟩ = some (.int .i64 (x.t.size : Int)) ∧ w.cell? ⟨b, 5, none⟩ = some (.string x.t.link) ∧ w.cell? ⟨b, 6, none⟩ = some (.slice x.a x.t.chunks.length x.c) ∧ w.cell? ⟨b, 7, none⟩ = some (.string x.t.node.name) ∧ w.cell? ⟨b, 8, none⟩ = some (.int .i64 0) ∧ w.cell? ⟨b, 9, none⟩ = some (.int .i64 (x.t.node.size : Int)) :=
  ⟨(cell_of_row _ _ _ _ _ _ h).trans rfl, (cell_of_row _ _ _ _ _ _ h).trans rfl, (cell_of_row _ _ _ _ _ _ h).trans rfl, (cell_of_row _ _ _ _ _ _ h).trans rfl, (cell_of_row _ _ _ _ _ _ h).trans rfl, (cell_of_row _ _ _ _ _ _ h).trans rfl, (cell_of_row _ _ _ _ _ _ h).trans rfl, (cell_of_row _ _ _ _ _ _ h).trans rfl, (cell_of_row _ _ _ _ _ _ h).trans rfl, (cell_of_row _ _ _ _ _ _ h).trans rfl⟩
set_option maxRecDepth 100000 in
set_option maxHeartbeats 4000000 in
theorem validChunks_ok (x : IV) (w : World) (hx : x.ok w) (ht : x.t.ok) (hk : x.t.kind = 1) : Calls Tryz.prog 197 #[.agg x.row] w fun e w' => e = .returned (.bool true) ∧ Below w.heap.size w w' := by
  obtain ⟨_, _, hcs, hsz, hsm, hcl⟩ := ht.file hk
  have HX := Lib.hid hx
  have HCS := Lib.hid hcs
  have HSZ := Lib.hid hsz
  have HCL := Lib.hid hcl
  have HTO := Lib.hid (fun W (hb : Below w.heap.size w W) => total_ok x.a x.t.chunks.length x.c x.t.chunks rfl hx.cap hcl (by rw [← hsz]; omega) W (hx.row.later RefP.len hb))
  obtain ⟨⟨name, kind, mode, time, size, link, chunks, ⟨nname, nsize⟩⟩, ca, cc⟩ := x
  unfold IV.row
  dsimp only at HTO HSZ HCS HCL hsm ⊢
  clear hx ht hk hcs hsz hcl
  go_enter Tryz.func197, Tryz.ntmps197
  go_upto_region 2 with fail
  refine wp_over (fun W => Hid (W.heap[w.heap.size]? = some (.cells (IV.row (⟨⟨name, kind, mode, time, size, link, chunks, ⟨nname, nsize⟩⟩, ca, cc⟩ : IV)) 149 (0, 0))) ∧ Hid (Below w.heap.size w W) ∧ Hid (W.heap.size = w.heap.size + 1)) ⟨Lib.hid (heap_alloc_new _ _), Lib.hid ((Below.refl _ _).alloc (Nat.le_refl _) _), Lib.hid (by simp)⟩ ?_
  rintro W ⟨HG, HB, HS⟩
  obtain ⟨N, hN⟩ := ex_eq w.heap.size
  rw [hN] at HG HS ⊢
  have HN := Lib.hid hN
  clear hN
  have HC : Hid (∀ V, Below (N + 1) W V → V.cell? ⟨N, 4, none⟩ = some (.int .i64 (size : Int)) ∧ V.cell? ⟨N, 6, none⟩ = some (.slice ca chunks.length cc)) := Lib.hid (fun V h => by
    have h1 := row10 (x := (⟨⟨name, kind, mode, time, size, link, chunks, ⟨nname, nsize⟩⟩, ca, cc⟩ : IV)) ((h.block N (by omega)).trans HG.out)
    exact ⟨h1.2.2.2.2.1, h1.2.2.2.2.2.2.1⟩)
  have HBW : Hid (∀ V, Below (N + 1) W V → Below w.heap.size w V) := Lib.hid (fun V h => HB.out.trans (h.mono (by have := HN.out; omega)))
  obtain ⟨L, hL⟩ := ex_eq chunks.length
  rw [hL] at HC HTO HCL ⊢
  have HL := Lib.hid hL
  clear hL
  have hL5 : L ≤ 100000 := HCL.out
  rw [← HSZ.out] at HTO
  obtain ⟨c4, c6⟩ := HC.out W (Below.refl _ _)
  go_loopw [8] (fun z wr => ∃ k : Nat, k ≤ L ∧ z = .int .i64 (k : Int) ∧ Hid (Below (N + 1) W wr)) (fun z _ => L - (intOf z).toNat)
  case atStart => exact ⟨0, Nat.zero_le _, by first | rfl | simp, Lib.hid (Below.refl _ _)⟩
  case round =>
    obtain ⟨k, hk, rfl, HBR⟩ := hrel
    clear c4 c6
    by_cases hlt : k < L
    rotate_left
    · have HDR : Hid (Below (N + 1) W wr.drew) := Lib.hid HBR.out.drew
      have hq : ((size : Int) == (size : Int)) = true := by simp
      go_upto_region 7 with fail
      obtain ⟨VD, hVD⟩ := ex_eq wr.drew
      rw [hVD] at HDR
      refine Kit.wp_region_hplan (fun V => V.cell? ⟨N, 4, none⟩ = some (.int .i64 (size : Int)) ∧ V.cell? ⟨N, 6, none⟩ = some (.slice ca L cc)) [(true, 0), (true, 1), (true, 2), (true, 3), (false, 4), (true, 5), (true, 6), (true, 7), (true, 8), (true, 9), (true, 10), (true, 11)] (by kernel_rfl) (by kernel_rfl) (by kernel_rfl) (by kernel_rfl) (by rw [hVD]; exact HC.out _ HDR.out) ?_
      rw [hVD]
      clear hVD
      iterate 4 (refine Kit.hplan_head (by rfl) (by first | exact .inr ⟨by rfl, rfl⟩ | exact .inl ⟨by rfl, fun w' hS => by (dsimp only at hS); go_simp; (try with_reducible rfl)⟩) ?_; (try simp only [Act.put, List.setIfInBounds_toArray, List.set_cons_zero, List.set_cons_succ]))
      refine Kit.hplan_op (by rfl) (by rfl) fun K hK => ?_
      go_simp
      go_at_call 225
      refine (HTO.out _ (HBW.out _ HDR.out)).mono ?_
      rintro e W2 ⟨rfl, hb2⟩
      have H2 : Hid (Below (N + 1) W W2) := Lib.hid (HDR.out.trans (hb2.mono (by have := HDR.out.size; have := HS.out; omega)))
      clear hb2
      refine hK _ _ (HC.out _ H2.out) ?_
      clear hK K
      iterate 7 (refine Kit.hplan_head (by rfl) (by first | exact .inr ⟨by rfl, rfl⟩ | exact .inl ⟨by rfl, fun w' hS => by (dsimp only at hS); go_simp; (try with_reducible rfl)⟩) ?_; (try simp only [Act.put, List.setIfInBounds_toArray, List.set_cons_zero, List.set_cons_succ]))
      refine Kit.hplan_done ?_
      (try simp only [Act.put, List.setIfInBounds_toArray, List.set_cons_zero, List.set_cons_succ])
      (try go_wp2_with fail)
      go_ret
      exact ⟨by first | rfl | (simp; done) | (simp; omega), HBW.out _ H2.out⟩
    have hkx : k < chunks.length := by rw [HL.out]; exact hlt
    have HRW := Lib.hid (HX.out.row.later RefP.len (HBW.out _ HBR.out))
    have HCS1 := HCS.out chunks[k] (List.getElem_mem hkx)
    obtain ⟨b, o, e1, c0, c1, c2⟩ := HRW.out.ref3 k hkx
    dsimp only at e1 c0 c1 c2
    subst e1
    obtain ⟨x, hx⟩ : ∃ x, chunks[k] = x := ⟨_, rfl⟩
    rw [hx] at c0 c2 HCS1
    clear hx
    have HVR := Lib.hid (fun V => validRef_ok x HCS1.1 V)
    have hx1 : ¬ (x.size : Int) < 1 := by have := HCS1.2; omega
    obtain ⟨rn, rs⟩ := x
    unfold RefP.row at HVR
    dsimp only at c0 c1 c2 HVR hx1
    clear HCS1
    go_upto_region 4 with fail
    refine wp_over (fun V => Hid (V.heap[wr.heap.size]? = some (.cells (RefP.row ⟨rn, rs⟩) 45 (0, 0))) ∧ Hid (Below wr.heap.size wr V) ∧ Hid (V.heap.size = wr.heap.size + 1)) ⟨Lib.hid (heap_alloc_new _ _), Lib.hid ((Below.refl _ _).alloc (Nat.le_refl _) _), Lib.hid (by simp)⟩ ?_
    rintro W3 ⟨HG3, HB3, HS3⟩
    clear c0 c1 c2
    obtain ⟨N3, hN3⟩ := ex_eq wr.heap.size
    rw [hN3] at HG3 HS3 ⊢
    have HN3 := Lib.hid hN3
    clear hN3
    have HBW3 : Hid (Below (N + 1) W W3) := Lib.hid (HBR.out.trans (HB3.out.mono (by have := HBR.out.size; have := HS.out; omega)))
    have HVR3 := Lib.hid (HVR.out W3)
    obtain ⟨c0, c1, c2⟩ := row3R HG3.out
    dsimp only at c0 c1 c2
    go_wp2_with (first
      | (go_at_call 198
         (with_reducible refine HVR3.out.mono ?_)
         rintro e W4 ⟨rfl, hb4⟩
         have HRN := Lib.hid ((hb4.block N3 (by have := HS3.out; omega)).trans HG3.out)
         have HB4 : Hid (Below (N + 1) W W4) := Lib.hid (HBW3.out.trans (hb4.mono (by have := HBW3.out.size; have := HS.out; omega)))
         clear hb4 c0 c1 c2
         obtain ⟨c0, c1, c2⟩ := row3R HRN.out
         dsimp only at c0 c1 c2))
    go_roundw
    case rel => exact ⟨k + 1, by omega, by go_num, HB4⟩
    case measure => simp [intOf]; omega
end Go.Proofs.YtmcbnhkcjhlbaaaGreatDoor.Tp
end
section
namespace Go.Proofs.YtmcbnhkcjhlbaaaGreatDoor.Tp
open Go.RowKit
open Kit (Chg)
open Go.Proofs.YtmcbnhkcjhlbaaaGreatDoor.One

theorem eq_ref (s t : ByteArray) (i j k l : Int) (w : World) : (binOp .eql 45 (.agg #[.string s, .int .i64 i, .int .i64 j]) (.agg #[.string t, .int .i64 k, .int .i64 l])).run Tryz.prog w = .ok (.bool (decide (s = t ∧ i = k ∧ j = l))) w := by
  have u3 := Tryz.underlying3
  have a3 := Tryz.isAgg3
  have z3 := Tryz.sizeOf3
  have u9 := Tryz.underlying9
  have a9 := Tryz.isAgg9
  have z9 := Tryz.sizeOf9
  have hS : Tryz.prog.underlying 45 = some (.struct (Tryz.prog.fieldsOf 45)) := by kernel_rfl
  have hp : Tryz.prog.stoodInHeld 45 = false := by kernel_rfl
  rw [run_eql_struct, show (10000 : Nat) = 9998 + 1 + 1 from rfl, run_equalIn_agg w (9998 + 1) 45 _ _ hS hp]
  simp only [Program.fieldsOf, Tryz.underlying45]
  go_simp
  by_cases h1 : s = t <;> by_cases h2 : i = k <;> by_cases h3 : j = l <;> simp [h1, h2, h3, tol_iff]
theorem neq_ref (s t : ByteArray) (i j k l : Int) (w : World) : (binOp .neq 45 (.agg #[.string s, .int .i64 i, .int .i64 j]) (.agg #[.string t, .int .i64 k, .int .i64 l])).run Tryz.prog w = .ok (.bool (!decide (s = t ∧ i = k ∧ j = l))) w := by
  have u3 := Tryz.underlying3
  have a3 := Tryz.isAgg3
  have z3 := Tryz.sizeOf3
  have u9 := Tryz.underlying9
  have a9 := Tryz.isAgg9
  have z9 := Tryz.sizeOf9
  have hS : Tryz.prog.underlying 45 = some (.struct (Tryz.prog.fieldsOf 45)) := by kernel_rfl
  have hp : Tryz.prog.stoodInHeld 45 = false := by kernel_rfl
  rw [run_neq_struct, show (10000 : Nat) = 9998 + 1 + 1 from rfl, run_equalIn_agg w (9998 + 1) 45 _ _ hS hp]
  simp only [Program.fieldsOf, Tryz.underlying45]
  go_simp
  by_cases h1 : s = t <;> by_cases h2 : i = k <;> by_cases h3 : j = l <;> simp [h1, h2, h3, tol_iff]
set_option maxRecDepth 100000 in
set_option maxHeartbeats 4000000 in
theorem validItem_ok (x : IV) (w : World) (hx : x.ok w) (ht : x.t.ok) (hT : Top w) : Calls Tryz.prog 163 #[.agg x.row] w fun e w' => e = .returned (.bool true) ∧ Below w.heap.size w w' := by
  have HOK := Lib.hid ht
  have HVP := Lib.hid (fun W (hb : Below w.heap.size w W) => valid18_ok x.t.name ht.vp W (hT.later hb))
  have hct : decide (0 ≤ Lib.indexByte x.t.name.data.toList 47) = false := decide_eq_false (by have := indexByte_free _ ht.free; omega)
  have HCT : Hid (∀ W, Calls Tryz.prog 102 #[.string x.t.name, .string ⟨#[47]⟩] W fun e w' => e = .returned (.bool false) ∧ w' = W) := Lib.hid (fun W => by rw [← hct]; exact strings_Contains_one x.t.name 47 W)
  have HCK := Lib.hid (fun W (hb : Below w.heap.size w W) (hk : x.t.kind = 1) => validChunks_ok x W (hx.later hb) ht hk)
  have HVR := Lib.hid (fun W (hk : x.t.kind = 2) => validRef_ok x.t.node (ht.dir hk).2.2.2 W)
  obtain ⟨⟨name, kind, mode, time, size, link, chunks, ⟨nname, nsize⟩⟩, ca, cc⟩ := x
  unfold IV.row at HCK ⊢
  unfold RefP.row at HVR
  dsimp only at HVP HCT HCK HVR ⊢
  have m0 : ¬ mode < 0 := by have := ht.mode0; dsimp only at this; omega
  have m1 : ¬ 511 < mode := by have := ht.mode1; dsimp only at this; omega
  have m2 : ¬ time < 0 := by have := ht.time0; dsimp only at this; omega
  clear hct hx ht hT
  go_enter Tryz.func163, Tryz.ntmps163
  go_upto_region 1 with fail
  refine wp_over (fun W => Hid (W.heap[w.heap.size]? = some (.cells (IV.row (⟨⟨name, kind, mode, time, size, link, chunks, ⟨nname, nsize⟩⟩, ca, cc⟩ : IV)) 149 (0, 0))) ∧ Hid (Below w.heap.size w W) ∧ Hid (W.heap.size = w.heap.size + 1)) ⟨Lib.hid (heap_alloc_new _ _), Lib.hid ((Below.refl _ _).alloc (Nat.le_refl _) _), Lib.hid (by simp)⟩ ?_
  rintro W ⟨HG, HB, HS⟩
  obtain ⟨N, hN⟩ := ex_eq w.heap.size
  rw [hN] at HG HS ⊢
  have HN := Lib.hid hN
  clear hN
  obtain ⟨c0, c1, c2, c3, c4, c5, c6, c7, c8, c9⟩ := row10 HG.out
  dsimp only at c0 c1 c2 c3 c4 c5 c6 c7 c8 c9
  go_wp2_with fail
  refine (HVP.out _ HB.out).mono ?_
  rintro e W1 ⟨rfl, hb1⟩
  have H1 : Hid (Below w.heap.size w W1) := Lib.hid (HB.out.trans (hb1.mono HB.out.size))
  have HG1 := Lib.hid ((hb1.block N (by have := HS.out; omega)).trans HG.out)
  clear hb1 c0 c1 c2 c3 c4 c5 c6 c7 c8 c9
  obtain ⟨c0, c1, c2, c3, c4, c5, c6, c7, c8, c9⟩ := row10 HG1.out
  dsimp only at c0 c1 c2 c3 c4 c5 c6 c7 c8 c9
  go_wp2_with fail
  refine (HCT.out _).mono ?_
  rintro e W2 ⟨rfl, rfl⟩
  go_upto_region 6 with fail
  refine wp_over (fun V => Hid (V.heap[N]? = some (.cells (IV.row (⟨⟨name, kind, mode, time, size, link, chunks, ⟨nname, nsize⟩⟩, ca, cc⟩ : IV)) 149 (0, 0))) ∧ Hid (V.heap[W2.heap.size]? = some (.cells #[.string ByteArray.empty, .int .i64 0, .int .i64 0] 45 (0, 0))) ∧ Hid (Below w.heap.size w V) ∧ Hid (V.heap.size = W2.heap.size + 1) ∧ Hid (N < W2.heap.size)) ⟨Lib.hid ((Below.heap_alloc _ _ _ (Array.getElem?_eq_some_iff.1 HG1.out).1).trans HG1.out), Lib.hid (heap_alloc_new _ _), Lib.hid (H1.out.alloc H1.out.size _), Lib.hid (by simp), Lib.hid (Array.getElem?_eq_some_iff.1 HG1.out).1⟩ ?_
  rintro V ⟨HGV, HZV, HBV, HSV, HNV⟩
  clear c0 c1 c2 c3 c4 c5 c6 c7 c8 c9
  obtain ⟨M, hM⟩ := ex_eq W2.heap.size
  rw [hM] at HZV HSV HNV ⊢
  clear hM
  obtain ⟨c0, c1, c2, c3, c4, c5, c6, c7, c8, c9⟩ := row10 HGV.out
  dsimp only at c0 c1 c2 c3 c4 c5 c6 c7 c8 c9
  have z0 : V.cell? ⟨M, 0, none⟩ = some (.string ByteArray.empty) := (cell_of_row _ _ _ _ _ _ HZV.out).trans rfl
  have z1 : V.cell? ⟨M, 1, none⟩ = some (.int .i64 0) := (cell_of_row _ _ _ _ _ _ HZV.out).trans rfl
  have z2 : V.cell? ⟨M, 2, none⟩ = some (.int .i64 0) := (cell_of_row _ _ _ _ _ _ HZV.out).trans rfl
  rcases HOK.out.kinds with hk | hk | hk
  · have hk : kind = 1 := hk
    subst hk
    obtain ⟨h1, h2, _⟩ := HOK.out.file rfl
    have hle : link.toList.isEmpty = true := empty_of_size h1
    have hn1 : nname = ByteArray.empty := congrArg RefP.name h2
    have hn2 : nsize = 0 := congrArg RefP.size h2
    have heq : ∀ W, (binOp .eql 45 (.agg #[.string nname, .int .i64 0, .int .i64 (nsize : Int)]) (.agg #[.string ByteArray.empty, .int .i64 0, .int .i64 0])).run Tryz.prog W = .ok (.bool true) W := fun W => by rw [eq_ref]; simp [hn1, hn2]
    have HCK1 := Lib.hid (HCK.out V HBV.out rfl)
    clear h1 h2 hn1 hn2
    go_wp2_with (first
      | (go_at_call 197
         (with_reducible refine HCK1.out.mono ?_)
         rintro e W3 ⟨rfl, hb3⟩
         have H3 : Hid (Below w.heap.size w W3) := Lib.hid (HBV.out.trans (hb3.mono HBV.out.size))
         clear hb3))
    go_ret
    exact ⟨rfl, H3.out⟩
  · have hk : kind = 2 := hk
    subst hk
    obtain ⟨h1, h2, h3, h4⟩ := HOK.out.dir rfl
    have hle : link.toList.isEmpty = true := empty_of_size h1
    have h2 : size = 0 := h2
    have hs1 : ((size : Int) == 0) = true := by rw [h2]; rfl
    have h3 : chunks = [] := h3
    subst h3
    have HVR1 := Lib.hid (HVR.out V rfl)
    clear h1 h2 h4
    go_wp2_with (first
      | (go_at_call 198
         (with_reducible refine HVR1.out.mono ?_)
         rintro e W3 ⟨rfl, hb3⟩
         have H3 : Hid (Below w.heap.size w W3) := Lib.hid (HBV.out.trans (hb3.mono HBV.out.size))
         clear hb3))
    go_ret
    exact ⟨rfl, H3.out⟩
  · have hk : kind = 3 := hk
    subst hk
    obtain ⟨h1, h2, h3, h4, h5, h6⟩ := HOK.out.lnk rfl
    have h1 : size = 0 := h1
    have h2 : chunks = [] := h2
    have hn1 : nname = ByteArray.empty := congrArg RefP.name h3
    have hn2 : nsize = 0 := congrArg RefP.size h3
    have hs1 : ((size : Int) != 0) = false := by rw [h1]; rfl
    subst h2
    have heq : ∀ W, (binOp .neq 45 (.agg #[.string nname, .int .i64 0, .int .i64 (nsize : Int)]) (.agg #[.string ByteArray.empty, .int .i64 0, .int .i64 0])).run Tryz.prog W = .ok (.bool false) W := fun W => by rw [neq_ref]; simp [hn1, hn2]
    clear h1 h3 hn1 hn2
    obtain ⟨q, hq⟩ : ∃ q, Lib.indexByte link.data.toList 0 = q := ⟨_, rfl⟩
    have hn : q < 0 := by rw [← hq]; exact indexByte_zero _ h6
    have HI : Hid (∀ W, Calls Tryz.prog 141 #[.string link, .int .u8 0] W fun e w' => e = .returned (.int .i64 q) ∧ w' = W) := Lib.hid (fun W => by rw [← hq]; exact strings_IndexByte link 0 W)
    have l1 : (1 : Int) ≤ (link.size : Int) := by have h4 : 1 ≤ link.size := h4; omega
    have l2 : (link.size : Int) ≤ 512 := by have h5 : link.size ≤ 512 := h5; omega
    have hd : decide (q < 0) = true := decide_eq_true hn
    clear hq h4 h5 h6
    go_wp2_with (go_at_call 141; (with_reducible refine (HI.out _).mono ?_); rintro e w1 ⟨rfl, rfl⟩)
    all_goals go_ret
    all_goals first
      | exact ⟨rfl, HBV.out⟩
      | omega
end Go.Proofs.YtmcbnhkcjhlbaaaGreatDoor.Tp
end

/- Texts Opu, Opb, Tlo of the proof, each as a section; no premises beyond those that each theorem states. -/
import Derived.Test.YtmcbnhkcjhlbaaaGreatDoorP05
import Derived.Test.YtmcbnhkcjhlbaaaGreatDoorP18
import Derived.Test.YtmcbnhkcjhlbaaaGreatDoorP35
set_option linter.unusedVariables false
set_option linter.unusedSimpArgs false
section
namespace Go.Proofs.YtmcbnhkcjhlbaaaGreatDoor
theorem u8_of_wf {n : Int} (h : (Lit.int .u8 n).wf = true) : ∃ k : Nat, k < 256 ∧ n = (k : Int) := by
  have hb : 0 ≤ n ∧ n < 256 := by
    simp [Lit.wf, IntKind.min, IntKind.max, IntKind.bits, IntKind.signed] at h
    omega
  refine ⟨n.toNat, ?_, ?_⟩ <;> omega
end Go.Proofs.YtmcbnhkcjhlbaaaGreatDoor
end
section
namespace Go.Proofs.YtmcbnhkcjhlbaaaGreatDoor
open Go.ChangeShapes Go.WideShapes Go.ChangeAt Go.RowKit
theorem open_bytes {H : Type} {enc : TypeId × Value → H} {W : World} {a : Option Addr} {len cap fuel : Nat} {x : DataW H × List MemPlace}
    (hf : DataW.trod enc Tryz.prog W 0 (fun _ => true) true fuel 52 [.slice a len cap] = some x) :
    ∃ bs, len = bs.length ∧ BytesAt W a bs := by
  rcases open_ints Tryz.underlying52 Tryz.underlying5 cellsU8 hf with ⟨hcs, _⟩ | ⟨ad, l, c, zs, hcs, _, hl, hm, hz, hx, hcell, hwz⟩
  · simp at hcs
    obtain ⟨rfl, rfl, rfl⟩ := hcs
    exact ⟨[], rfl, ⟨.inl rfl, by simp, Nat.zero_le _⟩⟩
  · simp at hcs
    obtain ⟨rfl, rfl, rfl⟩ := hcs
    simp only [if_true] at hz
    have hlen : ((zs.take len).map Int.toNat).length = len := by rw [List.length_map, List.length_take]; omega
    refine ⟨(zs.take len).map Int.toNat, hlen.symm, ⟨?_, ?_, by omega⟩⟩
    · by_cases h0 : len = 0
      · left
        exact List.eq_nil_of_length_eq_zero (by rw [hlen]; exact h0)
      · right
        obtain ⟨b, off, spot⟩ := ad
        have hspot : spot = none := by simpa [Addr.add] using World.cell?_spot (hcell 0 (by omega))
        subst hspot
        refine ⟨b, off, rfl, fun i hi => ?_⟩
        rw [hlen] at hi
        have hc := hcell i (by omega)
        rw [add_none] at hc
        rw [hc]
        have hiz : i < zs.length := by omega
        obtain ⟨k, hk, he⟩ := u8_of_wf (hwz (zs[i]) (List.getElem_mem hiz))
        rw [List.getD_eq_getElem?_getD, List.getD_eq_getElem?_getD, List.getElem?_map, List.getElem?_take_of_lt hi, List.getElem?_eq_getElem hiz]
        simp only [Option.getD_some, Option.map_some]
        congr 2
        omega
    · intro v hv
      rw [List.mem_map] at hv
      obtain ⟨z, hz', rfl⟩ := hv
      obtain ⟨k, hk, he⟩ := u8_of_wf (hwz z (List.mem_of_mem_take hz'))
      omega
end Go.Proofs.YtmcbnhkcjhlbaaaGreatDoor
end
section
namespace Go.Proofs.YtmcbnhkcjhlbaaaGreatDoor.Tp
open Go.ChangeShapes Go.WideShapes Go.ChangeAt Go.RowKit
open Go.Proofs.YtmcbnhkcjhlbaaaGreatDoor.One

theorem bulk_pos {H : Type} (d : DataW H) : 1 ≤ Rows.uptoBulk d := by
  cases d with
  | lit l => cases l <;> simp [Rows.uptoBulk]
  | nil => simp [Rows.uptoBulk]
  | ptr d => simp [Rows.uptoBulk]
  | slice elems spare => simp [Rows.uptoBulk]
  | agg parts => simp [Rows.uptoBulk]
  | iface t d => simp [Rows.uptoBulk]
  | map entries => simp [Rows.uptoBulk]
  | held h => simp [Rows.uptoBulk]
theorem bulk_mem {H : Type} {d : DataW H} : ∀ {l : List (DataW H)}, d ∈ l → Rows.uptoBulk d ≤ Rows.uptoBulkAll l
  | x :: l, h => by
    rw [Rows.uptoBulkAll]
    rcases List.mem_cons.1 h with e | e
    · subst e; omega
    · have := bulk_mem e; omega
theorem bulk_len {H : Type} : ∀ (l : List (DataW H)), l.length ≤ Rows.uptoBulkAll l
  | [] => Nat.zero_le _
  | x :: l => by
    have h1 := bulk_len l
    have h2 := bulk_pos x
    rw [Rows.uptoBulkAll, List.length_cons]
    omega
theorem bulk_str {H : Type} (s : ByteArray) : Rows.uptoBulk (DataW.lit (H := H) (.string s.data.toList)) = s.size + 1 := by
  rw [Rows.uptoBulk, Array.length_toList]
  rfl
theorem array_of_six {cs : List Value} (h : cs.length = 6) : ∃ c0 c1 c2 c3 c4 c5, cs = [c0, c1, c2, c3, c4, c5] := by
  match cs, h with
  | [c0, c1, c2, c3, c4, c5], _ => exact ⟨c0, c1, c2, c3, c4, c5, rfl⟩
theorem cellsFe : Tryz.prog.cellsOf 54 = 6 := by kernel_rfl
theorem cellsByt : Tryz.prog.cellsOf 52 = 1 := by kernel_rfl
theorem fieldsFe : (match Tryz.prog.underlying 54 with | some (.struct fields) => fields.toList.map (fun f => (f.type, f.offset)) | _ => []) = [(9, 0), (3, 1), (3, 2), (3, 3), (52, 4), (9, 5)] := by kernel_rfl
theorem wf_i64 {n : Int} (h : (Lit.int .i64 n).wf = true) : n ≤ 9223372036854775807 := by
  have : -9223372036854775808 ≤ n ∧ n ≤ 9223372036854775807 := by simpa [Lit.wf, IntKind.min, IntKind.max, IntKind.signed, IntKind.bits] using h
  exact this.2
set_option maxRecDepth 100000 in
theorem open_fe {H : Type} {enc : TypeId × Value → H} {W : World} (n : Nat) (cs : List Value) (x : DataW H × List MemPlace) (hf : DataW.trod enc Tryz.prog W 0 (fun _ => true) true n 54 cs = some x) (hl : cs.length = 6) (hb : Rows.uptoBulk x.1 ≤ 1048576) : ∃ y : FV, cs = y.cells ∧ y.ok W ∧ y.e.time ≤ 9223372036854775807 := by
  have hF := fieldsFe
  obtain ⟨c0, c1, c2, c3, c4, c5, rfl⟩ := array_of_six hl
  cases hu : Tryz.prog.underlying 54 with
  | none => rw [hu] at hF; simp at hF
  | some td =>
    rw [hu] at hF
    cases td with
    | struct fields =>
      obtain ⟨xs, n, _, hxe, hl, hlen, hf⟩ := DataW.trod_struct hu hf
      obtain ⟨fl⟩ := fields
      match fl, hF with
      | [f0, f1, f2, f3, f4, f5], hF =>
        simp only [List.map_cons, List.map_nil, List.cons.injEq, Prod.mk.injEq, and_true] at hF
        obtain ⟨⟨t0, o0⟩, ⟨t1, o1⟩, ⟨t2, o2⟩, ⟨t3, o3⟩, ⟨t4, o4⟩, ⟨t5, o5⟩⟩ := hF
        match xs, hlen with
        | [y0, y1, y2, y3, y4, y5], _ =>
          have h0 := hf 0 f0 rfl
          have h1 := hf 1 f1 rfl
          have h2 := hf 2 f2 rfl
          have h3 := hf 3 f3 rfl
          have h4 := hf 4 f4 rfl
          have h5 := hf 5 f5 rfl
          rw [t0, o0, cellsStr] at h0
          rw [t1, o1, cellsInt] at h1
          rw [t2, o2, cellsInt] at h2
          rw [t3, o3, cellsInt] at h3
          rw [t4, o4, cellsByt] at h4
          rw [t5, o5, cellsStr] at h5
          obtain ⟨s0, e0, x0, _⟩ := DataW.trod_string Tryz.underlying9 h0
          obtain ⟨n1, e1, _, _⟩ := DataW.trod_int Tryz.underlying3 h1
          obtain ⟨n2, e2, _, _⟩ := DataW.trod_int Tryz.underlying3 h2
          obtain ⟨n3, e3, _, w3⟩ := DataW.trod_int Tryz.underlying3 h3
          obtain ⟨s5, e5, x5, _⟩ := DataW.trod_string Tryz.underlying9 h5
          simp at e0 e1 e2 e3 e5
          have hall : Rows.uptoBulkAll [y0.1, y1.1, y2.1, y3.1, y4.1, y5.1] + 1 ≤ 1048576 := by
            rw [hxe] at hb
            simpa [Rows.uptoBulk] using hb
          have b0 := bulk_mem (d := y0.1) (l := [y0.1, y1.1, y2.1, y3.1, y4.1, y5.1]) (by simp)
          have b4 := bulk_mem (d := y4.1) (l := [y0.1, y1.1, y2.1, y3.1, y4.1, y5.1]) (by simp)
          have b5 := bulk_mem (d := y5.1) (l := [y0.1, y1.1, y2.1, y3.1, y4.1, y5.1]) (by simp)
          have k0 : Rows.uptoBulk y0.1 = s0.size + 1 := by rw [x0]; exact bulk_str s0
          have k5 : Rows.uptoBulk y5.1 = s5.size + 1 := by rw [x5]; exact bulk_str s5
          have h6 := h4
          rcases DataW.trod_slice Tryz.underlying52 h4 with ⟨e4, _⟩ | ⟨ad, l, c, el, rs, _, _, e4, x4, _, hlc, _, hel, _⟩
          · rw [e4] at h6
            obtain ⟨bs, hbl, hB⟩ := open_bytes h6
            simp at e4
            have hbs : bs = [] := List.eq_nil_of_length_eq_zero hbl.symm
            subst hbs
            exact ⟨⟨⟨s0, n1, n2, n3, [], s5⟩, none, 0⟩, by rw [e0, e1, e2, e3, e4, e5]; rfl, ⟨fun _ => rfl, Nat.le_refl _, hB, by show s0.size ≤ _; omega, by show s5.size ≤ _; omega, by show 0 ≤ _; omega⟩, wf_i64 w3⟩
          · rw [e4] at h6
            obtain ⟨bs, hbl, hB⟩ := open_bytes h6
            simp at e4
            have hln : l ≤ 1048576 := by
              have h7 := bulk_len (el.map (·.1))
              rw [List.length_map, hel] at h7
              have k4 : Rows.uptoBulk y4.1 = Rows.uptoBulkAll (el.map (·.1)) + Rows.uptoBulkAll (rs.map (·.1)) + 1 := by rw [x4]; simp only [Rows.uptoBulk]
              omega
            subst hbl
            exact ⟨⟨⟨s0, n1, n2, n3, bs, s5⟩, some ad, c⟩, by rw [e0, e1, e2, e3, e4, e5]; rfl, ⟨fun h => absurd h (by simp), hlc, hB, by show s0.size ≤ _; omega, by show s5.size ≤ _; omega, by show bs.length ≤ _; omega⟩, wf_i64 w3⟩
    | _ => simp at hF
theorem open_fes {H : Type} {enc : TypeId × Value → H} {W : World} {a : Option Addr} {len cap fuel : Nat} {x : DataW H × List MemPlace}
    (hf : DataW.trod enc Tryz.prog W 0 (fun _ => true) true fuel 22 [.slice a len cap] = some x) (hb : Rows.uptoBulk x.1 ≤ 1048576) :
    ∃ xs : List FV, xs.length = len ∧ len ≤ cap ∧ len ≤ 4000000 ∧ (∀ y ∈ xs, y.e.time ≤ 9223372036854775807) ∧ FEsAt W a xs := by
  rcases DataW.trod_slice Tryz.underlying22 hf with ⟨hcs, _⟩ | ⟨ad, l, c, elems, rest, n, _, hcs, hx, _, hl, hm, hlen, hel, _, _⟩
  · simp at hcs
    obtain ⟨rfl, rfl, rfl⟩ := hcs
    exact ⟨[], rfl, Nat.le_refl _, by omega, by simp, .inl rfl, by simp⟩
  · simp at hcs
    obtain ⟨rfl, rfl, rfl⟩ := hcs
    rw [hx] at hb
    have hall : Rows.uptoBulkAll (elems.map (·.1)) ≤ 1048576 := by
      simp only [Rows.uptoBulk] at hb
      omega
    have hn := bulk_len (elems.map (·.1))
    rw [List.length_map, hlen] at hn
    have each : ∀ i : Fin len, ∃ y : FV, W.cells? 0 (ad.add (i.1 * 6)) 6 = some y.cells ∧ y.ok W ∧ y.e.time ≤ 9223372036854775807 := by
      intro i
      have h1 := hel i.1 i.2
      have hi : i.1 < elems.length := by rw [hlen]; exact i.2
      rw [List.getElem?_eq_getElem hi, cellsFe, Option.bind_eq_some_iff] at h1
      obtain ⟨cs, h2, h3⟩ := h1
      have hbx : Rows.uptoBulk (elems[i.1]'hi).1 ≤ 1048576 := Nat.le_trans (bulk_mem (List.mem_map_of_mem (List.getElem_mem hi))) hall
      obtain ⟨y, rfl, h5, h6⟩ := open_fe _ _ _ h3 (World.cells?_some h2).2.1 hbx
      exact ⟨y, h2, h5, h6⟩
    obtain ⟨f, hf2⟩ := Classical.axiomOfChoice each
    refine ⟨List.ofFn f, by simp, hl, by omega, ?_, ?_, ?_⟩
    · intro y hy
      rw [List.mem_ofFn] at hy
      obtain ⟨j, rfl⟩ := hy
      exact (hf2 j).2.2
    · by_cases h0 : len = 0
      · subst h0
        exact .inl (by simp)
      · right
        obtain ⟨b, off, spot⟩ := ad
        have hspot : spot = none := by
          have h1 := (World.cells?_some (hf2 ⟨0, by omega⟩).1)
          have h2 := h1.2.2 0 (by decide)
          rw [List.getElem?_eq_getElem (by rw [FV.len]; decide)] at h2
          simpa [Addr.add] using World.cell?_spot h2
        subst hspot
        refine ⟨b, off, rfl, fun k hk j hj => ?_⟩
        have hk' : k < len := by simpa using hk
        have h2 := (World.cells?_some (hf2 ⟨k, hk'⟩).1).2.2 j hj
        rw [List.getElem_ofFn, ← h2, add_none, add_none]
    · intro y hy
      rw [List.mem_ofFn] at hy
      obtain ⟨j, rfl⟩ := hy
      exact (hf2 j).2.1
end Go.Proofs.YtmcbnhkcjhlbaaaGreatDoor.Tp
end

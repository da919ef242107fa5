/- onetime: Secret, Chain, chainOf. -/
import Derived.Test.YtmnendoloankgaaDoorDigs
import Derived.Lib.AppendStr
import Derived.Lib.SlBytesConst
namespace Go.Proofs.YtmnendoloankgaaDoor
set_option linter.unusedVariables false
set_option linter.unusedSimpArgs false
open Go.RowKit
open Kit (Chg)
open Sha (v)
open Go.Proofs.YtmnendoloankgaaDoor.One

theorem strCells_bvals (s : ByteArray) : Go.Lib.strCells s = bvals (nb s) := by
  unfold Go.Lib.strCells bvals nb
  rw [List.map_map]
  rfl
/-- append of a string's bytes. -/
theorem wpList_append_str {P : Program} {w : World} {ops : Array Oper} {rest : List Oper} {o : Oper} {a : Act} {Q : Exit → Act → World → Prop} (hgd : o.guard = none) (s x : Operand) (t u : TypeId)
    (ho : o.op = .call { callee := .builtin .append, args := #[s, x], argTypes := #[t, u] })
    (base : Nat) (e : TypeId) (i : TypeInfo) (ht : P.underlying t = some (.slice e)) (hu : P.underlying u = some .string) (hi : P.info? e = some i) (hz : i.zero = some (.int .u8 0)) (hsize : i.size = 1) (hby : i.bytes = 1)
    (v : Value) (n : Nat) (xs : List Value) (hs : a.eval s = v) (hown : w.ownsRow base e 1 v n xs) (str : ByteArray) (hx : a.eval x = .string str)
    (h63 : n + str.size ≤ maxLen) (hbytes : n + str.size ≤ 140737488355328) (hbase : base ≤ w.heap.size)
    (h : ∀ v' w', w'.ownsRow base e 1 v' (n + str.size) (xs ++ bvals (nb str)) → w.grownBy w' v.ownBlock → wpList P ops Q rest (a.put o.dst v') w') : wpList P ops Q (o :: rest) a w := by
  refine wpList_plain hgd fun K hK => ?_
  obtain ⟨v', w', hrun, h1, h2, _⟩ := Go.Lib.run_append_own_string (P := P) w base t u o.type e i ht hu hi hz hsize hby v n xs hown str h63 hbytes hbase
  rw [strCells_bvals] at h1
  unfold Oper.wp
  simp [execOp, ho, resolve, invoke, builtin, hs, hx, hrun, Result.andThen]
  exact hK _ _ (h v' w' h1 h2)
theorem lit_bytes {w : World} {N : Nat} {bs : List Nat} {R : Array Value} {t : TypeId} {fr : Nat × Nat} (hg : w.heap[N]? = some (.cells R t fr)) (hR : (bvals bs).toArray = R) (hb : ∀ x ∈ bs, x < 256) (hl : bs.length ≤ maxLen) : BytesAt w (some ⟨N, 0, none⟩) bs := by
  subst hR
  refine ⟨.inr ⟨N, 0, rfl, fun i hi => ?_⟩, hb, hl⟩
  rw [cell_of_row _ _ _ _ _ _ hg, Nat.zero_add, List.getElem?_toArray]
  simp [bvals, hi]
theorem conv_lit (w : World) (C : Array Value) (n c : Nat) : (convert 68 68 (.slice (some ⟨w.heap.size, 0, none⟩) n c)).run Tryd.prog (w.alloc (.cells C 5)) = .ok (.slice (some ⟨w.heap.size, 0, none⟩) n c) (w.alloc (.cells C 5 (C.size, C.size + 1))) :=
  Go.Lib.run_convert_bytes_const w 68 5 C n c Tryd.underlying68 Tryd.underlying5
theorem lit_alloc {w : World} {bs : List Nat} {R : Array Value} {fr : Nat × Nat} (hR : (bvals bs).toArray = R) (hb : ∀ x ∈ bs, x < 256) (hl : bs.length ≤ maxLen) : BytesAt (w.alloc (.cells R 5 fr)) (some ⟨w.heap.size, 0, none⟩) bs :=
  lit_bytes (heap_alloc_new _ _) hR hb hl
theorem secretIn_lt (i : Nat) : ∀ x ∈ secretIn i, x < 256 := by
  intro x hx
  rcases List.mem_append.1 hx with h | h
  · have h2 : ∀ y ∈ secretB, y < 256 := by decide
    exact h2 x h
  · exact num_lt _ _ h
theorem secretIn_len {i : Nat} (h : i ≤ 999) : (secretIn i).length ≤ 8 := by
  unfold secretIn
  rw [List.length_append]
  have := num_len (n := i) (by omega)
  have : secretB.length = 6 := rfl
  omega
theorem appUint_l (a : Option Addr) (cap : Nat) (xs : List Nat) (L : Nat) (hL : xs.length = L) (hnil : a = none → cap = 0) (n : Nat) (hn : n < 18446744073709551616) (hl : xs.length ≤ 10000) (w : World) (hB : BytesAt w a xs) (DS : List Nat) (hDS : xs ++ num n = DS) :
    Calls Tryd.prog 74 #[.slice a L cap, .int .u64 (n : Int)] w fun e w' => ∃ v' c, e = .returned v' ∧ c = DS.length ∧ w'.ownsRow w.heap.size 5 1 v' c (bvals DS) ∧ Below w.heap.size w w' := by
  subst hL hDS
  exact appUint_any a cap xs hnil n hn hl w hB
theorem tag_l (key : ByteArray) (hk : key.size ≤ 64) (a : Option Addr) (cap : Nat) (xs : List Nat) (L : Nat) (hLe : xs.length = L) (hcap : xs.length ≤ cap) (hnil : a = none → cap = 0) (hl : xs.length ≤ 1000) (w : World) (hB : BytesAt w a xs) (hlt : ∀ ad, a = some ad → 0 < xs.length → ad.block < w.heap.size) (hL : Laid w) (T : List Nat) (hT : tag (nb key) xs = T) :
    Calls Tryd.prog 73 #[.string key, .slice a L cap] w fun e w' => ∃ u : ByteArray, e = .returned (.string u) ∧ nb u = T ∧ Below w.heap.size w w' := by
  subst hLe hT
  refine (tag_any key hk a cap xs hcap hnil hl w hB hlt hL).mono ?_
  rintro e w' ⟨bs, rfl, h1, h2⟩
  exact ⟨strB bs, rfl, by rw [h1]; exact nb_strB (Sha.sum_lt _), h2⟩
theorem own_bytes {w : World} {base n : Nat} {v : Value} {bs : List Nat} (h : w.ownsRow base 5 1 v n (bvals bs)) (hb : ∀ x ∈ bs, x < 256) (hm : bs.length ≤ maxLen) :
    ∃ a cap, v = .slice a n cap ∧ bs.length = n ∧ bs.length ≤ cap ∧ BytesAt w a bs ∧ (a = none → cap = 0) ∧ ∀ ad, a = some ad → base ≤ ad.block ∧ ad.block < w.heap.size := by
  obtain ⟨hn, a, cap, rfl, h1, h2, h3, h4⟩ := bytes_of_own h hb hm
  exact ⟨a, cap, by rw [hn], hn.symm, h1, h3, h4, fun ad e => by subst e; exact h.lt ad.block rfl⟩
set_option maxRecDepth 100000 in
set_option maxHeartbeats 1000000 in
theorem secret_ok (seed : ByteArray) (hs : seed.size = 32) (c : Nat) (hc : c ≤ 999) (w : World) (hL : Laid w) :
    Calls Tryd.prog 29 #[.string seed, .int .i64 (c : Int)] w fun e w' => ∃ u : ByteArray, e = .returned (.tuple #[.string u, .int .i64 0]) ∧ nb u = secret (nb seed) c ∧ Below w.heap.size w w' := by
  have HS : Hid (decide (seed.size = 32) = true) := Lib.hid (decide_eq_true hs)
  have HC : Hid (decide (0 ≤ (c : Int) ∧ (c : Int) ≤ 999) = true) := Lib.hid (decide_eq_true (by omega))
  have HK : Hid (seed.size ≤ 64) := Lib.hid (by omega)
  have HL := Lib.hid hL
  have HDB := Lib.hid (secretIn_lt c)
  have HDL := Lib.hid (secretIn_len hc)
  have HDE : Hid (secretB ++ num c = secretIn c) := rfl
  have HTE : Hid (tag (nb seed) (secretIn c) = secret (nb seed) c) := rfl
  obtain ⟨T, hT⟩ := ex_eq (secret (nb seed) c)
  obtain ⟨DS, hDS⟩ := ex_eq (secretIn c)
  rw [hDS, hT] at HTE
  rw [hDS] at HDB HDL HDE
  rw [hT]
  clear hL hs hT hDS
  have hcl := conv_lit w #[.int .u8 115, .int .u8 101, .int .u8 99, .int .u8 114, .int .u8 101, .int .u8 116] 6 6
  go_enter Tryd.func29, Tryd.ntmps29
  go_upto_region 3 with (first
    | (with_reducible refine (isSum_any seed _).mono ?_; rintro e w2 ⟨rfl, rfl⟩; rw [HS.out])
    | (with_reducible refine (validChain_any (c : Int) _).mono ?_; rintro e w2 ⟨rfl, rfl⟩; rw [HC.out]))
  have HLA : Hid (∀ fr, BytesAt (w.alloc (.cells #[.int .u8 115, .int .u8 101, .int .u8 99, .int .u8 114, .int .u8 101, .int .u8 116] 5 fr)) (some ⟨w.heap.size, 0, none⟩) secretB) := Lib.hid (fun fr => lit_alloc rfl (by decide) (by decide))
  go_wp2_with (first
    | (with_reducible refine (appUint_l (some ⟨w.heap.size, 0, none⟩) 6 secretB 6 rfl (fun e => by cases e) c (by omega) (by decide) _ (HLA.out _) DS HDE.out).mono ?_
       rintro e w3 ⟨v3, n3, rfl, hn3, h3, h4⟩
       have H4 : Hid (Below w.heap.size w w3) := Lib.hid (((Below.refl _ w).alloc (Nat.le_refl _) _).trans (h4.mono (by simp)))
       obtain ⟨a3, cp3, rfl, hl3, hc3, hB3, hnil3, hlt3⟩ := own_bytes h3 HDB.out (by have := HDL.out; unfold maxLen; omega)
       have HL3 := Lib.hid hl3
       have HC3 := Lib.hid hc3
       have HB3 := Lib.hid hB3
       have HN3 := Lib.hid hnil3
       have HLT3 := Lib.hid hlt3
       clear hn3 h3 h4 hl3 hc3 hB3 hnil3 hlt3)
    | (with_reducible refine (tag_l seed HK.out a3 cp3 DS n3 HL3.out HC3.out HN3.out (by have := HDL.out; omega) w3 HB3.out (fun ad e _ => (HLT3.out ad e).2) (HL.out.later H4.out (Nat.le_refl _)) T HTE.out).mono ?_
       rintro e w4 ⟨u, rfl, hu, h5⟩
       have HU := Lib.hid hu
       have H5 := Lib.hid (H4.out.trans (h5.mono H4.out.size))
       clear hu h5))
  go_ret2
  exact ⟨u, rfl, HU.out, H5.out⟩
theorem secret_bad (seed : ByteArray) (c : Int) (hb : ¬ (seed.size = 32 ∧ 0 ≤ c ∧ c ≤ 999)) (w : World) :
    Calls Tryd.prog 29 #[.string seed, .int .i64 c] w fun e w' => e = .returned (.tuple #[.string ByteArray.empty, .int .i64 1]) ∧ w = w' := by
  by_cases hs : seed.size = 32
  · have HS : Hid (decide (seed.size = 32) = true) := Lib.hid (decide_eq_true hs)
    have HC : Hid (decide (0 ≤ c ∧ c ≤ 999) = false) := Lib.hid (decide_eq_false (fun h => hb ⟨hs, h⟩))
    clear hb hs
    go_enter Tryd.func29, Tryd.ntmps29
    go_wp2_with (first
      | (with_reducible refine (isSum_any seed _).mono ?_; rintro e w2 ⟨rfl, rfl⟩; rw [HS.out])
      | (with_reducible refine (validChain_any c _).mono ?_; rintro e w2 ⟨rfl, rfl⟩; rw [HC.out]))
    go_ret2
    exact ⟨rfl, rfl⟩
  · have HS : Hid (decide (seed.size = 32) = false) := Lib.hid (decide_eq_false hs)
    clear hb hs
    go_enter Tryd.func29, Tryd.ntmps29
    go_wp2_with (first
      | (with_reducible refine (isSum_any seed _).mono ?_; rintro e w2 ⟨rfl, rfl⟩; rw [HS.out]))
    go_ret2
    exact ⟨rfl, rfl⟩
theorem sum_l (a : Option Addr) (cap : Nat) (xs : List Nat) (L : Nat) (hLe : xs.length = L) (hcap : xs.length ≤ cap) (hnil : a = none → cap = 0) (hl : xs.length ≤ 100000000000) (w : World) (hB : BytesAt w a xs) (hlt : ∀ ad, a = some ad → 0 < xs.length → ad.block < w.heap.size) (hL : Laid w) :
    Calls Tryd.prog 75 #[.slice a L cap] w fun e w' => ∃ u : ByteArray, e = .returned (.string u) ∧ nb u = Sha.sum xs ∧ Below w.heap.size w w' := by
  subst hLe
  refine (sum_any a cap xs hcap hnil hl w hB hlt hL.kon hL.init).mono ?_
  rintro e w' ⟨bs, rfl, h1, h2⟩
  exact ⟨strB bs, rfl, by rw [h1]; exact nb_strB (Sha.sum_lt _), h2⟩
theorem nb_size {u : ByteArray} {xs : List Nat} (h : nb u = xs) (hl : xs.length = 32) : u.size = 32 := by rw [← nb_length, h]; exact hl
theorem input_eq (i k : Nat) (x : List Nat) : (chainB ++ num i) ++ num k ++ x = input i k x := by unfold input; simp only [List.append_assoc]
theorem chainIn_lt (i : Nat) : ∀ x ∈ chainB ++ num i, x < 256 := by
  intro x hx
  rcases List.mem_append.1 hx with h | h
  · have h2 : ∀ y ∈ chainB, y < 256 := by decide
    exact h2 x h
  · exact num_lt _ _ h
theorem app_lt {xs ys : List Nat} (hx : ∀ x ∈ xs, x < 256) (hy : ∀ y ∈ ys, y < 256) : ∀ x ∈ xs ++ ys, x < 256 := fun x h => (List.mem_append.1 h).elim (hx x) (hy x)
set_option maxRecDepth 100000 in
set_option maxHeartbeats 2000000 in
theorem chain_ok (i j m : Nat) (hi : i ≤ 999) (hjm : j ≤ m) (hm : m ≤ 255) (x : ByteArray) (hx : x.size = 32) (w : World) (hL : Laid w) :
    Calls Tryd.prog 30 #[.int .i64 (i : Int), .int .i64 (j : Int), .int .i64 (m : Int), .string x] w fun e w' => ∃ u : ByteArray, e = .returned (.tuple #[.string u, .int .i64 0]) ∧ nb u = chain i j (m - j) (nb x) ∧ Below w.heap.size w w' := by
  have HS : Hid (decide (x.size = 32) = true) := Lib.hid (decide_eq_true hx)
  have HC : Hid (decide (0 ≤ (i : Int) ∧ (i : Int) ≤ 999) = true) := Lib.hid (decide_eq_true (by omega))
  have HL := Lib.hid hL
  have HX := Lib.hid hx
  have HDB := Lib.hid (chainIn_lt i)
  have HDL : Hid ((chainB ++ num i).length ≤ 7) := Lib.hid (by rw [List.length_append]; have := num_len (n := i) (by omega); have : chainB.length = 5 := rfl; omega)
  have HDE : Hid (chainB ++ num i = chainB ++ num i) := rfl
  obtain ⟨DS, hDS⟩ := ex_eq (chainB ++ num i)
  rw [hDS] at HDB HDL
  have HDS := Lib.hid hDS
  have HJM := Lib.hid hjm
  clear hL hx hDS HDE
  obtain ⟨i0, hi0, hz0, hz1, hz2⟩ := info_parts Tryd.info5
  have FI := Lib.hid hi0
  have FZ0 := Lib.hid hz0
  have FZ1 := Lib.hid hz1
  have FZ2 := Lib.hid hz2
  clear hi0 hz0 hz1 hz2
  have hcl := conv_lit w #[.int .u8 99, .int .u8 104, .int .u8 97, .int .u8 105, .int .u8 110] 5 5
  have hjm2 : ¬ (m : Int) < (j : Int) := by omega
  have hm2 : ¬ (255 : Int) < (m : Int) := by omega
  have hj0 : ¬ (j : Int) < 0 := by omega
  go_enter Tryd.func30, Tryd.ntmps30
  go_upto_region 3 with (first
    | (with_reducible refine (isSum_any x _).mono ?_; rintro e w2 ⟨rfl, rfl⟩; rw [HS.out])
    | (with_reducible refine (validChain_any (i : Int) _).mono ?_; rintro e w2 ⟨rfl, rfl⟩; rw [HC.out]))
  have HLA : Hid (∀ fr, BytesAt (w.alloc (.cells #[.int .u8 99, .int .u8 104, .int .u8 97, .int .u8 105, .int .u8 110] 5 fr)) (some ⟨w.heap.size, 0, none⟩) chainB) := Lib.hid (fun fr => lit_alloc rfl (by decide) (by decide))
  go_upto_region 4 with (first
    | (with_reducible refine (appUint_l (some ⟨w.heap.size, 0, none⟩) 5 chainB 5 rfl (fun e => by cases e) i (by omega) (by decide) _ (HLA.out _) DS HDS.out).mono ?_
       rintro e w3 ⟨v3, n3, rfl, hn3, h3, h4⟩
       have H4 : Hid (Below w.heap.size w w3) := Lib.hid (((Below.refl _ w).alloc (Nat.le_refl _) _).trans (h4.mono (by simp)))
       obtain ⟨a3, cp3, rfl, hl3, hc3, hB3, hnil3, hlt3⟩ := own_bytes h3 HDB.out (by have := HDL.out; unfold maxLen; omega)
       have HL3 := Lib.hid hl3
       have HC3 := Lib.hid hc3
       have HB3 := Lib.hid hB3
       have HN3 := Lib.hid hnil3
       clear hn3 h3 h4 hl3 hc3 hB3 hnil3 hlt3))
  clear hcl HLA
  go_wp2_with fail
  go_loopw [3, 11] (fun sx sk wr => ∃ (k : Nat) (u : ByteArray), j ≤ k ∧ k ≤ m ∧ sk = .int .i64 (k : Int) ∧ sx = .string u ∧ Hid (nb u = chain i j (k - j) (nb x)) ∧ Hid (u.size = 32) ∧ Hid (Below w.heap.size w wr) ∧ Hid (Below w3.heap.size w3 wr)) (fun _ sk _ => m - (intOf sk).toNat)
  case atStart => exact ⟨j, x, Nat.le_refl _, HJM.out, rfl, rfl, by show _ = _; rw [Nat.sub_self]; rfl, HX.out, H4.out, Below.refl _ _⟩
  case round =>
    obtain ⟨k, u, hjk, hkm, rfl, rfl, HU, HUS, HBE, HB3E⟩ := hrel
    by_cases hlt : k < m
    · have hki : (k : Int) < (m : Int) := by omega
      obtain ⟨DS2, hDS2⟩ := ex_eq (DS ++ num k)
      have HD2 := Lib.hid hDS2
      have HDL2 : Hid (DS2.length ≤ 9) := Lib.hid (by rw [← hDS2, List.length_append]; have := HDL.out; have := num_len (n := k) (by omega); omega)
      have HDB2 : Hid (∀ y ∈ DS2, y < 256) := Lib.hid (by rw [← hDS2]; exact app_lt HDB.out (num_lt k))
      have HIN : Hid (DS2 ++ nb u = input i k (nb u)) := Lib.hid (by rw [← hDS2, ← HDS.out]; exact input_eq i k (nb u))
      have HCH : Hid (chain i j (k + 1 - j) (nb x) = Sha.sum (input i k (nb u))) := Lib.hid (by
        rw [show k + 1 - j = (k - j) + 1 by omega, chain_succ, show j + (k - j) = k by omega, HU.out])
      clear hDS2
      go_upto_region 6 with (first
        | (with_reducible refine (appUint_l a3 cp3 DS n3 HL3.out HN3.out k (by omega) (by have := HDL.out; omega) _ (HB3.out.later HB3E.out) DS2 HD2.out).mono ?_
           rintro e w5 ⟨v5, n5, rfl, hn5, h5, h6⟩
           have HN5 : Hid (n5 ≤ 9) := Lib.hid (by rw [hn5]; exact HDL2.out)
           have HO5 := Lib.hid h5
           have H6 := Lib.hid h6
           clear hn5 h5 h6)
        | (at_builtin
           refine wpList_append_str rfl (.tmp 47) (.tmp 48) 68 9 rfl wr.heap.size 5 i0 Tryd.underlying68 Tryd.underlying9 FI.out FZ0.out FZ1.out FZ2.out _ _ _ (by rfl) HO5.out u (by rfl) (by have := HN5.out; have := HUS.out; unfold maxLen; omega) (by have := HN5.out; have := HUS.out; omega) H6.out.size ?_
           intro v6 w6 hown6 hgr6
           rw [← bvals_append, HIN.out] at hown6
           have HC6 : Hid (Chg (fun q _ => wr.heap.size ≤ q) w5 w6) := Lib.hid (Chg.of_grown hgr6 (fun q _ e => (HO5.out.lt q e).1))
           obtain ⟨a6, cp6, rfl, hl6, hc6, hB6, hnil6, hlt6⟩ := own_bytes hown6 (by rw [← HIN.out]; exact app_lt HDB2.out (nb_lt u)) (by rw [← HIN.out, List.length_append, nb_length]; have := HDL2.out; have := HUS.out; unfold maxLen; omega)
           have HL6 := Lib.hid hl6
           have HCP6 := Lib.hid hc6
           have HB6 := Lib.hid hB6
           have HN6 := Lib.hid hnil6
           have HLT6 := Lib.hid hlt6
           have HBE6 : Hid (Below wr.heap.size wr w6) := Lib.hid (H6.out.trans (HC6.out.below H6.out.size (fun q i hq h => by omega)))
           clear hl6 hc6 hB6 hnil6 hlt6 hown6 hgr6
           obtain ⟨n6, hn6⟩ := ex_eq (n5 + u.size)
           rw [hn6] at HL6 ⊢
           clear hn6)
        | (with_reducible refine (sum_l a6 cp6 (input i k (nb u)) n6 HL6.out HCP6.out HN6.out (by rw [← HIN.out, List.length_append, nb_length]; have := HDL2.out; have := HUS.out; omega) w6 HB6.out (fun ad e _ => (HLT6.out ad e).2) (HL.out.later (HBE.out.trans (HBE6.out.mono HBE.out.size)) (Nat.le_refl _))).mono ?_
           rintro e w7 ⟨u7, rfl, hu7, h7⟩
           have HU7 := Lib.hid hu7
           have HB7 : Hid (Below wr.heap.size wr w7) := Lib.hid (HBE6.out.trans (h7.mono HBE6.out.size))
           clear hu7 h7))
      go_wp2_with fail
      go_roundw
      case rel => exact ⟨k + 1, u7, by omega, by omega, by go_num, rfl, by show _ = _; rw [HU7.out, HCH.out], Lib.hid (nb_size HU7.out (Sha.sum_length _)), HBE.out.trans (HB7.out.mono HBE.out.size), HB3E.out.trans (HB7.out.mono HB3E.out.size)⟩
      case measure => simp [intOf]; omega
    · have hke : k = m := by omega
      have hki : ¬ (k : Int) < (m : Int) := by omega
      have HKE := Lib.hid hke
      clear hke
      go_wp2_with fail
      go_ret2
      exact ⟨u, rfl, by rw [HU.out, HKE.out], HBE.out⟩
end Go.Proofs.YtmnendoloankgaaDoor

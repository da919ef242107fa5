/- Texts Tsf, Tsv, Tpn, Tpu, Tlw, Tpr, Tps of the proof, each as a section; no premises beyond those that each theorem states. -/
import Derived.Shelf.Small.Strs
import Derived.Shelf.Small.Wraps
import Derived.Shelf.Strings.Search1
import Derived.Shelf.Strings.LastIndexAll
import Derived.Shelf.Strings.Prefix
import Derived.Shelf.Strings.Split
import Derived.Shelf.Bytes.SlClone
import Derived.Ground.SlbCloneProg
import Derived.Shelf.Bytes.SlEqualAll
import Derived.Shelf.Bytes.Small
import Derived.Test.YtmcbnhkcjhlbaaaGreatDoorRows
import Derived.Shelf.Unicode.ValidAny
import Derived.Lib.SplitLaws
import Derived.Lib.ValidU
import Derived.Lib.LastIndexLaws
import Derived.Lib.Strings
import Derived.Lib.ValidLaws
import Derived.Lib.MapLaws
import Derived.Lib.RuneCountTail
import Derived.Lib.OthersKept
import Derived.Laws.Runes
import Derived.Laws.RangeAny
import Derived.Laws.Cover4
import Derived.Test.YtmcbnhkcjhlbaaaGreatDoorP05
import Derived.Test.YtmcbnhkcjhlbaaaGreatDoorP06
set_option linter.unusedVariables false
set_option linter.unusedSimpArgs false
section
namespace Go.Proofs.YtmcbnhkcjhlbaaaGreatDoor
open Go.Shelf
def lays137_ren : Go.Shelf.Ren := ⟨fun | 137 => 141 | 217 => 182 | 266 => 212 | n => n, fun | 9 => 9 | 5 => 5 | 3 => 3 | n => n, fun | n => n⟩
theorem lays137 : Go.Proofs.Lays.n137 Tryz.prog lays137_ren := {
  mixed := by kernel_rfl
  f137 := Tryz.func141.trans (congrArg some (by kernel_rfl))
  f217 := Tryz.func182.trans (congrArg some (by kernel_rfl))
  f266 := Tryz.func212.trans (congrArg some (by kernel_rfl))
  t3 := Tryz.underlying3
  a3 := Tryz.isAgg3
  z3 := Tryz.sizeOf3
  v3 := Tryz.zeroValue3
  t5 := Tryz.underlying5
  a5 := Tryz.isAgg5
  z5 := Tryz.sizeOf5
  v5 := Tryz.zeroValue5
  t9 := Tryz.underlying9
  a9 := Tryz.isAgg9
  z9 := Tryz.sizeOf9
  v9 := Tryz.zeroValue9 }
open Go.RowKit in
theorem strings_IndexByte (s : ByteArray) (c : Int) (w : World) :
    Calls Tryz.prog 141 #[.string s, .int .u8 c] w fun e w' => e = .returned (.int .i64 (Lib.indexByte s.data.toList c.toNat.toUInt8)) ∧ w' = w := Any.strings_IndexByte lays137 s c w
def lays122_ren : Go.Shelf.Ren := ⟨fun | 122 => 96 | 215 => 142 | n => n, fun | 3 => 3 | 4 => 4 | n => n, fun | n => n⟩
theorem lays122 : Go.Proofs.Lays.n122 Tryz.prog lays122_ren := {
  mixed := by kernel_rfl
  f122 := Tryz.func96.trans (congrArg some (by kernel_rfl))
  f215 := Tryz.func142.trans (congrArg some (by kernel_rfl))
  t3 := Tryz.underlying3
  a3 := Tryz.isAgg3
  z3 := Tryz.sizeOf3
  v3 := Tryz.zeroValue3
  t4 := Tryz.underlying4
  a4 := Tryz.isAgg4
  z4 := Tryz.sizeOf4
  v4 := Tryz.zeroValue4 }
open Go.RowKit in
theorem cmp_Compare_int (x y : Int) (w : World) :
    Calls Tryz.prog 96 #[.int .i64 x, .int .i64 y] w fun e w' => e = .returned (.int .i64 (Lib.compareInt x y)) ∧ w' = w := Any.cmp_Compare_int lays122 x y w
def lays144_ren : Go.Shelf.Ren := ⟨fun | 144 => 102 | 143 => 146 | 219 => 187 | 217 => 182 | 225 => 214 | 224 => 215 | 267 => 216 | 266 => 212 | 314 => 230 | n => n, fun | 9 => 9 | 4 => 4 | 3 => 3 | 5 => 5 | 46 => 173 | 146 => 272 | 51 => 169 | n => n, fun | 1 => 3 | n => n⟩
theorem lays144 : Go.Proofs.Lays.n144 Tryz.prog lays144_ren := {
  mixed := by kernel_rfl
  f143 := Tryz.func146.trans (congrArg some (by kernel_rfl))
  f144 := Tryz.func102.trans (congrArg some (by kernel_rfl))
  f217 := Tryz.func182.trans (congrArg some (by kernel_rfl))
  f219 := Tryz.func187.trans (congrArg some (by kernel_rfl))
  f224 := Tryz.func215.trans (congrArg some (by kernel_rfl))
  f225 := Tryz.func214.trans (congrArg some (by kernel_rfl))
  f266 := Tryz.func212.trans (congrArg some (by kernel_rfl))
  f267 := Tryz.func216.trans (congrArg some (by kernel_rfl))
  f314 := Tryz.func230.trans (congrArg some (by kernel_rfl))
  t3 := Tryz.underlying3
  a3 := Tryz.isAgg3
  z3 := Tryz.sizeOf3
  v3 := Tryz.zeroValue3
  t4 := Tryz.underlying4
  a4 := Tryz.isAgg4
  z4 := Tryz.sizeOf4
  v4 := Tryz.zeroValue4
  t5 := Tryz.underlying5
  a5 := Tryz.isAgg5
  z5 := Tryz.sizeOf5
  v5 := Tryz.zeroValue5
  t9 := Tryz.underlying9
  a9 := Tryz.isAgg9
  z9 := Tryz.sizeOf9
  v9 := Tryz.zeroValue9
  t46 := Tryz.underlying173
  a46 := Tryz.isAgg173
  z46 := Tryz.sizeOf173
  v46 := Tryz.zeroValue173
  t51 := Tryz.underlying169
  a51 := Tryz.isAgg169
  z51 := Tryz.sizeOf169
  v51 := Tryz.zeroValue169
  t146 := Tryz.underlying272
  a146 := Tryz.isAgg272
  z146 := Tryz.sizeOf272
  v146 := Tryz.zeroValue272
  g1 := by kernel_rfl }
open Go.RowKit Go.Lib in
theorem strings_Contains_one (s : ByteArray) (c : UInt8) (w : World) :
    Calls Tryz.prog 102 #[.string s, .string ⟨#[c]⟩] w fun e w' => e = .returned (.bool (decide (0 ≤ Lib.indexByte s.data.toList c))) ∧ w' = w := Any.strings_Contains_one lays144 s c w
def lays148_ren : Go.Shelf.Ren := ⟨fun | 148 => 71 | 222 => 116 | 223 => 117 | 269 => 161 | n => n, fun | 9 => 9 | 3 => 3 | 4 => 4 | 5 => 5 | 146 => 272 | 51 => 169 | 46 => 173 | n => n, fun | n => n⟩
theorem lays148 : Go.Proofs.Lays.n148 Tryz.prog lays148_ren := {
  mixed := by kernel_rfl
  f148 := Tryz.func71.trans (congrArg some (by kernel_rfl))
  f222 := Tryz.func116.trans (congrArg some (by kernel_rfl))
  f223 := Tryz.func117.trans (congrArg some (by kernel_rfl))
  f269 := Tryz.func161.trans (congrArg some (by kernel_rfl))
  t3 := Tryz.underlying3
  a3 := Tryz.isAgg3
  z3 := Tryz.sizeOf3
  v3 := Tryz.zeroValue3
  t4 := Tryz.underlying4
  a4 := Tryz.isAgg4
  z4 := Tryz.sizeOf4
  v4 := Tryz.zeroValue4
  t5 := Tryz.underlying5
  a5 := Tryz.isAgg5
  z5 := Tryz.sizeOf5
  v5 := Tryz.zeroValue5
  t9 := Tryz.underlying9
  a9 := Tryz.isAgg9
  z9 := Tryz.sizeOf9
  v9 := Tryz.zeroValue9
  t46 := Tryz.underlying173
  a46 := Tryz.isAgg173
  z46 := Tryz.sizeOf173
  v46 := Tryz.zeroValue173
  t51 := Tryz.underlying169
  a51 := Tryz.isAgg169
  z51 := Tryz.sizeOf169
  v51 := Tryz.zeroValue169
  t146 := Tryz.underlying272
  a146 := Tryz.isAgg272
  z146 := Tryz.sizeOf272
  v146 := Tryz.zeroValue272 }
open Go.RowKit Go.Lib in
theorem strings_LastIndex (s sub : ByteArray) (hs : s.size < 4611686018427387904) (w : World) :
    Calls Tryz.prog 71 #[.string s, .string sub] w fun e w' => e = .returned (.int .i64 (Lib.lastIndex s.data.toList sub.data.toList)) ∧ w' = w := Any.strings_LastIndex lays148 s sub hs w
def lays99_ren : Go.Shelf.Ren := ⟨fun | 99 => 59 | 206 => 99 | n => n, fun | 9 => 9 | 4 => 4 | 3 => 3 | n => n, fun | n => n⟩
def lays101_ren : Go.Shelf.Ren := ⟨fun | 101 => 118 | 208 => 162 | 206 => 99 | n => n, fun | 9 => 9 | 4 => 4 | 3 => 3 | n => n, fun | n => n⟩
theorem lays101 : Go.Proofs.Lays.n101 Tryz.prog lays101_ren := {
  mixed := by kernel_rfl
  f101 := Tryz.func118.trans (congrArg some (by kernel_rfl))
  f206 := Tryz.func99.trans (congrArg some (by kernel_rfl))
  f208 := Tryz.func162.trans (congrArg some (by kernel_rfl))
  t3 := Tryz.underlying3
  a3 := Tryz.isAgg3
  z3 := Tryz.sizeOf3
  v3 := Tryz.zeroValue3
  t4 := Tryz.underlying4
  a4 := Tryz.isAgg4
  z4 := Tryz.sizeOf4
  v4 := Tryz.zeroValue4
  t9 := Tryz.underlying9
  a9 := Tryz.isAgg9
  z9 := Tryz.sizeOf9
  v9 := Tryz.zeroValue9 }
open Go.RowKit Go.Lib in
theorem strings_TrimPrefix (s p : ByteArray) (w : World) :
    Calls Tryz.prog 118 #[.string s, .string p] w fun e w' => e = .returned (.string ⟨(Lib.trimPrefix s.data.toList p.data.toList).toArray⟩) ∧ w' = w := Any.strings_TrimPrefix lays101 s p w
def lays146_ren : Go.Shelf.Ren := ⟨fun | 146 => 58 | 221 => 98 | 268 => 144 | 138 => 145 | 143 => 146 | 195 => 184 | 197 => 185 | 218 => 186 | 219 => 187 | 260 => 213 | 217 => 182 | 225 => 214 | 224 => 215 | 267 => 216 | 266 => 212 | 314 => 230 | n => n, fun | 9 => 9 | 31 => 130 | 3 => 3 | 4 => 4 | 0 => 0 | 105 => 292 | 21 => 21 | 5 => 5 | 46 => 173 | 119 => 314 | 139 => 317 | 138 => 316 | 146 => 272 | 51 => 169 | n => n, fun | 1 => 3 | 3 => 5 | 4 => 6 | n => n⟩
theorem lays146 : Go.Proofs.Lays.n146 Tryz.prog lays146_ren := {
  mixed := by kernel_rfl
  f138 := Tryz.func145.trans (congrArg some (by kernel_rfl))
  f143 := Tryz.func146.trans (congrArg some (by kernel_rfl))
  f146 := Tryz.func58.trans (congrArg some (by kernel_rfl))
  f195 := Tryz.func184.trans (congrArg some (by kernel_rfl))
  f197 := Tryz.func185.trans (congrArg some (by kernel_rfl))
  f217 := Tryz.func182.trans (congrArg some (by kernel_rfl))
  f218 := Tryz.func186.trans (congrArg some (by kernel_rfl))
  f219 := Tryz.func187.trans (congrArg some (by kernel_rfl))
  f221 := Tryz.func98.trans (congrArg some (by kernel_rfl))
  f224 := Tryz.func215.trans (congrArg some (by kernel_rfl))
  f225 := Tryz.func214.trans (congrArg some (by kernel_rfl))
  f260 := Tryz.func213.trans (congrArg some (by kernel_rfl))
  f266 := Tryz.func212.trans (congrArg some (by kernel_rfl))
  f267 := Tryz.func216.trans (congrArg some (by kernel_rfl))
  f268 := Tryz.func144.trans (congrArg some (by kernel_rfl))
  f314 := Tryz.func230.trans (congrArg some (by kernel_rfl))
  t0 := Tryz.underlying0
  a0 := Tryz.isAgg0
  z0 := Tryz.sizeOf0
  v0 := Tryz.zeroValue0
  t3 := Tryz.underlying3
  a3 := Tryz.isAgg3
  z3 := Tryz.sizeOf3
  v3 := Tryz.zeroValue3
  t4 := Tryz.underlying4
  a4 := Tryz.isAgg4
  z4 := Tryz.sizeOf4
  v4 := Tryz.zeroValue4
  t5 := Tryz.underlying5
  a5 := Tryz.isAgg5
  z5 := Tryz.sizeOf5
  v5 := Tryz.zeroValue5
  t9 := Tryz.underlying9
  a9 := Tryz.isAgg9
  z9 := Tryz.sizeOf9
  v9 := Tryz.zeroValue9
  t21 := Tryz.underlying21
  a21 := Tryz.isAgg21
  z21 := Tryz.sizeOf21
  v21 := Tryz.zeroValue21
  t31 := Tryz.underlying130
  a31 := Tryz.isAgg130
  z31 := Tryz.sizeOf130
  v31 := Tryz.zeroValue130
  t46 := Tryz.underlying173
  a46 := Tryz.isAgg173
  z46 := Tryz.sizeOf173
  v46 := Tryz.zeroValue173
  t51 := Tryz.underlying169
  a51 := Tryz.isAgg169
  z51 := Tryz.sizeOf169
  v51 := Tryz.zeroValue169
  t105 := Tryz.underlying292
  a105 := Tryz.isAgg292
  z105 := Tryz.sizeOf292
  v105 := Tryz.zeroValue292
  t119 := Tryz.underlying314
  a119 := Tryz.isAgg314
  z119 := Tryz.sizeOf314
  t138 := Tryz.underlying316
  a138 := Tryz.isAgg316
  z138 := Tryz.sizeOf316
  v138 := Tryz.zeroValue316
  t139 := Tryz.underlying317
  a139 := Tryz.isAgg317
  z139 := Tryz.sizeOf317
  v139 := Tryz.zeroValue317
  t146 := Tryz.underlying272
  a146 := Tryz.isAgg272
  z146 := Tryz.sizeOf272
  v146 := Tryz.zeroValue272
  g1 := by kernel_rfl
  g3 := by kernel_rfl
  g4 := by kernel_rfl }
open Go.RowKit Go.Lib in
theorem strings_Split (s sep : ByteArray) (m : Int) (w : World) (hs : s.size < 4294967281) (hm : w.cell? ⟨3, 0, none⟩ = some (.int .i64 m)) (h1 : 1 ≤ sep.size) :
    Calls Tryz.prog 58 #[.string s, .string sep] w fun e w' =>
      e = .returned (.slice (some ⟨w.heap.size, 0, none⟩) (Lib.countB s sep + 1) (Lib.countB s sep + 1)) ∧ w' = w.alloc (.cells ((Lib.splitB sep 0 (Lib.countB s sep) s).map Value.string).toArray 9) := Any.strings_Split lays146 (by kernel_rfl) s sep m w hs hm h1
def laysSlK4_ren : Go.Shelf.Ren := ⟨fun | 4 => 35 | n => n, fun | 22 => 52 | 4 => 4 | 5 => 5 | n => n, fun | n => n⟩
theorem laysSlK4 : Go.Proofs.SlLaysK.n4 Tryz.prog laysSlK4_ren := {
  mixed := by kernel_rfl
  f4 := Tryz.func35.trans (congrArg some (by kernel_rfl))
  t4 := Tryz.underlying4
  a4 := Tryz.isAgg4
  z4 := Tryz.sizeOf4
  v4 := Tryz.zeroValue4
  t22 := Tryz.underlying52
  a22 := Tryz.isAgg52
  z22 := Tryz.sizeOf52
  v22 := Tryz.zeroValue52
  t5 := Tryz.underlying5
  i5 := by kernel_rfl }
open Go.RowKit Go.Lib in
theorem bytes_Clone_at (a : Addr) (n c : Nat) (xs : List Int) (w : World) (hx : xs.length = n) (hbig : n ≤ 140737488355328) (hc : ∀ i, i < n → w.cell? (a.add i) = some (.int .u8 (xs.getD i 0))) :
    Calls Tryz.prog 35 #[.slice (some a) n c] w fun e w' => ∃ v', e = .returned v' ∧ w'.ownsRow w.heap.size 5 1 v' n (xs.map (Value.int .u8)) ∧ v' ≠ .slice none 0 0 ∧ Below w.heap.size w w' := Any.bytes_Clone_at laysSlK4 a n c xs w hx hbig hc
open Go.RowKit Go.Lib in
theorem bytes_Clone_nil (n c : Nat) (w : World) :
    Calls Tryz.prog 35 #[.slice none n c] w fun e w' => e = .returned (.slice none 0 0) ∧ w' = w := Any.bytes_Clone_nil laysSlK4 n c w
end Go.Proofs.YtmcbnhkcjhlbaaaGreatDoor
end
section
namespace Go.Proofs.YtmcbnhkcjhlbaaaGreatDoor
open Go.Shelf
def lays196_ren : Go.Shelf.Ren := ⟨fun | 196 => 189 | 259 => 217 | n => n, fun | 9 => 9 | 4 => 4 | 3 => 3 | 5 => 5 | 12 => 12 | 119 => 314 | 0 => 0 | 46 => 173 | 139 => 317 | 138 => 316 | 53 => 23 | n => n, fun | 3 => 5 | 4 => 6 | n => n⟩
theorem lays196 : Go.Proofs.Lays.n196 Tryz.prog lays196_ren := {
  mixed := by kernel_rfl
  f196 := Tryz.func189.trans (congrArg some (by kernel_rfl))
  f259 := Tryz.func217.trans (congrArg some (by kernel_rfl))
  t0 := Tryz.underlying0
  a0 := Tryz.isAgg0
  z0 := Tryz.sizeOf0
  v0 := Tryz.zeroValue0
  t3 := Tryz.underlying3
  a3 := Tryz.isAgg3
  z3 := Tryz.sizeOf3
  v3 := Tryz.zeroValue3
  t4 := Tryz.underlying4
  a4 := Tryz.isAgg4
  z4 := Tryz.sizeOf4
  v4 := Tryz.zeroValue4
  t5 := Tryz.underlying5
  a5 := Tryz.isAgg5
  z5 := Tryz.sizeOf5
  v5 := Tryz.zeroValue5
  t9 := Tryz.underlying9
  a9 := Tryz.isAgg9
  z9 := Tryz.sizeOf9
  v9 := Tryz.zeroValue9
  t12 := Tryz.underlying12
  a12 := Tryz.isAgg12
  z12 := Tryz.sizeOf12
  v12 := Tryz.zeroValue12
  t46 := Tryz.underlying173
  a46 := Tryz.isAgg173
  z46 := Tryz.sizeOf173
  v46 := Tryz.zeroValue173
  t53 := Tryz.underlying23
  a53 := Tryz.isAgg23
  z53 := Tryz.sizeOf23
  v53 := Tryz.zeroValue23
  t119 := Tryz.underlying314
  a119 := Tryz.isAgg314
  z119 := Tryz.sizeOf314
  t138 := Tryz.underlying316
  a138 := Tryz.isAgg316
  z138 := Tryz.sizeOf316
  v138 := Tryz.zeroValue316
  t139 := Tryz.underlying317
  a139 := Tryz.isAgg317
  z139 := Tryz.sizeOf317
  v139 := Tryz.zeroValue317
  g3 := by kernel_rfl
  g4 := by kernel_rfl }
open Go.RowKit Go.Lib in
theorem utf8_ValidString (s : ByteArray) (w : World) (hs : s.size ≤ 9223372036854775807) (hT : Lib.Utf8Tabs 5 6 w) :
    Calls Tryz.prog 189 #[.string s] w fun e w' => e = .returned (.bool (Lib.validD s.data.toList)) ∧ Below w.heap.size w w' := Any.utf8_ValidString lays196 s w hs hT

end Go.Proofs.YtmcbnhkcjhlbaaaGreatDoor
end
section
namespace Go.Proofs.YtmcbnhkcjhlbaaaGreatDoor.Tp

abbrev Bs := List UInt8
def cutS : Bs → List Bs
  | [] => [[]]
  | c :: l => if c = 47 then [] :: cutS l else match cutS l with
    | p :: ps => (c :: p) :: ps
    | [] => [[c]]
theorem cutS_ne (l : Bs) : cutS l ≠ [] := by
  cases l with
  | nil => simp [cutS]
  | cons c l =>
    unfold cutS
    split
    · simp
    · split <;> simp
theorem cutS_app : ∀ (a : Bs), 47 ∉ a → ∀ b, cutS (a ++ 47 :: b) = a :: cutS b
  | [], _, b => by simp [cutS]
  | c :: a, h, b => by
    have hc : c ≠ 47 := fun e => h (by rw [e]; simp)
    have ha : 47 ∉ a := fun e => h (List.mem_cons_of_mem _ e)
    rw [List.cons_append, cutS, if_neg hc, cutS_app a ha b]
theorem cutS_one : ∀ (a : Bs), 47 ∉ a → cutS a = [a]
  | [], _ => rfl
  | c :: a, h => by
    have hc : c ≠ 47 := fun e => h (by rw [e]; simp)
    have ha : 47 ∉ a := fun e => h (List.mem_cons_of_mem _ e)
    rw [cutS, if_neg hc, cutS_one a ha]
theorem cutS_free : ∀ (l : Bs), ∀ p ∈ cutS l, 47 ∉ p
  | [], p, hp => by simp [cutS] at hp; rw [hp]; simp
  | c :: l, p, hp => by
    have ih := cutS_free l
    unfold cutS at hp
    split at hp
    · rcases List.mem_cons.1 hp with e | e
      · rw [e]; simp
      · exact ih p e
    · rename_i hc
      split at hp
      · rename_i q qs hq
        rcases List.mem_cons.1 hp with e | e
        · rw [e]
          intro h
          rcases List.mem_cons.1 h with h | h
          · exact hc h.symm
          · exact ih q (by rw [hq]; simp) h
        · exact ih p (by rw [hq]; exact List.mem_cons_of_mem _ e)
      · rename_i hq
        exact absurd hq (cutS_ne l)
theorem cutS_split (l : Bs) : (47 ∉ l ∧ cutS l = [l]) ∨ ∃ a b, l = a ++ 47 :: b ∧ 47 ∉ a ∧ cutS l = a :: cutS b := by
  by_cases h : 47 ∈ l
  · obtain ⟨a, b, rfl, ha⟩ := List.eq_append_cons_of_mem h
    exact .inr ⟨a, b, rfl, ha, cutS_app a ha b⟩
  · exact .inl ⟨h, cutS_one l h⟩
theorem cutS_length : ∀ (l : Bs), (cutS l).length = l.count 47 + 1
  | [] => rfl
  | c :: l => by
    have ih := cutS_length l
    unfold cutS
    split
    · rename_i h
      rw [List.length_cons, ih, h, List.count_cons_self]
    · rename_i h
      rw [List.count_cons_of_ne (by simpa using h)]
      split
      · rename_i q qs hq
        rw [hq] at ih
        simpa using ih
      · rename_i hq
        exact absurd hq (cutS_ne l)
theorem cutS_le : ∀ (l : Bs), ∀ p ∈ cutS l, p.length ≤ l.length
  | [], p, hp => by simp [cutS] at hp; rw [hp]; simp
  | c :: l, p, hp => by
    have ih := cutS_le l
    unfold cutS at hp
    split at hp
    · rcases List.mem_cons.1 hp with e | e
      · rw [e]; simp
      · have := ih p e; simp; omega
    · split at hp
      · rename_i q qs hq
        rcases List.mem_cons.1 hp with e | e
        · rw [e]
          have := ih q (by rw [hq]; simp)
          simpa using this
        · have := ih p (by rw [hq]; exact List.mem_cons_of_mem _ e)
          simp; omega
      · rename_i hq
        exact absurd hq (cutS_ne l)
def joinP : List Bs → Bs
  | [] => []
  | [p] => p
  | p :: q :: ps => p ++ 47 :: joinP (q :: ps)
theorem joinP_cons (p : Bs) (ps : List Bs) (h : ps ≠ []) : joinP (p :: ps) = p ++ 47 :: joinP ps := by
  cases ps with
  | nil => exact absurd rfl h
  | cons q ps => rfl
theorem joinP_cutS : ∀ (n : Nat) (l : Bs), l.length ≤ n → joinP (cutS l) = l
  | 0, l, h => by
    have : l = [] := List.eq_nil_of_length_eq_zero (by omega)
    rw [this]; rfl
  | n + 1, l, h => by
    rcases cutS_split l with ⟨_, e⟩ | ⟨a, b, rfl, ha, e⟩
    · rw [e]; rfl
    · rw [e, joinP_cons _ _ (cutS_ne b), joinP_cutS n b (by simp at h; omega)]
theorem joinP_snoc (ps : List Bs) (p : Bs) (h : ps ≠ []) : joinP (ps ++ [p]) = joinP ps ++ 47 :: p := by
  induction ps with
  | nil => exact absurd rfl h
  | cons q ps ih =>
    cases ps with
    | nil => rfl
    | cons r ps =>
      have h1 := ih (by simp)
      rw [List.cons_append, joinP_cons q _ (by simp), joinP_cons q (r :: ps) (by simp), h1]
      simp
def parP (l : Bs) : Bs := joinP (cutS l).dropLast
def lastP (l : Bs) : Bs := (cutS l).getLast (cutS_ne l)
theorem par_last (l : Bs) : ((cutS l).dropLast = [] ∧ l = lastP l) ∨ ((cutS l).dropLast ≠ [] ∧ l = parP l ++ 47 :: lastP l) := by
  have h1 : (cutS l).dropLast ++ [lastP l] = cutS l := List.dropLast_concat_getLast (cutS_ne l)
  have h2 := joinP_cutS l.length l (Nat.le_refl _)
  by_cases h : (cutS l).dropLast = []
  · refine .inl ⟨h, ?_⟩
    rw [h, List.nil_append] at h1
    rw [← h1] at h2
    exact h2.symm
  · refine .inr ⟨h, ?_⟩
    rw [← h1, joinP_snoc _ _ h] at h2
    exact h2.symm
theorem lastP_free (l : Bs) : 47 ∉ lastP l := cutS_free l _ (List.getLast_mem _)
structure CompP (l : Bs) : Prop where
  ne : l ≠ []
  dot : l ≠ [46]
  dots : l ≠ [46, 46]
  len : l.length ≤ 64
  low : ∀ c ∈ l, 32 ≤ c.toNat
  utf : Lib.validD l = true
structure VP (l : Bs) : Prop where
  lev : (cutS l).length ≤ 16
  len : l.length ≤ 512
  comp : ∀ p ∈ cutS l, CompP p
theorem VP.ne {l : Bs} (h : VP l) : l ≠ [] := fun e => by
  subst e
  exact (h.comp [] (by simp [cutS])).ne rfl
theorem VP.last {l : Bs} (h : VP l) : CompP (lastP l) := h.comp _ (List.getLast_mem _)
theorem joinP_ne {ps : List Bs} (h : ps ≠ []) (hc : ∀ p ∈ ps, p ≠ []) : joinP ps ≠ [] := by
  cases ps with
  | nil => exact absurd rfl h
  | cons p ps =>
    cases ps with
    | nil => exact hc p (by simp)
    | cons q ps => simp [joinP]
theorem VP.par {l : Bs} (h : VP l) : (parP l = [] ∧ l = lastP l ∧ cutS l = [l]) ∨ (parP l ≠ [] ∧ l = parP l ++ 47 :: lastP l) := by
  rcases par_last l with ⟨h1, h2⟩ | ⟨h1, h2⟩
  · refine .inl ⟨by unfold parP; rw [h1]; rfl, h2, ?_⟩
    have h3 : (cutS l).dropLast ++ [lastP l] = cutS l := List.dropLast_concat_getLast (cutS_ne l)
    rw [h1, List.nil_append, ← h2] at h3
    exact h3.symm
  · exact .inr ⟨joinP_ne h1 (fun p hp => (h.comp p (List.dropLast_subset _ hp)).ne), h2⟩
/-! ### The order -/
def rk (c : UInt8) : Int := if c = 47 then -1 else c.toNat
def cmpP : Bs → Bs → Int
  | [], [] => 0
  | [], _ :: _ => -1
  | _ :: _, [] => 1
  | a :: l, b :: m => if a = b then cmpP l m else if rk a < rk b then -1 else 1
theorem rk_inj {a b : UInt8} (h : rk a = rk b) : a = b := by
  unfold rk at h
  split at h <;> split at h
  · simp_all
  · omega
  · omega
  · exact UInt8.toNat_inj.1 (by omega)
theorem cmpP_self : ∀ l, cmpP l l = 0
  | [] => rfl
  | a :: l => by rw [cmpP, if_pos rfl]; exact cmpP_self l
theorem cmpP_eq : ∀ {l m : Bs}, cmpP l m = 0 → l = m
  | [], [], _ => rfl
  | [], _ :: _, h => by simp [cmpP] at h
  | _ :: _, [], h => by simp [cmpP] at h
  | a :: l, b :: m, h => by
    unfold cmpP at h
    split at h
    · rename_i e
      rw [e, cmpP_eq h]
    · split at h <;> omega
theorem cmpP_anti : ∀ (l m : Bs), cmpP m l = - cmpP l m
  | [], [] => rfl
  | [], _ :: _ => rfl
  | _ :: _, [] => rfl
  | a :: l, b :: m => by
    by_cases e : a = b
    · subst e
      simp only [cmpP, if_true]
      exact cmpP_anti l m
    · have h1 : rk a ≠ rk b := fun h => e (rk_inj h)
      simp only [cmpP, if_neg e, if_neg (Ne.symm e)]
      split <;> split <;> omega
theorem cmpP_range : ∀ (l m : Bs), cmpP l m = -1 ∨ cmpP l m = 0 ∨ cmpP l m = 1
  | [], [] => .inr (.inl rfl)
  | [], _ :: _ => .inl rfl
  | _ :: _, [] => .inr (.inr rfl)
  | a :: l, b :: m => by
    unfold cmpP
    split
    · exact cmpP_range l m
    · split <;> simp
theorem cmpP_trans : ∀ {l m n : Bs}, cmpP l m < 0 → cmpP m n < 0 → cmpP l n < 0
  | [], [], n, h, _ => by simp [cmpP] at h
  | [], _ :: _, [], _, h => by simp [cmpP] at h
  | [], _ :: _, _ :: _, _, _ => by simp [cmpP]
  | _ :: _, [], _, h, _ => by simp [cmpP] at h
  | _ :: _, _ :: _, [], _, h => by simp [cmpP] at h
  | a :: l, b :: m, c :: n, h1, h2 => by
    unfold cmpP at h1 h2 ⊢
    by_cases e1 : a = b
    · subst e1
      rw [if_pos rfl] at h1
      by_cases e2 : a = c
      · subst e2
        rw [if_pos rfl] at h2 ⊢
        exact cmpP_trans h1 h2
      · rw [if_neg e2] at h2 ⊢
        exact h2
    · rw [if_neg e1] at h1
      by_cases e2 : b = c
      · subst e2
        rw [if_neg e1]
        exact h1
      · rw [if_neg e2] at h2
        have r1 : rk a < rk b := by
          by_cases h : rk a < rk b
          · exact h
          · rw [if_neg h] at h1; omega
        have r2 : rk b < rk c := by
          by_cases h : rk b < rk c
          · exact h
          · rw [if_neg h] at h2; omega
        have e3 : a ≠ c := fun e => by subst e; omega
        rw [if_neg e3, if_pos (by omega)]
        decide
theorem cmpP_lt_ne {l m : Bs} (h : cmpP l m < 0) : l ≠ m := fun e => by subst e; rw [cmpP_self] at h; omega
theorem cmpP_prefix : ∀ (l : Bs) (c : UInt8) (m : Bs), cmpP l (l ++ c :: m) < 0
  | [], _, _ => by simp [cmpP]
  | a :: l, c, m => by
    rw [List.cons_append, cmpP, if_pos rfl]
    exact cmpP_prefix l c m
theorem cmpP_app : ∀ (p l m : Bs), cmpP (p ++ l) (p ++ m) = cmpP l m
  | [], _, _ => rfl
  | a :: p, l, m => by
    rw [List.cons_append, List.cons_append, cmpP, if_pos rfl]
    exact cmpP_app p l m
end Go.Proofs.YtmcbnhkcjhlbaaaGreatDoor.Tp
end
section
namespace Go.Proofs.YtmcbnhkcjhlbaaaGreatDoor.Tp

theorem byte_get (s : ByteArray) (i : Nat) (h : i < s.size) : s.data.toList[i]? = some (s[i]'h) := by
  have : i < s.data.toList.length := by simpa using h
  rw [List.getElem?_eq_getElem this]
  rfl
theorem bytes_len (s : ByteArray) : s.data.toList.length = s.size := Array.length_toList
theorem dec_drop (s : ByteArray) (p : Nat) (h : p ≤ s.size) : Utf8.decode s p = Lib.decodeL (s.data.toList.drop p) := by
  have h1 := Lib.tail_decode s p 0
  rw [Nat.add_zero] at h1
  rw [← h1]
  unfold Lib.decodeL
  congr 1
  apply ByteArray.ext
  apply Array.toList_inj.1
  rw [Lib.extract_to_end]
theorem drop_ne (s : ByteArray) (p : Nat) (h : p < s.size) : s.data.toList.drop p ≠ [] := by
  intro e
  have := congrArg List.length e
  rw [List.length_drop, bytes_len] at this
  simp at this
  omega
theorem dec_cases (l : Bs) (hne : l ≠ []) :
    (Lib.decodeL l = (65533, 1) ∧ (Lib.decodeL l).1 = 65533) ∨ ¬ ((Lib.decodeL l).1 = 65533 ∧ (Lib.decodeL l).2 = 1) := by
  by_cases h : (Lib.decodeL l).1 = 65533 ∧ (Lib.decodeL l).2 = 1
  · exact .inl ⟨Prod.ext h.1 h.2, h.1⟩
  · exact .inr h
theorem getD_lt (l : Bs) (i : Nat) : (l.getD i 0).toNat < 256 := (l.getD i 0).toNat_lt
theorem dec_low (l : Bs) (hne : l ≠ []) : ((Lib.decodeL l).1 < 32 ↔ (l.getD 0 0).toNat < 32) ∧ (∀ i, 1 ≤ i → i < (Lib.decodeL l).2 → 32 ≤ (l.getD i 0).toNat) ∧ (Lib.decodeL l).1 ≤ 1114111 := by
  rw [Lib.decodeL_N]
  have k0 := getD_lt l 0
  have k1 := getD_lt l 1
  have k2 := getD_lt l 2
  have k3 := getD_lt l 3
  unfold Lib.decodeN
  repeat' split
  all_goals refine ⟨?_, fun i h1 h2 => ?_, ?_⟩
  all_goals (try dsimp only at *)
  all_goals (try omega)
  all_goals (rcases (show i = 1 ∨ i = 2 ∨ i = 3 by omega) with rfl | rfl | rfl <;> omega)
def textB (l : Bs) : Bool := l.all (fun c => decide (32 ≤ c.toNat)) && Lib.validD l
theorem textB_iff {l : Bs} : textB l = true ↔ (∀ c ∈ l, 32 ≤ c.toNat) ∧ Lib.validD l = true := by
  unfold textB
  rw [Bool.and_eq_true, List.all_eq_true]
  simp
theorem drop_get (l : Bs) (p i : Nat) : (l.drop p).getD i 0 = l.getD (p + i) 0 := by simp [List.getD_eq_getElem?_getD]
theorem take_all_step (l : Bs) (p k : Nat) (h : ∀ c ∈ l.take p, 32 ≤ c.toNat) (h2 : ∀ i, i < k → 32 ≤ (l.getD (p + i) 0).toNat) : ∀ c ∈ l.take (p + k), 32 ≤ c.toNat := by
  intro c hc
  obtain ⟨i, hi, rfl⟩ := List.mem_iff_getElem.1 hc
  rw [List.length_take] at hi
  rw [List.getElem_take]
  by_cases hp : i < p
  · refine h _ (List.mem_iff_getElem.2 ⟨i, by rw [List.length_take]; omega, ?_⟩)
    rw [List.getElem_take]
  · have h3 := h2 (i - p) (by omega)
    rw [show p + (i - p) = i by omega, List.getD_eq_getElem?_getD, List.getElem?_eq_getElem (by omega)] at h3
    exact h3
set_option maxRecDepth 100000 in
theorem encode_eq (r : Nat) (hr : r ≤ 1114111) (hs : r < 55296 ∨ 57344 ≤ r) : (Utf8.encode (r : Int)).data.toList = Lib.encodeRune (r : Int) := by
  have hv : Utf8.valid (r : Int) = true := by
    unfold Utf8.valid
    simp only [Bool.or_eq_true, Bool.and_eq_true, decide_eq_true_eq]
    omega
  unfold Utf8.encode Lib.encodeRune
  rw [if_pos hv]
  simp only [Int.toNat_natCast]
  by_cases h1 : r < 128
  · rw [if_pos h1, Lib.encodeRuneZ_one (by omega) (by omega)]
    simp
  · rw [if_neg h1]
    by_cases h2 : r < 2048
    · rw [if_pos h2, Lib.encodeRuneZ_two (by omega) (by omega)]
      simp only [List.map_cons, List.map_nil]
      rw [show (192 + (r : Int) / 64).toNat = 192 + r / 64 by omega, show (128 + (r : Int) % 64).toNat = 128 + r % 64 by omega]
    · rw [if_neg h2]
      by_cases h3 : r < 65536
      · rw [if_pos h3, Lib.encodeRuneZ_three (by omega)]
        simp only [List.map_cons, List.map_nil]
        rw [show (224 + (r : Int) / 4096).toNat = 224 + r / 4096 by omega, show (128 + (r : Int) / 64 % 64).toNat = 128 + r / 64 % 64 by omega, show (128 + (r : Int) % 64).toNat = 128 + r % 64 by omega]
      · rw [if_neg h3, Lib.encodeRuneZ_four (by omega) (by omega)]
        simp only [List.map_cons, List.map_nil]
        rw [show (240 + (r : Int) / 262144).toNat = 240 + r / 262144 by omega, show (128 + (r : Int) / 4096 % 64).toNat = 128 + r / 4096 % 64 by omega, show (128 + (r : Int) / 64 % 64).toNat = 128 + r / 64 % 64 by omega, show (128 + (r : Int) % 64).toNat = 128 + r % 64 by omega]
theorem dec_valid (l : Bs) (hne : l ≠ []) : (Lib.decodeL l).1 < 55296 ∨ 57344 ≤ (Lib.decodeL l).1 := by
  rw [Lib.decodeL_N]
  have k0 := getD_lt l 0
  rcases Lib.decodeN_shape l.length (l.getD 0 0).toNat (l.getD 1 0).toNat (l.getD 2 0).toNat (l.getD 3 0).toNat with ⟨c, e⟩ | ⟨c1, c2, c3, cv, e⟩ | ⟨c1, c2, c3, c4, cv, cs, e⟩ | ⟨c1, c2, c3, c4, c5, cv, cw, e⟩ | e
  all_goals (rw [e]; dsimp only; omega)
def Anew (l : Bs) (p : Nat) (O : Bs) : Prop := p ≤ l.length ∧ ((O = l.take p ∧ Lib.validD l = Lib.validD (l.drop p)) ∨ (p < O.length ∧ Lib.validD l = false))
theorem Anew.start (l : Bs) : Anew l 0 [] := ⟨Nat.zero_le _, .inl ⟨by simp, by simp⟩⟩
theorem Anew.size {l : Bs} {p : Nat} {O : Bs} (h : Anew l p O) : p ≤ l.length := h.1
theorem Anew.step {l : Bs} {p : Nat} {O : Bs} (h : Anew l p O) (hp : p < l.length) : Anew l (p + (Lib.decodeL (l.drop p)).2) (O ++ (Utf8.encode ((Lib.decodeL (l.drop p)).1 : Int)).data.toList) := by
  have hne : l.drop p ≠ [] := by
    intro e
    have := congrArg List.length e
    rw [List.length_drop] at this
    simp at this
    omega
  have hw := Lib.decodeL_width (l.drop p)
  have hle := Lib.decodeL_le (l.drop p) hne
  rw [List.length_drop] at hle
  have hen := encode_eq _ (Lib.decodeL_rune (l.drop p)) (dec_valid _ hne)
  rw [hen]
  refine ⟨by omega, ?_⟩
  rcases dec_cases (l.drop p) hne with ⟨e1, e2⟩ | e1
  · have hv : Lib.validD (l.drop p) = false := by rw [Lib.validD_step _ hne, e1]; rfl
    have h3 : (Lib.encodeRune (((Lib.decodeL (l.drop p)).1 : Nat) : Int)).length = 3 := by rw [e2]; rfl
    refine .inr ⟨?_, ?_⟩
    · rw [List.length_append, h3, e1]
      rcases h.2 with ⟨a, b⟩ | ⟨a, b⟩
      · rw [a, List.length_take]; dsimp only; omega
      · dsimp only; omega
    · rcases h.2 with ⟨a, b⟩ | ⟨a, b⟩
      · rw [b, hv]
      · exact b
  · have he := Lib.encode_decode (l.drop p) hne e1
    rw [he]
    rcases h.2 with ⟨a, b⟩ | ⟨a, b⟩
    · refine .inl ⟨by rw [a, List.take_add], ?_⟩
      rw [b, Lib.validD_step _ hne, if_neg e1, List.drop_drop]
    · refine .inr ⟨?_, b⟩
      rw [List.length_append, List.length_take, List.length_drop]
      omega
theorem Anew.done {l : Bs} {p : Nat} {O : Bs} (h : Anew l p O) (hp : p = l.length) : decide (O = l) = Lib.validD l := by
  subst hp
  rcases h.2 with ⟨a, b⟩ | ⟨a, b⟩
  · rw [a, List.take_length, b, List.drop_length]
    simp [Lib.validD_nil]
  · rw [b]
    exact decide_eq_false (fun e => by rw [e] at a; omega)
end Go.Proofs.YtmcbnhkcjhlbaaaGreatDoor.Tp
end
section
namespace Go.Proofs.YtmcbnhkcjhlbaaaGreatDoor.Tp
open Go.RowKit
open Kit (Chg)
open Go.Proofs.YtmcbnhkcjhlbaaaGreatDoor.One

structure Top (w : World) : Prop where
  laid : Laid w
  tab : TabAt 4 Lib.deBruijn64tab w
  utf : Lib.Utf8Tabs 5 6 w
  mx : ∃ m, w.cell? ⟨3, 0, none⟩ = some (.int .i64 m)
  size : 7 ≤ w.heap.size
theorem kon_low {w w' : World} {N : Nat} (h : KonAt w) (hb : Below N w w') (hN : 7 ≤ N) : KonAt w' := fun t ht => (hb.cell (p := ⟨1, t, none⟩) (Nat.lt_of_lt_of_le (by dsimp only; omega) hN)).trans (h t ht)
theorem init_low {w w' : World} {N : Nat} (h : InitAt w) (hb : Below N w w') (hN : 7 ≤ N) : InitAt w' := fun t ht => (hb.cell (p := ⟨0, 0 + t, none⟩) (Nat.lt_of_lt_of_le (by dsimp only; omega) hN)).trans (h t ht)
theorem utf_low {w w' : World} {N : Nat} (h : Lib.Utf8Tabs 5 6 w) (hb : Below N w w') (hN : 7 ≤ N) : Lib.Utf8Tabs 5 6 w' := by
  exact ⟨fun c hc => (hb.cell (p := ⟨5, c, none⟩) (Nat.lt_of_lt_of_le (by dsimp only; omega) hN)).trans (h.1 c hc), fun i hi => ⟨(hb.cell (p := ⟨6, 2 * i, none⟩) (Nat.lt_of_lt_of_le (by dsimp only; omega) hN)).trans (h.2 i hi).1, (hb.cell (p := ⟨6, 2 * i + 1, none⟩) (Nat.lt_of_lt_of_le (by dsimp only; omega) hN)).trans (h.2 i hi).2⟩⟩
theorem Top.low {w w' : World} {N : Nat} (h : Top w) (hb : Below N w w') (hN : 7 ≤ N) : Top w' := by
  obtain ⟨m, hm⟩ := h.mx
  exact ⟨⟨kon_low h.laid.kon hb hN, init_low h.laid.init hb hN, (hb.cell (p := ⟨2, 0, none⟩) (Nat.lt_of_lt_of_le (by dsimp only; omega) hN)).trans h.laid.pad0, (hb.cell (p := ⟨2, 1, none⟩) (Nat.lt_of_lt_of_le (by dsimp only; omega) hN)).trans h.laid.pad1⟩,
    Ck.tabAt_below h.tab hb (by omega), utf_low h.utf hb hN, ⟨m, (hb.cell (p := ⟨3, 0, none⟩) (Nat.lt_of_lt_of_le (by dsimp only; omega) hN)).trans hm⟩, Nat.le_trans h.size hb.size⟩
theorem Top.later {w w' : World} (h : Top w) (hb : Below w.heap.size w w') : Top w' := h.low hb h.size
end Go.Proofs.YtmcbnhkcjhlbaaaGreatDoor.Tp
end
section
namespace Go.Proofs.YtmcbnhkcjhlbaaaGreatDoor.Tp
open Go.RowKit
open Kit (Chg)
open Go.Proofs.YtmcbnhkcjhlbaaaGreatDoor.One

theorem str_eq_iff (s t : ByteArray) : (s.toList == t.toList) = decide (s.data.toList = t.data.toList) := by
  rw [Bool.eq_iff_iff, beq_iff_eq, decide_eq_true_eq, Lib.toList_data, Lib.toList_data]
theorem append_data (s t : ByteArray) : (s ++ t).data.toList = s.data.toList ++ t.data.toList := by simp
set_option maxRecDepth 1000000 in
set_option maxHeartbeats 1000000 in
theorem refUTF8_any (s : ByteArray) (hs : s.size ≤ 4000000) (w : World) : Calls Tryz.prog 183 #[.string s] w fun e w' => e = .returned (.bool (Lib.validD s.data.toList)) ∧ Below w.heap.size w w' := by
  obtain ⟨A, hA⟩ : ∃ A, Lib.validD s.data.toList = A := ⟨_, rfl⟩
  have HA := Lib.hid hA
  have HS := Lib.hid hs
  rw [hA]
  clear hA hs
  go_enter Tryz.func183, Tryz.ntmps183
  go_wp2
  go_loopw [3] (fun o wr => ∃ (p : Nat) (O : ByteArray), wr = w.iter s p ∧ o = .string O ∧ Anew s.data.toList p O.data.toList ∧ O.size ≤ 4 * p) (fun _ wr => s.size - wr.iterPos w.heap.size)
  case atStart => exact ⟨0, ByteArray.empty, rfl, rfl, Anew.start _, Nat.le_refl _⟩
  case round =>
    obtain ⟨p, O, rfl, rfl, hN, hO⟩ := hrel
    have HN := Lib.hid hN
    have HO := Lib.hid hO
    clear hN hO
    by_cases hlt : p < s.size
    · have hn := fun ty => run_next_any (P := Tryz.prog) w s p ty hlt
      obtain ⟨r, hr⟩ : ∃ r, (Utf8.decode s p).1 = r := ⟨_, rfl⟩
      obtain ⟨k, hk⟩ : ∃ k, (Utf8.decode s p).2 = k := ⟨_, rfl⟩
      rw [hr, hk] at hn
      have HR := Lib.hid hr
      have HK := Lib.hid hk
      have HW : Hid (1 ≤ k) := Lib.hid (by rw [← hk]; exact Lib.width_pos s p)
      clear hr hk
      have hcv := fun (w : World) => run_convert_int_string (P := Tryz.prog) w 21 9 .i32 (r : Int) (by rw [Tryz.underlying21]; rfl) Tryz.underlying9
      obtain ⟨E, hE⟩ : ∃ E, Utf8.encode (r : Int) = E := ⟨_, rfl⟩
      rw [hE] at hcv
      have HE := Lib.hid hE
      have HE4 : Hid (E.size ≤ 4) := Lib.hid (by rw [← hE]; exact encode_size_le _)
      have hadd := fun (w : World) => run_string_add_sum (P := Tryz.prog) w O E (by have := HO.out; have := HE4.out; have := HS.out; omega)
      clear hE
      go_wp2
      go_roundw
      case rel =>
        refine ⟨p + k, O ++ E, rfl, rfl, ?_, by rw [ByteArray.size_append]; have := HO.out; have := HE4.out; have := HW.out; omega⟩
        have h := HN.out.step (by rw [bytes_len]; exact hlt)
        rw [← dec_drop s p (by omega), HR.out, HK.out] at h
        rw [HE.out] at h
        rw [append_data]
        exact h
      case measure => have := HW.out; rw [World.iterPos_iter, World.iterPos_iter]; omega
    · have hn := fun ty => run_next_end (P := Tryz.prog) w s p ty hlt
      have hp : p = s.data.toList.length := by have := HN.out.size; rw [bytes_len] at this ⊢; omega
      have hq : (O.toList == s.toList) = A := by rw [str_eq_iff, HN.out.done hp, HA.out]
      clear hp
      go_wp2
      go_ret
      exact ⟨rfl, (Below.refl _ _).alloc (Nat.le_refl _) _⟩
set_option maxHeartbeats 1000000 in
theorem refPlain_any (s : ByteArray) (hs : s.size ≤ 4000000) (w : World) : Calls Tryz.prog 143 #[.string s] w fun e w' => e = .returned (.bool (textB s.data.toList)) ∧ Below w.heap.size w w' := by
  have HS := Lib.hid (refUTF8_any s hs)
  obtain ⟨A, hA⟩ : ∃ A, Lib.validD s.data.toList = A := ⟨_, rfl⟩
  have HU : Hid (∀ W, Calls Tryz.prog 183 #[.string s] W fun e w' => e = .returned (.bool A) ∧ Below W.heap.size W w') := Lib.hid (by rw [← hA]; exact HS.out)
  obtain ⟨T, hT⟩ : ∃ T, textB s.data.toList = T := ⟨_, rfl⟩
  have HT := Lib.hid hT
  have HA := Lib.hid hA
  rw [hT]
  clear hT hA HS
  go_enter Tryz.func143, Tryz.ntmps143
  go_wp2
  go_loop [3] (fun i => ∃ k : Nat, k ≤ s.size ∧ i = .int .i64 k ∧ ∀ c ∈ s.data.toList.take k, 32 ≤ c.toNat) (fun i => s.size - (intOf i).toNat)
  case atStart => exact ⟨0, Nat.zero_le _, rfl, by simp⟩
  case round =>
    obtain ⟨k, hk, rfl, hc⟩ := hrel
    have HC := Lib.hid hc
    clear hc
    by_cases hlt : k < s.size
    · by_cases hlow : (s[k].toNat : Int) < 32
      · have HF : Hid (T = false) := Lib.hid (by
          rw [← HT.out]
          unfold textB
          rw [Bool.and_eq_false_iff]
          refine .inl (List.all_eq_false.2 ⟨s[k], List.mem_of_getElem? (byte_get s k hlt), ?_⟩)
          simp
          omega)
        go_wp2
        go_ret
        exact ⟨by rw [HF.out]; rfl, Below.refl _ _⟩
      · have HL : Hid (¬ (s[k].toNat : Int) < 32) := Lib.hid hlow
        go_wp2
        go_round
        case rel =>
          refine ⟨k + 1, by omega, by go_num, ?_⟩
          refine take_all_step _ k 1 HC.out (fun i hi => ?_)
          obtain rfl : i = 0 := by omega
          rw [Nat.add_zero, List.getD_eq_getElem?_getD, byte_get s k hlt]
          have := HL.out
          simp
          omega
        case measure => simp [intOf]; omega
    · have HF : Hid (T = A) := Lib.hid (by
        rw [← HT.out, ← HA.out]
        unfold textB
        have h1 : s.data.toList.all (fun c => decide (32 ≤ c.toNat)) = true := by
          rw [List.all_eq_true]
          intro c hc
          rw [decide_eq_true_eq]
          refine HC.out c ?_
          rw [List.take_of_length_le (by rw [bytes_len]; omega)]
          exact hc
        rw [h1, Bool.true_and])
      go_wp2_with (go_at_call 183; (with_reducible refine (HU.out _).mono ?_); rintro e w1 ⟨rfl, hb⟩)
      go_ret
      exact ⟨by rw [HF.out]; rfl, hb⟩
structure CutAt (l : Bs) (out : List Bs) (f k : Nat) : Prop where
  le : f ≤ k
  free : 47 ∉ (l.take k).drop f
  eq : out ++ cutS (l.drop f) = cutS l
theorem CutAt.start (l : Bs) : CutAt l [] 0 0 := ⟨Nat.le_refl _, by simp, by simp⟩
theorem CutAt.next {l : Bs} {out : List Bs} {f k : Nat} (h : CutAt l out f k) (hk : k < l.length) (hc : l.getD k 0 ≠ 47) : CutAt l out f (k + 1) := by
  refine ⟨by have := h.le; omega, ?_, h.eq⟩
  rw [List.take_succ_eq_append_getElem hk, List.drop_append_of_le_length (by rw [List.length_take]; have := h.le; omega)]
  intro hm
  rcases List.mem_append.1 hm with e | e
  · exact h.free e
  · have e := List.mem_singleton.1 e
    rw [List.getD_eq_getElem?_getD, List.getElem?_eq_getElem hk] at hc
    exact hc e.symm
theorem CutAt.cut {l : Bs} {out : List Bs} {f k : Nat} (h : CutAt l out f k) (hk : k < l.length) (hc : l.getD k 0 = 47) : CutAt l (out ++ [(l.take k).drop f]) (k + 1) (k + 1) := by
  have h1 : l.drop f = (l.take k).drop f ++ 47 :: l.drop (k + 1) := by
    have h2 : l = l.take k ++ 47 :: l.drop (k + 1) := by
      have h3 : l[k] = 47 := by rw [List.getD_eq_getElem?_getD, List.getElem?_eq_getElem hk] at hc; exact hc
      conv => lhs; rw [← List.take_append_drop k l, List.drop_eq_getElem_cons hk, h3]
    conv => lhs; rw [h2]
    rw [List.drop_append_of_le_length (by rw [List.length_take]; have := h.le; omega)]
  have h2 := h.eq
  rw [h1, cutS_app _ h.free] at h2
  refine ⟨Nat.le_refl _, by rw [List.drop_of_length_le (by rw [List.length_take]; omega)]; simp, ?_⟩
  rw [List.append_assoc]
  exact h2
theorem CutAt.done {l : Bs} {out : List Bs} {f k : Nat} (h : CutAt l out f k) (hk : k = l.length) : out ++ [(l.take k).drop f] = cutS l := by
  have h1 := h.free
  have h2 := h.eq
  rw [hk, List.take_length] at h1 ⊢
  rw [cutS_one _ h1] at h2
  exact h2
theorem extract_data (s : ByteArray) (i j : Nat) : (s.extract i j).data.toList = (s.data.toList.take j).drop i := by
  rw [ByteArray.data_extract, Array.toList_extract, List.extract_eq_take_drop, List.drop_take]
set_option maxHeartbeats 2000000 in
theorem refDivide_any (s : ByteArray) (hs : s.size ≤ 4000000) (w : World) : Calls Tryz.prog 56 #[.string s] w fun e w' => ∃ (a : Option Addr) (n cap : Nat), e = .returned (.slice a n cap) ∧ ∃ ss : List ByteArray, ss.length = n ∧ n ≤ cap ∧ StrsAt w' a ss ∧ ss.map (·.data.toList) = cutS s.data.toList ∧ Below w.heap.size w w' := by
  have HS := Lib.hid hs
  clear hs
  have HO0 : Hid (w.ownsRow w.heap.size 9 1 (.slice none 0 0) 0 (strV [])) := Lib.hid ⟨rfl, .inl ⟨rfl, rfl⟩⟩
  go_enter Tryz.func56, Tryz.ntmps56
  go_wp2
  go_loopw [3, 4, 5] (fun o f i wr => ∃ (ss : List ByteArray) (n b k : Nat), ss.length = n ∧ n ≤ k ∧ wr.ownsRow w.heap.size 9 1 o n (strV ss) ∧ f = .int .i64 b ∧ i = .int .i64 k ∧ Below w.heap.size w wr ∧ k ≤ s.size + 1 ∧ b ≤ k ∧ (k ≤ s.size → CutAt s.data.toList (ss.map (·.data.toList)) b k) ∧ (k = s.size + 1 → ss.map (·.data.toList) = cutS s.data.toList)) (fun _ _ i _ => s.size + 1 - (intOf i).toNat)
  case atStart => exact ⟨[], 0, 0, 0, rfl, Nat.le_refl _, HO0.out, rfl, rfl, Below.refl _ _, by omega, Nat.le_refl _, fun _ => CutAt.start _, fun h => by omega⟩
  case round =>
    obtain ⟨ss, n, b, k, hn, hnk, ho, rfl, rfl, hb, hk, hbk, hC, hD⟩ := hrel
    have HN := Lib.hid hn
    have HNK := Lib.hid hnk
    have HO := Lib.hid ho
    have HB := Lib.hid hb
    have HC := Lib.hid hC
    have HD := Lib.hid hD
    have HBK := Lib.hid hbk
    clear hn hnk ho hb hC hD
    have hS := HS.out
    by_cases hle : k ≤ s.size
    · have hlz : (k : Int) ≤ (s.size : Int) := by omega
      have HCA := Lib.hid (HC.out hle)
      -- what the cut part is
      have HX : Hid ((s.extract b k).data.toList = (s.data.toList.take k).drop b) := Lib.hid (extract_data s b k)
      have hbz : (b : Int) ≤ (k : Int) := by omega
      have APP : Hid (∀ (ops : Array Oper) (rest : List Oper) (o : Oper) (a : Act) (Q : Exit → Act → World → Prop) (x y : Operand) (v : Value), o.guard = none → o.op = .call { callee := .builtin .append, args := #[x, y], argTypes := #[130, 130] } → a.eval x = v → wr.ownsRow w.heap.size 9 1 v n (strV ss) → a.eval y = .slice (some ⟨wr.heap.size, 0, none⟩) 1 1 → (∀ v' w', w'.ownsRow w.heap.size 9 1 v' (n + 1) (strV (ss ++ [s.extract b k])) → Below w.heap.size wr w' → wpList Tryz.prog ops Q rest (a.put o.dst v') w') → wpList Tryz.prog ops Q (o :: rest) a (wr.alloc (.cells #[.string (s.extract b k)] 9))) := Lib.hid (fun ops rest o a Q x y v h1 h2 h3 h4 h5 h6 => app_str h1 x y h2 w.heap.size v n ss h3 h4 HB.out.size (by have := HNK.out; omega) _ 1 h5 h6)
      by_cases he : k = s.size
      · have hez : ((k : Int) == (s.size : Int)) = true := by rw [he]; simp
        have HE := Lib.hid he
        clear he
        go_wp2_with (at_builtin; refine APP.out _ _ _ _ _ _ _ _ rfl rfl rfl HO.out rfl ?_; intro v4 w4 ho4 hb4)
        have HO4 := Lib.hid ho4
        have HB4 := Lib.hid (HB.out.trans hb4)
        clear ho4 hb4
        go_wp2
        go_roundw
        case rel =>
          refine ⟨_, n + 1, k + 1, k + 1, by rw [List.length_append, HN.out]; rfl, by have := HNK.out; omega, HO4.out, by go_num, by go_num, HB4.out, by omega, Nat.le_refl _, fun h => by have := HE.out; omega, fun _ => ?_⟩
          rw [List.map_append]
          have := HCA.out.done (by rw [bytes_len]; exact HE.out)
          rw [← this]
          simp only [List.map_cons, List.map_nil, HX.out]
        case measure => simp [intOf]; omega
      · have hez : ((k : Int) == (s.size : Int)) = false := by rw [beq_eq_false_iff_ne]; omega
        have hlt : k < s.size := by omega
        by_cases hc : s[k] = 47
        · have hcz : ((s[k].toNat : Int) == 47) = true := by rw [hc]; rfl
          have HC4 : Hid (s.data.toList.getD k 0 = 47) := Lib.hid (by rw [List.getD_eq_getElem?_getD, byte_get s k hlt]; exact hc)
          clear hc he
          go_wp2_with (at_builtin; refine APP.out _ _ _ _ _ _ _ _ rfl rfl rfl HO.out rfl ?_; intro v4 w4 ho4 hb4)
          have HO4 := Lib.hid ho4
          have HB4 := Lib.hid (HB.out.trans hb4)
          clear ho4 hb4
          go_wp2
          go_roundw
          case rel =>
            refine ⟨_, n + 1, k + 1, k + 1, by rw [List.length_append, HN.out]; rfl, by have := HNK.out; omega, HO4.out, by go_num, by go_num, HB4.out, by omega, Nat.le_refl _, fun _ => ?_, fun h => by omega⟩
            rw [List.map_append]
            have := HCA.out.cut (by rw [bytes_len]; exact hlt) HC4.out
            simp only [List.map_cons, List.map_nil, HX.out]
            exact this
          case measure => simp [intOf]; omega
        · have hcz : ((s[k].toNat : Int) == 47) = false := by
            rw [beq_eq_false_iff_ne]
            intro e
            exact hc (UInt8.toNat_inj.1 (by have : s[k].toNat = 47 := by omega
                                            exact this))
          have HC4 : Hid (s.data.toList.getD k 0 ≠ 47) := Lib.hid (by rw [List.getD_eq_getElem?_getD, byte_get s k hlt]; exact hc)
          clear hc he
          go_wp2
          go_roundw
          case rel => exact ⟨ss, n, b, k + 1, HN.out, by have := HNK.out; omega, HO.out, rfl, by go_num, HB.out, by omega, by omega, fun _ => HCA.out.next (by rw [bytes_len]; exact hlt) HC4.out, fun h => by omega⟩
          case measure => simp [intOf]; omega
    · have hlz : ¬ (k : Int) ≤ (s.size : Int) := by omega
      have HE := Lib.hid (HD.out (by omega))
      obtain ⟨a, cap, hv, hl, hc, hS2, hnil, _⟩ := strs_of_own HO.out
      subst hv
      go_wp2
      go_ret
      exact ⟨a, n, cap, rfl, ss, HN.out, by omega, hS2, HE.out, HB.out⟩
end Go.Proofs.YtmcbnhkcjhlbaaaGreatDoor.Tp
end
section
namespace Go.Proofs.YtmcbnhkcjhlbaaaGreatDoor.Tp
open Go.RowKit
open Kit (Chg)
open Go.Proofs.YtmcbnhkcjhlbaaaGreatDoor.One

def BoolTo (P : Prop) (w : World) (e : Ending) (w' : World) : Prop := ∃ c : Bool, e = .returned (.bool c) ∧ (c = true → P) ∧ Below w.heap.size w w'
set_option maxRecDepth 100000 in
set_option maxHeartbeats 1000000 in
theorem refComponent_any (s : ByteArray) (hs : s.size ≤ 4000000) (w : World) : Calls Tryz.prog 97 #[.string s] w (BoolTo (CompP s.data.toList) w) := by
  obtain ⟨T, hT⟩ : ∃ T, textB s.data.toList = T := ⟨_, rfl⟩
  have HP : Hid (∀ W, Calls Tryz.prog 143 #[.string s] W fun e w' => e = .returned (.bool T) ∧ Below W.heap.size W w') := Lib.hid (by rw [← hT]; exact refPlain_any s hs)
  have HD := Lib.hid (refDivide_any s hs)
  have HT := Lib.hid hT
  clear hs hT
  go_enter Tryz.func97, Tryz.ntmps97
  go_wp2_with (first | (go_at_call 143; (with_reducible refine (HP.out _).mono ?_); rintro e w1 ⟨rfl, hb1⟩) | (go_at_call 56; (with_reducible refine (HD.out _).mono ?_); rintro e w2 ⟨a, n, cap, rfl, ss, hn, hc, hS, he, hb2⟩; have HX := Lib.hid (And.intro hn (And.intro he hb2)); clear hn he hb2 hS))
  all_goals first
    | (go_ret; exact ⟨false, rfl, (fun h => by cases h), Below.refl _ _⟩)
    | (go_ret; exact ⟨false, rfl, (fun h => by cases h), hb1⟩)
    | (go_ret
       refine ⟨_, rfl, fun _ => ?_, hb1.trans (HX.out.2.2.mono hb1.size)⟩
       have e0 : ¬ s.toList = [] := by assumption
       have e1 : ¬ s.toList = [46] := by assumption
       have e2 : ¬ s.toList = [46, 46] := by assumption
       have e3 : (s.size : Int) ≤ 64 := by assumption
       have e4 : T = true := by assumption
       rw [Lib.toList_data] at e0 e1 e2
       have e5 := textB_iff.1 (HT.out.trans e4)
       exact ⟨e0, e1, e2, by rw [bytes_len]; omega, e5.1, e5.2⟩)
set_option maxRecDepth 100000 in
set_option maxHeartbeats 1000000 in
theorem refValid18_any (s : ByteArray) (hs : s.size ≤ 4000000) (w : World) : Calls Tryz.prog 53 #[.string s] w (BoolTo (VP s.data.toList) w) := by
  have HD := Lib.hid (refDivide_any s hs)
  have HS := Lib.hid hs
  clear hs
  go_enter Tryz.func53, Tryz.ntmps53
  go_wp2_with (go_at_call 56; (with_reducible refine (HD.out _).mono ?_); rintro e W ⟨a, n, cap, rfl, ss, hn, hc, hS, he, hb⟩; have HX := Lib.hid (And.intro hn (And.intro he hb)); have HST := Lib.hid hS; clear hn he hb hS)
  have hnl : n ≤ 4000001 := by
    have h1 := congrArg List.length HX.out.2.1
    rw [List.length_map, HX.out.1, cutS_length] at h1
    have h2 := List.count_le_length (a := (47 : UInt8)) (l := s.data.toList)
    rw [bytes_len] at h2
    have := HS.out
    omega
  have HNL := Lib.hid hnl
  go_loopw [10] (fun i wr => ∃ k : Nat, k ≤ n ∧ i = .int .i64 k ∧ Below W.heap.size W wr ∧ ∀ j, j < k → ∀ p, (ss.map (·.data.toList))[j]? = some p → CompP p) (fun i _ => n - (intOf i).toNat)
  case atStart => exact ⟨0, Nat.zero_le _, rfl, Below.refl _ _, fun j hj => by omega⟩
  case round =>
    obtain ⟨k, hk, rfl, hb, hP⟩ := hrel
    have HB := Lib.hid hb
    have HP := Lib.hid hP
    clear hb hP
    by_cases hlt : k < n
    · obtain ⟨b, o, rfl, hcell⟩ : ∃ b o, a = some ⟨b, o, none⟩ ∧ wr.cell? ⟨b, o + k, none⟩ = some (.string (ss.getD k ByteArray.empty)) := by
        have h1 := HST.out.later HB.out
        rcases h1 with h | ⟨b, o, e, h⟩
        · rw [h] at HX; have := HX.out.1; simp at this; omega
        · exact ⟨b, o, e, h k (by rw [HX.out.1]; exact hlt)⟩
      obtain ⟨p, hp⟩ : ∃ p, ss.getD k ByteArray.empty = p := ⟨_, rfl⟩
      rw [hp] at hcell
      have hpm : ss[k]? = some p := by
        rw [← hp, List.getD_eq_getElem?_getD, List.getElem?_eq_getElem (by rw [HX.out.1]; exact hlt)]
        rfl
      have HPM := Lib.hid hpm
      have hps : p.size ≤ 4000000 := by
        have h1 : p.data.toList ∈ cutS s.data.toList := by
          rw [← HX.out.2.1]
          exact List.mem_map.2 ⟨p, List.mem_of_getElem? hpm, rfl⟩
        have h2 := cutS_le _ _ h1
        rw [bytes_len, bytes_len] at h2
        have := HS.out
        omega
      have HCP := Lib.hid (refComponent_any p hps)
      clear hp hpm hps
      go_wp2_with fail
      refine (HCP.out _).mono ?_
      rintro e w1 ⟨c, rfl, hc1, hb1⟩
      have HC1 := Lib.hid hc1
      have HB1 := Lib.hid hb1
      clear hc1 hb1
      cases c
      · go_wp2
        go_ret
        exact ⟨false, rfl, (fun h => by cases h), HX.out.2.2.trans ((HB.out.trans (HB1.out.mono HB.out.size)).mono HX.out.2.2.size)⟩
      · go_wp2
        go_roundw
        case rel =>
          refine ⟨k + 1, by omega, by go_num, HB.out.trans (HB1.out.mono HB.out.size), fun j hj q hq => ?_⟩
          by_cases e : j = k
          · subst e
            rw [List.getElem?_map, HPM.out] at hq
            cases hq
            exact HC1.out trivial
          · exact HP.out j (by omega) q hq
        case measure => simp [intOf]; omega
    · have hall : ∀ p ∈ cutS s.data.toList, CompP p := fun p hp => by
        rw [← HX.out.2.1] at hp
        obtain ⟨j, hj, e⟩ := List.mem_iff_getElem.1 hp
        refine HP.out j (by rw [List.length_map, HX.out.1] at hj; omega) p ?_
        rw [List.getElem?_eq_getElem hj, e]
      have HALL := Lib.hid hall
      clear hall
      go_wp2
      all_goals first
        | (go_ret; exact ⟨false, rfl, (fun h => by cases h), HX.out.2.2.trans (HB.out.mono HX.out.2.2.size)⟩)
        | (go_ret
           refine ⟨_, rfl, fun h => ?_, HX.out.2.2.trans (HB.out.mono HX.out.2.2.size)⟩
           have e1 : (n : Int) ≤ 16 := by assumption
           have e2 : (s.size : Int) ≤ 512 := by
             first
               | assumption
               | (simp at h; omega)
           refine ⟨?_, by rw [bytes_len]; omega, HALL.out⟩
           have h1 := congrArg List.length HX.out.2.1
           rw [List.length_map, HX.out.1] at h1
           omega)
end Go.Proofs.YtmcbnhkcjhlbaaaGreatDoor.Tp
end

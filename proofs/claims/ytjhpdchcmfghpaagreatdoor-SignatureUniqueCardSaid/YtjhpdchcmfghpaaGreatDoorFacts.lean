/- Closed facts of the program that every row of this seat asks, each alone, so that none wants much memory. -/
import Derived.Test.YtjhpdchcmfghpaaGreatDoorChecked
import Derived.KernelRfl
import Derived.JoinedOf
import GoSem.ClaimSeven
namespace Go.Proofs.YtjhpdchcmfghpaaGreatDoor
theorem and_mk {a b : Bool} (h : a = true) (k : b = true) : (a && b) = true := by rw [h, k]; rfl
theorem lays_later : Tryz.prog.laysLater = false := by kernel_rfl
theorem bears_reflect : Tryz.prog.bearsReflect = false := by kernel_rfl
theorem door_fits : Tryz.prog.doorFits [] = true := by kernel_rfl
/-- The signs of the word in the translation's head, as numbers. -/
def headSigns : List Nat := [104, 97, 114, 110, 101, 115, 115, 32, 49, 50, 99, 57, 52, 55, 53, 56, 53, 99, 56, 54, 98, 97, 101, 57, 49, 98, 101, 100, 48, 98, 49, 52, 48, 49, 50, 99, 49, 97, 52, 48, 100, 98, 49, 55, 51, 56, 53, 53, 56, 99, 102, 97, 55, 54, 54, 54, 54, 48, 50, 56, 50, 49, 56, 49, 98, 102, 56, 101, 48, 55, 57, 52, 32, 99, 117, 116, 32, 97, 116, 32, 107, 105, 110, 107, 101, 101, 112, 47, 107, 105, 110, 107, 101, 101, 112, 108, 97, 119, 49, 51, 46, 83, 105, 103, 110, 97, 116, 117, 114, 101, 85, 110, 105, 113, 117, 101, 32, 107, 105, 110, 107, 101, 101, 112, 47, 107, 105, 110, 107, 101, 101, 112, 108, 97, 119, 49, 51, 46, 83, 105, 103, 110, 97, 116, 117, 114, 101, 82, 117, 110, 115]
theorem head_word : Tryz.prog.initOrder = String.ofList (headSigns.map Char.ofNat) := by kernel_rfl
theorem head_list : Tryz.prog.initOrder.toList = headSigns.map Char.ofNat := by rw [head_word, String.toList_ofList]
theorem words : behindMainWord (wordsSigns (headSigns.map Char.ofNat)) = "cut".toList :: (behindMainWord (wordsSigns (headSigns.map Char.ofNat))).tail := by kernel_rfl
theorem strip_cut (rest : List (List Char)) : stripLifts liftWords ("cut".toList :: rest) = ([], "cut".toList :: rest) := by
  simp [liftWords, stripLifts]
theorem may_of {P : Program} {l rest : List (List Char)} (h : behindMainWord (wordsSigns P.initOrder.toList) = l) (hl : l = "cut".toList :: rest) (h1 : P.laysLater = false) (h2 : P.bearsReflect = false) (h3 : P.doorFits [] = true) : P.mayEnter = true := by
  subst hl
  unfold Program.mayEnter
  rw [h]
  simp only [strip_cut, h1, h2, h3]
  simp
theorem may_enter : Tryz.prog.mayEnter = true := may_of (congrArg (fun x => behindMainWord (wordsSigns x)) head_list) words lays_later bears_reflect door_fits
theorem make_of {P : Program} {l rest : List (List Char)} (h : behindMainWord (wordsSigns P.initOrder.toList) = l) (hl : l = "cut".toList :: rest) : P.make = some .cut := by
  subst hl
  unfold Program.make
  rw [h]
  simp
theorem lifts_of {P : Program} {l rest : List (List Char)} (h : behindMainWord (wordsSigns P.initOrder.toList) = l) (hl : l = "cut".toList :: rest) : P.liftsFinal = false := by
  subst hl
  unfold Program.liftsFinal Program.headLifts
  rw [h]
  dsimp only
  rw [strip_cut]
  simp
theorem make_cut : Tryz.prog.make = some .cut := make_of (congrArg (fun x => behindMainWord (wordsSigns x)) head_list) words
theorem lifts_not : Tryz.prog.liftsFinal = false := lifts_of (congrArg (fun x => behindMainWord (wordsSigns x)) head_list) words
theorem make_row (c : OpenClaim) (h : c.make = .cut) : (Tryz.prog.make == some c.make) = true := by rw [make_cut, h]; rfl
theorem lifts_row (c : OpenClaim) (h : c.lifted = false) : (c.lifted == Tryz.prog.liftsFinal) = true := by rw [lifts_not, h]; rfl
def mainOf (l : List Char) : Option (Bool × List Char) :=
  match wordsSigns l with
  | h :: s :: _ => if !isSumSigns s then none else if h == "harness".toList then some (true, s) else if h == "ownmain".toList then some (false, s) else none
  | _ => none
theorem main_eq (P : Program) : P.mainIs = mainOf P.initOrder.toList := rfl
set_option maxRecDepth 100000 in
theorem main_words : mainOf (headSigns.map Char.ofNat) = some (true, "12c947585c86bae91bed0b14012c1a40db1738558cfa766660282181bf8e0794".toList) := by kernel_rfl
theorem main_is : Tryz.prog.mainIs = some (true, "12c947585c86bae91bed0b14012c1a40db1738558cfa766660282181bf8e0794".toList) := by
  rw [main_eq, head_list]
  exact main_words
theorem looks_not : false = Tryz.prog.looks [] := by kernel_rfl
theorem laid_out : laidOutB Tryz.prog = true := by kernel_rfl
theorem maps_rowed : mapsRowed Tryz.prog = true := by kernel_rfl
theorem plain_keys : Tryz.prog.plainKeys = true := by kernel_rfl
theorem stops_heard : Tryz.prog.stopsHeard = true := by kernel_rfl
end Go.Proofs.YtjhpdchcmfghpaaGreatDoor

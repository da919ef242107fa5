/- Closed facts of the program that every row of this seat asks, each alone, so that none wants much memory. -/
import Derived.Test.YtndlihclgdkpaaaGreatDoorChecked
import Derived.KernelRfl
import Derived.JoinedOf
import GoSem.ClaimSeven
namespace Go.Proofs.YtndlihclgdkpaaaGreatDoor
theorem and_mk {a b : Bool} (h : a = true) (k : b = true) : (a && b) = true := by rw [h, k]; rfl
theorem lays_later : Tryz.prog.laysLater = false := by kernel_rfl
theorem bears_reflect : Tryz.prog.bearsReflect = false := by kernel_rfl
theorem door_fits : Tryz.prog.doorFits [] = true := by kernel_rfl
/-- The signs of the word in the translation's head, as numbers. -/
def headSigns : List Nat := [104, 97, 114, 110, 101, 115, 115, 32, 54, 54, 57, 99, 54, 49, 99, 52, 102, 53, 50, 51, 55, 51, 97, 57, 48, 102, 51, 100, 98, 53, 99, 56, 53, 98, 102, 100, 51, 52, 56, 51, 49, 50, 54, 53, 55, 51, 97, 100, 55, 101, 54, 55, 53, 102, 52, 50, 98, 54, 57, 48, 55, 49, 54, 54, 101, 53, 99, 53, 55, 100, 98, 99, 32, 99, 117, 116, 32, 97, 116, 32, 107, 105, 110, 107, 101, 101, 112, 47, 107, 105, 110, 107, 101, 101, 112, 108, 97, 119, 52, 51, 46, 82, 101, 99, 101, 105, 112, 116, 73, 115, 115, 117, 101, 115, 32, 107, 105, 110, 107, 101, 101, 112, 47, 107, 105, 110, 107, 101, 101, 112, 108, 97, 119, 52, 51, 46, 82, 101, 99, 101, 105, 112, 116, 82, 101, 116, 117, 114, 110, 115, 32, 107, 105, 110, 107, 101, 101, 112, 47, 107, 105, 110, 107, 101, 101, 112, 108, 97, 119, 52, 51, 46, 82, 101, 99, 101, 105, 112, 116, 86, 101, 114, 105, 102, 105, 101, 115, 32, 107, 105, 110, 107, 101, 101, 112, 47, 107, 105, 110, 107, 101, 101, 112, 108, 97, 119, 52, 51, 46, 82, 101, 99, 101, 105, 112, 116, 67, 104, 97, 110, 103, 101, 100, 32, 107, 105, 110, 107, 101, 101, 112, 47, 107, 105, 110, 107, 101, 101, 112, 108, 97, 119, 52, 51, 46, 82, 101, 99, 101, 105, 112, 116, 69, 110, 99, 111, 100, 101, 115, 32, 107, 105, 110, 107, 101, 101, 112, 47, 107, 105, 110, 107, 101, 101, 112, 108, 97, 119, 52, 51, 46, 82, 101, 99, 101, 105, 112, 116, 68, 101, 99, 111, 100, 101, 115, 32, 107, 105, 110, 107, 101, 101, 112, 47, 107, 105, 110, 107, 101, 101, 112, 108, 97, 119, 52, 51, 46, 82, 101, 99, 101, 105, 112, 116, 67, 111, 110, 116, 114, 97, 100, 105, 99, 116, 115, 32, 107, 105, 110, 107, 101, 101, 112, 47, 107, 105, 110, 107, 101, 101, 112, 108, 97, 119, 52, 51, 46, 82, 101, 99, 101, 105, 112, 116, 66, 111, 111, 107, 115, 32, 107, 105, 110, 107, 101, 101, 112, 47, 107, 105, 110, 107, 101, 101, 112, 108, 97, 119, 52, 51, 46, 82, 101, 99, 101, 105, 112, 116, 79, 114, 100, 101, 114, 32, 107, 105, 110, 107, 101, 101, 112, 47, 107, 105, 110, 107, 101, 101, 112, 108, 97, 119, 52, 54, 46, 71, 111, 115, 115, 105, 112, 70, 111, 114, 103, 101, 100, 32, 107, 105, 110, 107, 101, 101, 112, 47, 107, 105, 110, 107, 101, 101, 112, 108, 97, 119, 52, 54, 46, 71, 111, 115, 115, 105, 112, 86, 101, 114, 105, 102, 105, 101, 115]
theorem head_word : Tryz.prog.initOrder = String.ofList (headSigns.map Char.ofNat) := by kernel_rfl
theorem head_list : Tryz.prog.initOrder.toList = headSigns.map Char.ofNat := by rw [head_word, String.toList_ofList]
theorem words : behindMainWord (wordsSigns (headSigns.map Char.ofNat)) = "cut".toList :: (behindMainWord (wordsSigns (headSigns.map Char.ofNat))).tail := by kernel_rfl
theorem strip_cut (rest : List (List Char)) : stripLifts liftWords ("cut".toList :: rest) = ([], "cut".toList :: rest) := by
  simp [liftWords, stripLifts]
theorem may_of {P : Program} {l rest : List (List Char)} (h : behindMainWord (wordsSigns P.initOrder.toList) = l) (hl : l = "cut".toList :: rest) (h1 : P.laysLater = false) (h2 : P.bearsReflect = false) (h3 : P.doorFits [] = true) : P.mayEnter = true := by
  subst hl
  unfold Program.mayEnter
  rw [h]
  simp only [strip_cut, h1, h2, h3]
  simp
theorem may_enter : Tryz.prog.mayEnter = true := may_of (congrArg (fun x => behindMainWord (wordsSigns x)) head_list) words lays_later bears_reflect door_fits
theorem make_of {P : Program} {l rest : List (List Char)} (h : behindMainWord (wordsSigns P.initOrder.toList) = l) (hl : l = "cut".toList :: rest) : P.make = some .cut := by
  subst hl
  unfold Program.make
  rw [h]
  simp
theorem lifts_of {P : Program} {l rest : List (List Char)} (h : behindMainWord (wordsSigns P.initOrder.toList) = l) (hl : l = "cut".toList :: rest) : P.liftsFinal = false := by
  subst hl
  unfold Program.liftsFinal Program.headLifts
  rw [h]
  dsimp only
  rw [strip_cut]
  simp
theorem make_cut : Tryz.prog.make = some .cut := make_of (congrArg (fun x => behindMainWord (wordsSigns x)) head_list) words
theorem lifts_not : Tryz.prog.liftsFinal = false := lifts_of (congrArg (fun x => behindMainWord (wordsSigns x)) head_list) words
theorem make_row (c : OpenClaim) (h : c.make = .cut) : (Tryz.prog.make == some c.make) = true := by rw [make_cut, h]; rfl
theorem lifts_row (c : OpenClaim) (h : c.lifted = false) : (c.lifted == Tryz.prog.liftsFinal) = true := by rw [lifts_not, h]; rfl
def mainOf (l : List Char) : Option (Bool × List Char) :=
  match wordsSigns l with
  | h :: s :: _ => if !isSumSigns s then none else if h == "harness".toList then some (true, s) else if h == "ownmain".toList then some (false, s) else none
  | _ => none
theorem main_eq (P : Program) : P.mainIs = mainOf P.initOrder.toList := rfl
set_option maxRecDepth 100000 in
theorem main_words : mainOf (headSigns.map Char.ofNat) = some (true, "669c61c4f52373a90f3db5c85bfd3483126573ad7e675f42b6907166e5c57dbc".toList) := by kernel_rfl
theorem main_is : Tryz.prog.mainIs = some (true, "669c61c4f52373a90f3db5c85bfd3483126573ad7e675f42b6907166e5c57dbc".toList) := by
  rw [main_eq, head_list]
  exact main_words
theorem looks_not : false = Tryz.prog.looks [] := by kernel_rfl
theorem laid_out : laidOutB Tryz.prog = true := by kernel_rfl
theorem maps_rowed : mapsRowed Tryz.prog = true := by kernel_rfl
theorem stops_heard : Tryz.prog.stopsHeard = true := by kernel_rfl
end Go.Proofs.YtndlihclgdkpaaaGreatDoor

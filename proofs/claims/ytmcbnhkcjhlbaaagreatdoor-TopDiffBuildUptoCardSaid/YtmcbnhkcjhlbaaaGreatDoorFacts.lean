/- Closed facts of the program that every row of this seat asks, each alone, so that none wants much memory. -/
import Derived.Test.YtmcbnhkcjhlbaaaGreatDoorChecked
import Derived.KernelRfl
import Derived.JoinedOf
import GoSem.ClaimSeven
namespace Go.Proofs.YtmcbnhkcjhlbaaaGreatDoor
theorem and_mk {a b : Bool} (h : a = true) (k : b = true) : (a && b) = true := by rw [h, k]; rfl
theorem lays_later : Tryz.prog.laysLater = false := by kernel_rfl
theorem bears_reflect : Tryz.prog.bearsReflect = false := by kernel_rfl
theorem door_fits : Tryz.prog.doorFits [] = true := by kernel_rfl
/-- The signs of the word in the translation's head, as numbers. -/
def headSigns : List Nat := [104, 97, 114, 110, 101, 115, 115, 32, 57, 52, 97, 54, 54, 99, 57, 100, 99, 97, 48, 51, 98, 53, 56, 57, 48, 54, 56, 102, 56, 56, 101, 97, 49, 102, 48, 48, 56, 53, 57, 101, 49, 52, 54, 100, 52, 97, 56, 56, 102, 53, 51, 102, 55, 56, 100, 102, 56, 51, 52, 97, 57, 57, 51, 99, 55, 97, 55, 49, 97, 48, 49, 98, 32, 99, 117, 116, 32, 97, 116, 32, 107, 105, 110, 107, 101, 101, 112, 47, 107, 105, 110, 107, 101, 101, 112, 116, 111, 112, 46, 84, 111, 112, 83, 99, 97, 110, 67, 104, 117, 110, 107, 115, 32, 107, 105, 110, 107, 101, 101, 112, 47, 107, 105, 110, 107, 101, 101, 112, 116, 111, 112, 46, 84, 111, 112, 68, 105, 102, 102, 66, 117, 105, 108, 100]
theorem head_word : Tryz.prog.initOrder = String.ofList (headSigns.map Char.ofNat) := by kernel_rfl
theorem head_list : Tryz.prog.initOrder.toList = headSigns.map Char.ofNat := by rw [head_word, String.toList_ofList]
theorem words : behindMainWord (wordsSigns (headSigns.map Char.ofNat)) = "cut".toList :: (behindMainWord (wordsSigns (headSigns.map Char.ofNat))).tail := by kernel_rfl
theorem strip_cut (rest : List (List Char)) : stripLifts liftWords ("cut".toList :: rest) = ([], "cut".toList :: rest) := by
  simp [liftWords, stripLifts]
theorem may_of {P : Program} {l rest : List (List Char)} (h : behindMainWord (wordsSigns P.initOrder.toList) = l) (hl : l = "cut".toList :: rest) (h1 : P.laysLater = false) (h2 : P.bearsReflect = false) (h3 : P.doorFits [] = true) : P.mayEnter = true := by
  subst hl
  unfold Program.mayEnter
  rw [h]
  simp only [strip_cut, h1, h2, h3]
  simp
theorem may_enter : Tryz.prog.mayEnter = true := may_of (congrArg (fun x => behindMainWord (wordsSigns x)) head_list) words lays_later bears_reflect door_fits
theorem make_of {P : Program} {l rest : List (List Char)} (h : behindMainWord (wordsSigns P.initOrder.toList) = l) (hl : l = "cut".toList :: rest) : P.make = some .cut := by
  subst hl
  unfold Program.make
  rw [h]
  simp
theorem lifts_of {P : Program} {l rest : List (List Char)} (h : behindMainWord (wordsSigns P.initOrder.toList) = l) (hl : l = "cut".toList :: rest) : P.liftsFinal = false := by
  subst hl
  unfold Program.liftsFinal Program.headLifts
  rw [h]
  dsimp only
  rw [strip_cut]
  simp
theorem make_cut : Tryz.prog.make = some .cut := make_of (congrArg (fun x => behindMainWord (wordsSigns x)) head_list) words
theorem lifts_not : Tryz.prog.liftsFinal = false := lifts_of (congrArg (fun x => behindMainWord (wordsSigns x)) head_list) words
theorem make_row (c : OpenClaim) (h : c.make = .cut) : (Tryz.prog.make == some c.make) = true := by rw [make_cut, h]; rfl
theorem lifts_row (c : OpenClaim) (h : c.lifted = false) : (c.lifted == Tryz.prog.liftsFinal) = true := by rw [lifts_not, h]; rfl
def mainOf (l : List Char) : Option (Bool × List Char) :=
  match wordsSigns l with
  | h :: s :: _ => if !isSumSigns s then none else if h == "harness".toList then some (true, s) else if h == "ownmain".toList then some (false, s) else none
  | _ => none
theorem main_eq (P : Program) : P.mainIs = mainOf P.initOrder.toList := rfl
set_option maxRecDepth 100000 in
theorem main_words : mainOf (headSigns.map Char.ofNat) = some (true, "94a66c9dca03b589068f88ea1f00859e146d4a88f53f78df834a993c7a71a01b".toList) := by kernel_rfl
theorem main_is : Tryz.prog.mainIs = some (true, "94a66c9dca03b589068f88ea1f00859e146d4a88f53f78df834a993c7a71a01b".toList) := by
  rw [main_eq, head_list]
  exact main_words
theorem looks_not : false = Tryz.prog.looks [] := by kernel_rfl
theorem laid_out : laidOutB Tryz.prog = true := by kernel_rfl
theorem maps_rowed : mapsRowed Tryz.prog = true := by kernel_rfl
theorem stops_heard : Tryz.prog.stopsHeard = true := by kernel_rfl
end Go.Proofs.YtmcbnhkcjhlbaaaGreatDoor

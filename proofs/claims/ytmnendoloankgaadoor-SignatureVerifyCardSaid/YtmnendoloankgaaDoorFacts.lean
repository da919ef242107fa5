/- Closed facts of the program that every row of this seat asks, each alone, so that none wants much memory. -/
import Derived.Test.YtmnendoloankgaaDoorChecked
import Derived.KernelRfl
import Derived.JoinedOf
import GoSem.ClaimSeven
namespace Go.Proofs.YtmnendoloankgaaDoor
theorem and_mk {a b : Bool} (h : a = true) (k : b = true) : (a && b) = true := by rw [h, k]; rfl
theorem lays_later : Tryd.prog.laysLater = false := by kernel_rfl
theorem bears_reflect : Tryd.prog.bearsReflect = false := by kernel_rfl
theorem door_fits : Tryd.prog.doorFits [] = true := by kernel_rfl
/-- The signs of the word in the translation's head, as numbers. -/
def headSigns : List Nat := [104, 97, 114, 110, 101, 115, 115, 32, 49, 50, 49, 55, 53, 48, 53, 51, 53, 56, 98, 55, 101, 102, 57, 98, 49, 54, 102, 101, 54, 54, 53, 49, 49, 102, 55, 56, 50, 52, 57, 56, 55, 50, 55, 100, 97, 100, 100, 49, 100, 55, 99, 49, 100, 50, 54, 97, 50, 101, 53, 49, 57, 102, 52, 101, 57, 100, 55, 56, 98, 52, 50, 57, 32, 99, 117, 116, 32, 97, 116, 32, 107, 105, 110, 107, 101, 101, 112, 47, 107, 105, 110, 107, 101, 101, 112, 108, 97, 119, 49, 50, 46, 79, 110, 101, 116, 105, 109, 101, 68, 105, 103, 105, 116, 115, 32, 107, 105, 110, 107, 101, 101, 112, 47, 107, 105, 110, 107, 101, 101, 112, 108, 97, 119, 49, 50, 46, 79, 110, 101, 116, 105, 109, 101, 67, 104, 97, 105, 110, 115, 32, 107, 105, 110, 107, 101, 101, 112, 47, 107, 105, 110, 107, 101, 101, 112, 108, 97, 119, 49, 50, 46, 79, 110, 101, 116, 105, 109, 101, 83, 105, 103, 110, 97, 116, 117, 114, 101, 115, 32, 107, 105, 110, 107, 101, 101, 112, 47, 107, 105, 110, 107, 101, 101, 112, 108, 97, 119, 49, 50, 46, 79, 110, 101, 116, 105, 109, 101, 82, 101, 99, 111, 118, 101, 114, 115, 32, 107, 105, 110, 107, 101, 101, 112, 47, 107, 105, 110, 107, 101, 101, 112, 108, 97, 119, 49, 50, 46, 79, 110, 101, 116, 105, 109, 101, 86, 101, 114, 105, 102, 105, 101, 115, 32, 107, 105, 110, 107, 101, 101, 112, 47, 107, 105, 110, 107, 101, 101, 112, 108, 97, 119, 49, 50, 46, 79, 110, 101, 116, 105, 109, 101, 67, 111, 118, 101, 114, 101, 100, 32, 107, 105, 110, 107, 101, 101, 112, 47, 107, 105, 110, 107, 101, 101, 112, 108, 97, 119, 49, 50, 46, 79, 110, 101, 116, 105, 109, 101, 67, 111, 109, 112, 111, 115, 101, 115, 32, 107, 105, 110, 107, 101, 101, 112, 47, 107, 105, 110, 107, 101, 101, 112, 108, 97, 119, 49, 50, 46, 79, 110, 101, 116, 105, 109, 101, 79, 110, 108, 121, 32, 107, 105, 110, 107, 101, 101, 112, 47, 107, 105, 110, 107, 101, 101, 112, 108, 97, 119, 49, 50, 46, 79, 110, 101, 116, 105, 109, 101, 66, 105, 110, 100, 115, 32, 107, 105, 110, 107, 101, 101, 112, 47, 107, 105, 110, 107, 101, 101, 112, 108, 97, 119, 49, 51, 46, 83, 105, 103, 110, 97, 116, 117, 114, 101, 83, 99, 104, 101, 109, 101, 32, 107, 105, 110, 107, 101, 101, 112, 47, 107, 105, 110, 107, 101, 101, 112, 108, 97, 119, 49, 51, 46, 83, 105, 103, 110, 97, 116, 117, 114, 101, 83, 101, 101, 100, 32, 107, 105, 110, 107, 101, 101, 112, 47, 107, 105, 110, 107, 101, 101, 112, 108, 97, 119, 49, 51, 46, 83, 105, 103, 110, 97, 116, 117, 114, 101, 86, 101, 114, 105, 102, 105, 101, 115, 32, 107, 105, 110, 107, 101, 101, 112, 47, 107, 105, 110, 107, 101, 101, 112, 108, 97, 119, 49, 51, 46, 83, 105, 103, 110, 97, 116, 117, 114, 101, 86, 101, 114, 105, 102, 121, 32, 107, 105, 110, 107, 101, 101, 112, 47, 107, 105, 110, 107, 101, 101, 112, 108, 97, 119, 49, 51, 46, 83, 105, 103, 110, 97, 116, 117, 114, 101, 78, 101, 119, 32, 107, 105, 110, 107, 101, 101, 112, 47, 107, 105, 110, 107, 101, 101, 112, 108, 97, 119, 49, 51, 46, 83, 105, 103, 110, 97, 116, 117, 114, 101, 82, 101, 115, 117, 109, 101, 115]
theorem head_word : Tryd.prog.initOrder = String.ofList (headSigns.map Char.ofNat) := by kernel_rfl
theorem head_list : Tryd.prog.initOrder.toList = headSigns.map Char.ofNat := by rw [head_word, String.toList_ofList]
theorem words : behindMainWord (wordsSigns (headSigns.map Char.ofNat)) = "cut".toList :: (behindMainWord (wordsSigns (headSigns.map Char.ofNat))).tail := by kernel_rfl
theorem strip_cut (rest : List (List Char)) : stripLifts liftWords ("cut".toList :: rest) = ([], "cut".toList :: rest) := by
  simp [liftWords, stripLifts]
theorem may_of {P : Program} {l rest : List (List Char)} (h : behindMainWord (wordsSigns P.initOrder.toList) = l) (hl : l = "cut".toList :: rest) (h1 : P.laysLater = false) (h2 : P.bearsReflect = false) (h3 : P.doorFits [] = true) : P.mayEnter = true := by
  subst hl
  unfold Program.mayEnter
  rw [h]
  simp only [strip_cut, h1, h2, h3]
  simp
theorem may_enter : Tryd.prog.mayEnter = true := may_of (congrArg (fun x => behindMainWord (wordsSigns x)) head_list) words lays_later bears_reflect door_fits
theorem make_of {P : Program} {l rest : List (List Char)} (h : behindMainWord (wordsSigns P.initOrder.toList) = l) (hl : l = "cut".toList :: rest) : P.make = some .cut := by
  subst hl
  unfold Program.make
  rw [h]
  simp
theorem lifts_of {P : Program} {l rest : List (List Char)} (h : behindMainWord (wordsSigns P.initOrder.toList) = l) (hl : l = "cut".toList :: rest) : P.liftsFinal = false := by
  subst hl
  unfold Program.liftsFinal Program.headLifts
  rw [h]
  dsimp only
  rw [strip_cut]
  simp
theorem make_cut : Tryd.prog.make = some .cut := make_of (congrArg (fun x => behindMainWord (wordsSigns x)) head_list) words
theorem lifts_not : Tryd.prog.liftsFinal = false := lifts_of (congrArg (fun x => behindMainWord (wordsSigns x)) head_list) words
theorem make_row (c : OpenClaim) (h : c.make = .cut) : (Tryd.prog.make == some c.make) = true := by rw [make_cut, h]; rfl
theorem lifts_row (c : OpenClaim) (h : c.lifted = false) : (c.lifted == Tryd.prog.liftsFinal) = true := by rw [lifts_not, h]; rfl
def mainOf (l : List Char) : Option (Bool × List Char) :=
  match wordsSigns l with
  | h :: s :: _ => if !isSumSigns s then none else if h == "harness".toList then some (true, s) else if h == "ownmain".toList then some (false, s) else none
  | _ => none
theorem main_eq (P : Program) : P.mainIs = mainOf P.initOrder.toList := rfl
set_option maxRecDepth 100000 in
theorem main_words : mainOf (headSigns.map Char.ofNat) = some (true, "1217505358b7ef9b16fe66511f782498727dadd1d7c1d26a2e519f4e9d78b429".toList) := by kernel_rfl
theorem main_is : Tryd.prog.mainIs = some (true, "1217505358b7ef9b16fe66511f782498727dadd1d7c1d26a2e519f4e9d78b429".toList) := by
  rw [main_eq, head_list]
  exact main_words
theorem looks_not : false = Tryd.prog.looks [] := by kernel_rfl
theorem laid_out : laidOutB Tryd.prog = true := by kernel_rfl
theorem maps_rowed : mapsRowed Tryd.prog = true := by kernel_rfl
theorem plain_keys : Tryd.prog.plainKeys = true := by kernel_rfl
theorem stops_heard : Tryd.prog.stopsHeard = true := by kernel_rfl
end Go.Proofs.YtmnendoloankgaaDoor

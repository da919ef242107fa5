/- Closed facts of the program that every row of this seat asks, each alone, so that none wants much memory. -/
import Derived.Test.YtfnhcjcahcacnaaDoorChecked
import Derived.KernelRfl
import Derived.JoinedOf
import GoSem.ClaimSeven
namespace Go.Proofs.YtfnhcjcahcacnaaDoor
theorem and_mk {a b : Bool} (h : a = true) (k : b = true) : (a && b) = true := by rw [h, k]; rfl
theorem lays_later : Tryd.prog.laysLater = false := by kernel_rfl
theorem bears_reflect : Tryd.prog.bearsReflect = false := by kernel_rfl
theorem door_fits : Tryd.prog.doorFits [] = true := by kernel_rfl
/-- The signs of the word in the translation's head, as numbers. -/
def headSigns : List Nat := [104, 97, 114, 110, 101, 115, 115, 32, 102, 57, 53, 102, 51, 57, 51, 48, 98, 101, 97, 99, 53, 56, 57, 53, 56, 98, 49, 54, 57, 48, 55, 53, 101, 53, 52, 57, 48, 102, 55, 53, 101, 54, 101, 52, 53, 55, 97, 98, 101, 49, 52, 102, 102, 100, 101, 102, 55, 56, 99, 99, 53, 101, 55, 49, 101, 99, 54, 48, 49, 101, 54, 51, 32, 99, 117, 116, 32, 97, 116, 32, 107, 105, 110, 107, 101, 101, 112, 47, 107, 105, 110, 107, 101, 101, 112, 108, 97, 119, 49, 52, 46, 82, 111, 108, 108, 105, 110, 103, 104, 97, 115, 104, 84, 97, 98, 108, 101, 115, 32, 107, 105, 110, 107, 101, 101, 112, 47, 107, 105, 110, 107, 101, 101, 112, 108, 97, 119, 49, 52, 46, 82, 111, 108, 108, 105, 110, 103, 104, 97, 115, 104, 80, 117, 115, 104, 101, 115, 32, 107, 105, 110, 107, 101, 101, 112, 47, 107, 105, 110, 107, 101, 101, 112, 108, 97, 119, 49, 52, 46, 82, 111, 108, 108, 105, 110, 103, 104, 97, 115, 104, 90, 101, 114, 111, 115, 32, 107, 105, 110, 107, 101, 101, 112, 47, 107, 105, 110, 107, 101, 101, 112, 108, 97, 119, 49, 52, 46, 82, 111, 108, 108, 105, 110, 103, 104, 97, 115, 104, 82, 101, 115, 101, 116, 115, 32, 107, 105, 110, 107, 101, 101, 112, 47, 107, 105, 110, 107, 101, 101, 112, 108, 97, 119, 49, 52, 46, 82, 111, 108, 108, 105, 110, 103, 104, 97, 115, 104, 72, 97, 115, 104, 101, 115, 32, 107, 105, 110, 107, 101, 101, 112, 47, 107, 105, 110, 107, 101, 101, 112, 108, 97, 119, 49, 52, 46, 82, 111, 108, 108, 105, 110, 103, 104, 97, 115, 104, 70, 111, 114, 103, 101, 116, 115, 32, 107, 105, 110, 107, 101, 101, 112, 47, 107, 105, 110, 107, 101, 101, 112, 108, 97, 119, 49, 52, 46, 82, 111, 108, 108, 105, 110, 103, 104, 97, 115, 104, 74, 111, 105, 110, 115, 32, 107, 105, 110, 107, 101, 101, 112, 47, 107, 105, 110, 107, 101, 101, 112, 108, 97, 119, 49, 52, 46, 82, 111, 108, 108, 105, 110, 103, 104, 97, 115, 104, 65, 108, 108, 115, 32, 107, 105, 110, 107, 101, 101, 112, 47, 107, 105, 110, 107, 101, 101, 112, 108, 97, 119, 49, 54, 46, 67, 104, 117, 110, 107, 101, 114, 65, 116, 79, 110, 99, 101, 32, 107, 105, 110, 107, 101, 101, 112, 47, 107, 105, 110, 107, 101, 101, 112, 108, 97, 119, 49, 54, 46, 67, 104, 117, 110, 107, 101, 114, 82, 101, 97, 99, 104, 32, 107, 105, 110, 107, 101, 101, 112, 47, 107, 105, 110, 107, 101, 101, 112, 108, 97, 119, 49, 54, 46, 67, 104, 117, 110, 107, 101, 114, 80, 114, 105, 109, 97, 114, 121, 32, 107, 105, 110, 107, 101, 101, 112, 47, 107, 105, 110, 107, 101, 101, 112, 108, 97, 119, 49, 54, 46, 67, 104, 117, 110, 107, 101, 114, 76, 111, 99, 97, 108, 32, 107, 105, 110, 107, 101, 101, 112, 47, 107, 105, 110, 107, 101, 101, 112, 108, 97, 119, 49, 54, 46, 67, 104, 117, 110, 107, 101, 114, 80, 114, 101, 102, 105, 120, 32, 107, 105, 110, 107, 101, 101, 112, 47, 107, 105, 110, 107, 101, 101, 112, 108, 97, 119, 49, 54, 46, 67, 104, 117, 110, 107, 101, 114, 83, 117, 102, 102, 105, 120, 32, 107, 105, 110, 107, 101, 101, 112, 47, 107, 105, 110, 107, 101, 101, 112, 108, 97, 119, 49, 54, 46, 67, 104, 117, 110, 107, 101, 114, 67, 117, 116, 115, 32, 107, 105, 110, 107, 101, 101, 112, 47, 107, 105, 110, 107, 101, 101, 112, 108, 97, 119, 49, 54, 46, 67, 104, 117, 110, 107, 101, 114, 83, 116, 114, 101, 97, 109, 115, 32, 107, 105, 110, 107, 101, 101, 112, 47, 107, 105, 110, 107, 101, 101, 112, 108, 97, 119, 49, 54, 46, 67, 104, 117, 110, 107, 101, 114, 66, 111, 117, 110, 100, 115, 32, 107, 105, 110, 107, 101, 101, 112, 47, 107, 105, 110, 107, 101, 101, 112, 108, 97, 119, 49, 54, 46, 67, 104, 117, 110, 107, 101, 114, 67, 111, 109, 109, 111, 110, 32, 107, 105, 110, 107, 101, 101, 112, 47, 107, 105, 110, 107, 101, 101, 112, 108, 97, 119, 49, 54, 46, 67, 104, 117, 110, 107, 101, 114, 86, 97, 108, 105, 100]
theorem head_word : Tryd.prog.initOrder = String.ofList (headSigns.map Char.ofNat) := by kernel_rfl
theorem head_list : Tryd.prog.initOrder.toList = headSigns.map Char.ofNat := by rw [head_word, String.toList_ofList]
theorem words : behindMainWord (wordsSigns (headSigns.map Char.ofNat)) = "cut".toList :: (behindMainWord (wordsSigns (headSigns.map Char.ofNat))).tail := by kernel_rfl
theorem strip_cut (rest : List (List Char)) : stripLifts liftWords ("cut".toList :: rest) = ([], "cut".toList :: rest) := by
  simp [liftWords, stripLifts]
theorem may_of {P : Program} {l rest : List (List Char)} (h : behindMainWord (wordsSigns P.initOrder.toList) = l) (hl : l = "cut".toList :: rest) (h1 : P.laysLater = false) (h2 : P.bearsReflect = false) (h3 : P.doorFits [] = true) : P.mayEnter = true := by
  subst hl
  unfold Program.mayEnter
  rw [h]
  simp only [strip_cut, h1, h2, h3]
  simp
theorem may_enter : Tryd.prog.mayEnter = true := may_of (congrArg (fun x => behindMainWord (wordsSigns x)) head_list) words lays_later bears_reflect door_fits
theorem make_of {P : Program} {l rest : List (List Char)} (h : behindMainWord (wordsSigns P.initOrder.toList) = l) (hl : l = "cut".toList :: rest) : P.make = some .cut := by
  subst hl
  unfold Program.make
  rw [h]
  simp
theorem lifts_of {P : Program} {l rest : List (List Char)} (h : behindMainWord (wordsSigns P.initOrder.toList) = l) (hl : l = "cut".toList :: rest) : P.liftsFinal = false := by
  subst hl
  unfold Program.liftsFinal Program.headLifts
  rw [h]
  dsimp only
  rw [strip_cut]
  simp
theorem make_cut : Tryd.prog.make = some .cut := make_of (congrArg (fun x => behindMainWord (wordsSigns x)) head_list) words
theorem lifts_not : Tryd.prog.liftsFinal = false := lifts_of (congrArg (fun x => behindMainWord (wordsSigns x)) head_list) words
theorem make_row (c : OpenClaim) (h : c.make = .cut) : (Tryd.prog.make == some c.make) = true := by rw [make_cut, h]; rfl
theorem lifts_row (c : OpenClaim) (h : c.lifted = false) : (c.lifted == Tryd.prog.liftsFinal) = true := by rw [lifts_not, h]; rfl
def mainOf (l : List Char) : Option (Bool × List Char) :=
  match wordsSigns l with
  | h :: s :: _ => if !isSumSigns s then none else if h == "harness".toList then some (true, s) else if h == "ownmain".toList then some (false, s) else none
  | _ => none
theorem main_eq (P : Program) : P.mainIs = mainOf P.initOrder.toList := rfl
set_option maxRecDepth 100000 in
theorem main_words : mainOf (headSigns.map Char.ofNat) = some (true, "f95f3930beac58958b169075e5490f75e6e457abe14ffdef78cc5e71ec601e63".toList) := by kernel_rfl
theorem main_is : Tryd.prog.mainIs = some (true, "f95f3930beac58958b169075e5490f75e6e457abe14ffdef78cc5e71ec601e63".toList) := by
  rw [main_eq, head_list]
  exact main_words
theorem looks_not : false = Tryd.prog.looks [] := by kernel_rfl
theorem laid_out : laidOutB Tryd.prog = true := by kernel_rfl
theorem maps_rowed : mapsRowed Tryd.prog = true := by kernel_rfl
theorem plain_keys : Tryd.prog.plainKeys = true := by kernel_rfl
theorem stops_heard : Tryd.prog.stopsHeard = true := by kernel_rfl
end Go.Proofs.YtfnhcjcahcacnaaDoor

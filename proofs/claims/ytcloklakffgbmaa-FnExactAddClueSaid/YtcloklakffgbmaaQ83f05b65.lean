/- Texts of this seat's proofs: contracts of its functions and plain laws about them, with no condition beyond those that each theorem states. -/
import Derived.JoinedOf
import Derived.KernelRfl
import Derived.Test.YtcloklakffgbmaaRows
namespace Go.Proofs.Ytcloklakffgbmaa.Facts
open Go
set_option maxRecDepth 100000
def signs : List Char := [Char.ofNat 104, Char.ofNat 97, Char.ofNat 114, Char.ofNat 110, Char.ofNat 101, Char.ofNat 115, Char.ofNat 115, Char.ofNat 32, Char.ofNat 48, Char.ofNat 100, Char.ofNat 97, Char.ofNat 50, Char.ofNat 50, Char.ofNat 102, Char.ofNat 48, Char.ofNat 49, Char.ofNat 98, Char.ofNat 49, Char.ofNat 99, Char.ofNat 54, Char.ofNat 52, Char.ofNat 102, Char.ofNat 48, Char.ofNat 55, Char.ofNat 101, Char.ofNat 52, Char.ofNat 100, Char.ofNat 54, Char.ofNat 51, Char.ofNat 55, Char.ofNat 48, Char.ofNat 55, Char.ofNat 98, Char.ofNat 53, Char.ofNat 102, Char.ofNat 50, Char.ofNat 57, Char.ofNat 52, Char.ofNat 101, Char.ofNat 98, Char.ofNat 102, Char.ofNat 56, Char.ofNat 53, Char.ofNat 97, Char.ofNat 53, Char.ofNat 50, Char.ofNat 49, Char.ofNat 50, Char.ofNat 50, Char.ofNat 54, Char.ofNat 98, Char.ofNat 100, Char.ofNat 101, Char.ofNat 54, Char.ofNat 101, Char.ofNat 56, Char.ofNat 102, Char.ofNat 97, Char.ofNat 50, Char.ofNat 53, Char.ofNat 51, Char.ofNat 101, Char.ofNat 52, Char.ofNat 48, Char.ofNat 51, Char.ofNat 102, Char.ofNat 53, Char.ofNat 51, Char.ofNat 51, Char.ofNat 53, Char.ofNat 101, Char.ofNat 56, Char.ofNat 32, Char.ofNat 99, Char.ofNat 117, Char.ofNat 116, Char.ofNat 32, Char.ofNat 97, Char.ofNat 116, Char.ofNat 32, Char.ofNat 108, Char.ofNat 111, Char.ofNat 111, Char.ofNat 112, Char.ofNat 46, Char.ofNat 101, Char.ofNat 120, Char.ofNat 97, Char.ofNat 109, Char.ofNat 112, Char.ofNat 108, Char.ofNat 101, Char.ofNat 47, Char.ofNat 103, Char.ofNat 48, Char.ofNat 49, Char.ofNat 51, Char.ofNat 51, Char.ofNat 54, Char.ofNat 47, Char.ofNat 108, Char.ofNat 97, Char.ofNat 119, Char.ofNat 115, Char.ofNat 46, Char.ofNat 70, Char.ofNat 110, Char.ofNat 69, Char.ofNat 120, Char.ofNat 97, Char.ofNat 99, Char.ofNat 116, Char.ofNat 65, Char.ofNat 100, Char.ofNat 100, Char.ofNat 67, Char.ofNat 108, Char.ofNat 117, Char.ofNat 101, Char.ofNat 32, Char.ofNat 108, Char.ofNat 111, Char.ofNat 111, Char.ofNat 112, Char.ofNat 46, Char.ofNat 101, Char.ofNat 120, Char.ofNat 97, Char.ofNat 109, Char.ofNat 112, Char.ofNat 108, Char.ofNat 101, Char.ofNat 47, Char.ofNat 103, Char.ofNat 48, Char.ofNat 49, Char.ofNat 51, Char.ofNat 51, Char.ofNat 54, Char.ofNat 47, Char.ofNat 108, Char.ofNat 97, Char.ofNat 119, Char.ofNat 115, Char.ofNat 46, Char.ofNat 70, Char.ofNat 110, Char.ofNat 69, Char.ofNat 120, Char.ofNat 97, Char.ofNat 99, Char.ofNat 116, Char.ofNat 77, Char.ofNat 97, Char.ofNat 107, Char.ofNat 101, Char.ofNat 80, Char.ofNat 117, Char.ofNat 122, Char.ofNat 122, Char.ofNat 108, Char.ofNat 101, Char.ofNat 32, Char.ofNat 108, Char.ofNat 111, Char.ofNat 111, Char.ofNat 112, Char.ofNat 46, Char.ofNat 101, Char.ofNat 120, Char.ofNat 97, Char.ofNat 109, Char.ofNat 112, Char.ofNat 108, Char.ofNat 101, Char.ofNat 47, Char.ofNat 103, Char.ofNat 48, Char.ofNat 49, Char.ofNat 51, Char.ofNat 51, Char.ofNat 54, Char.ofNat 47, Char.ofNat 108, Char.ofNat 97, Char.ofNat 119, Char.ofNat 115, Char.ofNat 46, Char.ofNat 70, Char.ofNat 110, Char.ofNat 72, Char.ofNat 111, Char.ofNat 117, Char.ofNat 115, Char.ofNat 101, Char.ofNat 115, Char.ofNat 72, Char.ofNat 105, Char.ofNat 100, Char.ofNat 100, Char.ofNat 101, Char.ofNat 110]
theorem order : Try.prog.initOrder = String.ofList signs := by kernel_rfl
theorem orderL : Try.prog.initOrder.toList = signs := by rw [order, String.toList_ofList]
def rest : List (List Char) := [[Char.ofNat 97, Char.ofNat 116], [Char.ofNat 108, Char.ofNat 111, Char.ofNat 111, Char.ofNat 112, Char.ofNat 46, Char.ofNat 101, Char.ofNat 120, Char.ofNat 97, Char.ofNat 109, Char.ofNat 112, Char.ofNat 108, Char.ofNat 101, Char.ofNat 47, Char.ofNat 103, Char.ofNat 48, Char.ofNat 49, Char.ofNat 51, Char.ofNat 51, Char.ofNat 54, Char.ofNat 47, Char.ofNat 108, Char.ofNat 97, Char.ofNat 119, Char.ofNat 115, Char.ofNat 46, Char.ofNat 70, Char.ofNat 110, Char.ofNat 69, Char.ofNat 120, Char.ofNat 97, Char.ofNat 99, Char.ofNat 116, Char.ofNat 65, Char.ofNat 100, Char.ofNat 100, Char.ofNat 67, Char.ofNat 108, Char.ofNat 117, Char.ofNat 101], [Char.ofNat 108, Char.ofNat 111, Char.ofNat 111, Char.ofNat 112, Char.ofNat 46, Char.ofNat 101, Char.ofNat 120, Char.ofNat 97, Char.ofNat 109, Char.ofNat 112, Char.ofNat 108, Char.ofNat 101, Char.ofNat 47, Char.ofNat 103, Char.ofNat 48, Char.ofNat 49, Char.ofNat 51, Char.ofNat 51, Char.ofNat 54, Char.ofNat 47, Char.ofNat 108, Char.ofNat 97, Char.ofNat 119, Char.ofNat 115, Char.ofNat 46, Char.ofNat 70, Char.ofNat 110, Char.ofNat 69, Char.ofNat 120, Char.ofNat 97, Char.ofNat 99, Char.ofNat 116, Char.ofNat 77, Char.ofNat 97, Char.ofNat 107, Char.ofNat 101, Char.ofNat 80, Char.ofNat 117, Char.ofNat 122, Char.ofNat 122, Char.ofNat 108, Char.ofNat 101], [Char.ofNat 108, Char.ofNat 111, Char.ofNat 111, Char.ofNat 112, Char.ofNat 46, Char.ofNat 101, Char.ofNat 120, Char.ofNat 97, Char.ofNat 109, Char.ofNat 112, Char.ofNat 108, Char.ofNat 101, Char.ofNat 47, Char.ofNat 103, Char.ofNat 48, Char.ofNat 49, Char.ofNat 51, Char.ofNat 51, Char.ofNat 54, Char.ofNat 47, Char.ofNat 108, Char.ofNat 97, Char.ofNat 119, Char.ofNat 115, Char.ofNat 46, Char.ofNat 70, Char.ofNat 110, Char.ofNat 72, Char.ofNat 111, Char.ofNat 117, Char.ofNat 115, Char.ofNat 101, Char.ofNat 115, Char.ofNat 72, Char.ofNat 105, Char.ofNat 100, Char.ofNat 100, Char.ofNat 101, Char.ofNat 110]]
theorem wordsOf : behindMainWord (wordsSigns signs) = "cut".toList :: rest := by kernel_rfl
theorem mayEnter_of {P : Program} {c : List Char} {r : List (List Char)} (h : behindMainWord (wordsSigns P.initOrder.toList) = c :: r) (hc : c = "cut".toList) (h1 : stripLifts liftWords (c :: r) = ([], c :: r)) (h3 : P.laysLater = false) (h4 : P.bearsReflect = false) (h5 : P.doorFits [] = true) : P.mayEnter = true := by
 unfold Program.mayEnter
 rw [h]
 subst hc
 simp only [h1]
 simp [h3, h4, h5]
theorem make_of {P : Program} {c : List Char} {r : List (List Char)} (h : behindMainWord (wordsSigns P.initOrder.toList) = c :: r) (hc : c = "cut".toList) : P.make = some .cut := by
 unfold Program.make
 rw [h]
 subst hc
 simp
theorem strip : stripLifts liftWords ("cut".toList :: rest) = ([], "cut".toList :: rest) := by kernel_rfl
theorem laysLater : Try.prog.laysLater = false := by kernel_rfl
theorem bearsReflect : Try.prog.bearsReflect = false := by kernel_rfl
theorem doorRows : Try.prog.doorRows = [] := by kernel_rfl
theorem doorFits : Try.prog.doorFits [] = true := by
 unfold Program.doorFits
 rw [doorRows]
 kernel_rfl
theorem mayEnter : Try.prog.mayEnter = true := mayEnter_of (by rw [orderL]; exact wordsOf) rfl strip laysLater bearsReflect doorFits
theorem lifts : Try.prog.liftsFinal = false := by
 unfold Program.liftsFinal Program.headLifts
 rw [orderL, wordsOf]
 kernel_rfl
theorem make : Try.prog.make = some .cut := make_of (by rw [orderL]; exact wordsOf) rfl
theorem laidOut : laidOutB Try.prog = true := by kernel_rfl
theorem mapsRowed : Go.mapsRowed Try.prog = true := by kernel_rfl
theorem stops : Try.prog.stops = [] := by kernel_rfl
theorem stopKnobs : Try.prog.stopKnobs = [] := by kernel_rfl
theorem stopsHeard : Try.prog.stopsHeard = true := by kernel_rfl
theorem plainKeys : Try.prog.plainKeys = true := by kernel_rfl
end Go.Proofs.Ytcloklakffgbmaa.Facts

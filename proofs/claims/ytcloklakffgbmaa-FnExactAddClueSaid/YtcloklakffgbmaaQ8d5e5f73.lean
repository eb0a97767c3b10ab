/- Texts of this seat's proofs: contracts of its functions and plain laws about them, with no condition beyond those that each theorem states. -/
import Derived.Test.YtcloklakffgbmaaQ1bfdbd4f
import Derived.Test.YtcloklakffgbmaaQffec2d73
import Derived.Test.YtcloklakffgbmaaQ1c3caef0
import Derived.Test.YtcloklakffgbmaaQ1db93f96
import Derived.Test.YtcloklakffgbmaaQfd2a13a8
namespace Go.Proofs.Ytcloklakffgbmaa.G
open Go.RowKit Go.Proofs.YtcloklakffgbmaaW.PrintWords Go.Proofs.YtcloklakffgbmaaW.PrintLast Go.Proofs.YtcloklakffgbmaaW.PrintMore
attribute [local go_sem] max2_int min2_int max_two min_two max_three min_three max_four min_four
set_option linter.unusedVariables false
set_option linter.unusedSimpArgs false
mutual
def laws_FnExactAddClue.j0 : Nat → Bool → Bool → Bool → Int → Int → List (S28) → Int → Int → Int → Int → Int → List (S37) → Int → Int → List (S37) → Int → Int → List (S37) → Option (Bool)
 | 0, _, _, _, _, _, _, _, _, _, _, _, _, _, _, _, _, _, _ => none
 | k + 1, x7, x10, x46, x102000, x102001, x102002, x103000, x103001, x103002, x119000, x119001, x119002, x125000, x125001, x125002, x135000, x135001, x135002 => if x46 = true then (some false) else ((laws_toPuzzle.f k x102000 x102001 x102002).bind fun bt136 => ((laws_eqPuzzle.f k x125000 x125001 x125002 bt136.1 bt136.2.1 bt136.2.2).bind fun t141 => (if t141 = true then ((laws_markPuzzle.f k x125000 x125001 x125002 1).bind fun bt142 => (if bt142.1 < 0 then (laws_FnExactAddClue.j1 k x7 true x102000 x102001 x102002 x103000 x103001 x103002 x119000 x119001 x119002 x135000 x135001 x135002) else ((laws_eqPuzzle.f k x135000 x135001 x135002 x119000 x119001 x119002).bind fun t144 => (if t144 = true then (laws_FnExactAddClue.j1 k x7 (x10 != x7) x102000 x102001 x102002 x103000 x103001 x103002 x119000 x119001 x119002 x135000 x135001 x135002) else (laws_FnExactAddClue.j1 k x7 true x102000 x102001 x102002 x103000 x103001 x103002 x119000 x119001 x119002 x135000 x135001 x135002))))) else (some false))))
def laws_FnExactAddClue.j1 : Nat → Bool → Bool → Int → Int → List (S28) → Int → Int → Int → Int → Int → List (S37) → Int → Int → List (S37) → Option (Bool)
 | 0, _, _, _, _, _, _, _, _, _, _, _, _, _, _ => none
 | k + 1, x7, x67, x102000, x102001, x102002, x103000, x103001, x103002, x119000, x119001, x119002, x135000, x135001, x135002 => if x67 = true then (some false) else ((laws_markPuzzle.f k x135000 x135001 x135002 1).bind fun bt145 => ((laws_heldPuzzle.f k x135000 x135001 bt145.2 1).bind fun t147 => (if t147 < 0 then (some false) else (if t147 = bt145.1 then ((laws_toPuzzle.f k x102000 x102001 x102002).bind fun bt148 => ((laws_toClue.f x103000 x103001 x103002).bind fun bt153 => ((impl_AddClue.f bt148.1 bt148.2.1 bt148.2.2 bt153.1 bt153.2.1 bt153.2.2).bind fun bt156 => ((laws_eqPuzzle.f k bt156.1 bt156.2.1 bt156.2.2.1 x119000 x119001 x119002).bind fun t163 => (if t163 = true then (laws_FnExactAddClue.j2 k bt145.1 (bt156.2.2.2 != x7) x135000 x135001 bt145.2) else (laws_FnExactAddClue.j2 k bt145.1 true x135000 x135001 bt145.2)))))) else (some false)))))
def laws_FnExactAddClue.j2 : Nat → Int → Bool → Int → Int → List (S37) → Option (Bool)
 | 0, _, _, _, _, _ => none
 | k + 1, x12, x95, x135000, x135001, x135002 => if x95 = true then (some false) else ((laws_heldPuzzle.f k x135000 x135001 x135002 1).bind fun t164 => (if t164 < 0 then (some false) else (if t164 = x12 then (some true) else (some false))))
end
def laws_FnExactAddClue.f (k : Nat) (a0_0 : Int) (a0_1 : Int) (l0_2 : List (S28)) (a1_0 : Int) (a1_1 : Int) (a1_2 : Int) : Option (Bool) := (laws_szPuzzle.f a0_0 a0_1 l0_2 1048576).bind fun t103 => (if t103 < 0 then (some true) else ((laws_toPuzzle.f k a0_0 a0_1 l0_2).bind fun bt104 => ((laws_toClue.f a1_0 a1_1 a1_2).bind fun bt109 => ((spec_AddClue.f k bt104.1 bt104.2.1 bt104.2.2 bt109.1 bt109.2.1 bt109.2.2).bind fun bt112 => ((laws_toPuzzle.f k a0_0 a0_1 l0_2).bind fun bt119 => ((laws_toClue.f a1_0 a1_1 a1_2).bind fun bt125 => ((impl_AddClue.f bt119.1 bt119.2.1 bt119.2.2 bt125.1 bt125.2.1 bt125.2.2).bind fun bt128 => ((laws_eqPuzzle.f k bt128.1 bt128.2.1 bt128.2.2.1 bt112.1 bt112.2.1 bt112.2.2.1).bind fun t135 => (if t135 = true then (laws_FnExactAddClue.j0 k bt112.2.2.2 bt128.2.2.2 (bt128.2.2.2 != bt112.2.2.2) a0_0 a0_1 l0_2 a1_0 a1_1 a1_2 bt112.1 bt112.2.1 bt112.2.2.1 bt119.1 bt119.2.1 bt119.2.2 bt128.1 bt128.2.1 bt128.2.2.1) else (laws_FnExactAddClue.j0 k bt112.2.2.2 bt128.2.2.2 true a0_0 a0_1 l0_2 a1_0 a1_1 a1_2 bt112.1 bt112.2.1 bt112.2.2.1 bt119.1 bt119.2.1 bt119.2.2 bt128.1 bt128.2.1 bt128.2.2.1))))))))))
def laws_FnExactAddClue.T5 : Bool × List (List Nat × List Nat) := (true, [([], []), ([0], [0]), ([], []), ([2, 1], [2]), ([1, 3, 3], [1, 3]), ([4], [4]), ([5], [5]), ([5], [5]), ([], []), ([8, 6, 4, 0, 1, 2, 3, 4, 5, 6, 8], [6, 8]), ([7, 9, 0, 1, 2, 3, 4, 5, 6, 7, 8, 9], [7])])
def laws_FnExactAddClue.B5 : List Nat := [0, 1, 0, 7, 15, 31, 63, 63, 0, 383, 1023]
theorem laws_FnExactAddClue.tab5 : rtab .any (opsOf Try.f3 5) = laws_FnExactAddClue.T5 := by kernel_rfl
theorem laws_FnExactAddClue.bits5 : waitsOk laws_FnExactAddClue.T5.2 laws_FnExactAddClue.B5 = true := by kernel_rfl
def laws_FnExactAddClue.T7 : Bool × List (List Nat × List Nat) := (true, [([], []), ([], []), ([1], [1]), ([0, 2, 2], [0, 2]), ([3], [3]), ([4], [4]), ([4], [4]), ([], []), ([7, 5, 3, 0, 1, 2, 3, 4, 5, 7], [5, 7]), ([6, 8, 0, 1, 2, 3, 4, 5, 6, 7, 8], [6])])
def laws_FnExactAddClue.B7 : List Nat := [0, 0, 2, 7, 15, 31, 31, 0, 191, 511]
theorem laws_FnExactAddClue.tab7 : rtab .any (opsOf Try.f3 7) = laws_FnExactAddClue.T7 := by kernel_rfl
theorem laws_FnExactAddClue.bits7 : waitsOk laws_FnExactAddClue.T7.2 laws_FnExactAddClue.B7 = true := by kernel_rfl
def laws_FnExactAddClue.T24 : Bool × List (List Nat × List Nat) := (true, [([], []), ([0], [0]), ([], []), ([2, 1], [2]), ([1, 3, 3], [1, 3]), ([4], [4]), ([5], [5]), ([5], [5]), ([], []), ([8, 6, 4, 0, 1, 2, 3, 4, 5, 6, 8], [6, 8]), ([7, 9, 0, 1, 2, 3, 4, 5, 6, 7, 8, 9], [7])])
def laws_FnExactAddClue.B24 : List Nat := [0, 1, 0, 7, 15, 31, 63, 63, 0, 383, 1023]
theorem laws_FnExactAddClue.tab24 : rtab .any (opsOf Try.f3 24) = laws_FnExactAddClue.T24 := by kernel_rfl
theorem laws_FnExactAddClue.bits24 : waitsOk laws_FnExactAddClue.T24.2 laws_FnExactAddClue.B24 = true := by kernel_rfl
end Go.Proofs.Ytcloklakffgbmaa.G

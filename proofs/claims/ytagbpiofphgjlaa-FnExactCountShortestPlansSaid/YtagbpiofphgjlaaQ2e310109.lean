/- Texts of this seat's proofs: contracts of its functions and plain laws about them, with no condition beyond those that each theorem states. -/
import Derived.Test.YtagbpiofphgjlaaQe9280fc4
import Derived.Test.YtagbpiofphgjlaaQf653b09a
import Derived.Test.YtagbpiofphgjlaaQd9409066
namespace Go.Proofs.Ytagbpiofphgjlaa.G
open Go.RowKit Go.Proofs.YtagbpiofphgjlaaW.PrintWords Go.Proofs.YtagbpiofphgjlaaW.PrintLast Go.Proofs.YtagbpiofphgjlaaW.PrintMore
attribute [local go_sem] max2_int min2_int max_two min_two max_three min_three max_four min_four
set_option linter.unusedVariables false
set_option linter.unusedSimpArgs false
theorem row_at {W : World} {base n cap : Nat} {ad : Addr} {xs : List (List Int)} (h : Kd.R (Kd.slice 3 (Kd.int .i64)) 29 W base (fun _ => True) (.slice (some ad) n cap) xs) (i : Nat) (hi : i < n) (hx : i < xs.length) :
    ∃ v, W.cell? (ad.add i) = some v ∧ Kd.R (Kd.int .i64) 3 W base (fun _ => True) v xs[i] := by
  obtain ⟨c, _, ⟨v, rfl, hr⟩, hc⟩ := Kd.R_get h [] (i : Int) (by omega) (by omega)
  refine ⟨v, ?_, ?_⟩
  · have := hc 0 v rfl
    simpa [Kd.slice] using this
  · have := Kd.R_mono hr (fun _ _ => trivial) (ok' := fun _ => True)
    rwa [Int.toNat_natCast, List.getD_eq_getElem?_getD, List.getElem?_eq_getElem hx, Option.getD_some] at this
end Go.Proofs.Ytagbpiofphgjlaa.G

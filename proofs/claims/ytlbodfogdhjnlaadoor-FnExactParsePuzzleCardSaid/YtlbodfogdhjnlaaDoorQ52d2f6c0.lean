/- Texts of this seat's proofs: contracts of its functions and plain laws about them, with no condition beyond those that each theorem states. -/
import Derived.Lib.SplitLaws
import Derived.Test.YtlbodfogdhjnlaaDoorQ08f17515
import Derived.Test.YtlbodfogdhjnlaaDoorQcc0e67f4
import Derived.Test.YtlbodfogdhjnlaaDoorQ31e182c3
namespace Go.Proofs.YtlbodfogdhjnlaaDoor.G
open Go.RowKit Go.Proofs.YtlbodfogdhjnlaaDoorW.PrintWords Go.Proofs.YtlbodfogdhjnlaaDoorW.PrintLast Go.Proofs.YtlbodfogdhjnlaaDoorW.PrintMore
attribute [local go_sem] max2_int min2_int max_two min_two max_three min_three max_four min_four
set_option linter.unusedVariables false
set_option linter.unusedSimpArgs false
theorem R_strs (xs : List ByteArray) (e : Nat) (w : World) (hm : xs.length ≤ 9223372036854775807) :
    Kd.R Kd.string e (w.alloc (.cells (xs.map Value.string).toArray e)) w.heap.size (fun _ => True) (.slice (some ⟨w.heap.size, 0, none⟩) xs.length xs.length) xs := by
  refine ⟨fun _ _ => trivial, xs.map Value.string, ?_, ?_⟩
  · have h2 := World.ownsRow_lit (base := w.heap.size) (e := e) (size := 1) w (xs.map Value.string).toArray xs.length (Nat.le_refl _) (by simpa [maxLen] using hm) (by simp)
    have h3 : (w.alloc (.cells (xs.map Value.string).toArray e)).ownsRow w.heap.size e 1 (.slice (some ⟨w.heap.size, 0, none⟩) xs.length xs.length) xs.length (xs.map Value.string) := by simpa using h2
    exact h3
  · exact Kd.reps_scalar (enc := Value.string) xs
def strings_Split.f (a0 : ByteArray) (a1 : ByteArray) : Option (List ByteArray) := if a1.size = 1 then (if a0.size < 4294967281 then some (Lib.splitB a1 0 (Lib.countB a0 a1) a0) else none) else none
theorem strings_Split.calls (a0 : ByteArray) (a1 : ByteArray) (r : List ByteArray) (w : World) (hT : Tb w) (h : strings_Split.f a0 a1 = some r) :
    Calls Tryd.prog 19 #[.string a0, .string a1] w fun e w' => ∃ v0_ : Value, e = .returned (v0_) ∧ Kd.R Kd.string 9 w' w.heap.size (fun _ => True) v0_ r ∧ Below w.heap.size w w' := by
  unfold strings_Split.f at h
  by_cases c1 : a1.size = 1
  · rw [if_pos c1] at h
    by_cases c2 : a0.size < 4294967281
    · rw [if_pos c2] at h
      obtain rfl := Option.some.inj h
      obtain ⟨m, hm⟩ := hT.maxl
      refine (Tryd.strings_Split a0 a1 m w c2 hm (by omega)).mono ?_
      have hlen := Lib.splitB_all a1 (by omega) 0 (Lib.countB a0 a1) a0 rfl
      have hle := Lib.countB_le a1 (by omega) a0.size a0 (Nat.le_refl _)
      rintro e w' ⟨rfl, rfl⟩
      refine ⟨_, by rw [← hlen], ?_, below_alloc (Below.refl _ _) _⟩
      exact R_strs _ 9 w (by omega)
    · rw [if_neg c2] at h
      cases h
  · rw [if_neg c1] at h
    cases h
end Go.Proofs.YtlbodfogdhjnlaaDoor.G

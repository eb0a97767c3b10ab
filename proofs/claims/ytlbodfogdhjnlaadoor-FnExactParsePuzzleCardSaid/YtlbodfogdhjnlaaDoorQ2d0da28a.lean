/- Texts of this seat's proofs: contracts of its functions and plain laws about them, with no condition beyond those that each theorem states. -/
import Derived.Test.YtlbodfogdhjnlaaDoorQ08f17515
import Derived.Test.YtlbodfogdhjnlaaDoorQcc0e67f4
namespace Go.Proofs.YtlbodfogdhjnlaaDoor.G
open Go.RowKit Go.Proofs.YtlbodfogdhjnlaaDoorW.PrintWords Go.Proofs.YtlbodfogdhjnlaaDoorW.PrintLast Go.Proofs.YtlbodfogdhjnlaaDoorW.PrintMore
attribute [local go_sem] max2_int min2_int max_two min_two max_three min_three max_four min_four
set_option linter.unusedVariables false
set_option linter.unusedSimpArgs false
def strings_Join.f (l0 : List ByteArray) (a1 : ByteArray) : Option (ByteArray) := if (Lib.join (l0.map (·.data.toList)) a1.data.toList).length ≤ 140737488355328 then (if l0.length ≤ 140737488355328 then some ⟨(Lib.join (l0.map (·.data.toList)) a1.data.toList).toArray⟩ else none) else none
theorem strings_Join.calls (A0 : Option Addr) (c0 : Nat) (l0 : List ByteArray) (a1 : ByteArray) (r : ByteArray) (w : World) (hr0 : Kd.C Kd.string w A0 l0.length l0) (hc0 : l0.length ≤ c0) (h : strings_Join.f l0 a1 = some r) :
    Calls Tryd.prog 51 #[.slice A0 l0.length c0, .string a1] w fun e w' => e = .returned (.string r) ∧ Below w.heap.size w w' := by
  unfold strings_Join.f at h
  by_cases c1 : (Lib.join (l0.map (·.data.toList)) a1.data.toList).length ≤ 140737488355328
  · rw [if_pos c1] at h
    by_cases c2 : l0.length ≤ 140737488355328
    · rw [if_pos c2] at h
      obtain rfl := Option.some.inj h
      rcases l0 with _ | ⟨x, xs⟩
      · refine (Tryd.strings_Join_none A0 c0 a1 w).mono ?_
        rintro e w' ⟨rfl, rfl⟩
        exact ⟨rfl, Below.refl _ _⟩
      · obtain ⟨⟨bk, o, sp⟩, rfl, hcell⟩ := hr0.2.2 (by simp)
        have h0 : w.cell? ⟨bk, o, sp⟩ = some (.string x) := by
          obtain ⟨c, hc1, hc2, hc3⟩ := hcell 0 x rfl
          have hc2 : c = [.string x] := hc2
          have := hc3 0 (.string x) (by rw [hc2]; rfl)
          simpa [Addr.add] using this
        have hsp : sp = none := by
          unfold World.cell? at h0
          split at h0
          · cases sp with
            | none => rfl
            | some q => simp at h0
          · cases h0
        subst hsp
        refine (Tryd.strings_Join bk o c0 (x :: xs) a1 w (fun j y hj => ?_) (World.block_lt_of_cell? w _ h0) c2 hc0 c1).mono ?_
        · obtain ⟨c, hc1, hc2, hc3⟩ := hcell j y hj
          have hc2 : c = [.string y] := hc2
          have := hc3 0 (.string y) (by rw [hc2]; rfl)
          have hsz : (Kd.string).sz = 1 := rfl
          rw [hsz] at this
          by_cases hj0 : j = 0
          · subst hj0
            simpa [Addr.add] using this
          · simpa [Addr.add, hj0] using this
        · rintro e w' ⟨rfl, hb⟩
          exact ⟨rfl, hb⟩
    · rw [if_neg c2] at h
      cases h
  · rw [if_neg c1] at h
    cases h
end Go.Proofs.YtlbodfogdhjnlaaDoor.G

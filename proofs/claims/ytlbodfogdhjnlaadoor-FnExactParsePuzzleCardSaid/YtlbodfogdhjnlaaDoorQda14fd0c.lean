/- Texts of this seat's proofs: contracts of its functions and plain laws about them, with no condition beyond those that each theorem states. -/
import Derived.Test.YtlbodfogdhjnlaaDoorQ5473245a
import Derived.Test.YtlbodfogdhjnlaaDoorQ64ba8d79
set_option linter.unusedSimpArgs false
set_option linter.unusedVariables false
namespace Go.Proofs.YtlbodfogdhjnlaaDoor.Tx
open Go.RowKit Go.Proofs.YtlbodfogdhjnlaaDoor.G Go.Proofs.YtlbodfogdhjnlaaDoorW.PrintWords Go.Proofs.YtlbodfogdhjnlaaDoorW.PrintLast Go.Proofs.YtlbodfogdhjnlaaDoorW.PrintMore
def rns : List (List UInt8) → Option (List Int)
  | [] => some []
  | x :: r => (rn x).bind fun v => (rns r).map (v :: ·)
theorem readNumbers_l0 (xs : List (List UInt8)) (hx : ∀ x ∈ xs, x.length ≤ 2000000) (hn : xs.length ≤ 2000002) : ∀ (d i k : Nat) (acc : List Int), i + d = xs.length → d < k → acc.length ≤ i →
    impl_readNumbers.l0 k acc (xs.map bs) (xs.length : Int) (i : Int) = some (match rns (xs.drop i) with | some ns => (acc ++ ns, true) | none => ([], false)) := by
  intro d
  induction d with
  | zero =>
    intro i k acc hi hk ha
    obtain ⟨k, rfl⟩ : ∃ m, k = m + 1 := ⟨k - 1, by omega⟩
    simp only [impl_readNumbers.l0]
    rw [if_neg (by omega), List.drop_of_length_le (by omega : xs.length ≤ i)]
    simp [rns]
  | succ d ih =>
    intro i k acc hi hk ha
    obtain ⟨k, rfl⟩ : ∃ m, k = m + 1 := ⟨k - 1, by omega⟩
    simp only [impl_readNumbers.l0]
    have hil : i < xs.length := by omega
    have hrd : rdOf ByteArray.empty (xs.map bs) (i : Int) = bs xs[i] := by simp [rdOf, List.getD, hil]
    rw [if_pos (by omega), if_pos (by omega), if_pos (by simp; omega), hrd, readNumber_val _ (hx _ (List.getElem_mem hil)), Option.bind_some, w64 (by omega) (by omega), show ((i : Int) + 1) = ((i + 1 : Nat) : Int) by omega, List.drop_eq_getElem_cons hil]
    by_cases h : (rnum xs[i]).2 = true
    · rw [if_pos h, if_pos (by omega), ih (i + 1) k _ (by omega) (by omega) (by simp; omega)]
      have hr : rn xs[i] = some (rnum xs[i]).1 := by rw [rn, if_pos h]
      simp only [rns, hr, Option.bind_some]
      cases rns (xs.drop (i + 1)) <;> simp
    · rw [if_neg h]
      have hr : rn xs[i] = none := by rw [rn, if_neg h]
      simp only [rns, hr, Option.bind_none]
theorem readNumbers_val (w : List UInt8) (c : UInt8) (hw : w.length ≤ 2000000) (k : Nat) (hk : w.length + 1 < k) :
    impl_readNumbers.f k (bs w) (bs [c]) = some (match rns (sp c w) with | some ns => (ns, true) | none => ([], false)) := by
  have hl := sp_len c w
  unfold impl_readNumbers.f
  rw [split_val w c (by omega), Option.bind_some, List.length_map]
  have := readNumbers_l0 (sp c w) (fun x hx => by have := sp_mem_len c w x hx; omega) (by omega) (sp c w).length 0 k [] (by omega) (by omega) (by simp)
  rw [List.drop_zero] at this
  rw [show (0 : Int) = ((0 : Nat) : Int) from rfl, this]
  cases rns (sp c w) <;> simp
end Go.Proofs.YtlbodfogdhjnlaaDoor.Tx

/- Texts of this seat's proofs: contracts of its functions and plain laws about them, with no condition beyond those that each theorem states. -/
import Derived.Test.YtagbpiofphgjlaaQ375386e9
import Derived.Test.YtagbpiofphgjlaaQe0f5edec
import Derived.Test.YtagbpiofphgjlaaQ89e219ce
import Derived.Test.YtagbpiofphgjlaaQcae372f3
import Derived.Test.YtagbpiofphgjlaaQa2ae394b
namespace Go.Proofs.Ytagbpiofphgjlaa.Bg
open Go.RowKit Go.Proofs.Ytagbpiofphgjlaa.G Go.Proofs.YtagbpiofphgjlaaW.PrintWords Go.Proofs.YtagbpiofphgjlaaW.PrintLast Go.Proofs.YtagbpiofphgjlaaW.PrintMore
theorem fits_facts {l : List S61} {b : Int} (h : fits l b = true) : 1 ≤ l.length ∧ l.length ≤ 8 ∧ 1 ≤ b ∧ b ≤ 10000 ∧ l.all parcOk = true := by
  unfold fits bagOk at h
  simp only [Bool.and_eq_true, decide_eq_true_eq] at h
  have := okP_len h.1
  have h2 := h.1
  unfold okP at h2
  exact ⟨this.1, this.2, h.2.1.1, h.2.1.2, (Bool.and_eq_true_iff.1 h2).2⟩
end Go.Proofs.Ytagbpiofphgjlaa.Bg

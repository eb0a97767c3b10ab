/- Texts of this seat's proofs: contracts of its functions and plain laws about them, with no condition beyond those that each theorem states. -/
import Derived.Test.YtagbpiofphgjlaaQe9280fc4
import Derived.Test.YtagbpiofphgjlaaQ6b5d919a
import Derived.Test.YtagbpiofphgjlaaQ7eae4345
import Derived.Test.YtagbpiofphgjlaaQ7787cf75
import Derived.Test.YtagbpiofphgjlaaQa63aec36
namespace Go.Proofs.Ytagbpiofphgjlaa.G
open Go.RowKit Go.Proofs.YtagbpiofphgjlaaW.PrintWords Go.Proofs.YtagbpiofphgjlaaW.PrintLast Go.Proofs.YtagbpiofphgjlaaW.PrintMore
attribute [local go_sem] max2_int min2_int max_two min_two max_three min_three max_four min_four
set_option linter.unusedVariables false
set_option linter.unusedSimpArgs false
def impl_FirstShortestPlan.f (k : Nat) (l0 : List (S61)) (a1 : Int) : Option (List Int × Bool) := (impl_fitBag.f l0 a1).bind fun t => if t = true then (if l0.length ≤ 8 then (bpGo (fun p => impl_lengthOf.f k l0 p) l0 a1 l0.length [] [] ⟨0, 0, []⟩).bind fun s => some (s.best, true) else none) else some ([], false)
set_option maxHeartbeats 2000000 in
set_option maxRecDepth 100000 in
theorem impl_FirstShortestPlan.calls (k : Nat) (A0 : Option Addr) (c0 : Nat) (l0 : List (S61)) (a1 : Int) (r1 : List Int) (r2 : Bool) (w : World) (hr0 : Kd.C k61 w A0 l0.length l0) (hc0 : l0.length ≤ c0) (h : impl_FirstShortestPlan.f k l0 a1 = some (r1, r2)) :
    Calls Try.prog 61 #[.slice A0 l0.length c0, .int .i64 a1] w fun e w' => ∃ v0_ : Value, e = .returned (.tuple #[v0_, .bool r2]) ∧ Kd.R (Kd.int .i64) 3 w' w.heap.size (fun _ => True) v0_ r1 ∧ Below w.heap.size w w' := by
  unfold impl_FirstShortestPlan.f at h
  obtain ⟨t, ht, hh⟩ := Option.bind_eq_some_iff.1 h
  clear h
  have HR := Aside0.mk hr0
  have HC := Aside0.mk hc0
  have eg := enters_of Try.func111 (by kernel_rfl) rfl
  clear hr0 hc0
  have key := fun W hW => impl_fitBag.calls A0 c0 l0 a1 t W hW HC.out ht
  clear ht
  cases t with
  | false =>
    rw [if_neg (by decide)] at hh
    obtain ⟨rfl, rfl⟩ : r1 = [] ∧ r2 = false := by simpa [eq_comm] using hh
    clear hh
    go_enter Try.func61, Try.ntmps61
    go_wp2_with fail
    refine (key _ HR.out).mono ?_
    rintro e w1 ⟨rfl, hb1⟩
    go_wp2
    go_ret2
    exact ⟨_, rfl, Kd.R_nil _ _ _ _ _, hb1⟩
  | true =>
    rw [if_pos rfl] at hh
    by_cases hl : l0.length ≤ 8
    · rw [if_pos hl] at hh
      obtain ⟨s, hs, hh⟩ := Option.bind_eq_some_iff.1 hh
      obtain ⟨rfl, rfl⟩ : r1 = s.best ∧ r2 = true := by simpa [eq_comm] using hh
      clear hh
      have HS := Aside0.mk hs
      clear hs
      go_enter Try.func61, Try.ntmps61
      go_wp2_with fail
      refine (key _ HR.out).mono ?_
      rintro e w1 ⟨rfl, hb1⟩
      have HB := Aside0.mk hb1
      clear hb1 key
      go_wp2_with fail
      refine (bp_call (fun p => impl_lengthOf.f k l0 p) 111 #[] eg A0 c0 l0 a1 w1 (Kd.C_below HR.out HB.out) HC.out hl (fun W p A c x hW hC hc _ hx => (impl_lengthOf.calls k A0 c0 l0 A c p x W (Kd.C_below HR.out (HB.out.trans (hW.mono HB.out.size))) HC.out hC hc hx).mono fun e w' h => ⟨h.1, h.2⟩) s HS.out).mono ?_
      rintro e w2 ⟨v, rfl, ho, hb2⟩
      obtain ⟨Ab, cb, rfl⟩ := Kd.R_slice ho
      have HO := Aside0.mk ho
      have HB2 := Aside0.mk hb2
      clear ho hb2
      go_wp2
      go_ret2
      exact ⟨_, rfl, Kd.R_lower HO.out HB.out.size, HB.out.trans (HB2.out.mono HB.out.size)⟩
    · rw [if_neg hl] at hh
      cases hh
end Go.Proofs.Ytagbpiofphgjlaa.G

/- Texts of this seat's proofs: contracts of its functions and plain laws about them, with no condition beyond those that each theorem states. -/
import Derived.Test.YtlbodfogdhjnlaaDoorQb5295d6d
import Derived.Test.YtlbodfogdhjnlaaDoorQ57ba1b19
import Derived.Test.YtlbodfogdhjnlaaDoorQ1b742a99
import Derived.Test.YtlbodfogdhjnlaaDoorQd0be5985
namespace Go.Proofs.YtlbodfogdhjnlaaDoor.G
open Go.RowKit Go.Proofs.YtlbodfogdhjnlaaDoorW.PrintWords Go.Proofs.YtlbodfogdhjnlaaDoorW.PrintLast Go.Proofs.YtlbodfogdhjnlaaDoorW.PrintMore
attribute [local go_sem] max2_int min2_int max_two min_two max_three min_three max_four min_four
set_option linter.unusedVariables false
set_option linter.unusedSimpArgs false
def impl_AreParcels.f (l0 : List (S41)) : Option (Bool) := if (decide ((l0.length : Int) ≥ 1) && decide ((l0.length : Int) ≤ 8)) = true then some (!(l0.any fun x => !parcOk x)) else some false
set_option maxHeartbeats 2000000 in
set_option maxRecDepth 100000 in
theorem impl_AreParcels.calls (A0 : Option Addr) (c0 : Nat) (l0 : List (S41)) (r : Bool) (w : World) (hr0 : Kd.C k41 w A0 l0.length l0) (hc0 : l0.length ≤ c0) (h : impl_AreParcels.f l0 = some r) :
    Calls Tryd.prog 21 #[.slice A0 l0.length c0] w fun e w' => e = .returned (.bool r) ∧ Below w.heap.size w w' := by
  unfold impl_AreParcels.f at h
  have HR := Aside0.mk hr0
  have HC := Aside0.mk hc0
  have eg := enters_of Tryd.func38 (by kernel_rfl) rfl
  have key := fun W => impl_within.calls (l0.length : Int) 1 8 _ W (within_is _ _ _)
  clear hr0 hc0
  generalize (decide ((l0.length : Int) ≥ 1) && decide ((l0.length : Int) ≤ 8)) = t at key h
  cases t with
  | true =>
    rw [if_pos rfl] at h
    obtain rfl := Option.some.inj h
    clear h
    go_enter Tryd.func21, Tryd.ntmps21
    go_wp2_with fail
    refine (key _).mono ?_
    rintro e w1 ⟨rfl, hd2⟩
    have hb2 := hd2.below
    clear hd2
    go_wp2_with fail
    refine (parc_containsFunc (fun x => !parcOk x) 38 #[] eg A0 c0 l0 _ (Kd.C_below HR.out hb2) HC.out (fun W x _ hW => (parc_bad W x).mono fun e w' h => ⟨h.1, hW.trans (h.2.mono hW.size)⟩)).mono ?_
    rintro e w2 ⟨rfl, hb3⟩
    go_wp2
    go_ret
    exact ⟨rfl, hb2.trans (hb3.mono hb2.size)⟩
  | false =>
    rw [if_neg (by decide)] at h
    obtain rfl := Option.some.inj h
    clear h
    go_enter Tryd.func21, Tryd.ntmps21
    go_wp2_with fail
    refine (key _).mono ?_
    rintro e w1 ⟨rfl, hd2⟩
    have hb2 := hd2.below
    clear hd2
    go_wp2
    go_ret
    exact ⟨rfl, hb2⟩
end Go.Proofs.YtlbodfogdhjnlaaDoor.G

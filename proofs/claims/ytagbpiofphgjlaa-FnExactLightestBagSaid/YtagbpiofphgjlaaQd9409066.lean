/- Texts of this seat's proofs: contracts of its functions and plain laws about them, with no condition beyond those that each theorem states. -/
import Derived.Test.YtagbpiofphgjlaaQe9280fc4
import Derived.Test.YtagbpiofphgjlaaQ549bd6a6
namespace Go.Proofs.Ytagbpiofphgjlaa.G
open Go.RowKit Go.Proofs.YtagbpiofphgjlaaW.PrintWords Go.Proofs.YtagbpiofphgjlaaW.PrintLast Go.Proofs.YtagbpiofphgjlaaW.PrintMore
attribute [local go_sem] max2_int min2_int max_two min_two max_three min_three max_four min_four
set_option linter.unusedVariables false
set_option linter.unusedSimpArgs false
def spec_bgAll.f (k : Nat) (l0 : List (S61)) (a1 : Int) : Option ((List (List Int))) := lkGo k l0 a1 l0.length [] []
set_option maxHeartbeats 2000000 in
set_option maxRecDepth 100000 in
theorem spec_bgAll.calls (k : Nat) (A0 : Option Addr) (c0 : Nat) (l0 : List (S61)) (a1 : Int) (r : List (List Int)) (w : World) (hr0 : Kd.C k61 w A0 l0.length l0) (hc0 : l0.length ≤ c0) (h : spec_bgAll.f k l0 a1 = some r) :
    Calls Try.prog 101 #[.slice A0 l0.length c0, .int .i64 a1] w fun e w' => ∃ v0_ : Value, e = .returned (v0_) ∧ Kd.S (Kd.slice 3 (Kd.int .i64)) 29 w' w.heap.size (fun _ => True) v0_ r ∧ Below w.heap.size w w' := by
  unfold spec_bgAll.f at h
  have key := fun W h1 h2 => lk_look k A0 c0 l0 a1 w hr0 hc0 l0.length [] (.slice none 0 0) [] r (.slice none 0 0) W h (Nat.zero_add _) h1 h2 (Kd.S_nil _ _ _ _ _) (Kd.R_nil _ _ _ _ _)
  have KY := Aside0.mk key
  clear key hr0 h
  go_enter Try.func101, Try.ntmps101
  go_wp2_with fail
  refine (KY.out _ ((Below.refl _ _).alloc (Nat.le_refl _) _) (blk_new _ _)).mono ?_
  rintro e w2 ⟨rfl, hk, v', hb, ho⟩
  obtain ⟨Ab, cb, rfl⟩ := Kd.S_slice ho
  have q1 : w2.cell? ⟨w.heap.size, 0, none⟩ = some (.slice Ab r.length cb) := blk_cell hb 0
  have HO := Aside0.mk ho
  have HL := Aside0.mk (hk.lo ((Below.refl _ _).alloc (Nat.le_refl _) _) (by simp))
  clear hb ho hk KY
  go_wp2
  go_ret
  exact ⟨_, rfl, HO.out, HL.out⟩
end Go.Proofs.Ytagbpiofphgjlaa.G

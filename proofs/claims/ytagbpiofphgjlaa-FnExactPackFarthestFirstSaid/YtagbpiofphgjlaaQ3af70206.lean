/- Texts of this seat's proofs: contracts of its functions and plain laws about them, with no condition beyond those that each theorem states. -/
import Derived.Test.YtagbpiofphgjlaaQ742fc60f
import Derived.Test.YtagbpiofphgjlaaQea798f35
namespace Go.Proofs.Ytagbpiofphgjlaa.G
open Go.RowKit Go.Proofs.YtagbpiofphgjlaaW.PrintWords Go.Proofs.YtagbpiofphgjlaaW.PrintLast Go.Proofs.YtagbpiofphgjlaaW.PrintMore
attribute [local go_sem] max2_int min2_int max_two min_two max_three min_three max_four min_four
set_option linter.unusedVariables false
set_option linter.unusedSimpArgs false
set_option maxHeartbeats 4000000 in
set_option maxRecDepth 100000 in
theorem stable_sort (cf : Int → Int → Int) (P : Int → Prop) (gc : Nat) (lb : Array Value) (egc : ∀ args w, (callFunc gc args).run Try.prog w = .ok (.enter gc args) w) (g c base : Nat) (xs0 : List Int) (w : World)
    (hr : Kd.R (Kd.int .i64) 3 w base (fun _ => True) (.slice (some ⟨g, 0, none⟩) xs0.length c) xs0) (h1 : 1 ≤ xs0.length) (h8 : xs0.length ≤ 19) (hP : ∀ m : Nat, m < xs0.length → P (rd xs0 (m : Int)))
    (hc : ∀ (W : World) (x y : Int), w.grownBy W (some g) → P x → P y → Calls Try.prog gc (#[.int .i64 x, .int .i64 y] ++ lb) W fun e w' => e = .returned (.int .i64 (cf x y)) ∧ Below W.heap.size W w') :
    Calls Try.prog 134 #[.slice (some ⟨g, 0, none⟩) xs0.length c, .int .i64 (xs0.length : Int), .func (.func gc) #[] lb] w
      fun e w' => e = .returned (.tuple #[]) ∧ Kd.R (Kd.int .i64) 3 w' base (fun _ => True) (.slice (some ⟨g, 0, none⟩) xs0.length c) (insI cf (xs0.length - 1) 1 xs0) ∧ w.grownBy w' (some g) := by
  have KI := Aside0.mk (ins_sort cf P gc lb egc g c base xs0 w hr h1 (by omega) hP hc)
  have c1 : decide ((20 : Int) ≤ (xs0.length : Int)) = false := decide_eq_false (by omega)
  have c2 : decide ((20 : Int) < (xs0.length : Int)) = false := decide_eq_false (by omega)
  clear hr hP hc egc
  generalize hn : xs0.length = n at *
  go_enter Try.func134, Try.ntmps134
  go_wp2_with fail
  go_loopg [7, 8] 0 (fun gg s7 s8 wr => s7 = .int .i64 0 ∧ s8 = .int .i64 20 ∧ wr = w)
  case atStart => exact ⟨rfl, rfl, rfl⟩
  case round =>
    obtain ⟨rfl, rfl, rfl⟩ := hrel
    go_wp2_with fail
    refine KI.out.mono ?_
    rintro e w2 ⟨rfl, ho, hg⟩
    have HO := Aside0.mk ho
    have HG := Aside0.mk hg
    clear ho hg KI
    go_wp2_with fail
    go_loopg [6] 0 (fun gg s6 wr => s6 = .int .i64 20 ∧ wr = w2)
    case atStart => exact ⟨rfl, rfl⟩
    case round =>
      obtain ⟨rfl, rfl⟩ := hrel
      go_wp2
      first | go_end0 | ((try simp only [Exit.inBlock, Exit.then]); refine bodyPost_ret (results_none rfl _ _ _) rfl ?_)
      exact ⟨rfl, HO.out, HG.out⟩
end Go.Proofs.Ytagbpiofphgjlaa.G

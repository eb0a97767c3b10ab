/- Texts of this seat's proofs: contracts of its functions and plain laws about them, with no condition beyond those that each theorem states. -/
import Derived.Laws.EntriesVeiled
import Derived.Test.YtagbpiofphgjlaaQe9280fc4
import Derived.Test.YtagbpiofphgjlaaQ7eae4345
namespace Go.Proofs.Ytagbpiofphgjlaa.G
open Go.RowKit Go.Proofs.YtagbpiofphgjlaaW.PrintWords Go.Proofs.YtagbpiofphgjlaaW.PrintLast Go.Proofs.YtagbpiofphgjlaaW.PrintMore
attribute [local go_sem] max2_int min2_int max_two min_two max_three min_three max_four min_four
set_option linter.unusedVariables false
set_option linter.unusedSimpArgs false
theorem bp_boxes {w W : World} {v0 v1 v2 v3 v4 v5 v6 : Value} {t0 t1 t2 t3 t4 t5 t6 : TypeId}
    (h : World.alloc (World.alloc (World.alloc (World.alloc (World.alloc (World.alloc (World.alloc w (.cells #[v0] t0)) (.cells #[v1] t1)) (.cells #[v2] t2)) (.cells #[v3] t3)) (.cells #[v4] t4)) (.cells #[v5] t5)) (.cells #[v6] t6) = W) :
    Below w.heap.size w W ∧ W.heap.size = w.heap.size + 7 ∧ W.heap[w.heap.size]? = some (.cells #[v0] t0 (0, 0)) ∧ W.heap[w.heap.size + 1]? = some (.cells #[v1] t1 (0, 0)) ∧ W.heap[w.heap.size + 2]? = some (.cells #[v2] t2 (0, 0)) ∧
      W.heap[w.heap.size + 3]? = some (.cells #[v3] t3 (0, 0)) ∧ W.heap[w.heap.size + 4]? = some (.cells #[v4] t4 (0, 0)) ∧ W.heap[w.heap.size + 5]? = some (.cells #[v5] t5 (0, 0)) ∧ W.heap[w.heap.size + 6]? = some (.cells #[v6] t6 (0, 0)) := by
  subst h
  refine ⟨below_alloc (below_alloc (below_alloc (below_alloc (below_alloc (below_alloc (below_alloc (Below.refl _ _) _) _) _) _) _) _) _, by simp, ?_, ?_, ?_, ?_, ?_, ?_, ?_⟩
  · exact blk_alloc (blk_alloc (blk_alloc (blk_alloc (blk_alloc (blk_alloc (blk_new _ _) _) _) _) _) _) _
  · have := blk_new (w.alloc (.cells #[v0] t0)) (.cells #[v1] t1)
    rw [show (w.alloc (.cells #[v0] t0)).heap.size = w.heap.size + 1 by simp] at this
    exact blk_alloc (blk_alloc (blk_alloc (blk_alloc (blk_alloc this _) _) _) _) _
  · have := blk_new ((w.alloc (.cells #[v0] t0)).alloc (.cells #[v1] t1)) (.cells #[v2] t2)
    rw [show ((w.alloc (.cells #[v0] t0)).alloc (.cells #[v1] t1)).heap.size = w.heap.size + 2 by simp] at this
    exact blk_alloc (blk_alloc (blk_alloc (blk_alloc this _) _) _) _
  · have := blk_new (((w.alloc (.cells #[v0] t0)).alloc (.cells #[v1] t1)).alloc (.cells #[v2] t2)) (.cells #[v3] t3)
    rw [show (((w.alloc (.cells #[v0] t0)).alloc (.cells #[v1] t1)).alloc (.cells #[v2] t2)).heap.size = w.heap.size + 3 by simp] at this
    exact blk_alloc (blk_alloc (blk_alloc this _) _) _
  · have := blk_new ((((w.alloc (.cells #[v0] t0)).alloc (.cells #[v1] t1)).alloc (.cells #[v2] t2)).alloc (.cells #[v3] t3)) (.cells #[v4] t4)
    rw [show ((((w.alloc (.cells #[v0] t0)).alloc (.cells #[v1] t1)).alloc (.cells #[v2] t2)).alloc (.cells #[v3] t3)).heap.size = w.heap.size + 4 by simp] at this
    exact blk_alloc (blk_alloc this _) _
  · have := blk_new (((((w.alloc (.cells #[v0] t0)).alloc (.cells #[v1] t1)).alloc (.cells #[v2] t2)).alloc (.cells #[v3] t3)).alloc (.cells #[v4] t4)) (.cells #[v5] t5)
    rw [show (((((w.alloc (.cells #[v0] t0)).alloc (.cells #[v1] t1)).alloc (.cells #[v2] t2)).alloc (.cells #[v3] t3)).alloc (.cells #[v4] t4)).heap.size = w.heap.size + 5 by simp] at this
    exact blk_alloc this _
  · have := blk_new ((((((w.alloc (.cells #[v0] t0)).alloc (.cells #[v1] t1)).alloc (.cells #[v2] t2)).alloc (.cells #[v3] t3)).alloc (.cells #[v4] t4)).alloc (.cells #[v5] t5)) (.cells #[v6] t6)
    rw [show ((((((w.alloc (.cells #[v0] t0)).alloc (.cells #[v1] t1)).alloc (.cells #[v2] t2)).alloc (.cells #[v3] t3)).alloc (.cells #[v4] t4)).alloc (.cells #[v5] t5)).heap.size = w.heap.size + 6 by simp] at this
    exact this
set_option maxHeartbeats 4000000 in
set_option maxRecDepth 100000 in
theorem bp_call (num : List Int → Option Int) (gn : Nat) (lbn : Array Value) (egn : ∀ args w, (callFunc gn args).run Try.prog w = .ok (.enter gn args) w)
    (A0 : Option Addr) (c0 : Nat) (l0 : List S61) (bag : Int) (w : World) (hr0 : Kd.C k61 w A0 l0.length l0) (hc0 : l0.length ≤ c0) (hl : l0.length ≤ 8)
    (hnum : ∀ (W : World) (p : List Int) (A : Option Addr) (c : Nat) (x : Int), Below w.heap.size w W → Kd.C (Kd.int .i64) W A p.length p → p.length ≤ c → p.length = l0.length → num p = some x → Calls Try.prog gn (#[.slice A0 l0.length c0, .slice A p.length c] ++ lbn) W fun e w' => e = .returned (.int .i64 x) ∧ Below W.heap.size W w')
    (s : BpSt) (h : bpGo num l0 bag l0.length [] [] ⟨0, 0, []⟩ = some s) :
    Calls Try.prog 96 #[.slice A0 l0.length c0, .int .i64 bag, .func (.func gn) #[] lbn] w fun e w' => ∃ v, e = .returned (.tuple #[.int .i64 s.least, v, .int .i64 s.count]) ∧ Kd.R (Kd.int .i64) 3 w' w.heap.size (fun _ => True) v s.best ∧ Below w.heap.size w w' := by
  have key := fun ev hev W h1 h2 h3 h4 => bp_extend num gn lbn egn (enters_of Try.func125 (by kernel_rfl) rfl) A0 c0 l0 bag w hr0 hc0 hl hnum ev hev l0.length [] [] (.slice none 0 0) (.slice none 0 0) ⟨0, 0, []⟩ s (.slice none 0 0) W h (Nat.zero_add _) (Nat.le_refl _) h1 h2 h3 h4 (Kd.R_nil _ _ _ _ _) (Kd.R_nil _ _ _ _ _)
  have KY := Aside0.mk key
  clear key hr0 hnum h egn
  go_enter Try.func96, Try.ntmps96
  go_wp2_with fail
  generalize hW : World.alloc (World.alloc (World.alloc (World.alloc (World.alloc (World.alloc (World.alloc w _) _) _) _) _) _) _ = W1
  obtain ⟨hb, hs, b0, b1, b2, b3, b4, b5, b6⟩ := bp_boxes hW
  have HB := Aside0.mk hb
  have BX : Aside0 (BpBox w.heap.size A0 l0.length c0 bag (.func (.func gn) #[] lbn) _ W1) := ⟨⟨(blk_cell b0 0).trans rfl, (blk_cell b1 0).trans rfl, (blk_cell b2 0).trans rfl, (blk_cell b6 0).trans rfl⟩⟩
  have BV : Aside0 (BpVar w.heap.size ⟨0, 0, []⟩ (.slice none 0 0) W1) := ⟨⟨b3, b4, b5, Kd.R_nil _ _ _ _ _⟩⟩
  clear hW hb b0 b1 b2 b3 b4 b5 b6
  simp only [Nat.add_assoc, Nat.reduceAdd] at BX ⊢
  refine (KY.out _ rfl W1 HB.out (by omega) BX.out BV.out).mono ?_
  rintro e w2 ⟨rfl, hk, v', hv⟩
  have hlo := hk.lo HB.out (by omega)
  obtain ⟨Ab, cb, rfl⟩ := Kd.R_slice hv.row
  have q1 : w2.cell? ⟨w.heap.size + 3, 0, none⟩ = some (.int .i64 s.least) := blk_cell hv.least 0
  have q2 : w2.cell? ⟨w.heap.size + 4, 0, none⟩ = some (.int .i64 s.count) := blk_cell hv.count 0
  have q3 : w2.cell? ⟨w.heap.size + 5, 0, none⟩ = some (.slice Ab s.best.length cb) := blk_cell hv.best 0
  have HL := Aside0.mk hlo
  have HR := Aside0.mk (Kd.R_lower hv.row (base' := w.heap.size) (by omega))
  clear hk hv hlo KY BX BV HB hs
  go_wp2
  go_region
  go_wp2
  go_ret3
  exact ⟨_, rfl, Kd.R_drew HR.out, below_drew HL.out⟩
end Go.Proofs.Ytagbpiofphgjlaa.G

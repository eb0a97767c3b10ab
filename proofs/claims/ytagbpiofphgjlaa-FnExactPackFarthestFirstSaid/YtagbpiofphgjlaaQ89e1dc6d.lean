/- Texts of this seat's proofs: contracts of its functions and plain laws about them, with no condition beyond those that each theorem states. -/
import Derived.Deep.RegionHeld3
import Derived.Test.YtagbpiofphgjlaaQ742fc60f
import Derived.Test.YtagbpiofphgjlaaQee1cfa5c
namespace Go.Proofs.Ytagbpiofphgjlaa.G
open Go.RowKit Go.Proofs.YtagbpiofphgjlaaW.PrintWords Go.Proofs.YtagbpiofphgjlaaW.PrintLast Go.Proofs.YtagbpiofphgjlaaW.PrintMore
attribute [local go_sem] max2_int min2_int max_two min_two max_three min_three max_four min_four
set_option linter.unusedVariables false
set_option linter.unusedSimpArgs false
def cmpv (a b : Int) : Int := if a < b then -1 else if a > b then 1 else 0
theorem compare_is (a b : Int) : cmp_Compare_int.f a b = some (cmpv a b) := by
  unfold cmp_Compare_int.f cmp_isNaN_int.f cmpv
  simp only [bne_self_eq_false, Option.bind_some, Bool.false_eq_true, if_false]
  by_cases h1 : a < b
  · rw [if_pos h1, if_pos h1]
  · rw [if_neg h1, if_neg h1]
    by_cases h2 : a > b
    · rw [if_pos h2, if_pos h2]
    · rw [if_neg h2, if_neg h2]
def cfH (l : List S61) (x y : Int) : Int := cmpv (rd_T61 l y).f0 (rd_T61 l x).f0
theorem pf_keep {W W' : World} {a b c : Addr} {u v z : Value} (h : W.cell? a = some u ∧ W.cell? b = some v ∧ W.cell? c = some z) (hb : Below W.heap.size W W') : W'.cell? a = some u ∧ W'.cell? b = some v ∧ W'.cell? c = some z :=
  ⟨(hb.cell (World.block_lt_of_cell? W _ h.1)).trans h.1, (hb.cell (World.block_lt_of_cell? W _ h.2.1)).trans h.2.1, (hb.cell (World.block_lt_of_cell? W _ h.2.2)).trans h.2.2⟩
set_option maxHeartbeats 4000000 in
set_option maxRecDepth 100000 in
theorem pf_cmp (gl : Nat) (A0 : Option Addr) (c0 : Nat) (l0 : List S61) (x y : Nat) (W : World) (hr0 : Kd.C k61 W A0 l0.length l0) (hx : x < l0.length) (hy : y < l0.length) (h0 : W.cell? ⟨gl, 0, none⟩ = some (.slice A0 l0.length c0)) :
    Calls Try.prog 116 (#[.int .i64 (x : Int), .int .i64 (y : Int)] ++ #[.pointer (some ⟨gl, 0, none⟩)]) W fun e w' => e = .returned (.int .i64 (cfH l0 (x : Int) (y : Int))) ∧ Below W.heap.size W w' := by
  obtain ⟨ad, rfl, hx0, hx1⟩ := at_T61 hr0 (x : Int) (by omega) (by omega)
  obtain ⟨ad2, e2, hy0, hy1⟩ := at_T61 hr0 (y : Int) (by omega) (by omega)
  obtain rfl := Option.some.inj e2
  rw [Int.toNat_natCast] at hx0 hy0
  unfold cfH
  generalize (rd_T61 l0 (x : Int)).f0 = u at *
  generalize (rd_T61 l0 (y : Int)).f0 = v at *
  have key := fun W1 => cmp_Compare_int.calls v u _ W1 (compare_is v u)
  have c1 : (x : Int) < (l0.length : Int) := by omega
  have c2 : (y : Int) < (l0.length : Int) := by omega
  have KY := Aside0.mk key
  clear key hx1 hy1 hr0
  show Calls Try.prog 116 #[.int .i64 (x : Int), .int .i64 (y : Int), .pointer (some ⟨gl, 0, none⟩)] W _
  go_enter Try.func116, Try.ntmps116
  go_wp2_with fail
  have s0 : W.cell? ⟨gl, 0, none⟩ = some (.slice (some ad) l0.length c0) ∧ W.cell? (ad.add (x * 2)) = some (.int .i64 u) ∧ W.cell? (ad.add (y * 2)) = some (.int .i64 v) := ⟨h0, hx0, hy0⟩
  go_region_held3 (fun W' => W'.cell? ⟨gl, 0, none⟩ = some (.slice (some ad) l0.length c0) ∧ W'.cell? (ad.add (x * 2)) = some (.int .i64 u) ∧ W'.cell? (ad.add (y * 2)) = some (.int .i64 v)) (first | assumption | exact s0 | exact ⟨s0.1, s0.2.1, s0.2.2⟩ | exact pf_keep (by assumption) (by assumption)) (first | (go_at_call 117; refine (KY.out _).mono ?_; rintro e w1 ⟨rfl, hd⟩; have hb := hd.below))
  have HB := Aside0.mk (below_step (below_drew (Below.refl W.heap.size W)) hb)
  clear hb hd
  go_wp2
  go_ret
  exact ⟨rfl, HB.out⟩
end Go.Proofs.Ytagbpiofphgjlaa.G

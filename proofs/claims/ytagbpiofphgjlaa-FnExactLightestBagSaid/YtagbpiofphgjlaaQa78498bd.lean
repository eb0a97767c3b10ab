/- Texts of this seat's proofs: contracts of its functions and plain laws about them, with no condition beyond those that each theorem states. -/
import Derived.Deep.RegionHeld3
import Derived.Test.YtagbpiofphgjlaaQe9280fc4
import Derived.Test.YtagbpiofphgjlaaQ65372d46
import Derived.Test.YtagbpiofphgjlaaQc5782d52
import Derived.Test.YtagbpiofphgjlaaQ823a73ae
namespace Go.Proofs.Ytagbpiofphgjlaa.G
open Go.RowKit Go.Proofs.YtagbpiofphgjlaaW.PrintWords Go.Proofs.YtagbpiofphgjlaaW.PrintLast Go.Proofs.YtagbpiofphgjlaaW.PrintMore
attribute [local go_sem] max2_int min2_int max_two min_two max_three min_three max_four min_four
set_option linter.unusedVariables false
set_option linter.unusedSimpArgs false
def lbNum (k : Nat) (l : List S61) (trips : Int) (p : List Int) : Option Int :=
  (impl_countTrips.f l p).bind fun n => if n > trips then some 1000000 else (impl_weightsOf.f k l p).bind fun ws => slices_Max_int_int.f ws
theorem lb_keep {gt : Nat} {v : Value} {w W W' : World} (h : W.cell? ⟨gt, 0, none⟩ = some v ∧ Below w.heap.size w W) (hb : Below W.heap.size W W') : W'.cell? ⟨gt, 0, none⟩ = some v ∧ Below w.heap.size w W' :=
  ⟨(hb.cell (World.block_lt_of_cell? W _ h.1)).trans h.1, below_step h.2 hb⟩
set_option maxHeartbeats 2000000 in
set_option maxRecDepth 100000 in
theorem lb_calls (k gt : Nat) (trips : Int) (A0 : Option Addr) (c0 : Nat) (l0 : List S61) (A : Option Addr) (c : Nat) (p : List Int) (x : Int) (W : World) (hr0 : Kd.C k61 W A0 l0.length l0) (hc0 : l0.length ≤ c0) (hr1 : Kd.C (Kd.int .i64) W A p.length p) (hc1 : p.length ≤ c)
    (hg : W.cell? ⟨gt, 0, none⟩ = some (.int .i64 trips)) (h : lbNum k l0 trips p = some x) :
    Calls Try.prog 105 (#[.slice A0 l0.length c0, .slice A p.length c] ++ #[.pointer (some ⟨gt, 0, none⟩)]) W fun e w' => e = .returned (.int .i64 x) ∧ Below W.heap.size W w' := by
  unfold lbNum at h
  obtain ⟨n, hn, hh⟩ := Option.bind_eq_some_iff.1 h
  clear h
  have K1 := Aside0.mk fun W1 h0 h1 => impl_countTrips.calls A0 c0 l0 A c p n W1 h0 hc0 h1 hc1 hn
  have HR0 := Aside0.mk hr0
  have HR1 := Aside0.mk hr1
  have HC0 := Aside0.mk hc0
  have HC1 := Aside0.mk hc1
  clear hn hr0 hr1 hc0 hc1
  by_cases hgt : n > trips
  · rw [if_pos hgt] at hh
    obtain rfl := Option.some.inj hh
    have c1 : decide (n > trips) = true := decide_eq_true hgt
    clear hh hgt
    go_enter Try.func105, Try.ntmps105
    go_wp2_with fail
    have s0 : W.cell? ⟨gt, 0, none⟩ = some (.int .i64 trips) ∧ Below W.heap.size W W := ⟨hg, Below.refl _ _⟩
    go_region_held3 (fun W' => W'.cell? ⟨gt, 0, none⟩ = some (.int .i64 trips) ∧ Below W.heap.size W W') (first | assumption | exact ⟨s0.1, s0.2.drew⟩ | exact lb_keep (by assumption) (by assumption)) (first | (go_at_call 97; refine (K1.out _ (Kd.C_drew HR0.out) (Kd.C_drew HR1.out)).mono ?_; rintro e w1 ⟨rfl, hd⟩; have hb := hd.below))
    have HB1 := Aside0.mk (below_step ((Below.refl W.heap.size W).drew) hb)
    clear s0 hb hd hg
    go_wp2
    go_ret
    exact ⟨rfl, HB1.out⟩
  · rw [if_neg hgt] at hh
    obtain ⟨ws, hws, hh⟩ := Option.bind_eq_some_iff.1 hh
    have K2 := Aside0.mk fun W1 h0 h1 => impl_weightsOf.calls k A0 c0 l0 A c p ws W1 h0 HC0.out h1 HC1.out hws
    have K3 := Aside0.mk fun A c W1 h0 h1 => slices_Max_int_int.calls A c ws x W1 h0 h1 hh
    have c1 : decide (n > trips) = false := decide_eq_false hgt
    clear hh hgt hws
    go_enter Try.func105, Try.ntmps105
    go_wp2_with fail
    have s0 : W.cell? ⟨gt, 0, none⟩ = some (.int .i64 trips) ∧ Below W.heap.size W W := ⟨hg, Below.refl _ _⟩
    go_region_held3 (fun W' => W'.cell? ⟨gt, 0, none⟩ = some (.int .i64 trips) ∧ Below W.heap.size W W') (first | assumption | exact ⟨s0.1, s0.2.drew⟩ | exact lb_keep (by assumption) (by assumption)) (first | (go_at_call 97; refine (K1.out _ (Kd.C_drew HR0.out) (Kd.C_drew HR1.out)).mono ?_; rintro e w1 ⟨rfl, hd⟩; have hb := hd.below))
    have HB1 := Aside0.mk (below_step ((Below.refl W.heap.size W).drew) hb)
    clear s0 hb hd hg
    go_wp2_with fail
    refine (K2.out _ (Kd.C_below HR0.out HB1.out) (Kd.C_below HR1.out HB1.out)).mono ?_
    rintro e w2 ⟨v, rfl, ho, hb2⟩
    obtain ⟨Ab, cb, rfl, hcb, hC⟩ := Kd.R_reads ho
    have HB2 := Aside0.mk (below_step HB1.out hb2)
    clear ho hb2
    go_wp2_with fail
    refine (K3.out _ _ _ hC hcb).mono ?_
    rintro e w3 ⟨rfl, hd3⟩
    have HB3 := Aside0.mk (below_step HB2.out hd3.below)
    clear hd3
    go_wp2
    go_ret
    exact ⟨rfl, HB3.out⟩
end Go.Proofs.Ytagbpiofphgjlaa.G

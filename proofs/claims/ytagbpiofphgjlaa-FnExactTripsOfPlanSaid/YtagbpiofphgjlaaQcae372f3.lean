/- Texts of this seat's proofs: contracts of its functions and plain laws about them, with no condition beyond those that each theorem states. -/
import Derived.Test.YtagbpiofphgjlaaQ375386e9
import Derived.Test.YtagbpiofphgjlaaQ58c179d4
import Derived.Test.YtagbpiofphgjlaaQ1cdd6a21
import Derived.Test.YtagbpiofphgjlaaQfe13e79c
import Derived.Test.YtagbpiofphgjlaaQ31f370ea
namespace Go.Proofs.Ytagbpiofphgjlaa.G
open Go.RowKit Go.Proofs.YtagbpiofphgjlaaW.PrintWords Go.Proofs.YtagbpiofphgjlaaW.PrintLast Go.Proofs.YtagbpiofphgjlaaW.PrintMore
attribute [local go_sem] max2_int min2_int max_two min_two max_three min_three max_four min_four
set_option linter.unusedVariables false
set_option linter.unusedSimpArgs false
def impl_fitBag.f (l0 : List (S61)) (a1 : Int) : Option (Bool) := (impl_AreParcels.f l0).bind fun t => if t = true then ((impl_isBag.f a1).bind fun u => if u = true then some (!(l0.any fun x => decide (x.f1 > a1))) else some false) else some false
set_option maxHeartbeats 2000000 in
set_option maxRecDepth 100000 in
theorem impl_fitBag.calls (A0 : Option Addr) (c0 : Nat) (l0 : List (S61)) (a1 : Int) (r : Bool) (w : World) (hr0 : Kd.C k61 w A0 l0.length l0) (hc0 : l0.length ≤ c0) (h : impl_fitBag.f l0 a1 = some r) :
    Calls Try.prog 93 #[.slice A0 l0.length c0, .int .i64 a1] w fun e w' => e = .returned (.bool r) ∧ Below w.heap.size w w' := by
  unfold impl_fitBag.f at h
  obtain ⟨t, ht, h⟩ := Option.bind_eq_some_iff.1 h
  have HR := Aside0.mk hr0
  have HC := Aside0.mk hc0
  have eg := enters_of Try.func124 (by kernel_rfl) rfl
  clear hr0 hc0
  have key := fun W hW => impl_AreParcels.calls A0 c0 l0 t W hW HC.out ht
  clear ht
  have hb0 : Below w.heap.size w (w.alloc (.cells #[.int .i64 a1] 3 (0, 0))) := (Below.refl _ _).alloc (Nat.le_refl _) _
  cases t with
  | false =>
    rw [if_neg (by decide)] at h
    obtain rfl := Option.some.inj h
    clear h
    go_enter Try.func93, Try.ntmps93
    go_wp2_with fail
    refine (key _ (Kd.C_below HR.out hb0)).mono ?_
    rintro e w1 ⟨rfl, hb1⟩
    go_wp2
    go_ret
    exact ⟨rfl, Fun.below_box hb1⟩
  | true =>
    rw [if_pos rfl] at h
    obtain ⟨u, hu, h⟩ := Option.bind_eq_some_iff.1 h
    have key2 := fun W => impl_isBag.calls a1 u W hu
    clear hu
    cases u with
    | false =>
      rw [if_neg (by decide)] at h
      obtain rfl := Option.some.inj h
      clear h
      go_enter Try.func93, Try.ntmps93
      go_wp2_with fail
      refine (key _ (Kd.C_below HR.out hb0)).mono ?_
      rintro e w1 ⟨rfl, hb1⟩
      obtain ⟨hc, hf⟩ := Fun.bcell hb1
      have hb2 := Fun.below_box hb1
      have c0 := (hc w.heap.size 0 (by simp)).trans (show _ = some (.int .i64 a1) by simp)
      clear hc hf hb1
      go_wp2_with fail
      refine (key2 _).mono ?_
      rintro e w2 ⟨rfl, hd3⟩
      have hb3 := hd3.below
      clear hd3
      go_wp2
      go_ret
      exact ⟨rfl, hb2.trans (hb3.mono hb2.size)⟩
    | true =>
      rw [if_pos rfl] at h
      obtain rfl := Option.some.inj h
      clear h
      go_enter Try.func93, Try.ntmps93
      go_wp2_with fail
      refine (key _ (Kd.C_below HR.out hb0)).mono ?_
      rintro e w1 ⟨rfl, hb1⟩
      obtain ⟨hc, hf⟩ := Fun.bcell hb1
      have hb2 := Fun.below_box hb1
      have c0 := (hc w.heap.size 0 (by simp)).trans (show _ = some (.int .i64 a1) by simp)
      have hs1 : w.heap.size < w1.heap.size := Nat.lt_of_lt_of_le (by simp) hb1.size
      clear hc hf hb1
      go_wp2_with fail
      refine (key2 _).mono ?_
      rintro e w2 ⟨rfl, hd3⟩
      have hb3 := hd3.below
      clear hd3
      have c1 := (hb3.cell (p := ⟨w.heap.size, 0, none⟩) hs1).trans c0
      have hs2 : w.heap.size < w2.heap.size := Nat.lt_of_lt_of_le hs1 hb3.size
      have hb4 := hb2.trans (hb3.mono hb2.size)
      clear hb2 hb3 c0 hs1
      go_wp2_with fail
      refine (parc_containsFunc (fun x => decide (x.f1 > a1)) 124 #[.pointer (some ⟨w.heap.size, 0, none⟩)] eg A0 c0 l0 _ (Kd.C_below HR.out hb4) HC.out (fun W x _ hW => (parc_heavy w.heap.size a1 W x ((hW.cell (p := ⟨w.heap.size, 0, none⟩) hs2).trans c1) (Nat.lt_of_lt_of_le hs2 hW.size)).mono fun e w' h => ⟨h.1, hW.trans (h.2.mono hW.size)⟩)).mono ?_
      rintro e w3 ⟨rfl, hb5⟩
      go_wp2
      go_ret
      exact ⟨rfl, hb4.trans (hb5.mono hb4.size)⟩
end Go.Proofs.Ytagbpiofphgjlaa.G

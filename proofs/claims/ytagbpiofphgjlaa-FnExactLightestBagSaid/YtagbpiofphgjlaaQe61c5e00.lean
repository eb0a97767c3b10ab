/- Texts of this seat's proofs: contracts of its functions and plain laws about them, with no condition beyond those that each theorem states. -/
import Derived.Test.YtagbpiofphgjlaaQe9280fc4
import Derived.Test.YtagbpiofphgjlaaQ6b303e28
import Derived.Test.YtagbpiofphgjlaaQf1ef9cd2
import Derived.Test.YtagbpiofphgjlaaQ7eae4345
import Derived.Test.YtagbpiofphgjlaaQ7787cf75
import Derived.Test.YtagbpiofphgjlaaQ3844345b
import Derived.Test.YtagbpiofphgjlaaQa78498bd
namespace Go.Proofs.Ytagbpiofphgjlaa.G
open Go.RowKit Go.Proofs.YtagbpiofphgjlaaW.PrintWords Go.Proofs.YtagbpiofphgjlaaW.PrintLast Go.Proofs.YtagbpiofphgjlaaW.PrintMore
attribute [local go_sem] max2_int min2_int max_two min_two max_three min_three max_four min_four
set_option linter.unusedVariables false
set_option linter.unusedSimpArgs false
def impl_LightestBag.f (k : Nat) (l0 : List (S61)) (a1 : Int) : Option (Int × Bool) := (impl_AreParcels.f l0).bind fun t => if t = true then (impl_within.f a1 1 8).bind fun u => if u = true then (impl_weightOf.f k l0).bind fun b => (if l0.length ≤ 8 then (bpGo (lbNum k l0 a1) l0 b l0.length [] [] ⟨0, 0, []⟩).bind fun s => some (s.least, true) else none) else some (0, false) else some (0, false)
set_option maxHeartbeats 2000000 in
set_option maxRecDepth 100000 in
theorem impl_LightestBag.calls (k : Nat) (A0 : Option Addr) (c0 : Nat) (l0 : List (S61)) (a1 : Int) (r1 : Int) (r2 : Bool) (w : World) (hr0 : Kd.C k61 w A0 l0.length l0) (hc0 : l0.length ≤ c0) (h : impl_LightestBag.f k l0 a1 = some (r1, r2)) :
    Calls Try.prog 45 #[.slice A0 l0.length c0, .int .i64 a1] w fun e w' => e = .returned (.tuple #[.int .i64 r1, .bool r2]) ∧ Below w.heap.size w w' := by
  unfold impl_LightestBag.f at h
  obtain ⟨t, ht, hh⟩ := Option.bind_eq_some_iff.1 h
  clear h
  have HR := Aside0.mk hr0
  have HC := Aside0.mk hc0
  have eg := enters_of Try.func105 (by kernel_rfl) rfl
  clear hr0 hc0
  have hb0 : Below w.heap.size w (w.alloc (.cells #[.int .i64 a1] 3 (0, 0))) := (Below.refl _ _).alloc (Nat.le_refl _) _
  have key := fun W hW => impl_AreParcels.calls A0 c0 l0 t W hW HC.out ht
  clear ht
  cases t with
  | false =>
    rw [if_neg (by decide)] at hh
    obtain ⟨rfl, rfl⟩ : r1 = 0 ∧ r2 = false := by simpa [eq_comm] using hh
    clear hh
    go_enter Try.func45, Try.ntmps45
    go_wp2_with fail
    refine (key _ (Kd.C_below HR.out hb0)).mono ?_
    rintro e w1 ⟨rfl, hb1⟩
    go_wp2
    go_ret2
    exact ⟨rfl, Fun.below_box hb1⟩
  | true =>
    rw [if_pos rfl] at hh
    obtain ⟨u, hu, hh⟩ := Option.bind_eq_some_iff.1 hh
    have key2 := fun W => impl_within.calls a1 1 8 u W hu
    clear hu
    cases u with
    | false =>
      rw [if_neg (by decide)] at hh
      obtain ⟨rfl, rfl⟩ : r1 = 0 ∧ r2 = false := by simpa [eq_comm] using hh
      clear hh
      go_enter Try.func45, Try.ntmps45
      go_wp2_with fail
      refine (key _ (Kd.C_below HR.out hb0)).mono ?_
      rintro e w1 ⟨rfl, hb1⟩
      obtain ⟨hc, hf⟩ := Fun.bcell hb1
      have hb2 := Fun.below_box hb1
      have c0 := (hc w.heap.size 0 (by simp)).trans (show _ = some (.int .i64 a1) by simp)
      clear hc hf hb1
      go_wp2_with fail
      refine (key2 _).mono ?_
      rintro e w2 ⟨rfl, hd3⟩
      have hb3 := hd3.below
      clear hd3
      go_wp2
      go_ret2
      exact ⟨rfl, hb2.trans (hb3.mono hb2.size)⟩
    | true =>
      rw [if_pos rfl] at hh
      obtain ⟨b, hbw, hh⟩ := Option.bind_eq_some_iff.1 hh
      by_cases hl : l0.length ≤ 8
      · rw [if_pos hl] at hh
        obtain ⟨s, hs, hh⟩ := Option.bind_eq_some_iff.1 hh
        obtain ⟨rfl, rfl⟩ : r1 = s.least ∧ r2 = true := by simpa [eq_comm] using hh
        clear hh
        have HS := Aside0.mk hs
        have key3 := Aside0.mk fun W hW => impl_weightOf.calls k A0 c0 l0 b W hW HC.out hbw
        clear hs hbw
        go_enter Try.func45, Try.ntmps45
        go_wp2_with fail
        refine (key _ (Kd.C_below HR.out hb0)).mono ?_
        rintro e w1 ⟨rfl, hb1⟩
        obtain ⟨hc, hf⟩ := Fun.bcell hb1
        have hb2 := Fun.below_box hb1
        have c0 := (hc w.heap.size 0 (by simp)).trans (show _ = some (.int .i64 a1) by simp)
        have hs1 : w.heap.size < w1.heap.size := Nat.lt_of_lt_of_le (by simp) hb1.size
        clear hc hf hb1 key
        go_wp2_with fail
        refine (key2 _).mono ?_
        rintro e w2 ⟨rfl, hd3⟩
        have hb3 := hd3.below
        clear hd3
        have c1 := (hb3.cell (p := ⟨w.heap.size, 0, none⟩) hs1).trans c0
        have hs2 : w.heap.size < w2.heap.size := Nat.lt_of_lt_of_le hs1 hb3.size
        have hb4 := hb2.trans (hb3.mono hb2.size)
        clear hb2 hb3 c0 hs1 key2 hb0
        go_wp2_with fail
        refine (key3.out _ (Kd.C_below HR.out hb4)).mono ?_
        rintro e w3 ⟨rfl, hb5⟩
        have hb5 : Below w2.heap.size w2 w3 := by first | exact hb5 | exact hb5.below
        have C2 := Aside0.mk ((hb5.cell (p := ⟨w.heap.size, 0, none⟩) hs2).trans c1)
        have hs3 : w.heap.size < w3.heap.size := Nat.lt_of_lt_of_le hs2 hb5.size
        have HB := Aside0.mk (below_step hb4 hb5)
        clear hb4 hb5 c1 hs2 key3
        go_wp2_with fail
        refine (bp_call (lbNum k l0 a1) 105 #[.pointer (some ⟨w.heap.size, 0, none⟩)] eg A0 c0 l0 b w3 (Kd.C_below HR.out HB.out) HC.out hl (fun W p A c x hW hC hc _ hx => lb_calls k w.heap.size a1 A0 c0 l0 A c p x W (Kd.C_below HR.out (HB.out.trans (hW.mono HB.out.size))) HC.out hC hc ((hW.cell (p := ⟨w.heap.size, 0, none⟩) hs3).trans C2.out) hx) s HS.out).mono ?_
        rintro e w4 ⟨v, rfl, ho, hb6⟩
        obtain ⟨Ab, cb, rfl⟩ := Kd.R_slice ho
        have HB2 := Aside0.mk hb6
        clear ho hb6
        go_wp2
        go_ret2
        exact ⟨rfl, HB.out.trans (HB2.out.mono HB.out.size)⟩
      · rw [if_neg hl] at hh
        cases hh
end Go.Proofs.Ytagbpiofphgjlaa.G

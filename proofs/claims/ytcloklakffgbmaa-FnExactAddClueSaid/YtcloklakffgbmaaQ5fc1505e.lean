/- Texts of this seat's proofs: contracts of its functions and plain laws about them, with no condition beyond those that each theorem states. -/
import Derived.Test.YtcloklakffgbmaaQ1bfdbd4f
import Derived.Test.YtcloklakffgbmaaQb00e85b7
import Derived.Test.YtcloklakffgbmaaQf289bbfe
import Derived.Test.YtcloklakffgbmaaQaafb66b2
namespace Go.Proofs.Ytcloklakffgbmaa.G
open Go.RowKit Go.Proofs.YtcloklakffgbmaaW.PrintWords Go.Proofs.YtcloklakffgbmaaW.PrintLast Go.Proofs.YtcloklakffgbmaaW.PrintMore
attribute [local go_sem] max2_int min2_int max_two min_two max_three min_three max_four min_four
set_option linter.unusedVariables false
set_option linter.unusedSimpArgs false
def impl_IsPuzzle.f (a0_0 : Int) (a0_1 : Int) (l0_2 : List (S37)) : Option (Bool) :=
 (impl_isHiddenStreet.f a0_0 a0_1).bind fun t => if t = true then (if (l0_2.length : Int) ≤ 6 then some (!(l0_2.any fun x => !clueOk x)) else some false) else some false
set_option maxHeartbeats 2000000 in
set_option maxRecDepth 100000 in
theorem impl_IsPuzzle.calls (a0_0 : Int) (a0_1 : Int) (A0_2 : Option Addr) (c0_2 : Nat) (l0_2 : List (S37)) (r : Bool) (w : World) (hr0_2 : Kd.C k37 w A0_2 l0_2.length l0_2) (hc0_2 : l0_2.length ≤ c0_2) (h : impl_IsPuzzle.f a0_0 a0_1 l0_2 = some r) :
  Calls Try.prog 23 #[.agg #[.int .i64 a0_0, .int .i64 a0_1, .slice A0_2 l0_2.length c0_2]] w fun e w' => e = .returned (.bool r) ∧ Below w.heap.size w w' := by
 have hu39 := Try.underlying33
 have hu27 := Try.underlying30
 unfold impl_IsPuzzle.f at h
 obtain ⟨t, ht, h⟩ := Option.bind_eq_some_iff.1 h
 have HR := Aside0.mk hr0_2
 have HC := Aside0.mk hc0_2
 have eg := enters_of Try.func67 (by kernel_rfl) rfl
 have key := fun W => impl_isHiddenStreet.calls a0_0 a0_1 t W ht
 clear ht hr0_2 hc0_2
 by_cases c1 : t = true
 ·subst c1
  rw [if_pos rfl] at h
  by_cases c2 : (l0_2.length : Int) ≤ 6
  ·rw [if_pos c2] at h
   have c3 : decide ((l0_2.length : Int) ≤ 6) = true := decide_eq_true c2
   obtain rfl := Option.some.inj h
   clear h
   generalize hq : l0_2.any (fun x => !clueOk x) = q
   have HQ := Aside0.mk hq
   clear hq
   go_enter Try.func23, Try.ntmps23
   go_wp2_with fail
   refine (key _).mono ?_
   rintro e w1 ⟨rfl, hb1⟩
   obtain ⟨hc, hf⟩ := Fun.bcell hb1
   have hb2 := Fun.below_box hb1
   have c0 := (hc w.heap.size 2 (by simp)).trans (show _ = some (.slice A0_2 l0_2.length c0_2) by simp)
   clear hc hf hb1
   go_wp2_with fail
   refine (clue_containsFunc (fun x => !clueOk x) 67 #[] eg A0_2 c0_2 l0_2 _ (Kd.C_below HR.out hb2) HC.out (fun W x _ hW => (clue_bad W x).mono fun e w' h => ⟨h.1, hW.trans (h.2.mono hW.size)⟩)).mono ?_
   rintro e w2 ⟨rfl, hb3⟩
   go_wp2
   go_ret
   exact ⟨by rw [HQ.out]; rfl, hb2.trans (hb3.mono hb2.size)⟩
  ·rw [if_neg c2] at h
   have c3 : decide ((l0_2.length : Int) ≤ 6) = false := decide_eq_false c2
   obtain rfl := Option.some.inj h
   clear h
   go_enter Try.func23, Try.ntmps23
   go_wp2_with fail
   refine (key _).mono ?_
   rintro e w1 ⟨rfl, hb1⟩
   obtain ⟨hc, hf⟩ := Fun.bcell hb1
   have hb2 := Fun.below_box hb1
   have c0 := (hc w.heap.size 2 (by simp)).trans (show _ = some (.slice A0_2 l0_2.length c0_2) by simp)
   clear hc hf hb1
   go_wp2
   go_ret
   exact ⟨rfl, hb2⟩
 ·obtain rfl : t = false := by simpa using c1
  rw [if_neg c1] at h
  obtain rfl := Option.some.inj h
  clear c1 h
  go_enter Try.func23, Try.ntmps23
  go_wp2_with fail
  refine (key _).mono ?_
  rintro e w1 ⟨rfl, hb1⟩
  have hb2 := Fun.below_box hb1
  clear hb1
  go_wp2
  go_ret
  exact ⟨rfl, hb2⟩
end Go.Proofs.Ytcloklakffgbmaa.G

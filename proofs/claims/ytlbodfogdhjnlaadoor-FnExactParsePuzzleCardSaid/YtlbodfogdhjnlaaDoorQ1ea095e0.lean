/- Texts of this seat's proofs: contracts of its functions and plain laws about them, with no condition beyond those that each theorem states. -/
import Derived.Lib.AtoiErrMem
import Derived.Test.YtlbodfogdhjnlaaDoorQ08f17515
import Derived.Test.YtlbodfogdhjnlaaDoorQ9420aada
import Derived.Test.YtlbodfogdhjnlaaDoorQcc0e67f4
import Derived.Test.YtlbodfogdhjnlaaDoorQ31e182c3
namespace Go.Proofs.YtlbodfogdhjnlaaDoor.G
open Go.RowKit Go.Proofs.YtlbodfogdhjnlaaDoorW.PrintWords Go.Proofs.YtlbodfogdhjnlaaDoorW.PrintLast Go.Proofs.YtlbodfogdhjnlaaDoorW.PrintMore
attribute [local go_sem] max2_int min2_int max_two min_two max_three min_three max_four min_four
set_option linter.unusedVariables false
set_option linter.unusedSimpArgs false
def rnum (l : List UInt8) : Int × Bool := match Lib.atoiAll l with
  | .ok v => if Lib.itoa v = l then (v, true) else (0, false)
  | _ => (0, false)
theorem atoi_range {l : List UInt8} {v : Int} (h : Lib.atoiAll l = .ok v) : -9223372036854775808 ≤ v ∧ v ≤ 9223372036854775807 := by
  unfold Lib.atoiAll at h
  cases l with
  | nil => cases h
  | cons c r =>
    simp only at h
    split at h
    · cases h
    · cases h
    · rename_i u hu
      split at h
      · cases h
      · split at h
        · cases h
        · injection h with h
          by_cases hn : c.toNat = 45
          · simp [hn] at *
            omega
          · simp [hn] at *
            omega
def impl_readNumber.f (a0 : ByteArray) : Option (Int × Bool) := if a0.size ≤ 281474976710656 then some (rnum a0.data.toList) else none
theorem impl_readNumber.calls (a0 : ByteArray) (r1 : Int) (r2 : Bool) (w : World) (hT : Tb w) (h : impl_readNumber.f a0 = some (r1, r2)) :
    Calls Tryd.prog 35 #[.string a0] w fun e w' => e = .returned (.tuple #[.int .i64 r1, .bool r2]) ∧ Below w.heap.size w w' := by
  unfold impl_readNumber.f at h
  by_cases c1 : a0.size ≤ 281474976710656
  · rw [if_pos c1] at h
    have hR := Option.some.inj h
    clear h
    cases hat : Lib.atoiAll a0.data.toList with
    | «syntax» =>
      have e : (r1, r2) = (0, false) := by rw [← hR, rnum, hat]
      obtain ⟨rfl, rfl⟩ := Prod.mk.inj e
      clear e hR
      obtain ⟨u, v, hv⟩ := hT.esyn
      have HC := Aside0.mk (Tryd.strconv_Atoi_syntax a0 c1 hat (.iface u v) w hv (.inr ⟨u, v, rfl⟩))
      clear hT hat hv c1
      go_enter Tryd.func35, Tryd.ntmps35
      go_wp2_with fail
      refine HC.out.mono ?_
      rintro e w1 ⟨N, rfl, _, _, hb⟩
      have HB := Aside0.mk hb
      clear hb
      go_wp2
      go_ret2
      exact ⟨rfl, HB.out⟩
    | range =>
      have e : (r1, r2) = (0, false) := by rw [← hR, rnum, hat]
      obtain ⟨rfl, rfl⟩ := Prod.mk.inj e
      clear e hR
      obtain ⟨u, v, hv⟩ := hT.erng
      have HC := Aside0.mk (Tryd.strconv_Atoi_range a0 c1 hat (.iface u v) w hv (.inr ⟨u, v, rfl⟩))
      clear hT hat hv c1
      go_enter Tryd.func35, Tryd.ntmps35
      go_wp2_with fail
      refine HC.out.mono ?_
      rintro e w1 ⟨N, rfl, _, _, hb⟩
      have HB := Aside0.mk hb
      clear hb
      go_wp2
      go_ret2
      exact ⟨rfl, HB.out⟩
    | ok v =>
      obtain ⟨b1, b2⟩ := atoi_range hat
      have HC := Aside0.mk (Tryd.strconv_Atoi_ok a0 (by omega) v hat w)
      have HT := Aside0.mk hT
      have HI := Aside0.mk (show strconv_Itoa.f v = some ⟨(Lib.itoa v).toArray⟩ by unfold strconv_Itoa.f; rw [if_pos b1, if_pos b2])
      have e2 : a0.toList = a0.data.toList := ByteArray.toList_eq a0
      clear hT b1 b2 c1
      by_cases hq : Lib.itoa v = a0.data.toList
      · have e : (r1, r2) = (v, true) := by rw [← hR, rnum, hat]; simp only; rw [if_pos hq]
        obtain ⟨rfl, rfl⟩ := Prod.mk.inj e
        clear e hR hat
        have q1 : (Lib.itoa r1 == a0.toList) = true := by rw [e2, hq]; exact beq_self_eq_true _
        have q2 : (Lib.itoa r1 != a0.toList) = false := by rw [e2, hq]; exact bne_self_eq_false _
        clear e2 hq
        go_enter Tryd.func35, Tryd.ntmps35
        go_wp2_with fail
        refine HC.out.mono ?_
        rintro e w1 ⟨rfl, hw⟩
        have hb : Below w.heap.size w w1 := by
          rcases hw with rfl | ⟨t, rfl⟩
          · exact Below.refl _ _
          · exact Lib.bytesWorld_below _ _ _
        have HB := Aside0.mk hb
        clear hb hw
        go_wp2_with fail
        refine (strconv_Itoa.calls r1 _ _ (Tb.below HT.out HB.out) HI.out).mono ?_
        rintro e w2 ⟨rfl, hb⟩
        have HB2 := Aside0.mk (below_step HB.out hb)
        clear hb HB
        go_wp2
        go_ret2
        exact ⟨rfl, HB2.out⟩
      · have e : (r1, r2) = (0, false) := by rw [← hR, rnum, hat]; simp only; rw [if_neg hq]
        obtain ⟨rfl, rfl⟩ := Prod.mk.inj e
        clear e hR hat
        have q1 : (Lib.itoa v == a0.toList) = false := by rw [e2]; exact beq_eq_false_iff_ne.mpr hq
        have q2 : (Lib.itoa v != a0.toList) = true := by rw [e2]; exact bne_iff_ne.mpr hq
        clear e2 hq
        go_enter Tryd.func35, Tryd.ntmps35
        go_wp2_with fail
        refine HC.out.mono ?_
        rintro e w1 ⟨rfl, hw⟩
        have hb : Below w.heap.size w w1 := by
          rcases hw with rfl | ⟨t, rfl⟩
          · exact Below.refl _ _
          · exact Lib.bytesWorld_below _ _ _
        have HB := Aside0.mk hb
        clear hb hw
        go_wp2_with fail
        refine (strconv_Itoa.calls v _ _ (Tb.below HT.out HB.out) HI.out).mono ?_
        rintro e w2 ⟨rfl, hb⟩
        have HB2 := Aside0.mk (below_step HB.out hb)
        clear hb HB
        go_wp2
        go_ret2
        exact ⟨rfl, HB2.out⟩
  · rw [if_neg c1] at h
    cases h
end Go.Proofs.YtlbodfogdhjnlaaDoor.G

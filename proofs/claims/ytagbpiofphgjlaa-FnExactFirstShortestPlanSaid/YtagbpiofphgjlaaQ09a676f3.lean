/- Texts of this seat's proofs: contracts of its functions and plain laws about them, with no condition beyond those that each theorem states. -/
import Derived.Test.YtagbpiofphgjlaaQe9280fc4
import Derived.Test.YtagbpiofphgjlaaQd9409066
import Derived.Test.YtagbpiofphgjlaaQ2e310109
import Derived.Test.YtagbpiofphgjlaaQa63aec36
namespace Go.Proofs.Ytagbpiofphgjlaa.G
open Go.RowKit Go.Proofs.YtagbpiofphgjlaaW.PrintWords Go.Proofs.YtagbpiofphgjlaaW.PrintLast Go.Proofs.YtagbpiofphgjlaaW.PrintMore
attribute [local go_sem] max2_int min2_int max_two min_two max_three min_three max_four min_four
set_option linter.unusedVariables false
set_option linter.unusedSimpArgs false
def shortGo (k : Nat) (l : List S61) : List (List Int) → List Int → Int → Int → Option (List Int × Int × Int)
  | [], best, least, count => some (best, least, count)
  | p :: ps, best, least, count => (spec_bgLength.f k l p).bind fun n => if best.length = 0 ∨ n.1 < least then shortGo k l ps p n.1 1 else if n.1 = least then shortGo k l ps best least (wrap64 (count + 1)) else shortGo k l ps best least count
def spec_bgShortest.f (k : Nat) (l0 : List (S61)) (a1 : Int) : Option (List Int × Int × Int) := (spec_bgAll.f k l0 a1).bind fun all => if all.length ≤ 9223372036854775806 then shortGo k l0 all [] 0 0 else none
set_option maxHeartbeats 4000000 in
set_option maxRecDepth 100000 in
theorem spec_bgShortest.calls (k : Nat) (A0 : Option Addr) (c0 : Nat) (l0 : List (S61)) (a1 : Int) (r1 : List Int) (r2 : Int) (r3 : Int) (w : World) (hr0 : Kd.C k61 w A0 l0.length l0) (hc0 : l0.length ≤ c0) (h : spec_bgShortest.f k l0 a1 = some (r1, r2, r3)) :
    Calls Try.prog 110 #[.slice A0 l0.length c0, .int .i64 a1] w fun e w' => ∃ v0_ : Value, e = .returned (.tuple #[v0_, .int .i64 r2, .int .i64 r3]) ∧ Kd.R (Kd.int .i64) 3 w' w.heap.size (fun _ => True) v0_ r1 ∧ Below w.heap.size w w' := by
  unfold spec_bgShortest.f at h
  obtain ⟨all, hall, hh⟩ := Option.bind_eq_some_iff.1 h
  clear h
  by_cases hl : all.length ≤ 9223372036854775806
  · rw [if_pos hl] at hh
    have KA := Aside0.mk fun W h0 => spec_bgAll.calls k A0 c0 l0 a1 all W h0 hc0 hall
    have HR := Aside0.mk hr0
    have HC := Aside0.mk hc0
    have HH := Aside0.mk hh
    clear hr0 hc0 hh hall
    go_enter Try.func110, Try.ntmps110
    go_wp2_with fail
    refine (KA.out _ HR.out).mono ?_
    rintro e w1 ⟨v, rfl, ho, hb⟩
    obtain ⟨Av, cv, rfl⟩ := Kd.S_slice ho
    have HO := Aside0.mk (Kd.S_R ho)
    have HB := Aside0.mk hb
    clear ho hb KA
    go_wp2_with fail
    go_loopg [7, 8, 9, 18] all.length (fun gg s7 s8 s9 s18 wr => ∃ (i : Nat) (best : List Int) (least count : Int), s18 = .int .i64 (i : Int) ∧ s8 = .int .i64 least ∧ s9 = .int .i64 count ∧ i + gg = all.length ∧ Aside0 (shortGo k l0 (all.drop i) best least count = some (r1, r2, r3)) ∧ Aside0 (Below w.heap.size w wr) ∧ Aside0 (Below w1.heap.size w1 wr) ∧ Aside0 (Kd.R (Kd.int .i64) 3 wr w.heap.size (fun _ => True) s7 best))
    case atStart => exact ⟨0, [], 0, 0, rfl, rfl, rfl, by omega, HH, HB, ⟨Below.refl _ _⟩, ⟨Kd.R_nil _ _ _ _ _⟩⟩
    case round =>
      obtain ⟨i, best, least, count, rfl, rfl, rfl, hg, HF, HB2, HB3, HV⟩ := hrel
      by_cases hlt : i < all.length
      · obtain ⟨m, rfl⟩ : ∃ m, gk = m + 1 := ⟨gk - 1, by omega⟩
        have c1 : decide ((i : Int) < (all.length : Int)) = true := decide_eq_true (by omega)
        have hF := HF.out
        rw [List.drop_eq_getElem_cons hlt] at hF
        unfold shortGo at hF
        obtain ⟨⟨n1, n2⟩, hws, hF⟩ := Option.bind_eq_some_iff.1 hF
        have HO3 := Kd.R_below HO.out HB3.out
        obtain ⟨ad, rfl⟩ : ∃ ad, Av = some ad := by
          obtain ⟨g, cap, hv, _⟩ := Kd.R_form HO3 (by omega)
          injection hv with hA
          exact ⟨_, hA⟩
        obtain ⟨vp, hvp, hp⟩ := row_at HO3 i hlt hlt
        obtain ⟨Ap, cp, rfl, hcp, hCp⟩ := Kd.R_reads hp
        obtain ⟨Ab, cb, rfl⟩ := Kd.R_slice HV.out
        have KW := Aside0.mk (spec_bgLength.calls k A0 c0 l0 Ap cp all[i] n1 n2 wr (Kd.C_below HR.out HB2.out) HC.out hCp hcp hws)
        have HP := Aside0.mk hp
        have e3 : wrap64 ((i : Int) + 1) = ((i + 1 : Nat) : Int) := by unfold wrap64; omega
        clear hCp hp HO3 hws
        go_wp2_with fail
        refine KW.out.mono ?_
        rintro e w2 ⟨rfl, hbw⟩
        have HBW : Aside0 (Below wr.heap.size wr w2) := ⟨by first | exact hbw | exact hbw.below⟩
        clear hbw KW
        by_cases hz : best.length = 0
        · rw [if_pos (.inl hz)] at hF
          have c2 : ((best.length : Int) == 0) = true := by simp [hz]
          have c4 : (best.length == 0) = true := by simp [hz]
          have HF2 := Aside0.mk hF
          clear hF
          go_wp2
          go_roundg m
          case measure => omega
          case rel => exact ⟨i + 1, all[i], n1, 1, rfl, rfl, rfl, by omega, HF2, ⟨below_step HB2.out HBW.out⟩, ⟨below_step HB3.out HBW.out⟩, ⟨Kd.R_below HP.out HBW.out⟩⟩
        · have c2 : ((best.length : Int) == 0) = false := by simp; exact fun h => hz (by rw [h]; rfl)
          have c4 : (best.length == 0) = false := by simp; exact fun h => hz (by rw [h]; rfl)
          by_cases hfew : n1 < least
          · rw [if_pos (.inr hfew)] at hF
            have c3 : decide (n1 < least) = true := decide_eq_true hfew
            have HF2 := Aside0.mk hF
            clear hF
            go_wp2
            go_roundg m
            case measure => omega
            case rel => exact ⟨i + 1, all[i], n1, 1, rfl, rfl, rfl, by omega, HF2, ⟨below_step HB2.out HBW.out⟩, ⟨below_step HB3.out HBW.out⟩, ⟨Kd.R_below HP.out HBW.out⟩⟩
          · rw [if_neg (by rintro (h | h); exact hz h; exact hfew h)] at hF
            have c3 : decide (n1 < least) = false := decide_eq_false hfew
            by_cases heq : n1 = least
            · rw [if_pos heq] at hF
              have c5 : (n1 == least) = true := by simpa using heq
              have HF2 := Aside0.mk hF
              clear hF
              go_wp2
              go_roundg m
              case measure => omega
              case rel => exact ⟨i + 1, best, least, wrap64 (count + 1), rfl, rfl, rfl, by omega, HF2, ⟨below_step HB2.out HBW.out⟩, ⟨below_step HB3.out HBW.out⟩, ⟨Kd.R_below HV.out HBW.out⟩⟩
            · rw [if_neg heq] at hF
              have c5 : (n1 == least) = false := by simpa using heq
              have HF2 := Aside0.mk hF
              clear hF
              go_wp2
              go_roundg m
              case measure => omega
              case rel => exact ⟨i + 1, best, least, count, rfl, rfl, rfl, by omega, HF2, ⟨below_step HB2.out HBW.out⟩, ⟨below_step HB3.out HBW.out⟩, ⟨Kd.R_below HV.out HBW.out⟩⟩
      · obtain rfl : gk = 0 := by omega
        have c1 : decide ((i : Int) < (all.length : Int)) = false := decide_eq_false (by omega)
        have hF := HF.out
        rw [List.drop_eq_nil_of_le (by omega)] at hF
        unfold shortGo at hF
        obtain ⟨rfl, rfl, rfl⟩ : best = r1 ∧ least = r2 ∧ count = r3 := by simpa using hF
        obtain ⟨Ab, cb, rfl⟩ := Kd.R_slice HV.out
        clear hF HF HH
        go_wp2
        go_ret3
        exact ⟨_, rfl, HV.out, HB2.out⟩
  · rw [if_neg hl] at hh
    cases hh
end Go.Proofs.Ytagbpiofphgjlaa.G

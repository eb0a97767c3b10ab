/- Texts of this seat's proofs: contracts of its functions and plain laws about them, with no condition beyond those that each theorem states. -/
import Derived.Test.YtagbpiofphgjlaaQ3ef7806c
import Derived.Test.YtagbpiofphgjlaaQ6c898aac
import Derived.Test.YtagbpiofphgjlaaQd4c393a8
namespace Go.Proofs.Ytagbpiofphgjlaa.G
open Go.RowKit Go.Proofs.YtagbpiofphgjlaaW.PrintWords Go.Proofs.YtagbpiofphgjlaaW.PrintLast Go.Proofs.YtagbpiofphgjlaaW.PrintMore
attribute [local go_sem] max2_int min2_int max_two min_two max_three min_three max_four min_four
set_option linter.unusedVariables false
set_option linter.unusedSimpArgs false
theorem row_at {W : World} {base n cap : Nat} {ad : Addr} {xs : List (List Int)} (h : Kd.R (Kd.slice 3 (Kd.int .i64)) 29 W base (fun _ => True) (.slice (some ad) n cap) xs) (i : Nat) (hi : i < n) (hx : i < xs.length) :
    ∃ v, W.cell? (ad.add i) = some v ∧ Kd.R (Kd.int .i64) 3 W base (fun _ => True) v xs[i] := by
  obtain ⟨c, _, ⟨v, rfl, hr⟩, hc⟩ := Kd.R_get h [] (i : Int) (by omega) (by omega)
  refine ⟨v, ?_, ?_⟩
  · have := hc 0 v rfl
    simpa [Kd.slice] using this
  · have := Kd.R_mono hr (fun _ _ => trivial) (ok' := fun _ => True)
    rwa [Int.toNat_natCast, List.getD_eq_getElem?_getD, List.getElem?_eq_getElem hx, Option.getD_some] at this
def fewGo (k : Nat) (l : List S61) : List (List Int) → List Int → Int → Option (List Int × Int)
  | [], best, few => some (best, few)
  | p :: ps, best, few => (spec_bgWeights.f k l p).bind fun ws => if (ws.length : Int) < few then fewGo k l ps p ws.length else fewGo k l ps best few
def spec_bgFewest.f (k : Nat) (l0 : List (S61)) (a1 : Int) : Option (List Int × Int) := (spec_bgAll.f k l0 a1).bind fun all => if l0.length ≤ 1000 ∧ all.length ≤ 9223372036854775806 then fewGo k l0 all [] ((l0.length : Int) + 1) else none
set_option maxHeartbeats 4000000 in
set_option maxRecDepth 100000 in
theorem spec_bgFewest.calls (k : Nat) (A0 : Option Addr) (c0 : Nat) (l0 : List (S61)) (a1 : Int) (r1 : List Int) (r2 : Int) (w : World) (hr0 : Kd.C k61 w A0 l0.length l0) (hc0 : l0.length ≤ c0) (h : spec_bgFewest.f k l0 a1 = some (r1, r2)) :
    Calls Try.prog 95 #[.slice A0 l0.length c0, .int .i64 a1] w fun e w' => ∃ v0_ : Value, e = .returned (.tuple #[v0_, .int .i64 r2]) ∧ Kd.R (Kd.int .i64) 3 w' w.heap.size (fun _ => True) v0_ r1 ∧ Below w.heap.size w w' := by
  unfold spec_bgFewest.f at h
  obtain ⟨all, hall, hh⟩ := Option.bind_eq_some_iff.1 h
  clear h
  by_cases hl : l0.length ≤ 1000 ∧ all.length ≤ 9223372036854775806
  · rw [if_pos hl] at hh
    obtain ⟨hl, hl2⟩ := hl
    have KA := Aside0.mk fun W h0 => spec_bgAll.calls k A0 c0 l0 a1 all W h0 hc0 hall
    have HR := Aside0.mk hr0
    have HC := Aside0.mk hc0
    have HH := Aside0.mk hh
    clear hr0 hc0 hh hall
    have e2 : wrap64 ((l0.length : Int) + 1) = (l0.length : Int) + 1 := by unfold wrap64; omega
    go_enter Try.func95, Try.ntmps95
    go_wp2_with fail
    refine (KA.out _ HR.out).mono ?_
    rintro e w1 ⟨v, rfl, ho, hb⟩
    obtain ⟨Av, cv, rfl⟩ := Kd.S_slice ho
    have HO := Aside0.mk (Kd.S_R ho)
    have HB := Aside0.mk hb
    clear ho hb KA
    go_wp2_with fail
    go_loopg [6, 7, 18] all.length (fun gg s6 s7 s18 wr => ∃ (i : Nat) (best : List Int) (few : Int), s18 = .int .i64 (i : Int) ∧ s7 = .int .i64 few ∧ i + gg = all.length ∧ Aside0 (fewGo k l0 (all.drop i) best few = some (r1, r2)) ∧ Aside0 (Below w.heap.size w wr) ∧ Aside0 (Below w1.heap.size w1 wr) ∧ Aside0 (Kd.R (Kd.int .i64) 3 wr w.heap.size (fun _ => True) s6 best))
    case atStart => exact ⟨0, [], _, rfl, rfl, by omega, HH, HB, ⟨Below.refl _ _⟩, ⟨Kd.R_nil _ _ _ _ _⟩⟩
    case round =>
      obtain ⟨i, best, few, rfl, rfl, hg, HF, HB2, HB3, HV⟩ := hrel
      by_cases hlt : i < all.length
      · obtain ⟨m, rfl⟩ : ∃ m, gk = m + 1 := ⟨gk - 1, by omega⟩
        have c1 : decide ((i : Int) < (all.length : Int)) = true := decide_eq_true (by omega)
        have hF := HF.out
        rw [List.drop_eq_getElem_cons hlt] at hF
        unfold fewGo at hF
        obtain ⟨ws, hws, hF⟩ := Option.bind_eq_some_iff.1 hF
        have HO3 := Kd.R_below HO.out HB3.out
        obtain ⟨ad, rfl⟩ : ∃ ad, Av = some ad := by
          obtain ⟨g, cap, hv, _⟩ := Kd.R_form HO3 (by omega)
          injection hv with hA
          exact ⟨_, hA⟩
        obtain ⟨vp, hvp, hp⟩ := row_at HO3 i hlt hlt
        obtain ⟨Ap, cp, rfl, hcp, hCp⟩ := Kd.R_reads hp
        have KW := Aside0.mk (spec_bgWeights.calls k A0 c0 l0 Ap cp all[i] ws wr (Kd.C_below HR.out HB2.out) HC.out hCp hcp hws)
        have HP := Aside0.mk hp
        have e3 : wrap64 ((i : Int) + 1) = ((i + 1 : Nat) : Int) := by unfold wrap64; omega
        clear hCp hp HO3 hws
        go_wp2_with fail
        refine KW.out.mono ?_
        rintro e w2 ⟨vw, rfl, how, hbw⟩
        obtain ⟨Aw, cw, rfl⟩ := Kd.R_slice how
        have HBW := Aside0.mk hbw
        clear how hbw KW
        by_cases hfew : (ws.length : Int) < few
        · rw [if_pos hfew] at hF
          have c2 : decide ((ws.length : Int) < few) = true := decide_eq_true hfew
          have HF2 := Aside0.mk hF
          clear hF
          go_wp2
          go_roundg m
          case measure => omega
          case rel => exact ⟨i + 1, all[i], ws.length, rfl, rfl, by omega, HF2, ⟨below_step HB2.out HBW.out⟩, ⟨below_step HB3.out HBW.out⟩, ⟨Kd.R_below HP.out HBW.out⟩⟩
        · rw [if_neg hfew] at hF
          have c2 : decide ((ws.length : Int) < few) = false := decide_eq_false hfew
          have HF2 := Aside0.mk hF
          clear hF
          go_wp2
          go_roundg m
          case measure => omega
          case rel => exact ⟨i + 1, best, few, rfl, rfl, by omega, HF2, ⟨below_step HB2.out HBW.out⟩, ⟨below_step HB3.out HBW.out⟩, ⟨Kd.R_below HV.out HBW.out⟩⟩
      · obtain rfl : gk = 0 := by omega
        have c1 : decide ((i : Int) < (all.length : Int)) = false := decide_eq_false (by omega)
        have hF := HF.out
        rw [List.drop_eq_nil_of_le (by omega)] at hF
        unfold fewGo at hF
        obtain ⟨rfl, rfl⟩ : best = r1 ∧ few = r2 := by simpa using hF
        obtain ⟨Ab, cb, rfl⟩ := Kd.R_slice HV.out
        clear hF HF HH
        go_wp2
        go_ret2
        exact ⟨_, rfl, HV.out, HB2.out⟩
  · rw [if_neg hl] at hh
    cases hh
end Go.Proofs.Ytagbpiofphgjlaa.G

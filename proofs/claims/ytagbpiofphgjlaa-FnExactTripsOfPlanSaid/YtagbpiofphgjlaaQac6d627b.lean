/- Texts of this seat's proofs: contracts of its functions and plain laws about them, with no condition beyond those that each theorem states. -/
import Derived.Test.YtagbpiofphgjlaaQ375386e9
import Derived.Test.YtagbpiofphgjlaaQd7823013
namespace Go.Proofs.Ytagbpiofphgjlaa.G
open Go.RowKit Go.Proofs.YtagbpiofphgjlaaW.PrintWords Go.Proofs.YtagbpiofphgjlaaW.PrintLast Go.Proofs.YtagbpiofphgjlaaW.PrintMore
attribute [local go_sem] max2_int min2_int max_two min_two max_three min_three max_four min_four
set_option linter.unusedVariables false
set_option linter.unusedSimpArgs false
def mkss (k : Nat) : Nat → Nat → List (List Int) → Int → Option (Int × List (List Int))
  | 0, _, xs, a => some (a, xs)
  | d + 1, i, xs, a => (laws_markIntS.f k (xs.getD i []) a).bind fun r => mkss k d (i + 1) (xs.set i r.2) r.1
set_option maxHeartbeats 4000000 in
set_option maxRecDepth 100000 in
theorem mark_ss (k : Nat) (P : Nat → Prop) (A : Option Addr) (c : Nat) (xs0 : List (List Int)) (a0 : Int) (r1 : Int) (r2 : List (List Int)) (w0 w : World) (hB : Below w0.heap.size w0 w) (hs : Kd.S (Kd.slice 3 (Kd.int .i64)) 29 w w0.heap.size P (.slice A xs0.length c) xs0) (h : mkss k xs0.length 0 xs0 a0 = some (r1, r2)) :
    Calls Try.prog 65 #[.slice A xs0.length c, .int .i64 a0] w fun e w' => e = .returned (.int .i64 r1) ∧ Kd.S (Kd.slice 3 (Kd.int .i64)) 29 w' w0.heap.size P (.slice A xs0.length c) r2 ∧ Below w0.heap.size w0 w' ∧ Kept w w' P := by
  have hmax : xs0.length ≤ 9223372036854775807 := (Kd.S_reads' hs).2.2.2.1
  have HS := Aside0.mk hs
  have HB := Aside0.mk hB
  have HH := Aside0.mk h
  generalize hn : xs0.length = n at *
  clear hs hB h
  go_enter Try.func65, Try.ntmps65
  go_wp2_with fail
  go_loopg [1, 5] n (fun gg s1 s5 wr => ∃ (i : Nat) (xs : List (List Int)) (a : Int), s1 = .int .i64 a ∧ s5 = .int .i64 (i : Int) ∧ i + gg = n ∧ xs.length = n ∧ Aside0 (mkss k gg i xs a = some (r1, r2)) ∧ Aside0 (Kd.S (Kd.slice 3 (Kd.int .i64)) 29 wr w0.heap.size P (.slice A n c) xs) ∧ Aside0 (Below w0.heap.size w0 wr) ∧ Aside0 (Kept w wr P))
  case atStart => exact ⟨0, xs0, a0, rfl, rfl, by omega, hn, HH, HS, HB, ⟨Kept.refl _ _⟩⟩
  case round =>
    obtain ⟨i, xs, a, rfl, rfl, hg, hxl, HM, HO, HB2, HK⟩ := hrel
    by_cases hlt : i < n
    · obtain ⟨m, rfl⟩ : ∃ m, gk = m + 1 := ⟨gk - 1, by omega⟩
      have c1 : decide ((i : Int) < (n : Int)) = true := decide_eq_true (by omega)
      have hM := HM.out
      simp only [mkss] at hM
      obtain ⟨⟨b1, b2⟩, hb, hM3⟩ := Option.bind_eq_some_iff.1 hM
      obtain ⟨g, cap, hv, _⟩ := Kd.R_form (Kd.S_R HO.out) (by omega)
      injection hv with hA hlen hcap
      clear hlen
      subst hA
      subst hcap
      obtain ⟨oki, cs, _, hrow, hcell, hoki, hH⟩ := Kd.S_lend HO.out [] (i : Int) (by omega) (by omega)
      obtain ⟨v, rfl, hr⟩ := hrow
      have hcl := hcell 0 v rfl
      simp only [Int.toNat_natCast, Kd.slice, Nat.mul_one, Nat.add_zero] at hcl
      rw [Int.toNat_natCast] at hr
      generalize xs.getD i [] = row at *
      obtain ⟨Ar, cr, rfl⟩ := Kd.R_slice hr
      have KC := Aside0.mk (laws_markIntS.calls k oki _ _ a b1 b2 w0 wr HB2.out hr hb)
      have e1 : wrap64 ((i : Int) + 1) = ((i + 1 : Nat) : Int) := by unfold wrap64; omega
      have HR := Aside0.mk hr
      have HHH := Aside0.mk hH
      have HM2 : Aside0 (mkss k m (i + 1) (xs.set i b2) b1 = some (r1, r2)) := ⟨hM3⟩
      have HOK := Aside0.mk hoki
      clear hr hH hM hM3 hb hcell hoki
      go_wp2_with fail
      refine KC.out.mono ?_
      rintro e w2 ⟨rfl, hy, hb2, hk2⟩
      have r1' := Kd.R_reok rfl hy (fun k_ e_ => HR.out.1 k_ e_)
      have r2' := Kd.H_back (Kd.H_step HHH.out (fun k_ ho hn' hlt' => hk2.2 k_ hlt' hn')) (Kd.M_row r1') (fun _ hk => hk)
      rw [Int.toNat_natCast] at r2'
      have HS2 := Aside0.mk r2'
      have HB3 := Aside0.mk hb2
      have HK2 := Aside0.mk (HK.out.then_ hk2 (fun k_ hk => .inl (HOK.out k_ hk).1))
      clear r1' r2' hy hb2 hk2 KC
      go_wp2
      go_roundg m
      case measure => omega
      case rel => exact ⟨i + 1, xs.set i b2, b1, rfl, by first | rfl | rw [e1], by omega, by rw [List.length_set]; exact hxl, HM2, HS2, HB3, HK2⟩
    · obtain rfl : gk = 0 := by omega
      have c1 : decide ((i : Int) < (n : Int)) = false := decide_eq_false (by omega)
      have hM := HM.out
      simp only [mkss] at hM
      obtain ⟨rfl, rfl⟩ : a = r1 ∧ xs = r2 := by simpa using hM
      clear hM HM HH
      go_wp2
      go_ret
      exact ⟨rfl, HO.out, HB2.out, HK.out⟩
end Go.Proofs.Ytagbpiofphgjlaa.G

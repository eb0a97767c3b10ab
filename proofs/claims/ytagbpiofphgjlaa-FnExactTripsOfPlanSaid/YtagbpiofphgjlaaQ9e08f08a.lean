/- Texts of this seat's proofs: contracts of its functions and plain laws about them, with no condition beyond those that each theorem states. -/
import Derived.Deep.RegionHeld3
import Derived.Test.YtagbpiofphgjlaaQ375386e9
import Derived.Test.YtagbpiofphgjlaaQa246b30d
import Derived.Test.YtagbpiofphgjlaaQ8260e6bd
import Derived.Test.YtagbpiofphgjlaaQ4e1d6372
import Derived.Test.YtagbpiofphgjlaaQ1e722b57
import Derived.Test.YtagbpiofphgjlaaQd7823013
import Derived.Test.YtagbpiofphgjlaaQ4b0edff8
import Derived.Test.YtagbpiofphgjlaaQe56df2ce
import Derived.Test.YtagbpiofphgjlaaQ1c3b7df9
import Derived.Test.YtagbpiofphgjlaaQac6d627b
namespace Go.Proofs.Ytagbpiofphgjlaa.G
open Go.RowKit Go.Proofs.YtagbpiofphgjlaaW.PrintWords Go.Proofs.YtagbpiofphgjlaaW.PrintLast Go.Proofs.YtagbpiofphgjlaaW.PrintMore
attribute [local go_sem] max2_int min2_int max_two min_two max_three min_three max_four min_four
set_option linter.unusedVariables false
set_option linter.unusedSimpArgs false
section
variable {α : Type} {d : Kd α} {e : Nat} {w Wa Wb : World} {v : Value} {xs : List α}
theorem seg_R (h : d.R e Wb Wa.heap.size (fun _ => True) v xs) (hle : w.heap.size ≤ Wa.heap.size) : d.R e Wb w.heap.size (fun k_ => Wa.heap.size ≤ k_ ∧ k_ < Wb.heap.size) v xs := Kd.R_lower (Kd.R_mono (Kd.R_bound h) (fun k hk => ⟨hk.2.1, hk.2.2.1⟩)) hle
theorem seg_S (h : Kd.S d e Wb Wa.heap.size (fun _ => True) v xs) (hle : w.heap.size ≤ Wa.heap.size) : Kd.S d e Wb w.heap.size (fun k_ => Wa.heap.size ≤ k_ ∧ k_ < Wb.heap.size) v xs := Kd.S_lower (Kd.S_mono (Kd.S_bound h) (fun k hk => ⟨hk.2.1, hk.2.2.1⟩)) hle
end
structure TripsRun (k : Nat) (l0 : List S63) (a1 : Int) (l2 : List Int) (lp : List S61) (t : List (List Int)) (ok : Bool) (p1 p2 : List S61) (n1 n2 n3 : Int) (p3 : List Int) (t2 : List (List Int)) : Prop where
  conv : laws_toParcelS.f k l0 = some lp
  ints : laws_toIntS.f k l2 = some l2
  spec : spec_TripsOfPlan.f k lp a1 l2 = some (t, ok)
  impl : impl_TripsOfPlan.f k lp a1 l2 = some (t, ok)
  eqT : laws_eqIntSS.f k t t = some true
  eqP : laws_eqParcelS.f k lp lp = some true
  eqI : laws_eqIntS.f k l2 l2 = some true
  markP : laws_markParcelS.f k lp 1 = some (n1, p1)
  markI : laws_markIntS.f k l2 n1 = some (n2, p3)
  pos : 0 ≤ n2
  markT : mkss k t.length 0 t 1 = some (n3, t2)
  heldT : laws_heldIntSS.f k t2 1 = some n3
  pos3 : 0 ≤ n3
def laws_FnExactTripsOfPlan.Pure : Prop := ∀ (l0 : List S63) (a1 : Int) (l2 : List Int), l0.length ≤ maxLen → (∀ x ∈ l0, (Lit.int .i64 x.f0).wf = true ∧ (Lit.int .i64 x.f1).wf = true) → (Lit.int .i64 a1).wf = true → l2.length ≤ maxLen → (∀ x ∈ l2, (Lit.int .i64 x).wf = true) →
  1048576 < l2.length ∨ ∃ n : Int, laws_szParcelS.f l0 1048576 = some n ∧ (n < 0 ∨ (0 ≤ n ∧ ∃ k lp t ok p1 p2 n1 n2 n3 p3 t2, TripsRun k l0 a1 l2 lp t ok p1 p2 n1 n2 n3 p3 t2))
set_option maxHeartbeats 8000000 in
set_option maxRecDepth 100000 in
theorem laws_FnExactTripsOfPlan.walk (Q : laws_FnExactTripsOfPlan.Pure) (A0 : Option Addr) (c0 : Nat) (l0 : List S63) (a1 : Int) (A2 : Option Addr) (c2 : Nat) (l2 : List Int) (w : World) (hr0 : Kd.C k63 w A0 l0.length l0) (hc0 : l0.length ≤ c0) (hr2 : Kd.C (Kd.int .i64) w A2 l2.length l2) (hc2 : l2.length ≤ c2)
    (hw0 : l0.length ≤ maxLen) (hw1 : ∀ x ∈ l0, (Lit.int .i64 x.f0).wf = true ∧ (Lit.int .i64 x.f1).wf = true) (hw2 : (Lit.int .i64 a1).wf = true) (hw3 : l2.length ≤ maxLen) (hw4 : ∀ x ∈ l2, (Lit.int .i64 x).wf = true) :
    Calls Try.prog 19 #[.slice A0 l0.length c0, .int .i64 a1, .slice A2 l2.length c2] w fun e w' => e = .returned (.bool true) ∧ Below w.heap.size w w' := by
  have HR0 := Aside0.mk hr0
  have HC0 := Aside0.mk hc0
  have HR2 := Aside0.mk hr2
  have HC2 := Aside0.mk hc2
  have HQ := Aside0.mk (Q l0 a1 l2 hw0 hw1 hw2 hw3 hw4)
  clear Q hw0 hw1 hw2 hw4 hr0 hc0 hr2 hc2
  by_cases hbig : (l2.length : Int) > 1048576
  · have d1 : decide ((l2.length : Int) > 1048576) = true := decide_eq_true hbig
    go_enter Try.func19, Try.ntmps19
    go_wp2
    go_ret
    exact ⟨rfl, Below.refl _ _⟩
  · have d1 : decide ((l2.length : Int) > 1048576) = false := decide_eq_false hbig
    obtain ⟨n, hn, hcase⟩ := HQ.out.resolve_left (by omega)
    have KZ := Aside0.mk fun W h => laws_szParcelS.calls A0 c0 l0 1048576 n W h HC0.out hn
    clear hn HQ
    rcases hcase with hneg | ⟨hpos, hrun⟩
    · have d2 : decide (n < 0) = true := decide_eq_true hneg
      go_enter Try.func19, Try.ntmps19
      go_wp2_with fail
      refine (KZ.out _ HR0.out).mono ?_
      rintro e w1 ⟨rfl, hd⟩
      have HB := Aside0.mk hd.below
      clear hd
      go_wp2
      go_ret
      exact ⟨rfl, HB.out⟩
    · have d2 : decide (n < 0) = false := decide_eq_false (by omega)
      obtain ⟨k, lp, t, ok, p1, p2, n1, n2, n3, p3, t2, run⟩ := hrun
      have HRUN := Aside0.mk run
      clear run hpos
      go_enter Try.func19, Try.ntmps19
      go_wp2_with fail
      refine (KZ.out _ HR0.out).mono ?_
      rintro e w1 ⟨rfl, hd⟩
      have HB := Aside0.mk hd.below
      clear hd
      go_wp2_with fail
      refine (laws_toParcelS.calls k A0 c0 l0 lp _ (Kd.C_below HR0.out HB.out) HC0.out HRUN.out.conv).mono ?_
      rintro e w2 ⟨v, rfl, ho, hb⟩
      have S2 := Aside0.mk hb.size
      have HB_ := Aside0.mk (below_step HB.out hb)
      obtain ⟨AP1, cP1, rfl⟩ := Kd.R_slice ho
      have P1 := Aside0.mk (seg_R ho HB.out.size)
      clear hb ho HB
      have HB := HB_
      clear HB_
      go_wp2_with fail
      refine (laws_toIntS.calls k A2 c2 l2 l2 _ (Kd.C_below HR2.out HB.out) HC2.out HRUN.out.ints).mono ?_
      rintro e w3 ⟨v, rfl, ho, hb⟩
      have S3 := Aside0.mk hb.size
      have P1_ := Aside0.mk (Kd.R_below P1.out hb)
      have HB_ := Aside0.mk (below_step HB.out hb)
      obtain ⟨AI1, cI1, rfl⟩ := Kd.R_slice ho
      have I1 := Aside0.mk (seg_R ho HB.out.size)
      clear hb ho HB P1
      have P1 := P1_
      have HB := HB_
      clear HB_ P1_
      go_wp2_with fail
      refine (spec_TripsOfPlan.calls k _ _ lp a1 _ _ l2 t ok _ (Kd.R_reads' P1.out).2.2 (Kd.R_reads' P1.out).2.1 (Kd.R_reads' I1.out).2.2 (Kd.R_reads' I1.out).2.1 HRUN.out.spec).mono ?_
      rintro e w4 ⟨v, rfl, ho, hb⟩
      have S4 := Aside0.mk hb.size
      have P1_ := Aside0.mk (Kd.R_below P1.out hb)
      have I1_ := Aside0.mk (Kd.R_below I1.out hb)
      have HB_ := Aside0.mk (below_step HB.out hb)
      obtain ⟨AT0, cT0, rfl⟩ := Kd.S_slice ho
      have T0 := Aside0.mk (seg_S ho HB.out.size)
      clear hb ho HB P1 I1
      have P1 := P1_
      have I1 := I1_
      have HB := HB_
      clear HB_ P1_ I1_
      clear P1
      clear I1
      go_wp2_with fail
      refine (laws_toParcelS.calls k A0 c0 l0 lp _ (Kd.C_below HR0.out HB.out) HC0.out HRUN.out.conv).mono ?_
      rintro e w5 ⟨v, rfl, ho, hb⟩
      have S5 := Aside0.mk hb.size
      have T0_ := Aside0.mk (Kd.S_below T0.out hb)
      have HB_ := Aside0.mk (below_step HB.out hb)
      obtain ⟨AX0, cX0, rfl⟩ := Kd.R_slice ho
      have X0 := Aside0.mk (seg_R ho HB.out.size)
      clear hb ho HB T0
      have T0 := T0_
      have HB := HB_
      clear HB_ T0_
      go_wp2_with fail
      refine (laws_toIntS.calls k A2 c2 l2 l2 _ (Kd.C_below HR2.out HB.out) HC2.out HRUN.out.ints).mono ?_
      rintro e w6 ⟨v, rfl, ho, hb⟩
      have S6 := Aside0.mk hb.size
      have T0_ := Aside0.mk (Kd.S_below T0.out hb)
      have X0_ := Aside0.mk (Kd.R_below X0.out hb)
      have HB_ := Aside0.mk (below_step HB.out hb)
      obtain ⟨AX2, cX2, rfl⟩ := Kd.R_slice ho
      have X2 := Aside0.mk (seg_R ho HB.out.size)
      clear hb ho HB T0 X0
      have T0 := T0_
      have X0 := X0_
      have HB := HB_
      clear HB_ T0_ X0_
      go_wp2_with fail
      refine (impl_TripsOfPlan.calls k _ _ lp a1 _ _ l2 t ok _ (Kd.R_reads' X0.out).2.2 (Kd.R_reads' X0.out).2.1 (Kd.R_reads' X2.out).2.2 (Kd.R_reads' X2.out).2.1 HRUN.out.impl).mono ?_
      rintro e w7 ⟨v, rfl, ho, hb⟩
      have S7 := Aside0.mk hb.size
      have T0_ := Aside0.mk (Kd.S_below T0.out hb)
      have X0_ := Aside0.mk (Kd.R_below X0.out hb)
      have X2_ := Aside0.mk (Kd.R_below X2.out hb)
      have HB_ := Aside0.mk (below_step HB.out hb)
      obtain ⟨AG, cG, rfl⟩ := Kd.S_slice ho
      have G := Aside0.mk (seg_S ho HB.out.size)
      clear hb ho HB T0 X0 X2
      have T0 := T0_
      have X0 := X0_
      have X2 := X2_
      have HB := HB_
      clear HB_ T0_ X0_ X2_
      go_wp2_with fail
      refine (laws_eqIntSS.calls k _ _ t _ _ t true _ (Kd.S_reads' G.out).2.2 (Kd.S_reads' G.out).2.1 (Kd.S_reads' T0.out).2.2 (Kd.S_reads' T0.out).2.1 HRUN.out.eqT).mono ?_
      rintro e w8 ⟨rfl, hd⟩
      have hb : Below w7.heap.size w7 w8 := by first | exact hd | exact hd.below
      have S8 := Aside0.mk hb.size
      have T0_ := Aside0.mk (Kd.S_below T0.out hb)
      have X0_ := Aside0.mk (Kd.R_below X0.out hb)
      have X2_ := Aside0.mk (Kd.R_below X2.out hb)
      have G_ := Aside0.mk (Kd.S_below G.out hb)
      have HB_ := Aside0.mk (below_step HB.out hb)
      clear hb hd HB T0 X0 X2 G
      have T0 := T0_
      have X0 := X0_
      have X2 := X2_
      have G := G_
      have HB := HB_
      clear HB_ T0_ X0_ X2_ G_
      go_wp2_with fail
      refine (laws_toParcelS.calls k A0 c0 l0 lp _ (Kd.C_below HR0.out HB.out) HC0.out HRUN.out.conv).mono ?_
      rintro e w9 ⟨v, rfl, ho, hb⟩
      have S9 := Aside0.mk hb.size
      have T0_ := Aside0.mk (Kd.S_below T0.out hb)
      have X0_ := Aside0.mk (Kd.R_below X0.out hb)
      have X2_ := Aside0.mk (Kd.R_below X2.out hb)
      have G_ := Aside0.mk (Kd.S_below G.out hb)
      have HB_ := Aside0.mk (below_step HB.out hb)
      obtain ⟨AP2, cP2, rfl⟩ := Kd.R_slice ho
      have P2 := Aside0.mk (seg_R ho HB.out.size)
      clear hb ho HB T0 X0 X2 G
      have T0 := T0_
      have X0 := X0_
      have X2 := X2_
      have G := G_
      have HB := HB_
      clear HB_ T0_ X0_ X2_ G_
      go_wp2_with fail
      refine (laws_eqParcelS.calls k _ _ lp _ _ lp true _ (Kd.R_reads' X0.out).2.2 (Kd.R_reads' X0.out).2.1 (Kd.R_reads' P2.out).2.2 (Kd.R_reads' P2.out).2.1 HRUN.out.eqP).mono ?_
      rintro e w10 ⟨rfl, hd⟩
      have hb : Below w9.heap.size w9 w10 := by first | exact hd | exact hd.below
      have S10 := Aside0.mk hb.size
      have T0_ := Aside0.mk (Kd.S_below T0.out hb)
      have X0_ := Aside0.mk (Kd.R_below X0.out hb)
      have X2_ := Aside0.mk (Kd.R_below X2.out hb)
      have G_ := Aside0.mk (Kd.S_below G.out hb)
      have P2_ := Aside0.mk (Kd.R_below P2.out hb)
      have HB_ := Aside0.mk (below_step HB.out hb)
      clear hb hd HB T0 X0 X2 G P2
      have T0 := T0_
      have X0 := X0_
      have X2 := X2_
      have G := G_
      have P2 := P2_
      have HB := HB_
      clear HB_ T0_ X0_ X2_ G_ P2_
      clear P2
      go_wp2_with fail
      refine (laws_toIntS.calls k A2 c2 l2 l2 _ (Kd.C_below HR2.out HB.out) HC2.out HRUN.out.ints).mono ?_
      rintro e w11 ⟨v, rfl, ho, hb⟩
      have S11 := Aside0.mk hb.size
      have T0_ := Aside0.mk (Kd.S_below T0.out hb)
      have X0_ := Aside0.mk (Kd.R_below X0.out hb)
      have X2_ := Aside0.mk (Kd.R_below X2.out hb)
      have G_ := Aside0.mk (Kd.S_below G.out hb)
      have HB_ := Aside0.mk (below_step HB.out hb)
      obtain ⟨AI2, cI2, rfl⟩ := Kd.R_slice ho
      have I2 := Aside0.mk (seg_R ho HB.out.size)
      clear hb ho HB T0 X0 X2 G
      have T0 := T0_
      have X0 := X0_
      have X2 := X2_
      have G := G_
      have HB := HB_
      clear HB_ T0_ X0_ X2_ G_
      go_wp2_with fail
      refine (laws_eqIntS.calls k _ _ l2 _ _ l2 true _ (Kd.R_reads' X2.out).2.2 (Kd.R_reads' X2.out).2.1 (Kd.R_reads' I2.out).2.2 (Kd.R_reads' I2.out).2.1 HRUN.out.eqI).mono ?_
      rintro e w12 ⟨rfl, hd⟩
      have hb : Below w11.heap.size w11 w12 := by first | exact hd | exact hd.below
      have S12 := Aside0.mk hb.size
      have T0_ := Aside0.mk (Kd.S_below T0.out hb)
      have X0_ := Aside0.mk (Kd.R_below X0.out hb)
      have X2_ := Aside0.mk (Kd.R_below X2.out hb)
      have G_ := Aside0.mk (Kd.S_below G.out hb)
      have I2_ := Aside0.mk (Kd.R_below I2.out hb)
      have HB_ := Aside0.mk (below_step HB.out hb)
      clear hb hd HB T0 X0 X2 G I2
      have T0 := T0_
      have X0 := X0_
      have X2 := X2_
      have G := G_
      have I2 := I2_
      have HB := HB_
      clear HB_ T0_ X0_ X2_ G_ I2_
      clear I2
      go_wp2_with fail
      refine (laws_markParcelS.calls k _ _ lp 1 n1 p1 w _ HB.out X0.out HRUN.out.markP).mono ?_
      rintro e w13 ⟨rfl, hy, hb, hk⟩
      have S13 := Aside0.mk hk.1
      have T0_ := Aside0.mk (Kd.S_kept T0.out hk (fun k_ h1 h2 => by have := S2.out; have := S3.out; have := S4.out; have := S5.out; have := S6.out; have := S7.out; have := S8.out; have := S9.out; have := S10.out; have := S11.out; have := S12.out; omega))
      have X2_ := Aside0.mk (Kd.R_kept X2.out hk (fun k_ h1 h2 => by have := S2.out; have := S3.out; have := S4.out; have := S5.out; have := S6.out; have := S7.out; have := S8.out; have := S9.out; have := S10.out; have := S11.out; have := S12.out; omega))
      have G_ := Aside0.mk (Kd.S_kept G.out hk (fun k_ h1 h2 => by have := S2.out; have := S3.out; have := S4.out; have := S5.out; have := S6.out; have := S7.out; have := S8.out; have := S9.out; have := S10.out; have := S11.out; have := S12.out; omega))
      have HB_ := Aside0.mk hb
      clear hy hb hk HB T0 X0 X2 G
      have T0 := T0_
      have X2 := X2_
      have G := G_
      have HB := HB_
      clear HB_ T0_ X2_ G_
      go_wp2_with fail
      refine (laws_markIntS.calls k _ _ l2 n1 n2 p3 w _ HB.out X2.out HRUN.out.markI).mono ?_
      rintro e w14 ⟨rfl, hy, hb, hk⟩
      have S14 := Aside0.mk hk.1
      have T0_ := Aside0.mk (Kd.S_kept T0.out hk (fun k_ h1 h2 => by have := S2.out; have := S3.out; have := S4.out; have := S5.out; have := S6.out; have := S7.out; have := S8.out; have := S9.out; have := S10.out; have := S11.out; have := S12.out; have := S13.out; omega))
      have G_ := Aside0.mk (Kd.S_kept G.out hk (fun k_ h1 h2 => by have := S2.out; have := S3.out; have := S4.out; have := S5.out; have := S6.out; have := S7.out; have := S8.out; have := S9.out; have := S10.out; have := S11.out; have := S12.out; have := S13.out; omega))
      have HB_ := Aside0.mk hb
      clear hy hb hk HB T0 X2 G
      have T0 := T0_
      have G := G_
      have HB := HB_
      clear HB_ T0_ G_
      have cn2 : decide (n2 < 0) = false := decide_eq_false (by have := HRUN.out.pos; omega)
      go_wp2_with fail
      refine (laws_eqIntSS.calls k _ _ t _ _ t true _ (Kd.S_reads' G.out).2.2 (Kd.S_reads' G.out).2.1 (Kd.S_reads' T0.out).2.2 (Kd.S_reads' T0.out).2.1 HRUN.out.eqT).mono ?_
      rintro e w15 ⟨rfl, hd⟩
      have hb : Below w14.heap.size w14 w15 := by first | exact hd | exact hd.below
      have S15 := Aside0.mk hb.size
      have T0_ := Aside0.mk (Kd.S_below T0.out hb)
      have G_ := Aside0.mk (Kd.S_below G.out hb)
      have HB_ := Aside0.mk (below_step HB.out hb)
      clear hb hd HB T0 G
      have T0 := T0_
      have G := G_
      have HB := HB_
      clear HB_ T0_ G_
      go_wp2_with fail
      refine (mark_ss k _ _ _ t 1 n3 t2 w _ HB.out G.out HRUN.out.markT).mono ?_
      rintro e w16 ⟨rfl, hy, hb, hk⟩
      have S16 := Aside0.mk hk.1
      have T0_ := Aside0.mk (Kd.S_kept T0.out hk (fun k_ h1 h2 => by have := S2.out; have := S3.out; have := S4.out; have := S5.out; have := S6.out; have := S7.out; have := S8.out; have := S9.out; have := S10.out; have := S11.out; have := S12.out; have := S13.out; have := S14.out; have := S15.out; omega))
      have G_ := Aside0.mk hy
      have HB_ := Aside0.mk hb
      clear hy hb hk HB T0 G
      have T0 := T0_
      have G := G_
      have HB := HB_
      clear HB_ T0_ G_
      have cn3 : decide (n3 < 0) = false := decide_eq_false (by have := HRUN.out.pos3; omega)
      have hl2 : t.length = t2.length := (Kd.S_reads' G.out).1
      have heldT := Aside0.mk fun W h => laws_heldIntSS.calls k AG cG t2 1 n3 W h (by rw [← hl2]; exact (Kd.S_reads' G.out).2.1) HRUN.out.heldT
      rw [← hl2] at heldT
      clear hl2
      go_wp2_with fail
      refine (heldT.out _ (by have := (Kd.S_reads' G.out).2.2; have e := (Kd.S_reads' G.out).1; rw [e]; exact this)).mono ?_
      rintro e w17 ⟨rfl, hd⟩
      have hb : Below w16.heap.size w16 w17 := by first | exact hd | exact hd.below
      have S17 := Aside0.mk hb.size
      have T0_ := Aside0.mk (Kd.S_below T0.out hb)
      have G_ := Aside0.mk (Kd.S_below G.out hb)
      have HB_ := Aside0.mk (below_step HB.out hb)
      clear hb hd HB T0 G
      have T0 := T0_
      have G := G_
      have HB := HB_
      clear HB_ T0_ G_
      go_wp2_with fail
      refine (laws_toParcelS.calls k A0 c0 l0 lp _ (Kd.C_below HR0.out HB.out) HC0.out HRUN.out.conv).mono ?_
      rintro e w18 ⟨v, rfl, ho, hb⟩
      have S18 := Aside0.mk hb.size
      have T0_ := Aside0.mk (Kd.S_below T0.out hb)
      have G_ := Aside0.mk (Kd.S_below G.out hb)
      have HB_ := Aside0.mk (below_step HB.out hb)
      obtain ⟨AP3, cP3, rfl⟩ := Kd.R_slice ho
      have P3 := Aside0.mk (seg_R ho HB.out.size)
      clear hb ho HB T0 G
      have T0 := T0_
      have G := G_
      have HB := HB_
      clear HB_ T0_ G_
      go_wp2_with fail
      refine (laws_toIntS.calls k A2 c2 l2 l2 _ (Kd.C_below HR2.out HB.out) HC2.out HRUN.out.ints).mono ?_
      rintro e w19 ⟨v, rfl, ho, hb⟩
      have S19 := Aside0.mk hb.size
      have T0_ := Aside0.mk (Kd.S_below T0.out hb)
      have G_ := Aside0.mk (Kd.S_below G.out hb)
      have P3_ := Aside0.mk (Kd.R_below P3.out hb)
      have HB_ := Aside0.mk (below_step HB.out hb)
      obtain ⟨AI3, cI3, rfl⟩ := Kd.R_slice ho
      have I3 := Aside0.mk (seg_R ho HB.out.size)
      clear hb ho HB T0 G P3
      have T0 := T0_
      have G := G_
      have P3 := P3_
      have HB := HB_
      clear HB_ T0_ G_ P3_
      go_wp2_with fail
      refine (impl_TripsOfPlan.calls k _ _ lp a1 _ _ l2 t ok _ (Kd.R_reads' P3.out).2.2 (Kd.R_reads' P3.out).2.1 (Kd.R_reads' I3.out).2.2 (Kd.R_reads' I3.out).2.1 HRUN.out.impl).mono ?_
      rintro e w20 ⟨v, rfl, ho, hb⟩
      have S20 := Aside0.mk hb.size
      have T0_ := Aside0.mk (Kd.S_below T0.out hb)
      have G_ := Aside0.mk (Kd.S_below G.out hb)
      have P3_ := Aside0.mk (Kd.R_below P3.out hb)
      have I3_ := Aside0.mk (Kd.R_below I3.out hb)
      have HB_ := Aside0.mk (below_step HB.out hb)
      obtain ⟨AH, cH, rfl⟩ := Kd.S_slice ho
      have H := Aside0.mk (seg_S ho HB.out.size)
      clear hb ho HB T0 G P3 I3
      have T0 := T0_
      have G := G_
      have P3 := P3_
      have I3 := I3_
      have HB := HB_
      clear HB_ T0_ G_ P3_ I3_
      clear P3
      clear I3
      go_wp2_with fail
      refine (laws_eqIntSS.calls k _ _ t _ _ t true _ (Kd.S_reads' H.out).2.2 (Kd.S_reads' H.out).2.1 (Kd.S_reads' T0.out).2.2 (Kd.S_reads' T0.out).2.1 HRUN.out.eqT).mono ?_
      rintro e w21 ⟨rfl, hd⟩
      have hb : Below w20.heap.size w20 w21 := by first | exact hd | exact hd.below
      have S21 := Aside0.mk hb.size
      have T0_ := Aside0.mk (Kd.S_below T0.out hb)
      have G_ := Aside0.mk (Kd.S_below G.out hb)
      have H_ := Aside0.mk (Kd.S_below H.out hb)
      have HB_ := Aside0.mk (below_step HB.out hb)
      clear hb hd HB T0 G H
      have T0 := T0_
      have G := G_
      have H := H_
      have HB := HB_
      clear HB_ T0_ G_ H_
      go_wp2_with fail
      refine (heldT.out _ (by have := (Kd.S_reads' G.out).2.2; have e := (Kd.S_reads' G.out).1; rw [e]; exact this)).mono ?_
      rintro e w22 ⟨rfl, hd⟩
      have hb : Below w21.heap.size w21 w22 := by first | exact hd | exact hd.below
      have S22 := Aside0.mk hb.size
      have T0_ := Aside0.mk (Kd.S_below T0.out hb)
      have G_ := Aside0.mk (Kd.S_below G.out hb)
      have H_ := Aside0.mk (Kd.S_below H.out hb)
      have HB_ := Aside0.mk (below_step HB.out hb)
      clear hb hd HB T0 G H
      have T0 := T0_
      have G := G_
      have H := H_
      have HB := HB_
      clear HB_ T0_ G_ H_
      go_wp2
      go_ret
      exact ⟨rfl, HB.out⟩
end Go.Proofs.Ytagbpiofphgjlaa.G

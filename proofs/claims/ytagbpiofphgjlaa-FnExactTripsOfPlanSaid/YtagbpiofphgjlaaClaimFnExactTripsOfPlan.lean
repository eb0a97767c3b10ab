/- The statement FnExactTripsOfPlanSaid of this seat's rows, proved for all its inputs under no condition. -/
import Derived.Below
import Derived.ChangeOld
import Derived.OpenShut
import Derived.ProofKit
import Derived.ShutString
import Derived.SizedLaws
import Derived.WalkKit
import Derived.Test.YtagbpiofphgjlaaRows
import Derived.Test.YtagbpiofphgjlaaQ9e08f08a
import Derived.Test.YtagbpiofphgjlaaQfc422d3c
import Derived.Test.YtagbpiofphgjlaaQ6c9725a5
import Derived.Test.YtagbpiofphgjlaaQ855f5f78
namespace Go.Proofs.Ytagbpiofphgjlaa.fnExactTripsOfPlan
open Go.ChangeShapes Go.WideShapes Go.ChangeAt Go.RowKit
open Go.ChangeMaps (open_string shut_string)
set_option linter.unusedVariables false
theorem own : ownKnob Try.prog.godebug = none := by kernel_rfl
theorem laidOut : laidOutB Try.prog = true := by kernel_rfl
set_option maxRecDepth 100000 in
set_option maxHeartbeats 1000000 in
theorem lifted (os : Os) (started : os.Started) (H : Type) (enc : TypeId × Value → H) :
    ReturnsInHanded {} Try.checked os 19 .any (Rows.fnExactTripsOfPlanSpec.pre6 enc Try.prog Try.f19 Rows.fnExactTripsOfPlanRow.domain false) (Rows.fnExactTripsOfPlanSpec.post enc Try.prog Try.f19 false true false false) := by
  refine returnsInHanded_of_change_sized (C := Try.checked) own started (by kernel_rfl) Try.func19
    (ChangeSpec.witness6 (enc := enc) (C := Try.checked) false ⟨#[], #[.slice none 0 0, .int .i64 0, .slice none 0 0], []⟩ 8 (by kernel_rfl) (by kernel_rfl) (by kernel_rfl) (by kernel_rfl)) ?_
  intro W base args ds gs before hval0 hW hcnd hsz0 _
  have hsz : (DataW.weightsEach Try.prog (Try.f19.params.toList ++ Rows.fnExactTripsOfPlanSpec.plain.varTypes Try.prog) (ds ++ gs)).all (· ≤ reachBytes) = true := hsz0
  have hval : ∀ (j : Nat) t v, Try.f19.params[j]? = some t → args[j]? = some v → Value.okWide Try.prog W .any base t v := hval0
  have hW' := hW
  obtain ⟨p, q, hA0, hV, rfl, hfz, hnd⟩ := hW
  have hA : DataW.TrodAll enc Try.prog W 0 (fun _ => true) true Try.f19.params.toList args.toList ds p := hA0
  rw [Try.params19] at hA hval hsz
  obtain ⟨v0, vs0, d0, ds0, p0, q0, hargs, rfl, rfl, h0, r0⟩ := trodAll_cons hA
  obtain ⟨v1, vs1, d1, ds1, p1, q1, rfl, rfl, rfl, h1, r1⟩ := trodAll_cons r0
  obtain ⟨v2, vs2, d2, ds2, p2, q2, rfl, rfl, rfl, h2, r2⟩ := trodAll_cons r1
  obtain ⟨rfl, rfl, rfl⟩ := trodAll_nil r2
  obtain rfl : args = #[v0, v1, v2] := by cases args; simp_all
  obtain ⟨rfl, rfl⟩ := trodVars_none hV
  obtain ⟨a0, len0, cap0, rfl⟩ := okWide_slice Try.underlying22 (hval 0 22 v0 rfl rfl)
  have k0 := h0
  have lt0 : ∀ x ∈ p0, x.block < W.heap.size := by obtain ⟨m, hm⟩ := k0; exact DataW.trod_lt m _ _ _ hm
  obtain ⟨fuel0, hf0⟩ := h0
  obtain ⟨x0, hK0, hX0⟩ := (Open.opens_slice Try.underlying22 (by kernel_rfl) (Open.opens_iso (f := fun x : G.S63 => (x.f0, x.f1)) (fun y => (⟨y.1, y.2⟩ : G.S63)) (fun _ => rfl) (Open.opens_pair2 Try.underlying63 rfl (by kernel_rfl) (by kernel_rfl) ⟨by kernel_rfl, by kernel_rfl⟩ (Open.opens_int Try.underlying3) (Open.opens_int Try.underlying3)))) _ _ _ _ _ _ _ _ hf0
  obtain ⟨B0, c0, he0, hc0, hr0⟩ := hK0
  obtain ⟨rfl, rfl, rfl⟩ := Open.slice_eq he0
  obtain ⟨a1, rfl, rfl, rfl, w1⟩ := open_int Try.underlying3 (hval 1 3 v1 rfl rfl) h1
  obtain ⟨a2, len2, cap2, rfl⟩ := okWide_slice Try.underlying29 (hval 2 29 v2 rfl rfl)
  have k2 := h2
  have lt2 : ∀ x ∈ p2, x.block < W.heap.size := by obtain ⟨m, hm⟩ := k2; exact DataW.trod_lt m _ _ _ hm
  obtain ⟨fuel2, hf2⟩ := h2
  obtain ⟨x2, hK2, hX2⟩ := (Open.opens_slice Try.underlying29 (by kernel_rfl) (Open.opens_int Try.underlying3)) _ _ _ _ _ _ _ _ hf2
  obtain ⟨B2, c2, he2, hc2, hr2⟩ := hK2
  obtain ⟨rfl, rfl, rfl⟩ := Open.slice_eq he2
  clear hA0 hval0 hsz0 hsz
  refine (G.laws_FnExactTripsOfPlan.walk Pure.FnExactTripsOfPlan B0 c0 x0 a1 B2 c2 x2 W hr0 hc0 hr2 hc2 hX0.1 hX0.2 w1 hX2.1 hX2.2).mono fun e W' ⟨he, bel⟩ => ?_
  subst he
  exact ⟨_, rfl, _, _, _, [], _, [], hW', trodAll_mk1 (shut_bool Try.underlying4 _), (trodAll_cons_mk (Below.trod laidOut (by kernel_rfl) (of_decide_eq_true (by kernel_rfl)) k0 bel lt0) (trodAll_cons_mk (shut_int Try.underlying3 w1) (trodAll_cons_mk (Below.trod laidOut (by kernel_rfl) (of_decide_eq_true (by kernel_rfl)) k2 bel lt2) trodAll_mk0))), rfl, bel.frame _, fun h => by cases h⟩
theorem c0 : (Rows.fnExactTripsOfPlanRow.wf (OpenSpec.ofChange Rows.fnExactTripsOfPlanSpec) : Bool) = true := by kernel_rfl
theorem c1 : (laidOutB Try.prog : Bool) = true := Facts.laidOut
theorem c2 : (mapsRowed Try.prog : Bool) = true := Facts.mapsRowed
theorem c3 : (Try.f19.params.all (Try.prog.readableRec ·) : Bool) = true := by kernel_rfl
theorem c4 : (namedTie Try.prog Rows.fnExactTripsOfPlanRow.named Rows.fnExactTripsOfPlanSpec.vars : Bool) = true := by kernel_rfl
theorem c5 : ((Rows.fnExactTripsOfPlanRow.stops == []) : Bool) = true := by kernel_rfl
theorem c6 : ((Try.prog.stops == []) : Bool) = true := by rw [Facts.stops]; rfl
theorem c7 : ((Rows.fnExactTripsOfPlanRow.knobs == []) : Bool) = true := by kernel_rfl
theorem c8 : ((Try.prog.stopKnobs == []) : Bool) = true := by rw [Facts.stopKnobs]; rfl
theorem c9 : ((Rows.fnExactTripsOfPlanRow.inPlace == Try.prog.inPlace 19) : Bool) = true := by kernel_rfl
theorem c10 : ((Rows.fnExactTripsOfPlanRow.unfollowed == Try.prog.unfollowed 19) : Bool) = true := by kernel_rfl
theorem c11 : ((Rows.fnExactTripsOfPlanRow.recurses == Try.prog.recurses 19) : Bool) = true := by kernel_rfl
theorem c12 : ((Rows.fnExactTripsOfPlanRow.named == Try.prog.varsNamed 19) : Bool) = true := by kernel_rfl
theorem c13 : ((Rows.fnExactTripsOfPlanRow.maps == (Try.f19.params.toList ++ Rows.fnExactTripsOfPlanSpec.plain.varTypes Try.prog).any (Try.prog.mapsRec ·)) : Bool) = true := by kernel_rfl
theorem c14 : ((Rows.fnExactTripsOfPlanRow.ifaces == (Try.f19.params.toList ++ Rows.fnExactTripsOfPlanSpec.plain.varTypes Try.prog).any (Try.prog.ifacesRec ·)) : Bool) = true := by kernel_rfl
theorem c15 : ((Rows.fnExactTripsOfPlanRow.mapsOut == Try.prog.mapsAmong Try.f19.resultTypes.toList) : Bool) = true := by kernel_rfl
theorem c16 : ((Rows.fnExactTripsOfPlanRow.loops == (Try.f19.params.toList ++ Rows.fnExactTripsOfPlanSpec.plain.varTypes Try.prog).any (Try.prog.loopsFrom ·)) : Bool) = true := by kernel_rfl
theorem c17 : ((Rows.fnExactTripsOfPlanRow.wideKeys == (Try.f19.params.toList ++ Rows.fnExactTripsOfPlanSpec.plain.varTypes Try.prog ++ Try.f19.resultTypes.toList).any (Try.prog.wideKeysFrom ·)) : Bool) = true := by kernel_rfl
theorem c18 : (Rows.fnExactTripsOfPlanSpec.vars.all (Try.prog.varReadable ·) : Bool) = true := by kernel_rfl
theorem c19 : (Try.f19.resultTypes.all (fun t => Try.prog.readableRec t && decide (t < Try.prog.types.size)) : Bool) = true := by kernel_rfl
theorem c20 : ((Rows.fnExactTripsOfPlanRow.ifacesOut == Try.f19.resultTypes.toList.any (Try.prog.ifacesRec ·)) : Bool) = true := by kernel_rfl
theorem c21 : ((Rows.fnExactTripsOfPlanRow.loopsOut == Try.f19.resultTypes.toList.any (Try.prog.loopsFrom ·)) : Bool) = true := by kernel_rfl
theorem c22 : ((Rows.fnExactTripsOfPlanRow.plainKeys == Try.prog.plainKeys) : Bool) = true := by rw [Facts.plainKeys]; rfl
theorem c23 : (Rows.fnExactTripsOfPlanRow.shortTexts.isNone : Bool) = true := by kernel_rfl
theorem c24 : (Try.prog.stopsHeard : Bool) = true := Facts.stopsHeard
theorem c25 : (Try.prog.mayEnter : Bool) = true := Facts.mayEnter
theorem c26 : ((Rows.fnExactTripsOfPlanRow.lifted == Try.prog.liftsFinal) : Bool) = true := by rw [Facts.lifts]; rfl
theorem c27 : ((Try.prog.make == some Rows.fnExactTripsOfPlanRow.make) : Bool) = true := by rw [Facts.make]; kernel_rfl
theorem c28 : ((Rows.fnExactTripsOfPlanRow.kinds == (if Rows.fnExactTripsOfPlanRow.domain.isEmpty then [] else Try.f19.params.toList.map fun t => match Try.prog.underlying t with | some (.int k) => some k | _ => none)) : Bool) = true := by kernel_rfl
theorem c29 : ((Rows.fnExactTripsOfPlanRow.pinned == Rows.fnExactTripsOfPlanRow.pinnedBy) : Bool) = true := by kernel_rfl
theorem c30 : ((Rows.fnExactTripsOfPlanRow.veiled == (Try.f19.params.toList ++ Rows.fnExactTripsOfPlanSpec.plain.varTypes Try.prog ++ Try.f19.resultTypes.toList).any (Try.prog.veiledRec ·)) : Bool) = true := by kernel_rfl
theorem c31 : (Rows.fnExactTripsOfPlanRow.veiledFits Try.prog Try.f19.params.toList (Try.f19.params.toList ++ Rows.fnExactTripsOfPlanSpec.plain.varTypes Try.prog ++ Try.f19.resultTypes.toList) : Bool) = true := by kernel_rfl
theorem and_ {a b : Bool} (h : a = true) (h' : b = true) : (a && b) = true := by rw [h, h']; rfl
set_option maxRecDepth 100000 in
theorem closed : joinedFacts Try.prog 19 Try.f19 Rows.fnExactTripsOfPlanSpec Rows.fnExactTripsOfPlanRow = true := by
  unfold joinedFacts
  exact (and_ (and_ (and_ (and_ (and_ (and_ (and_ (and_ (and_ (and_ (and_ (and_ (and_ (and_ (and_ (and_ (and_ (and_ (and_ (and_ (and_ (and_ (and_ (and_ (and_ (and_ (and_ (and_ (and_ (and_ (and_ c0 c1) c2) c3) c4) c5) c6) c7) c8) c9) c10) c11) c12) c13) c14) c15) c16) c17) c18) c19) c20) c21) c22) c23) c24) c25) c26) c27) c28) c29) c30) c31)
theorem named : Try.pinned.checked.prog.funcNamed Rows.fnExactTripsOfPlanRow.func = some 19 := by kernel_rfl
theorem over : Rows.fnExactTripsOfPlanRow.holds Try.pinned (OpenSpec.ofChange Rows.fnExactTripsOfPlanSpec) :=
  OpenClaim.holds_of_wide 19 Try.f19 rfl rfl rfl rfl rfl rfl rfl ⟨rfl, rfl, rfl, rfl, rfl⟩ rfl rfl rfl rfl rfl named Try.func19 closed
    (of_decide_eq_true (by kernel_rfl)) (by unfold Func.isWrapper; first | (rw [if_pos (by decide +kernel)]; kernel_rfl) | (rw [if_neg (by decide +kernel)]; exact ⟨rfl, rfl⟩))
    (fun os started H enc _ => lifted os started H enc)
theorem proved : Rows.FnExactTripsOfPlanSaid := over
#print axioms proved
end Go.Proofs.Ytagbpiofphgjlaa.fnExactTripsOfPlan
namespace Go.Proofs.Ytagbpiofphgjlaa
theorem fnExactTripsOfPlan_holds : Rows.FnExactTripsOfPlanSaid := fnExactTripsOfPlan.proved
end Go.Proofs.Ytagbpiofphgjlaa

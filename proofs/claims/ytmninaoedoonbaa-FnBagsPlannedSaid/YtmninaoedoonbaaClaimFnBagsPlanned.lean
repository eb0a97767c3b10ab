/- The statement FnBagsPlannedSaid of this seat's rows, proved for all its inputs under no condition. -/
import Derived.Below
import Derived.ChangeOld
import Derived.OpenShut
import Derived.ProofKit
import Derived.ShutString
import Derived.SizedLaws
import Derived.WalkKit
import Derived.Test.YtmninaoedoonbaaRows
import Derived.Test.YtmninaoedoonbaaQ778e2bef
import Derived.Test.YtmninaoedoonbaaQ07b9fc2f
namespace Go.Proofs.Ytmninaoedoonbaa.fnBagsPlanned
open Go.ChangeShapes Go.WideShapes Go.ChangeAt Go.RowKit
open Go.ChangeMaps (open_string shut_string)
set_option linter.unusedVariables false
theorem own : ownKnob Try.prog.godebug = none := by kernel_rfl
theorem laidOut : laidOutB Try.prog = true := by kernel_rfl
set_option maxRecDepth 100000 in
set_option maxHeartbeats 1000000 in
theorem lifted (os : Os) (started : os.Started) (H : Type) (enc : TypeId × Value → H) :
  ReturnsInHanded {} Try.checked os 3 .any (Rows.fnBagsPlannedSpec.pre6 enc Try.prog Try.f3 Rows.fnBagsPlannedRow.domain false) (Rows.fnBagsPlannedSpec.post enc Try.prog Try.f3 false true false false) := by
 refine returnsInHanded_of_change_sized (C := Try.checked) own started (by kernel_rfl) Try.func3
  (ChangeSpec.witness6 (enc := enc) (C := Try.checked) false ⟨#[], #[.slice none 0 0, .slice none 0 0], []⟩ 8 (by kernel_rfl) (by kernel_rfl) (by kernel_rfl) (by kernel_rfl)) ?_
 intro W base args ds gs before hval0 hW hcnd hsz0 _
 have hsz : (DataW.weightsEach Try.prog (Try.f3.params.toList ++ Rows.fnBagsPlannedSpec.plain.varTypes Try.prog) (ds ++ gs)).all (· ≤ reachBytes) = true := hsz0
 have hval : ∀ (j : Nat) t v, Try.f3.params[j]? = some t → args[j]? = some v → Value.okWide Try.prog W .any base t v := hval0
 have hW' := hW
 obtain ⟨p, q, hA0, hV, rfl, hfz, hnd⟩ := hW
 have hA : DataW.TrodAll enc Try.prog W 0 (fun _ => true) true Try.f3.params.toList args.toList ds p := hA0
 rw [Try.params3] at hA hval hsz
 obtain ⟨v0, vs0, d0, ds0, p0, q0, hargs, rfl, rfl, h0, r0⟩ := trodAll_cons hA
 obtain ⟨v1, vs1, d1, ds1, p1, q1, rfl, rfl, rfl, h1, r1⟩ := trodAll_cons r0
 obtain ⟨rfl, rfl, rfl⟩ := trodAll_nil r1
 obtain rfl : args = #[v0, v1] := by cases args; simp_all
 obtain ⟨rfl, rfl⟩ := trodVars_none hV
 obtain ⟨a0, len0, cap0, rfl⟩ := okWide_slice Try.underlying22 (hval 0 22 v0 rfl rfl)
 have k0 := h0
 have lt0 : ∀ x ∈ p0, x.block < W.heap.size := by obtain ⟨m, hm⟩ := k0; exact DataW.trod_lt m _ _ _ hm
 obtain ⟨fuel0, hf0⟩ := h0
 obtain ⟨x0, hK0, hX0⟩ := (Open.opens_slice Try.underlying22 (by kernel_rfl) (Open.opens_int Try.underlying5)) _ _ _ _ _ _ _ _ hf0
 obtain ⟨B0, c0, he0, hc0, hr0⟩ := hK0
 obtain ⟨rfl, rfl, rfl⟩ := Open.slice_eq he0
 obtain ⟨a1, len1, cap1, rfl⟩ := okWide_slice Try.underlying22 (hval 1 22 v1 rfl rfl)
 have k1 := h1
 have lt1 : ∀ x ∈ p1, x.block < W.heap.size := by obtain ⟨m, hm⟩ := k1; exact DataW.trod_lt m _ _ _ hm
 obtain ⟨fuel1, hf1⟩ := h1
 obtain ⟨x1, hK1, hX1⟩ := (Open.opens_slice Try.underlying22 (by kernel_rfl) (Open.opens_int Try.underlying5)) _ _ _ _ _ _ _ _ hf1
 obtain ⟨B1, c1, he1, hc1, hr1⟩ := hK1
 obtain ⟨rfl, rfl, rfl⟩ := Open.slice_eq he1
 clear hA0 hval0 hsz0 hsz
 refine (G.laws_FnBagsPlanned.walk Pure.FnBagsPlanned B0 c0 x0 B1 c1 x1 W hr0 hc0 hr1 hc1 hX0.1 hX0.2 hX1.1 hX1.2).mono fun e W' ⟨he, bel⟩ => ?_
 subst he
 exact ⟨_, rfl, _, _, _, [], _, [], hW', trodAll_mk1 (shut_bool Try.underlying4 _), (trodAll_cons_mk (Below.trod laidOut (by kernel_rfl) (of_decide_eq_true (by kernel_rfl)) k0 bel lt0) (trodAll_cons_mk (Below.trod laidOut (by kernel_rfl) (of_decide_eq_true (by kernel_rfl)) k1 bel lt1) trodAll_mk0)), rfl, bel.frame _, fun h => by cases h⟩
theorem c0 : (Rows.fnBagsPlannedRow.wf (OpenSpec.ofChange Rows.fnBagsPlannedSpec) : Bool) = true := by kernel_rfl
theorem c1 : (laidOutB Try.prog : Bool) = true := Facts.laidOut
theorem c2 : (mapsRowed Try.prog : Bool) = true := Facts.mapsRowed
theorem c3 : (Try.f3.params.all (Try.prog.readableRec ·) : Bool) = true := by kernel_rfl
theorem c4 : (namedTie Try.prog Rows.fnBagsPlannedRow.named Rows.fnBagsPlannedSpec.vars : Bool) = true := by kernel_rfl
theorem c5 : ((Rows.fnBagsPlannedRow.stops == []) : Bool) = true := by kernel_rfl
theorem c6 : ((Try.prog.stops == []) : Bool) = true := by rw [Facts.stops]; rfl
theorem c7 : ((Rows.fnBagsPlannedRow.knobs == []) : Bool) = true := by kernel_rfl
theorem c8 : ((Try.prog.stopKnobs == []) : Bool) = true := by rw [Facts.stopKnobs]; rfl
theorem c9 : ((Rows.fnBagsPlannedRow.inPlace == Try.prog.inPlace 3) : Bool) = true := by kernel_rfl
theorem c10 : ((Rows.fnBagsPlannedRow.unfollowed == Try.prog.unfollowed 3) : Bool) = true := by kernel_rfl
theorem c11 : ((Rows.fnBagsPlannedRow.recurses == Try.prog.recurses 3) : Bool) = true := by kernel_rfl
theorem c12 : ((Rows.fnBagsPlannedRow.named == Try.prog.varsNamed 3) : Bool) = true := by kernel_rfl
theorem c13 : ((Rows.fnBagsPlannedRow.maps == (Try.f3.params.toList ++ Rows.fnBagsPlannedSpec.plain.varTypes Try.prog).any (Try.prog.mapsRec ·)) : Bool) = true := by kernel_rfl
theorem c14 : ((Rows.fnBagsPlannedRow.ifaces == (Try.f3.params.toList ++ Rows.fnBagsPlannedSpec.plain.varTypes Try.prog).any (Try.prog.ifacesRec ·)) : Bool) = true := by kernel_rfl
theorem c15 : ((Rows.fnBagsPlannedRow.mapsOut == Try.prog.mapsAmong Try.f3.resultTypes.toList) : Bool) = true := by kernel_rfl
theorem c16 : ((Rows.fnBagsPlannedRow.loops == (Try.f3.params.toList ++ Rows.fnBagsPlannedSpec.plain.varTypes Try.prog).any (Try.prog.loopsFrom ·)) : Bool) = true := by kernel_rfl
theorem c17 : ((Rows.fnBagsPlannedRow.wideKeys == (Try.f3.params.toList ++ Rows.fnBagsPlannedSpec.plain.varTypes Try.prog ++ Try.f3.resultTypes.toList).any (Try.prog.wideKeysFrom ·)) : Bool) = true := by kernel_rfl
theorem c18 : (Rows.fnBagsPlannedSpec.vars.all (Try.prog.varReadable ·) : Bool) = true := by kernel_rfl
theorem c19 : (Try.f3.resultTypes.all (fun t => Try.prog.readableRec t && decide (t < Try.prog.types.size)) : Bool) = true := by kernel_rfl
theorem c20 : ((Rows.fnBagsPlannedRow.ifacesOut == Try.f3.resultTypes.toList.any (Try.prog.ifacesRec ·)) : Bool) = true := by kernel_rfl
theorem c21 : ((Rows.fnBagsPlannedRow.loopsOut == Try.f3.resultTypes.toList.any (Try.prog.loopsFrom ·)) : Bool) = true := by kernel_rfl
theorem c22 : ((Rows.fnBagsPlannedRow.plainKeys == Try.prog.plainKeys) : Bool) = true := by rw [Facts.plainKeys]; rfl
theorem c23 : (Rows.fnBagsPlannedRow.shortTexts.isNone : Bool) = true := by kernel_rfl
theorem c24 : (Try.prog.stopsHeard : Bool) = true := Facts.stopsHeard
theorem c25 : (Try.prog.mayEnter : Bool) = true := Facts.mayEnter
theorem c26 : ((Rows.fnBagsPlannedRow.lifted == Try.prog.liftsFinal) : Bool) = true := by rw [Facts.lifts]; rfl
theorem c27 : ((Try.prog.make == some Rows.fnBagsPlannedRow.make) : Bool) = true := by rw [Facts.make]; kernel_rfl
theorem c28 : ((Rows.fnBagsPlannedRow.kinds == (if Rows.fnBagsPlannedRow.domain.isEmpty then [] else Try.f3.params.toList.map fun t => match Try.prog.underlying t with | some (.int k) => some k | _ => none)) : Bool) = true := by kernel_rfl
theorem c29 : ((Rows.fnBagsPlannedRow.pinned == Rows.fnBagsPlannedRow.pinnedBy) : Bool) = true := by kernel_rfl
theorem c30 : ((Rows.fnBagsPlannedRow.veiled == (Try.f3.params.toList ++ Rows.fnBagsPlannedSpec.plain.varTypes Try.prog ++ Try.f3.resultTypes.toList).any (Try.prog.veiledRec ·)) : Bool) = true := by kernel_rfl
theorem c31 : (Rows.fnBagsPlannedRow.veiledFits Try.prog Try.f3.params.toList (Try.f3.params.toList ++ Rows.fnBagsPlannedSpec.plain.varTypes Try.prog ++ Try.f3.resultTypes.toList) : Bool) = true := by kernel_rfl
theorem and_ {a b : Bool} (h : a = true) (h' : b = true) : (a && b) = true := by rw [h, h']; rfl
set_option maxRecDepth 100000 in
theorem closed : joinedFacts Try.prog 3 Try.f3 Rows.fnBagsPlannedSpec Rows.fnBagsPlannedRow = true := by
 unfold joinedFacts
 exact (and_ (and_ (and_ (and_ (and_ (and_ (and_ (and_ (and_ (and_ (and_ (and_ (and_ (and_ (and_ (and_ (and_ (and_ (and_ (and_ (and_ (and_ (and_ (and_ (and_ (and_ (and_ (and_ (and_ (and_ (and_ c0 c1) c2) c3) c4) c5) c6) c7) c8) c9) c10) c11) c12) c13) c14) c15) c16) c17) c18) c19) c20) c21) c22) c23) c24) c25) c26) c27) c28) c29) c30) c31)
theorem named : Try.pinned.checked.prog.funcNamed Rows.fnBagsPlannedRow.func = some 3 := by kernel_rfl
theorem over : Rows.fnBagsPlannedRow.holds Try.pinned (OpenSpec.ofChange Rows.fnBagsPlannedSpec) :=
 OpenClaim.holds_of_wide 3 Try.f3 rfl rfl rfl rfl rfl rfl rfl ⟨rfl, rfl, rfl, rfl, rfl⟩ rfl rfl rfl rfl rfl named Try.func3 closed
  (of_decide_eq_true (by kernel_rfl)) (by unfold Func.isWrapper; first | (rw [if_pos (by decide +kernel)]; kernel_rfl) | (rw [if_neg (by decide +kernel)]; exact ⟨rfl, rfl⟩))
  (fun os started H enc _ => lifted os started H enc)
theorem proved : Rows.FnBagsPlannedSaid := over
#print axioms proved
end Go.Proofs.Ytmninaoedoonbaa.fnBagsPlanned
namespace Go.Proofs.Ytmninaoedoonbaa
theorem fnBagsPlanned_holds : Rows.FnBagsPlannedSaid := fnBagsPlanned.proved
end Go.Proofs.Ytmninaoedoonbaa

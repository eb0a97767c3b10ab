/- The statement FnHousesHiddenSaid of this seat's rows, proved for all its inputs under no condition. -/
import Derived.Below
import Derived.ChangeOld
import Derived.OpenShut
import Derived.ProofKit
import Derived.ShutString
import Derived.SizedLaws
import Derived.WalkKit
import Derived.Test.YtcloklakffgbmaaRows
import Derived.Test.YtcloklakffgbmaaQ05becbc6
namespace Go.Proofs.Ytcloklakffgbmaa.fnHousesHidden
open Go.ChangeShapes Go.WideShapes Go.ChangeAt Go.RowKit
open Go.ChangeMaps (open_string shut_string)
set_option linter.unusedVariables false
theorem own : ownKnob Try.prog.godebug = none := by kernel_rfl
theorem laidOut : laidOutB Try.prog = true := by kernel_rfl
set_option maxRecDepth 100000 in
set_option maxHeartbeats 1000000 in
theorem lifted (os : Os) (started : os.Started) (H : Type) (enc : TypeId × Value → H) :
  ReturnsInHanded {} Try.checked os 5 .any (Rows.fnHousesHiddenSpec.pre6 enc Try.prog Try.f5 Rows.fnHousesHiddenRow.domain false) (Rows.fnHousesHiddenSpec.post enc Try.prog Try.f5 false true false false) := by
 refine returnsInHanded_of_change_sized (C := Try.checked) own started (by kernel_rfl) Try.func5
  (ChangeSpec.witness6 (enc := enc) (C := Try.checked) false ⟨#[], #[.slice none 0 0, .slice none 0 0], []⟩ 8 (by kernel_rfl) (by kernel_rfl) (by kernel_rfl) (by kernel_rfl)) ?_
 intro W base args ds gs before hval0 hW hcnd hsz0 _
 have hsz : (DataW.weightsEach Try.prog (Try.f5.params.toList ++ Rows.fnHousesHiddenSpec.plain.varTypes Try.prog) (ds ++ gs)).all (· ≤ reachBytes) = true := hsz0
 have hval : ∀ (j : Nat) t v, Try.f5.params[j]? = some t → args[j]? = some v → Value.okWide Try.prog W .any base t v := hval0
 have hW' := hW
 obtain ⟨p, q, hA0, hV, rfl, hfz, hnd⟩ := hW
 have hA : DataW.TrodAll enc Try.prog W 0 (fun _ => true) true Try.f5.params.toList args.toList ds p := hA0
 rw [Try.params5] at hA hval hsz
 obtain ⟨v0, vs0, d0, ds0, p0, q0, hargs, rfl, rfl, h0, r0⟩ := trodAll_cons hA
 obtain ⟨v1, vs1, d1, ds1, p1, q1, rfl, rfl, rfl, h1, r1⟩ := trodAll_cons r0
 obtain ⟨rfl, rfl, rfl⟩ := trodAll_nil r1
 obtain rfl : args = #[v0, v1] := by cases args; simp_all
 obtain ⟨rfl, rfl⟩ := trodVars_none hV
 obtain ⟨a0, len0, cap0, rfl⟩ := okWide_slice Try.underlying45 (hval 0 45 v0 rfl rfl)
 have k0 := h0
 have lt0 : ∀ x ∈ p0, x.block < W.heap.size := by obtain ⟨m, hm⟩ := k0; exact DataW.trod_lt m _ _ _ hm
 obtain ⟨fuel0, hf0⟩ := h0
 obtain ⟨x0, hK0, hX0⟩ := (Open.opens_slice Try.underlying45 (by kernel_rfl) (Open.opens_int Try.underlying5)) _ _ _ _ _ _ _ _ hf0
 obtain ⟨B0, c0, he0, hc0, hr0⟩ := hK0
 obtain ⟨rfl, rfl, rfl⟩ := Open.slice_eq he0
 obtain ⟨a1, len1, cap1, rfl⟩ := okWide_slice Try.underlying45 (hval 1 45 v1 rfl rfl)
 have k1 := h1
 have lt1 : ∀ x ∈ p1, x.block < W.heap.size := by obtain ⟨m, hm⟩ := k1; exact DataW.trod_lt m _ _ _ hm
 obtain ⟨fuel1, hf1⟩ := h1
 obtain ⟨x1, hK1, hX1⟩ := (Open.opens_slice Try.underlying45 (by kernel_rfl) (Open.opens_int Try.underlying5)) _ _ _ _ _ _ _ _ hf1
 obtain ⟨B1, c1, he1, hc1, hr1⟩ := hK1
 obtain ⟨rfl, rfl, rfl⟩ := Open.slice_eq he1
 clear hA0 hval0 hsz0 hsz
 refine (G.laws_FnHousesHidden.walk Pure.FnHousesHidden B0 c0 x0 B1 c1 x1 W hr0 hc0 hr1 hc1 hX0.1 hX0.2 hX1.1 hX1.2).mono fun e W' ⟨he, bel⟩ => ?_
 subst he
 exact ⟨_, rfl, _, _, _, [], _, [], hW', trodAll_mk1 (shut_bool Try.underlying4 _), (trodAll_cons_mk (Below.trod laidOut (by kernel_rfl) (of_decide_eq_true (by kernel_rfl)) k0 bel lt0) (trodAll_cons_mk (Below.trod laidOut (by kernel_rfl) (of_decide_eq_true (by kernel_rfl)) k1 bel lt1) trodAll_mk0)), rfl, bel.frame _, fun h => by cases h⟩
theorem c0 : (Rows.fnHousesHiddenRow.wf (OpenSpec.ofChange Rows.fnHousesHiddenSpec) : Bool) = true := by kernel_rfl
theorem c1 : (laidOutB Try.prog : Bool) = true := Facts.laidOut
theorem c2 : (mapsRowed Try.prog : Bool) = true := Facts.mapsRowed
theorem c3 : (Try.f5.params.all (Try.prog.readableRec ·) : Bool) = true := by kernel_rfl
theorem c4 : (namedTie Try.prog Rows.fnHousesHiddenRow.named Rows.fnHousesHiddenSpec.vars : Bool) = true := by kernel_rfl
theorem c5 : ((Rows.fnHousesHiddenRow.stops == []) : Bool) = true := by kernel_rfl
theorem c6 : ((Try.prog.stops == []) : Bool) = true := by rw [Facts.stops]; rfl
theorem c7 : ((Rows.fnHousesHiddenRow.knobs == []) : Bool) = true := by kernel_rfl
theorem c8 : ((Try.prog.stopKnobs == []) : Bool) = true := by rw [Facts.stopKnobs]; rfl
theorem c9 : ((Rows.fnHousesHiddenRow.inPlace == Try.prog.inPlace 5) : Bool) = true := by kernel_rfl
theorem c10 : ((Rows.fnHousesHiddenRow.unfollowed == Try.prog.unfollowed 5) : Bool) = true := by kernel_rfl
theorem c11 : ((Rows.fnHousesHiddenRow.recurses == Try.prog.recurses 5) : Bool) = true := by kernel_rfl
theorem c12 : ((Rows.fnHousesHiddenRow.named == Try.prog.varsNamed 5) : Bool) = true := by kernel_rfl
theorem c13 : ((Rows.fnHousesHiddenRow.maps == (Try.f5.params.toList ++ Rows.fnHousesHiddenSpec.plain.varTypes Try.prog).any (Try.prog.mapsRec ·)) : Bool) = true := by kernel_rfl
theorem c14 : ((Rows.fnHousesHiddenRow.ifaces == (Try.f5.params.toList ++ Rows.fnHousesHiddenSpec.plain.varTypes Try.prog).any (Try.prog.ifacesRec ·)) : Bool) = true := by kernel_rfl
theorem c15 : ((Rows.fnHousesHiddenRow.mapsOut == Try.prog.mapsAmong Try.f5.resultTypes.toList) : Bool) = true := by kernel_rfl
theorem c16 : ((Rows.fnHousesHiddenRow.loops == (Try.f5.params.toList ++ Rows.fnHousesHiddenSpec.plain.varTypes Try.prog).any (Try.prog.loopsFrom ·)) : Bool) = true := by kernel_rfl
theorem c17 : ((Rows.fnHousesHiddenRow.wideKeys == (Try.f5.params.toList ++ Rows.fnHousesHiddenSpec.plain.varTypes Try.prog ++ Try.f5.resultTypes.toList).any (Try.prog.wideKeysFrom ·)) : Bool) = true := by kernel_rfl
theorem c18 : (Rows.fnHousesHiddenSpec.vars.all (Try.prog.varReadable ·) : Bool) = true := by kernel_rfl
theorem c19 : (Try.f5.resultTypes.all (fun t => Try.prog.readableRec t && decide (t < Try.prog.types.size)) : Bool) = true := by kernel_rfl
theorem c20 : ((Rows.fnHousesHiddenRow.ifacesOut == Try.f5.resultTypes.toList.any (Try.prog.ifacesRec ·)) : Bool) = true := by kernel_rfl
theorem c21 : ((Rows.fnHousesHiddenRow.loopsOut == Try.f5.resultTypes.toList.any (Try.prog.loopsFrom ·)) : Bool) = true := by kernel_rfl
theorem c22 : ((Rows.fnHousesHiddenRow.plainKeys == Try.prog.plainKeys) : Bool) = true := by rw [Facts.plainKeys]; rfl
theorem c23 : (Rows.fnHousesHiddenRow.shortTexts.isNone : Bool) = true := by kernel_rfl
theorem c24 : (Try.prog.stopsHeard : Bool) = true := Facts.stopsHeard
theorem c25 : (Try.prog.mayEnter : Bool) = true := Facts.mayEnter
theorem c26 : ((Rows.fnHousesHiddenRow.lifted == Try.prog.liftsFinal) : Bool) = true := by rw [Facts.lifts]; rfl
theorem c27 : ((Try.prog.make == some Rows.fnHousesHiddenRow.make) : Bool) = true := by rw [Facts.make]; kernel_rfl
theorem c28 : ((Rows.fnHousesHiddenRow.kinds == (if Rows.fnHousesHiddenRow.domain.isEmpty then [] else Try.f5.params.toList.map fun t => match Try.prog.underlying t with | some (.int k) => some k | _ => none)) : Bool) = true := by kernel_rfl
theorem c29 : ((Rows.fnHousesHiddenRow.pinned == Rows.fnHousesHiddenRow.pinnedBy) : Bool) = true := by kernel_rfl
theorem c30 : ((Rows.fnHousesHiddenRow.veiled == (Try.f5.params.toList ++ Rows.fnHousesHiddenSpec.plain.varTypes Try.prog ++ Try.f5.resultTypes.toList).any (Try.prog.veiledRec ·)) : Bool) = true := by kernel_rfl
theorem c31 : (Rows.fnHousesHiddenRow.veiledFits Try.prog Try.f5.params.toList (Try.f5.params.toList ++ Rows.fnHousesHiddenSpec.plain.varTypes Try.prog ++ Try.f5.resultTypes.toList) : Bool) = true := by kernel_rfl
theorem and_ {a b : Bool} (h : a = true) (h' : b = true) : (a && b) = true := by rw [h, h']; rfl
set_option maxRecDepth 100000 in
theorem closed : joinedFacts Try.prog 5 Try.f5 Rows.fnHousesHiddenSpec Rows.fnHousesHiddenRow = true := by
 unfold joinedFacts
 exact (and_ (and_ (and_ (and_ (and_ (and_ (and_ (and_ (and_ (and_ (and_ (and_ (and_ (and_ (and_ (and_ (and_ (and_ (and_ (and_ (and_ (and_ (and_ (and_ (and_ (and_ (and_ (and_ (and_ (and_ (and_ c0 c1) c2) c3) c4) c5) c6) c7) c8) c9) c10) c11) c12) c13) c14) c15) c16) c17) c18) c19) c20) c21) c22) c23) c24) c25) c26) c27) c28) c29) c30) c31)
theorem named : Try.pinned.checked.prog.funcNamed Rows.fnHousesHiddenRow.func = some 5 := by kernel_rfl
theorem over : Rows.fnHousesHiddenRow.holds Try.pinned (OpenSpec.ofChange Rows.fnHousesHiddenSpec) :=
 OpenClaim.holds_of_wide 5 Try.f5 rfl rfl rfl rfl rfl rfl rfl ⟨rfl, rfl, rfl, rfl, rfl⟩ rfl rfl rfl rfl rfl named Try.func5 closed
  (of_decide_eq_true (by kernel_rfl)) (by unfold Func.isWrapper; first | (rw [if_pos (by decide +kernel)]; kernel_rfl) | (rw [if_neg (by decide +kernel)]; exact ⟨rfl, rfl⟩))
  (fun os started H enc _ => lifted os started H enc)
theorem proved : Rows.FnHousesHiddenSaid := over
#print axioms proved
end Go.Proofs.Ytcloklakffgbmaa.fnHousesHidden
namespace Go.Proofs.Ytcloklakffgbmaa
theorem fnHousesHidden_holds : Rows.FnHousesHiddenSaid := fnHousesHidden.proved
end Go.Proofs.Ytcloklakffgbmaa

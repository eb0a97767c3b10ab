/- The statement FnExactMakePuzzleSaid of this seat's rows, proved for all its inputs under no condition. -/
import Derived.Below
import Derived.ChangeOld
import Derived.OpenShut
import Derived.ProofKit
import Derived.ShutString
import Derived.SizedLaws
import Derived.WalkKit
import Derived.Test.YtcloklakffgbmaaRows
import Derived.Test.YtcloklakffgbmaaQd9b1778e
import Derived.Test.YtcloklakffgbmaaQdf9aadc4
import Derived.Test.YtcloklakffgbmaaQb8bb0a76
import Derived.Test.YtcloklakffgbmaaQ97065ae1
namespace Go.Proofs.Ytcloklakffgbmaa.fnExactMakePuzzle
open Go.ChangeShapes Go.WideShapes Go.ChangeAt Go.RowKit
open Go.ChangeMaps (open_string shut_string)
set_option linter.unusedVariables false
theorem own : ownKnob Try.prog.godebug = none := by kernel_rfl
theorem laidOut : laidOutB Try.prog = true := by kernel_rfl
set_option maxRecDepth 100000 in
set_option maxHeartbeats 1000000 in
theorem lifted (os : Os) (started : os.Started) (H : Type) (enc : TypeId × Value → H) :
    ReturnsInHanded {} Try.checked os 4 .any (Rows.fnExactMakePuzzleSpec.pre6 enc Try.prog Try.f4 Rows.fnExactMakePuzzleRow.domain false) (Rows.fnExactMakePuzzleSpec.post enc Try.prog Try.f4 false true false false) := by
  refine returnsInHanded_of_change_sized (C := Try.checked) own started (by kernel_rfl) Try.func4
    (ChangeSpec.witness6 (enc := enc) (C := Try.checked) false ⟨#[], #[.agg #[.int .i64 0, .int .i64 0], .int .i64 0, .int .i64 0, .int .i64 0], []⟩ 8 (by kernel_rfl) (by kernel_rfl) (by kernel_rfl) (by kernel_rfl)) ?_
  intro W base args ds gs before hval0 hW hcnd hsz0 _
  have hsz : (DataW.weightsEach Try.prog (Try.f4.params.toList ++ Rows.fnExactMakePuzzleSpec.plain.varTypes Try.prog) (ds ++ gs)).all (· ≤ reachBytes) = true := hsz0
  have hval : ∀ (j : Nat) t v, Try.f4.params[j]? = some t → args[j]? = some v → Value.okWide Try.prog W .any base t v := hval0
  have hW' := hW
  obtain ⟨p, q, hA0, hV, rfl, hfz, hnd⟩ := hW
  have hA : DataW.TrodAll enc Try.prog W 0 (fun _ => true) true Try.f4.params.toList args.toList ds p := hA0
  rw [Try.params4] at hA hval hsz
  obtain ⟨v0, vs0, d0, ds0, p0, q0, hargs, rfl, rfl, h0, r0⟩ := trodAll_cons hA
  obtain ⟨v1, vs1, d1, ds1, p1, q1, rfl, rfl, rfl, h1, r1⟩ := trodAll_cons r0
  obtain ⟨v2, vs2, d2, ds2, p2, q2, rfl, rfl, rfl, h2, r2⟩ := trodAll_cons r1
  obtain ⟨v3, vs3, d3, ds3, p3, q3, rfl, rfl, rfl, h3, r3⟩ := trodAll_cons r2
  obtain ⟨rfl, rfl, rfl⟩ := trodAll_nil r3
  obtain rfl : args = #[v0, v1, v2, v3] := by cases args; simp_all
  obtain ⟨rfl, rfl⟩ := trodVars_none hV
  obtain ⟨⟨cs0⟩, rfl, _⟩ := okWide_struct Try.underlying23 (hval 0 23 v0 rfl rfl)
  have k0 := h0
  have lt0 : ∀ x ∈ p0, x.block < W.heap.size := by obtain ⟨m, hm⟩ := k0; exact DataW.trod_lt m _ _ _ hm
  obtain ⟨fuel0, hf0⟩ := h0
  obtain ⟨x0, hK0, hX0⟩ := (Open.opens_iso (f := fun x : G.S23 => (x.f0, x.f1)) (fun y => (⟨y.1, y.2⟩ : G.S23)) (fun _ => rfl) (Open.opens_pair2 Try.underlying23 rfl (by kernel_rfl) (by kernel_rfl) ⟨by kernel_rfl, by kernel_rfl⟩ (Open.opens_int Try.underlying3) (Open.opens_int Try.underlying3))) _ _ _ _ _ _ _ _ hf0
  have he0 := G.k23_open hK0
  obtain rfl : cs0 = [.int .i64 x0.f0, .int .i64 x0.f1] := he0
  obtain ⟨a1, rfl, rfl, rfl, w1⟩ := open_int Try.underlying3 (hval 1 3 v1 rfl rfl) h1
  obtain ⟨a2, rfl, rfl, rfl, w2⟩ := open_int Try.underlying3 (hval 2 3 v2 rfl rfl) h2
  obtain ⟨a3, rfl, rfl, rfl, w3⟩ := open_int Try.underlying3 (hval 3 3 v3 rfl rfl) h3
  clear hA0 hval0 hsz0 hsz
  refine (G.laws_FnExactMakePuzzle.walk Pure.FnExactMakePuzzle x0.f0 x0.f1 a1 a2 a3 W  hX0.1 hX0.2 w1 w2 w3).mono fun e W' ⟨he, bel⟩ => ?_
  subst he
  exact ⟨_, rfl, _, _, _, [], _, [], hW', trodAll_mk1 (shut_bool Try.underlying4 _), (trodAll_cons_mk (Below.trod laidOut (by kernel_rfl) (of_decide_eq_true (by kernel_rfl)) k0 bel lt0) (trodAll_cons_mk (shut_int Try.underlying3 w1) (trodAll_cons_mk (shut_int Try.underlying3 w2) (trodAll_cons_mk (shut_int Try.underlying3 w3) trodAll_mk0)))), rfl, bel.frame _, fun h => by cases h⟩
theorem c0 : (Rows.fnExactMakePuzzleRow.wf (OpenSpec.ofChange Rows.fnExactMakePuzzleSpec) : Bool) = true := by kernel_rfl
theorem c1 : (laidOutB Try.prog : Bool) = true := Facts.laidOut
theorem c2 : (mapsRowed Try.prog : Bool) = true := Facts.mapsRowed
theorem c3 : (Try.f4.params.all (Try.prog.readableRec ·) : Bool) = true := by kernel_rfl
theorem c4 : (namedTie Try.prog Rows.fnExactMakePuzzleRow.named Rows.fnExactMakePuzzleSpec.vars : Bool) = true := by kernel_rfl
theorem c5 : ((Rows.fnExactMakePuzzleRow.stops == []) : Bool) = true := by kernel_rfl
theorem c6 : ((Try.prog.stops == []) : Bool) = true := by rw [Facts.stops]; rfl
theorem c7 : ((Rows.fnExactMakePuzzleRow.knobs == []) : Bool) = true := by kernel_rfl
theorem c8 : ((Try.prog.stopKnobs == []) : Bool) = true := by rw [Facts.stopKnobs]; rfl
theorem c9 : ((Rows.fnExactMakePuzzleRow.inPlace == Try.prog.inPlace 4) : Bool) = true := by kernel_rfl
theorem c10 : ((Rows.fnExactMakePuzzleRow.unfollowed == Try.prog.unfollowed 4) : Bool) = true := by kernel_rfl
theorem c11 : ((Rows.fnExactMakePuzzleRow.recurses == Try.prog.recurses 4) : Bool) = true := by kernel_rfl
theorem c12 : ((Rows.fnExactMakePuzzleRow.named == Try.prog.varsNamed 4) : Bool) = true := by kernel_rfl
theorem c13 : ((Rows.fnExactMakePuzzleRow.maps == (Try.f4.params.toList ++ Rows.fnExactMakePuzzleSpec.plain.varTypes Try.prog).any (Try.prog.mapsRec ·)) : Bool) = true := by kernel_rfl
theorem c14 : ((Rows.fnExactMakePuzzleRow.ifaces == (Try.f4.params.toList ++ Rows.fnExactMakePuzzleSpec.plain.varTypes Try.prog).any (Try.prog.ifacesRec ·)) : Bool) = true := by kernel_rfl
theorem c15 : ((Rows.fnExactMakePuzzleRow.mapsOut == Try.prog.mapsAmong Try.f4.resultTypes.toList) : Bool) = true := by kernel_rfl
theorem c16 : ((Rows.fnExactMakePuzzleRow.loops == (Try.f4.params.toList ++ Rows.fnExactMakePuzzleSpec.plain.varTypes Try.prog).any (Try.prog.loopsFrom ·)) : Bool) = true := by kernel_rfl
theorem c17 : ((Rows.fnExactMakePuzzleRow.wideKeys == (Try.f4.params.toList ++ Rows.fnExactMakePuzzleSpec.plain.varTypes Try.prog ++ Try.f4.resultTypes.toList).any (Try.prog.wideKeysFrom ·)) : Bool) = true := by kernel_rfl
theorem c18 : (Rows.fnExactMakePuzzleSpec.vars.all (Try.prog.varReadable ·) : Bool) = true := by kernel_rfl
theorem c19 : (Try.f4.resultTypes.all (fun t => Try.prog.readableRec t && decide (t < Try.prog.types.size)) : Bool) = true := by kernel_rfl
theorem c20 : ((Rows.fnExactMakePuzzleRow.ifacesOut == Try.f4.resultTypes.toList.any (Try.prog.ifacesRec ·)) : Bool) = true := by kernel_rfl
theorem c21 : ((Rows.fnExactMakePuzzleRow.loopsOut == Try.f4.resultTypes.toList.any (Try.prog.loopsFrom ·)) : Bool) = true := by kernel_rfl
theorem c22 : ((Rows.fnExactMakePuzzleRow.plainKeys == Try.prog.plainKeys) : Bool) = true := by rw [Facts.plainKeys]; rfl
theorem c23 : (Rows.fnExactMakePuzzleRow.shortTexts.isNone : Bool) = true := by kernel_rfl
theorem c24 : (Try.prog.stopsHeard : Bool) = true := Facts.stopsHeard
theorem c25 : (Try.prog.mayEnter : Bool) = true := Facts.mayEnter
theorem c26 : ((Rows.fnExactMakePuzzleRow.lifted == Try.prog.liftsFinal) : Bool) = true := by rw [Facts.lifts]; rfl
theorem c27 : ((Try.prog.make == some Rows.fnExactMakePuzzleRow.make) : Bool) = true := by rw [Facts.make]; kernel_rfl
theorem c28 : ((Rows.fnExactMakePuzzleRow.kinds == (if Rows.fnExactMakePuzzleRow.domain.isEmpty then [] else Try.f4.params.toList.map fun t => match Try.prog.underlying t with | some (.int k) => some k | _ => none)) : Bool) = true := by kernel_rfl
theorem c29 : ((Rows.fnExactMakePuzzleRow.pinned == Rows.fnExactMakePuzzleRow.pinnedBy) : Bool) = true := by kernel_rfl
theorem c30 : ((Rows.fnExactMakePuzzleRow.veiled == (Try.f4.params.toList ++ Rows.fnExactMakePuzzleSpec.plain.varTypes Try.prog ++ Try.f4.resultTypes.toList).any (Try.prog.veiledRec ·)) : Bool) = true := by kernel_rfl
theorem c31 : (Rows.fnExactMakePuzzleRow.veiledFits Try.prog Try.f4.params.toList (Try.f4.params.toList ++ Rows.fnExactMakePuzzleSpec.plain.varTypes Try.prog ++ Try.f4.resultTypes.toList) : Bool) = true := by kernel_rfl
theorem and_ {a b : Bool} (h : a = true) (h' : b = true) : (a && b) = true := by rw [h, h']; rfl
set_option maxRecDepth 100000 in
theorem closed : joinedFacts Try.prog 4 Try.f4 Rows.fnExactMakePuzzleSpec Rows.fnExactMakePuzzleRow = true := by
  unfold joinedFacts
  exact (and_ (and_ (and_ (and_ (and_ (and_ (and_ (and_ (and_ (and_ (and_ (and_ (and_ (and_ (and_ (and_ (and_ (and_ (and_ (and_ (and_ (and_ (and_ (and_ (and_ (and_ (and_ (and_ (and_ (and_ (and_ c0 c1) c2) c3) c4) c5) c6) c7) c8) c9) c10) c11) c12) c13) c14) c15) c16) c17) c18) c19) c20) c21) c22) c23) c24) c25) c26) c27) c28) c29) c30) c31)
theorem named : Try.pinned.checked.prog.funcNamed Rows.fnExactMakePuzzleRow.func = some 4 := by kernel_rfl
theorem over : Rows.fnExactMakePuzzleRow.holds Try.pinned (OpenSpec.ofChange Rows.fnExactMakePuzzleSpec) :=
  OpenClaim.holds_of_wide 4 Try.f4 rfl rfl rfl rfl rfl rfl rfl ⟨rfl, rfl, rfl, rfl, rfl⟩ rfl rfl rfl rfl rfl named Try.func4 closed
    (of_decide_eq_true (by kernel_rfl)) (by unfold Func.isWrapper; first | (rw [if_pos (by decide +kernel)]; kernel_rfl) | (rw [if_neg (by decide +kernel)]; exact ⟨rfl, rfl⟩))
    (fun os started H enc _ => lifted os started H enc)
theorem proved : Rows.FnExactMakePuzzleSaid := over
#print axioms proved
end Go.Proofs.Ytcloklakffgbmaa.fnExactMakePuzzle
namespace Go.Proofs.Ytcloklakffgbmaa
theorem fnExactMakePuzzle_holds : Rows.FnExactMakePuzzleSaid := fnExactMakePuzzle.proved
end Go.Proofs.Ytcloklakffgbmaa

/- The statement FnExactAddClueSaid of this seat's rows, proved for all its inputs under no condition. -/
import Derived.Below
import Derived.ChangeOld
import Derived.OpenShut
import Derived.ProofKit
import Derived.ShutString
import Derived.SizedLaws
import Derived.WalkKit
import Derived.Test.YtcloklakffgbmaaRows
import Derived.Test.YtcloklakffgbmaaQ1a80c102
import Derived.Test.YtcloklakffgbmaaQa54408c4
import Derived.Test.YtcloklakffgbmaaQ83f05b65
import Derived.Test.YtcloklakffgbmaaQ19794d10
namespace Go.Proofs.Ytcloklakffgbmaa.fnExactAddClue
open Go.ChangeShapes Go.WideShapes Go.ChangeAt Go.RowKit
open Go.ChangeMaps (open_string shut_string)
set_option linter.unusedVariables false
theorem own : ownKnob Try.prog.godebug = none := by kernel_rfl
theorem laidOut : laidOutB Try.prog = true := by kernel_rfl
set_option maxRecDepth 100000 in
set_option maxHeartbeats 1000000 in
theorem lifted (os : Os) (started : os.Started) (H : Type) (enc : TypeId × Value → H) :
  ReturnsInHanded {} Try.checked os 3 .any (Rows.fnExactAddClueSpec.pre6 enc Try.prog Try.f3 Rows.fnExactAddClueRow.domain false) (Rows.fnExactAddClueSpec.post enc Try.prog Try.f3 false true false false) := by
 refine returnsInHanded_of_change_sized (C := Try.checked) own started (by kernel_rfl) Try.func3
  (ChangeSpec.witness6 (enc := enc) (C := Try.checked) false ⟨#[], #[.agg #[.int .i64 0, .int .i64 0, .slice none 0 0], .agg #[.int .i64 0, .int .i64 0, .int .i64 0]], []⟩ 8 (by kernel_rfl) (by kernel_rfl) (by kernel_rfl) (by kernel_rfl)) ?_
 intro W base args ds gs before hval0 hW hcnd hsz0 _
 have hsz : (DataW.weightsEach Try.prog (Try.f3.params.toList ++ Rows.fnExactAddClueSpec.plain.varTypes Try.prog) (ds ++ gs)).all (· ≤ reachBytes) = true := hsz0
 have hval : ∀ (j : Nat) t v, Try.f3.params[j]? = some t → args[j]? = some v → Value.okWide Try.prog W .any base t v := hval0
 have hW' := hW
 obtain ⟨p, q, hA0, hV, rfl, hfz, hnd⟩ := hW
 have hA : DataW.TrodAll enc Try.prog W 0 (fun _ => true) true Try.f3.params.toList args.toList ds p := hA0
 rw [Try.params3] at hA hval hsz
 obtain ⟨v0, vs0, d0, ds0, p0, q0, hargs, rfl, rfl, h0, r0⟩ := trodAll_cons hA
 obtain ⟨v1, vs1, d1, ds1, p1, q1, rfl, rfl, rfl, h1, r1⟩ := trodAll_cons r0
 obtain ⟨rfl, rfl, rfl⟩ := trodAll_nil r1
 obtain rfl : args = #[v0, v1] := by cases args; simp_all
 obtain ⟨rfl, rfl⟩ := trodVars_none hV
 obtain ⟨⟨cs0⟩, rfl, _⟩ := okWide_struct Try.underlying26 (hval 0 26 v0 rfl rfl)
 have k0 := h0
 have lt0 : ∀ x ∈ p0, x.block < W.heap.size := by obtain ⟨m, hm⟩ := k0; exact DataW.trod_lt m _ _ _ hm
 obtain ⟨fuel0, hf0⟩ := h0
 obtain ⟨x0, hK0, hX0⟩ := (Open.opens_iso (f := fun x : G.S26 => (x.f0, x.f1)) (fun y => (⟨y.1, y.2⟩ : G.S26)) (fun _ => rfl) (Open.opens_pair2 Try.underlying26 rfl (by kernel_rfl) (by kernel_rfl) ⟨by kernel_rfl, by kernel_rfl⟩ (Open.opens_iso (f := fun x : G.S23 => (x.f0, x.f1)) (fun y => (⟨y.1, y.2⟩ : G.S23)) (fun _ => rfl) (Open.opens_pair2 Try.underlying23 rfl (by kernel_rfl) (by kernel_rfl) ⟨by kernel_rfl, by kernel_rfl⟩ (Open.opens_int Try.underlying3) (Open.opens_int Try.underlying3))) (Open.opens_slice Try.underlying24 (by kernel_rfl) (Open.opens_iso (f := fun x : G.S28 => (x.f0, x.f1, x.f2)) (fun y => (⟨y.1, y.2.1, y.2.2⟩ : G.S28)) (fun _ => rfl) (Open.opens_pair3 Try.underlying28 rfl (by kernel_rfl) (by kernel_rfl) (by kernel_rfl) (by kernel_rfl) ⟨by kernel_rfl, by kernel_rfl⟩ (Open.opens_int Try.underlying3) (Open.opens_int Try.underlying3) (Open.opens_int Try.underlying3)))))) _ _ _ _ _ _ _ _ hf0
 obtain ⟨A0_2, c0_2, he0, hc0_2, hr0_2⟩ := G.k26_open hK0
 obtain rfl : cs0 = [.int .i64 x0.f0.f0, .int .i64 x0.f0.f1, .slice A0_2 x0.f1.length c0_2] := he0
 obtain ⟨⟨cs1⟩, rfl, _⟩ := okWide_struct Try.underlying28 (hval 1 28 v1 rfl rfl)
 have k1 := h1
 have lt1 : ∀ x ∈ p1, x.block < W.heap.size := by obtain ⟨m, hm⟩ := k1; exact DataW.trod_lt m _ _ _ hm
 obtain ⟨fuel1, hf1⟩ := h1
 obtain ⟨x1, hK1, hX1⟩ := (Open.opens_iso (f := fun x : G.S28 => (x.f0, x.f1, x.f2)) (fun y => (⟨y.1, y.2.1, y.2.2⟩ : G.S28)) (fun _ => rfl) (Open.opens_pair3 Try.underlying28 rfl (by kernel_rfl) (by kernel_rfl) (by kernel_rfl) (by kernel_rfl) ⟨by kernel_rfl, by kernel_rfl⟩ (Open.opens_int Try.underlying3) (Open.opens_int Try.underlying3) (Open.opens_int Try.underlying3))) _ _ _ _ _ _ _ _ hf1
 have he1 := G.k28_open hK1
 obtain rfl : cs1 = [.int .i64 x1.f0, .int .i64 x1.f1, .int .i64 x1.f2] := he1
 clear hA0 hval0 hsz0 hsz
 refine (G.laws_FnExactAddClue.walk Pure.FnExactAddClue x0.f0.f0 x0.f0.f1 A0_2 c0_2 x0.f1 x1.f0 x1.f1 x1.f2 W hr0_2 hc0_2 hX0.1.1 hX0.1.2 hX0.2.1 hX0.2.2 hX1.1 hX1.2.1 hX1.2.2).mono fun e W' ⟨he, bel⟩ => ?_
 subst he
 exact ⟨_, rfl, _, _, _, [], _, [], hW', trodAll_mk1 (shut_bool Try.underlying4 _), (trodAll_cons_mk (Below.trod laidOut (by kernel_rfl) (of_decide_eq_true (by kernel_rfl)) k0 bel lt0) (trodAll_cons_mk (Below.trod laidOut (by kernel_rfl) (of_decide_eq_true (by kernel_rfl)) k1 bel lt1) trodAll_mk0)), rfl, bel.frame _, fun h => by cases h⟩
theorem c0 : (Rows.fnExactAddClueRow.wf (OpenSpec.ofChange Rows.fnExactAddClueSpec) : Bool) = true := by kernel_rfl
theorem c1 : (laidOutB Try.prog : Bool) = true := Facts.laidOut
theorem c2 : (mapsRowed Try.prog : Bool) = true := Facts.mapsRowed
theorem c3 : (Try.f3.params.all (Try.prog.readableRec ·) : Bool) = true := by kernel_rfl
theorem c4 : (namedTie Try.prog Rows.fnExactAddClueRow.named Rows.fnExactAddClueSpec.vars : Bool) = true := by kernel_rfl
theorem c5 : ((Rows.fnExactAddClueRow.stops == []) : Bool) = true := by kernel_rfl
theorem c6 : ((Try.prog.stops == []) : Bool) = true := by rw [Facts.stops]; rfl
theorem c7 : ((Rows.fnExactAddClueRow.knobs == []) : Bool) = true := by kernel_rfl
theorem c8 : ((Try.prog.stopKnobs == []) : Bool) = true := by rw [Facts.stopKnobs]; rfl
theorem c9 : ((Rows.fnExactAddClueRow.inPlace == Try.prog.inPlace 3) : Bool) = true := by kernel_rfl
theorem c10 : ((Rows.fnExactAddClueRow.unfollowed == Try.prog.unfollowed 3) : Bool) = true := by kernel_rfl
theorem c11 : ((Rows.fnExactAddClueRow.recurses == Try.prog.recurses 3) : Bool) = true := by kernel_rfl
theorem c12 : ((Rows.fnExactAddClueRow.named == Try.prog.varsNamed 3) : Bool) = true := by kernel_rfl
theorem c13 : ((Rows.fnExactAddClueRow.maps == (Try.f3.params.toList ++ Rows.fnExactAddClueSpec.plain.varTypes Try.prog).any (Try.prog.mapsRec ·)) : Bool) = true := by kernel_rfl
theorem c14 : ((Rows.fnExactAddClueRow.ifaces == (Try.f3.params.toList ++ Rows.fnExactAddClueSpec.plain.varTypes Try.prog).any (Try.prog.ifacesRec ·)) : Bool) = true := by kernel_rfl
theorem c15 : ((Rows.fnExactAddClueRow.mapsOut == Try.prog.mapsAmong Try.f3.resultTypes.toList) : Bool) = true := by kernel_rfl
theorem c16 : ((Rows.fnExactAddClueRow.loops == (Try.f3.params.toList ++ Rows.fnExactAddClueSpec.plain.varTypes Try.prog).any (Try.prog.loopsFrom ·)) : Bool) = true := by kernel_rfl
theorem c17 : ((Rows.fnExactAddClueRow.wideKeys == (Try.f3.params.toList ++ Rows.fnExactAddClueSpec.plain.varTypes Try.prog ++ Try.f3.resultTypes.toList).any (Try.prog.wideKeysFrom ·)) : Bool) = true := by kernel_rfl
theorem c18 : (Rows.fnExactAddClueSpec.vars.all (Try.prog.varReadable ·) : Bool) = true := by kernel_rfl
theorem c19 : (Try.f3.resultTypes.all (fun t => Try.prog.readableRec t && decide (t < Try.prog.types.size)) : Bool) = true := by kernel_rfl
theorem c20 : ((Rows.fnExactAddClueRow.ifacesOut == Try.f3.resultTypes.toList.any (Try.prog.ifacesRec ·)) : Bool) = true := by kernel_rfl
theorem c21 : ((Rows.fnExactAddClueRow.loopsOut == Try.f3.resultTypes.toList.any (Try.prog.loopsFrom ·)) : Bool) = true := by kernel_rfl
theorem c22 : ((Rows.fnExactAddClueRow.plainKeys == Try.prog.plainKeys) : Bool) = true := by rw [Facts.plainKeys]; rfl
theorem c23 : (Rows.fnExactAddClueRow.shortTexts.isNone : Bool) = true := by kernel_rfl
theorem c24 : (Try.prog.stopsHeard : Bool) = true := Facts.stopsHeard
theorem c25 : (Try.prog.mayEnter : Bool) = true := Facts.mayEnter
theorem c26 : ((Rows.fnExactAddClueRow.lifted == Try.prog.liftsFinal) : Bool) = true := by rw [Facts.lifts]; rfl
theorem c27 : ((Try.prog.make == some Rows.fnExactAddClueRow.make) : Bool) = true := by rw [Facts.make]; kernel_rfl
theorem c28 : ((Rows.fnExactAddClueRow.kinds == (if Rows.fnExactAddClueRow.domain.isEmpty then [] else Try.f3.params.toList.map fun t => match Try.prog.underlying t with | some (.int k) => some k | _ => none)) : Bool) = true := by kernel_rfl
theorem c29 : ((Rows.fnExactAddClueRow.pinned == Rows.fnExactAddClueRow.pinnedBy) : Bool) = true := by kernel_rfl
theorem c30 : ((Rows.fnExactAddClueRow.veiled == (Try.f3.params.toList ++ Rows.fnExactAddClueSpec.plain.varTypes Try.prog ++ Try.f3.resultTypes.toList).any (Try.prog.veiledRec ·)) : Bool) = true := by kernel_rfl
theorem c31 : (Rows.fnExactAddClueRow.veiledFits Try.prog Try.f3.params.toList (Try.f3.params.toList ++ Rows.fnExactAddClueSpec.plain.varTypes Try.prog ++ Try.f3.resultTypes.toList) : Bool) = true := by kernel_rfl
theorem and_ {a b : Bool} (h : a = true) (h' : b = true) : (a && b) = true := by rw [h, h']; rfl
set_option maxRecDepth 100000 in
theorem closed : joinedFacts Try.prog 3 Try.f3 Rows.fnExactAddClueSpec Rows.fnExactAddClueRow = true := by
 unfold joinedFacts
 exact (and_ (and_ (and_ (and_ (and_ (and_ (and_ (and_ (and_ (and_ (and_ (and_ (and_ (and_ (and_ (and_ (and_ (and_ (and_ (and_ (and_ (and_ (and_ (and_ (and_ (and_ (and_ (and_ (and_ (and_ (and_ c0 c1) c2) c3) c4) c5) c6) c7) c8) c9) c10) c11) c12) c13) c14) c15) c16) c17) c18) c19) c20) c21) c22) c23) c24) c25) c26) c27) c28) c29) c30) c31)
theorem named : Try.pinned.checked.prog.funcNamed Rows.fnExactAddClueRow.func = some 3 := by kernel_rfl
theorem over : Rows.fnExactAddClueRow.holds Try.pinned (OpenSpec.ofChange Rows.fnExactAddClueSpec) :=
 OpenClaim.holds_of_wide 3 Try.f3 rfl rfl rfl rfl rfl rfl rfl ⟨rfl, rfl, rfl, rfl, rfl⟩ rfl rfl rfl rfl rfl named Try.func3 closed
  (of_decide_eq_true (by kernel_rfl)) (by unfold Func.isWrapper; first | (rw [if_pos (by decide +kernel)]; kernel_rfl) | (rw [if_neg (by decide +kernel)]; exact ⟨rfl, rfl⟩))
  (fun os started H enc _ => lifted os started H enc)
theorem proved : Rows.FnExactAddClueSaid := over
#print axioms proved
end Go.Proofs.Ytcloklakffgbmaa.fnExactAddClue
namespace Go.Proofs.Ytcloklakffgbmaa
theorem fnExactAddClue_holds : Rows.FnExactAddClueSaid := fnExactAddClue.proved
end Go.Proofs.Ytcloklakffgbmaa

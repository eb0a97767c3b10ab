/- The statement FnExactParcelsTextSaid of this seat's rows, proved for all its inputs under no condition. -/
import Derived.Below
import Derived.ChangeOld
import Derived.ChangeVars
import Derived.JoinedOf
import Derived.LaidHandle
import Derived.LaidLaws
import Derived.LaidMore
import Derived.Lib.LaidTab
import Derived.MakeChecks
import Derived.OpenShut
import Derived.ProofKit
import Derived.SevenTiedAt
import Derived.ShutString
import Derived.SizedLaws
import Derived.Stop.Joined
import Derived.Stop.LaidErr
import Derived.WalkKit
import Derived.Test.YteiicfcjhphmpaaDoorRows
import Derived.Test.YteiicfcjhphmpaaDoorQ1793086b
import Derived.Test.YteiicfcjhphmpaaDoorQ401a6738
import Derived.Test.YteiicfcjhphmpaaDoorQ4dfcfcda
import Derived.Test.YteiicfcjhphmpaaDoorQ52174fb3
import Derived.Test.YteiicfcjhphmpaaDoorTie
import Derived.Test.YteiicfcjhphmpaaDoorCards
import Derived.Test.YteiicfcjhphmpaaDoorQ037f7da9
namespace Go.Proofs.YteiicfcjhphmpaaDoor.fnExactParcelsText
open Go.ChangeShapes Go.WideShapes Go.ChangeAt Go.RowKit
open Go.ChangeMaps (open_string shut_string)
set_option linter.unusedVariables false
theorem own : ownKnob Tryd.prog.godebug = none := by kernel_rfl
theorem laidOut : laidOutB Tryd.prog = true := by kernel_rfl
theorem tb_of_laid {W : World} (h : laidMetH Tryd.prog Rows.fnExactParcelsTextRow.laid W) : G.Tb W := by
  have h : laidMetH Tryd.prog [("math/bits.deBruijn32tab", Rows.laid_math_bits_deBruijn32tab), ("math/bits.deBruijn64tab", Rows.laid_math_bits_deBruijn64tab), ("internal/strconv.uint64pow10", Rows.laid_internal_strconv_uint64pow10)] W := h
  rw [MakeChecks.laidMetH_plain _ _ _ (by kernel_rfl)] at h
  have h2 : laidMet Tryd.prog (("internal/strconv.uint64pow10", Lib.tabData .u64 Lib.pow10Tab) :: []) W := laidMet.tail (laidMet.tail (h))
  exact Lib.tabIs_of_head (by kernel_rfl : Tryd.prog.globalNamed "internal/strconv.uint64pow10" = some 1) (t := 101) (by kernel_rfl) (n := 20) (e := 94) Tryd.underlying101 Tryd.underlying94 (by kernel_rfl) (by kernel_rfl) h2
theorem door_met (os : Os) (args : Array Value) : laidMetH Tryd.prog Rows.fnExactParcelsTextRow.laid ((World.doorLaid Tryd.prog 24 os).forCall (fun _ _ => 0) ⟨#[], args, []⟩).memory :=
  laidMetH_of_parts3 (fuel := 8) (laidMet_of_run' 8 (by kernel_rfl) (by kernel_rfl)) (by kernel_rfl) (by kernel_rfl)
set_option maxRecDepth 100000 in
set_option maxHeartbeats 1000000 in
theorem lifted (os : Os) (started : os.Started) (H : Type) (enc : TypeId × Value → H) :
    ReturnsInHanded {} Tryd.checked os 3 .any (fun w args => (Rows.fnExactParcelsTextSpec.pre enc Tryd.prog Tryd.f3 Rows.fnExactParcelsTextRow.domain false w args ∧ laidMetH Tryd.prog Rows.fnExactParcelsTextRow.laid w) ∧ sizedMet enc Tryd.prog Tryd.f3 (OpenSpec.ofChange Rows.fnExactParcelsTextSpec) false w args) (Rows.fnExactParcelsTextSpec.post enc Tryd.prog Tryd.f3 false true false false) := by
  refine returnsInHanded_of_change_and (C := Tryd.checked) (X := fun w _ => laidMetH Tryd.prog Rows.fnExactParcelsTextRow.laid w) (fun _ _ _ hh h => h.of_heap hh) own started (by kernel_rfl) Tryd.func3
    (ChangeSpec.witness_shaped (enc := enc) (C := Tryd.checked) (os := os) (X := fun w _ => laidMetH Tryd.prog Rows.fnExactParcelsTextRow.laid w) false (World.doorLaid Tryd.prog 24 os) #[.slice none 0 0] 8 rfl (World.shaped_of_RefB (by kernel_rfl) (by kernel_rfl)) (by kernel_rfl) (by kernel_rfl) (by kernel_rfl) (door_met os _)) ?_
  intro W base args ds gs before hval0 hW hcnd hsz0 hL _
  have hT := tb_of_laid hL
  clear hL
  have hsz : (DataW.weightsEach Tryd.prog (Tryd.f3.params.toList ++ Rows.fnExactParcelsTextSpec.plain.varTypes Tryd.prog) (ds ++ gs)).all (· ≤ reachBytes) = true := hsz0
  have hval : ∀ (j : Nat) t v, Tryd.f3.params[j]? = some t → args[j]? = some v → Value.okWide Tryd.prog W .any base t v := hval0
  have hW' := hW
  obtain ⟨p, q, hA0, hV, rfl, hfz, hnd⟩ := hW
  have hA : DataW.TrodAll enc Tryd.prog W 0 (fun _ => true) true Tryd.f3.params.toList args.toList ds p := hA0
  rw [Tryd.params3] at hA hval hsz
  obtain ⟨v0, vs0, d0, ds0, p0, q0, hargs, rfl, rfl, h0, r0⟩ := trodAll_cons hA
  obtain ⟨rfl, rfl, rfl⟩ := trodAll_nil r0
  obtain rfl : args = #[v0] := by cases args; simp_all
  obtain ⟨rfl, rfl⟩ := trodVars_none hV
  obtain ⟨a0, len0, cap0, rfl⟩ := okWide_slice Tryd.underlying22 (hval 0 22 v0 rfl rfl)
  have k0 := h0
  have lt0 : ∀ x ∈ p0, x.block < W.heap.size := by obtain ⟨m, hm⟩ := k0; exact DataW.trod_lt m _ _ _ hm
  obtain ⟨fuel0, hf0⟩ := h0
  obtain ⟨x0, hK0, hX0⟩ := (Open.opens_slice Tryd.underlying22 (by kernel_rfl) (Open.opens_iso (f := fun x : G.S49 => (x.f0, x.f1)) (fun y => (⟨y.1, y.2⟩ : G.S49)) (fun _ => rfl) (Open.opens_pair2 Tryd.underlying49 rfl (by kernel_rfl) (by kernel_rfl) ⟨by kernel_rfl, by kernel_rfl⟩ (Open.opens_int Tryd.underlying3) (Open.opens_int Tryd.underlying3)))) _ _ _ _ _ _ _ _ hf0
  obtain ⟨B0, c0, he0, hc0, hr0⟩ := hK0
  obtain ⟨rfl, rfl, rfl⟩ := Open.slice_eq he0
  clear hA0 hval0 hsz0 hsz
  refine (G.laws_FnExactParcelsText.walk Pure.FnExactParcelsText B0 c0 x0 W hr0 hc0 hX0.1 hX0.2 hT).mono fun e W' ⟨he, bel⟩ => ?_
  subst he
  exact ⟨_, rfl, _, _, _, [], _, [], hW', trodAll_mk1 (shut_bool Tryd.underlying4 _), (trodAll_cons_mk (Below.trod laidOut (by kernel_rfl) (of_decide_eq_true (by kernel_rfl)) k0 bel lt0) trodAll_mk0), rfl, bel.frame _, fun h => by cases h⟩
theorem c0 : (Rows.fnExactParcelsTextRow.wf (OpenSpec.ofChange Rows.fnExactParcelsTextSpec) : Bool) = true := by kernel_rfl
theorem c1 : (laidOutB Tryd.prog : Bool) = true := Facts.laidOut
theorem c2 : (mapsRowed Tryd.prog : Bool) = true := Facts.mapsRowed
theorem c3 : (Tryd.f3.params.all (Tryd.prog.readableRec ·) : Bool) = true := by kernel_rfl
theorem c4 : (namedTie Tryd.prog Rows.fnExactParcelsTextRow.named Rows.fnExactParcelsTextSpec.vars : Bool) = true := by kernel_rfl
theorem c5 : ((Rows.fnExactParcelsTextRow.stops == []) : Bool) = true := by kernel_rfl
theorem c6 : ((Tryd.prog.stops == []) : Bool) = true := by rw [Facts.stops]; rfl
theorem c7 : ((Rows.fnExactParcelsTextRow.knobs == []) : Bool) = true := by kernel_rfl
theorem c8 : ((Tryd.prog.stopKnobs == []) : Bool) = true := by rw [Facts.stopKnobs]; rfl
theorem c9 : ((Rows.fnExactParcelsTextRow.inPlace == Tryd.prog.inPlace 3) : Bool) = true := by kernel_rfl
theorem c10 : ((Rows.fnExactParcelsTextRow.unfollowed == Tryd.prog.unfollowed 3) : Bool) = true := by kernel_rfl
theorem c11 : ((Rows.fnExactParcelsTextRow.recurses == Tryd.prog.recurses 3) : Bool) = true := by kernel_rfl
theorem c12 : ((Rows.fnExactParcelsTextRow.named == Tryd.prog.varsNamed 3) : Bool) = true := by kernel_rfl
theorem c13 : ((Rows.fnExactParcelsTextRow.maps == (Tryd.f3.params.toList ++ Rows.fnExactParcelsTextSpec.plain.varTypes Tryd.prog).any (Tryd.prog.mapsRec ·)) : Bool) = true := by kernel_rfl
theorem c14 : ((Rows.fnExactParcelsTextRow.ifaces == (Tryd.f3.params.toList ++ Rows.fnExactParcelsTextSpec.plain.varTypes Tryd.prog).any (Tryd.prog.ifacesRec ·)) : Bool) = true := by kernel_rfl
theorem c15 : ((Rows.fnExactParcelsTextRow.mapsOut == Tryd.prog.mapsAmong Tryd.f3.resultTypes.toList) : Bool) = true := by kernel_rfl
theorem c16 : ((Rows.fnExactParcelsTextRow.loops == (Tryd.f3.params.toList ++ Rows.fnExactParcelsTextSpec.plain.varTypes Tryd.prog).any (Tryd.prog.loopsFrom ·)) : Bool) = true := by kernel_rfl
theorem c17 : ((Rows.fnExactParcelsTextRow.wideKeys == (Tryd.f3.params.toList ++ Rows.fnExactParcelsTextSpec.plain.varTypes Tryd.prog ++ Tryd.f3.resultTypes.toList).any (Tryd.prog.wideKeysFrom ·)) : Bool) = true := by kernel_rfl
theorem c18 : (Rows.fnExactParcelsTextSpec.vars.all (Tryd.prog.varReadable ·) : Bool) = true := by kernel_rfl
theorem c19 : (Tryd.f3.resultTypes.all (fun t => Tryd.prog.readableRec t && decide (t < Tryd.prog.types.size)) : Bool) = true := by kernel_rfl
theorem c20 : ((Rows.fnExactParcelsTextRow.ifacesOut == Tryd.f3.resultTypes.toList.any (Tryd.prog.ifacesRec ·)) : Bool) = true := by kernel_rfl
theorem c21 : ((Rows.fnExactParcelsTextRow.loopsOut == Tryd.f3.resultTypes.toList.any (Tryd.prog.loopsFrom ·)) : Bool) = true := by kernel_rfl
theorem c22 : ((Rows.fnExactParcelsTextRow.plainKeys == Tryd.prog.plainKeys) : Bool) = true := by rw [Facts.plainKeys]; rfl
theorem c23 : (Rows.fnExactParcelsTextRow.shortTexts.isNone : Bool) = true := by kernel_rfl
theorem c24 : (Tryd.prog.stopsHeard : Bool) = true := Facts.stopsHeard
theorem c25 : (Tryd.prog.mayEnter : Bool) = true := Facts.mayEnter
theorem c26 : ((Rows.fnExactParcelsTextRow.lifted == Tryd.prog.liftsFinal) : Bool) = true := by rw [Facts.lifts]; rfl
theorem c27 : ((Tryd.prog.make == some Rows.fnExactParcelsTextRow.make) : Bool) = true := by rw [Facts.make]; kernel_rfl
theorem c28 : ((Rows.fnExactParcelsTextRow.kinds == (if Rows.fnExactParcelsTextRow.domain.isEmpty then [] else Tryd.f3.params.toList.map fun t => match Tryd.prog.underlying t with | some (.int k) => some k | _ => none)) : Bool) = true := by kernel_rfl
theorem c29 : ((Rows.fnExactParcelsTextRow.pinned == Rows.fnExactParcelsTextRow.pinnedBy) : Bool) = true := by kernel_rfl
theorem c30 : ((Rows.fnExactParcelsTextRow.veiled == (Tryd.f3.params.toList ++ Rows.fnExactParcelsTextSpec.plain.varTypes Tryd.prog ++ Tryd.f3.resultTypes.toList).any (Tryd.prog.veiledRec ·)) : Bool) = true := by kernel_rfl
theorem c31 : (Rows.fnExactParcelsTextRow.veiledFits Tryd.prog Tryd.f3.params.toList (Tryd.f3.params.toList ++ Rows.fnExactParcelsTextSpec.plain.varTypes Tryd.prog ++ Tryd.f3.resultTypes.toList) : Bool) = true := by kernel_rfl
theorem and_ {a b : Bool} (h : a = true) (h' : b = true) : (a && b) = true := by rw [h, h']; rfl
set_option maxRecDepth 100000 in
theorem closed : joinedFacts Tryd.prog 3 Tryd.f3 Rows.fnExactParcelsTextSpec Rows.fnExactParcelsTextRow = true := by
  unfold joinedFacts
  exact (and_ (and_ (and_ (and_ (and_ (and_ (and_ (and_ (and_ (and_ (and_ (and_ (and_ (and_ (and_ (and_ (and_ (and_ (and_ (and_ (and_ (and_ (and_ (and_ (and_ (and_ (and_ (and_ (and_ (and_ (and_ c0 c1) c2) c3) c4) c5) c6) c7) c8) c9) c10) c11) c12) c13) c14) c15) c16) c17) c18) c19) c20) c21) c22) c23) c24) c25) c26) c27) c28) c29) c30) c31)
theorem named : Tryd.pinned.checked.prog.funcNamed Rows.fnExactParcelsTextRow.func = some 3 := by kernel_rfl
theorem over : Rows.fnExactParcelsTextRow.holds Tryd.pinned (OpenSpec.ofChange Rows.fnExactParcelsTextSpec) :=
  OpenClaim.holds_of_wide 3 Tryd.f3 rfl rfl rfl rfl rfl rfl rfl ⟨rfl, rfl, rfl, rfl, rfl⟩ rfl rfl rfl rfl rfl named Tryd.func3 closed
    (of_decide_eq_true (by kernel_rfl)) (by unfold Func.isWrapper; first | (rw [if_pos (by decide +kernel)]; kernel_rfl) | (rw [if_neg (by decide +kernel)]; exact ⟨rfl, rfl⟩))
    (fun os started H enc _ => lifted os started H enc)
theorem proved : Rows.FnExactParcelsTextSaid := over
#print axioms proved
end Go.Proofs.YteiicfcjhphmpaaDoor.fnExactParcelsText
namespace Go.Proofs.YteiicfcjhphmpaaDoor
theorem fnExactParcelsText.plain : (Tryd.f3.params.toList.all fun t => !(Tryd.prog.wantsStandIn t)) = true := by kernel_rfl
theorem fnExactParcelsText_holds : Rows.FnExactParcelsTextCardSaid :=
  Claim7.holds_tied_plain_at .later [] [.data, .data, .data] true (true, "f901e37806db68e780f12fd0f4dbf1cef2aa3ebbbdd59b744227c3889c46255c") false
    fnExactParcelsText.proved (fun _ h => by cases h) (by kernel_rfl) (fun _ h => by cases h) fnExactParcelsText_row_tie rfl ⟨rfl, rfl⟩ (by kernel_rfl) rfl
    (fun f fn hf hfn => by
      obtain rfl : f = 3 := Option.some.inj (fnExactParcelsText.named.symm.trans hf) |>.symm
      obtain rfl : fn = Tryd.f3 := (Option.some.inj (Tryd.func3.symm.trans hfn)).symm
      exact ⟨by kernel_rfl, fun j t ht => by
        have hm : t ∈ Tryd.f3.params.toList := by rw [Array.mem_toList_iff]; exact Array.mem_of_getElem? ht
        have := List.all_eq_true.1 fnExactParcelsText.plain t hm
        exact (show Tryd.prog.wantsStandIn t = false by simpa using this)⟩)
    (by kernel_rfl)
#print axioms fnExactParcelsText_holds
end Go.Proofs.YteiicfcjhphmpaaDoor

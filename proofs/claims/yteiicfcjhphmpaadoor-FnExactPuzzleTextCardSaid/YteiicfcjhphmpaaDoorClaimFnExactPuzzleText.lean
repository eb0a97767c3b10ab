/- The statement FnExactPuzzleTextSaid of this seat's rows, proved for all its inputs under no condition. -/
import Derived.Below
import Derived.ChangeOld
import Derived.ChangeVars
import Derived.JoinedOf
import Derived.LaidHandle
import Derived.LaidLaws
import Derived.LaidMore
import Derived.Lib.LaidTab
import Derived.MakeChecks
import Derived.OpenShut
import Derived.ProofKit
import Derived.SevenTiedAt
import Derived.ShutString
import Derived.SizedLaws
import Derived.Stop.Joined
import Derived.Stop.LaidErr
import Derived.WalkKit
import Derived.Test.YteiicfcjhphmpaaDoorRows
import Derived.Test.YteiicfcjhphmpaaDoorQff0ee5d4
import Derived.Test.YteiicfcjhphmpaaDoorQf01ad1e2
import Derived.Test.YteiicfcjhphmpaaDoorQ4dfcfcda
import Derived.Test.YteiicfcjhphmpaaDoorQ898aef24
import Derived.Test.YteiicfcjhphmpaaDoorTie
import Derived.Test.YteiicfcjhphmpaaDoorCards
import Derived.Test.YteiicfcjhphmpaaDoorQ037f7da9
namespace Go.Proofs.YteiicfcjhphmpaaDoor.fnExactPuzzleText
open Go.ChangeShapes Go.WideShapes Go.ChangeAt Go.RowKit
open Go.ChangeMaps (open_string shut_string)
set_option linter.unusedVariables false
theorem own : ownKnob Tryd.prog.godebug = none := by kernel_rfl
theorem laidOut : laidOutB Tryd.prog = true := by kernel_rfl
theorem tb_of_laid {W : World} (h : laidMetH Tryd.prog Rows.fnExactPuzzleTextRow.laid W) : G.Tb W := by
  have h : laidMetH Tryd.prog [("math/bits.deBruijn32tab", Rows.laid_math_bits_deBruijn32tab), ("math/bits.deBruijn64tab", Rows.laid_math_bits_deBruijn64tab), ("internal/strconv.uint64pow10", Rows.laid_internal_strconv_uint64pow10)] W := h
  rw [MakeChecks.laidMetH_plain _ _ _ (by kernel_rfl)] at h
  have h2 : laidMet Tryd.prog (("internal/strconv.uint64pow10", Lib.tabData .u64 Lib.pow10Tab) :: []) W := laidMet.tail (laidMet.tail (h))
  exact Lib.tabIs_of_head (by kernel_rfl : Tryd.prog.globalNamed "internal/strconv.uint64pow10" = some 1) (t := 101) (by kernel_rfl) (n := 20) (e := 94) Tryd.underlying101 Tryd.underlying94 (by kernel_rfl) (by kernel_rfl) h2
theorem door_met (os : Os) (args : Array Value) : laidMetH Tryd.prog Rows.fnExactPuzzleTextRow.laid ((World.doorLaid Tryd.prog 24 os).forCall (fun _ _ => 0) ⟨#[], args, []⟩).memory :=
  laidMetH_of_parts3 (fuel := 8) (laidMet_of_run' 8 (by kernel_rfl) (by kernel_rfl)) (by kernel_rfl) (by kernel_rfl)
set_option maxRecDepth 100000 in
set_option maxHeartbeats 1000000 in
theorem lifted (os : Os) (started : os.Started) (H : Type) (enc : TypeId × Value → H) :
    ReturnsInHanded {} Tryd.checked os 4 .any (fun w args => (Rows.fnExactPuzzleTextSpec.pre enc Tryd.prog Tryd.f4 Rows.fnExactPuzzleTextRow.domain false w args ∧ laidMetH Tryd.prog Rows.fnExactPuzzleTextRow.laid w) ∧ sizedMet enc Tryd.prog Tryd.f4 (OpenSpec.ofChange Rows.fnExactPuzzleTextSpec) false w args) (Rows.fnExactPuzzleTextSpec.post enc Tryd.prog Tryd.f4 false true false false) := by
  refine returnsInHanded_of_change_and (C := Tryd.checked) (X := fun w _ => laidMetH Tryd.prog Rows.fnExactPuzzleTextRow.laid w) (fun _ _ _ hh h => h.of_heap hh) own started (by kernel_rfl) Tryd.func4
    (ChangeSpec.witness_shaped (enc := enc) (C := Tryd.checked) (os := os) (X := fun w _ => laidMetH Tryd.prog Rows.fnExactPuzzleTextRow.laid w) false (World.doorLaid Tryd.prog 24 os) #[.agg #[.int .i64 0, .int .i64 0, .slice none 0 0]] 8 rfl (World.shaped_of_RefB (by kernel_rfl) (by kernel_rfl)) (by kernel_rfl) (by kernel_rfl) (by kernel_rfl) (door_met os _)) ?_
  intro W base args ds gs before hval0 hW hcnd hsz0 hL _
  have hT := tb_of_laid hL
  clear hL
  have hsz : (DataW.weightsEach Tryd.prog (Tryd.f4.params.toList ++ Rows.fnExactPuzzleTextSpec.plain.varTypes Tryd.prog) (ds ++ gs)).all (· ≤ reachBytes) = true := hsz0
  have hval : ∀ (j : Nat) t v, Tryd.f4.params[j]? = some t → args[j]? = some v → Value.okWide Tryd.prog W .any base t v := hval0
  have hW' := hW
  obtain ⟨p, q, hA0, hV, rfl, hfz, hnd⟩ := hW
  have hA : DataW.TrodAll enc Tryd.prog W 0 (fun _ => true) true Tryd.f4.params.toList args.toList ds p := hA0
  rw [Tryd.params4] at hA hval hsz
  obtain ⟨v0, vs0, d0, ds0, p0, q0, hargs, rfl, rfl, h0, r0⟩ := trodAll_cons hA
  obtain ⟨rfl, rfl, rfl⟩ := trodAll_nil r0
  obtain rfl : args = #[v0] := by cases args; simp_all
  obtain ⟨rfl, rfl⟩ := trodVars_none hV
  obtain ⟨⟨cs0⟩, rfl, _⟩ := okWide_struct Tryd.underlying34 (hval 0 34 v0 rfl rfl)
  have k0 := h0
  have lt0 : ∀ x ∈ p0, x.block < W.heap.size := by obtain ⟨m, hm⟩ := k0; exact DataW.trod_lt m _ _ _ hm
  obtain ⟨fuel0, hf0⟩ := h0
  obtain ⟨x0, hK0, hX0⟩ := (Open.opens_iso (f := fun x : G.S34 => (x.f0, x.f1)) (fun y => (⟨y.1, y.2⟩ : G.S34)) (fun _ => rfl) (Open.opens_pair2 Tryd.underlying34 rfl (by kernel_rfl) (by kernel_rfl) ⟨by kernel_rfl, by kernel_rfl⟩ (Open.opens_iso (f := fun x : G.S31 => (x.f0, x.f1)) (fun y => (⟨y.1, y.2⟩ : G.S31)) (fun _ => rfl) (Open.opens_pair2 Tryd.underlying31 rfl (by kernel_rfl) (by kernel_rfl) ⟨by kernel_rfl, by kernel_rfl⟩ (Open.opens_int Tryd.underlying3) (Open.opens_int Tryd.underlying3))) (Open.opens_slice Tryd.underlying32 (by kernel_rfl) (Open.opens_iso (f := fun x : G.S82 => (x.f0, x.f1, x.f2)) (fun y => (⟨y.1, y.2.1, y.2.2⟩ : G.S82)) (fun _ => rfl) (Open.opens_pair3 Tryd.underlying82 rfl (by kernel_rfl) (by kernel_rfl) (by kernel_rfl) (by kernel_rfl) ⟨by kernel_rfl, by kernel_rfl⟩ (Open.opens_int Tryd.underlying3) (Open.opens_int Tryd.underlying3) (Open.opens_int Tryd.underlying3)))))) _ _ _ _ _ _ _ _ hf0
  obtain ⟨A0_2, c0_2, he0, hc0_2, hr0_2⟩ := G.k34_open hK0
  obtain rfl : cs0 = [.int .i64 x0.f0.f0, .int .i64 x0.f0.f1, .slice A0_2 x0.f1.length c0_2] := he0
  clear hA0 hval0 hsz0 hsz
  refine (G.laws_FnExactPuzzleText.walk Pure.FnExactPuzzleText x0.f0.f0 x0.f0.f1 A0_2 c0_2 x0.f1 W hr0_2 hc0_2 hX0.1.1 hX0.1.2 hX0.2.1 hX0.2.2 hT).mono fun e W' ⟨he, bel⟩ => ?_
  subst he
  exact ⟨_, rfl, _, _, _, [], _, [], hW', trodAll_mk1 (shut_bool Tryd.underlying4 _), (trodAll_cons_mk (Below.trod laidOut (by kernel_rfl) (of_decide_eq_true (by kernel_rfl)) k0 bel lt0) trodAll_mk0), rfl, bel.frame _, fun h => by cases h⟩
theorem c0 : (Rows.fnExactPuzzleTextRow.wf (OpenSpec.ofChange Rows.fnExactPuzzleTextSpec) : Bool) = true := by kernel_rfl
theorem c1 : (laidOutB Tryd.prog : Bool) = true := Facts.laidOut
theorem c2 : (mapsRowed Tryd.prog : Bool) = true := Facts.mapsRowed
theorem c3 : (Tryd.f4.params.all (Tryd.prog.readableRec ·) : Bool) = true := by kernel_rfl
theorem c4 : (namedTie Tryd.prog Rows.fnExactPuzzleTextRow.named Rows.fnExactPuzzleTextSpec.vars : Bool) = true := by kernel_rfl
theorem c5 : ((Rows.fnExactPuzzleTextRow.stops == []) : Bool) = true := by kernel_rfl
theorem c6 : ((Tryd.prog.stops == []) : Bool) = true := by rw [Facts.stops]; rfl
theorem c7 : ((Rows.fnExactPuzzleTextRow.knobs == []) : Bool) = true := by kernel_rfl
theorem c8 : ((Tryd.prog.stopKnobs == []) : Bool) = true := by rw [Facts.stopKnobs]; rfl
theorem c9 : ((Rows.fnExactPuzzleTextRow.inPlace == Tryd.prog.inPlace 4) : Bool) = true := by kernel_rfl
theorem c10 : ((Rows.fnExactPuzzleTextRow.unfollowed == Tryd.prog.unfollowed 4) : Bool) = true := by kernel_rfl
theorem c11 : ((Rows.fnExactPuzzleTextRow.recurses == Tryd.prog.recurses 4) : Bool) = true := by kernel_rfl
theorem c12 : ((Rows.fnExactPuzzleTextRow.named == Tryd.prog.varsNamed 4) : Bool) = true := by kernel_rfl
theorem c13 : ((Rows.fnExactPuzzleTextRow.maps == (Tryd.f4.params.toList ++ Rows.fnExactPuzzleTextSpec.plain.varTypes Tryd.prog).any (Tryd.prog.mapsRec ·)) : Bool) = true := by kernel_rfl
theorem c14 : ((Rows.fnExactPuzzleTextRow.ifaces == (Tryd.f4.params.toList ++ Rows.fnExactPuzzleTextSpec.plain.varTypes Tryd.prog).any (Tryd.prog.ifacesRec ·)) : Bool) = true := by kernel_rfl
theorem c15 : ((Rows.fnExactPuzzleTextRow.mapsOut == Tryd.prog.mapsAmong Tryd.f4.resultTypes.toList) : Bool) = true := by kernel_rfl
theorem c16 : ((Rows.fnExactPuzzleTextRow.loops == (Tryd.f4.params.toList ++ Rows.fnExactPuzzleTextSpec.plain.varTypes Tryd.prog).any (Tryd.prog.loopsFrom ·)) : Bool) = true := by kernel_rfl
theorem c17 : ((Rows.fnExactPuzzleTextRow.wideKeys == (Tryd.f4.params.toList ++ Rows.fnExactPuzzleTextSpec.plain.varTypes Tryd.prog ++ Tryd.f4.resultTypes.toList).any (Tryd.prog.wideKeysFrom ·)) : Bool) = true := by kernel_rfl
theorem c18 : (Rows.fnExactPuzzleTextSpec.vars.all (Tryd.prog.varReadable ·) : Bool) = true := by kernel_rfl
theorem c19 : (Tryd.f4.resultTypes.all (fun t => Tryd.prog.readableRec t && decide (t < Tryd.prog.types.size)) : Bool) = true := by kernel_rfl
theorem c20 : ((Rows.fnExactPuzzleTextRow.ifacesOut == Tryd.f4.resultTypes.toList.any (Tryd.prog.ifacesRec ·)) : Bool) = true := by kernel_rfl
theorem c21 : ((Rows.fnExactPuzzleTextRow.loopsOut == Tryd.f4.resultTypes.toList.any (Tryd.prog.loopsFrom ·)) : Bool) = true := by kernel_rfl
theorem c22 : ((Rows.fnExactPuzzleTextRow.plainKeys == Tryd.prog.plainKeys) : Bool) = true := by rw [Facts.plainKeys]; rfl
theorem c23 : (Rows.fnExactPuzzleTextRow.shortTexts.isNone : Bool) = true := by kernel_rfl
theorem c24 : (Tryd.prog.stopsHeard : Bool) = true := Facts.stopsHeard
theorem c25 : (Tryd.prog.mayEnter : Bool) = true := Facts.mayEnter
theorem c26 : ((Rows.fnExactPuzzleTextRow.lifted == Tryd.prog.liftsFinal) : Bool) = true := by rw [Facts.lifts]; rfl
theorem c27 : ((Tryd.prog.make == some Rows.fnExactPuzzleTextRow.make) : Bool) = true := by rw [Facts.make]; kernel_rfl
theorem c28 : ((Rows.fnExactPuzzleTextRow.kinds == (if Rows.fnExactPuzzleTextRow.domain.isEmpty then [] else Tryd.f4.params.toList.map fun t => match Tryd.prog.underlying t with | some (.int k) => some k | _ => none)) : Bool) = true := by kernel_rfl
theorem c29 : ((Rows.fnExactPuzzleTextRow.pinned == Rows.fnExactPuzzleTextRow.pinnedBy) : Bool) = true := by kernel_rfl
theorem c30 : ((Rows.fnExactPuzzleTextRow.veiled == (Tryd.f4.params.toList ++ Rows.fnExactPuzzleTextSpec.plain.varTypes Tryd.prog ++ Tryd.f4.resultTypes.toList).any (Tryd.prog.veiledRec ·)) : Bool) = true := by kernel_rfl
theorem c31 : (Rows.fnExactPuzzleTextRow.veiledFits Tryd.prog Tryd.f4.params.toList (Tryd.f4.params.toList ++ Rows.fnExactPuzzleTextSpec.plain.varTypes Tryd.prog ++ Tryd.f4.resultTypes.toList) : Bool) = true := by kernel_rfl
theorem and_ {a b : Bool} (h : a = true) (h' : b = true) : (a && b) = true := by rw [h, h']; rfl
set_option maxRecDepth 100000 in
theorem closed : joinedFacts Tryd.prog 4 Tryd.f4 Rows.fnExactPuzzleTextSpec Rows.fnExactPuzzleTextRow = true := by
  unfold joinedFacts
  exact (and_ (and_ (and_ (and_ (and_ (and_ (and_ (and_ (and_ (and_ (and_ (and_ (and_ (and_ (and_ (and_ (and_ (and_ (and_ (and_ (and_ (and_ (and_ (and_ (and_ (and_ (and_ (and_ (and_ (and_ (and_ c0 c1) c2) c3) c4) c5) c6) c7) c8) c9) c10) c11) c12) c13) c14) c15) c16) c17) c18) c19) c20) c21) c22) c23) c24) c25) c26) c27) c28) c29) c30) c31)
theorem named : Tryd.pinned.checked.prog.funcNamed Rows.fnExactPuzzleTextRow.func = some 4 := by kernel_rfl
theorem over : Rows.fnExactPuzzleTextRow.holds Tryd.pinned (OpenSpec.ofChange Rows.fnExactPuzzleTextSpec) :=
  OpenClaim.holds_of_wide 4 Tryd.f4 rfl rfl rfl rfl rfl rfl rfl ⟨rfl, rfl, rfl, rfl, rfl⟩ rfl rfl rfl rfl rfl named Tryd.func4 closed
    (of_decide_eq_true (by kernel_rfl)) (by unfold Func.isWrapper; first | (rw [if_pos (by decide +kernel)]; kernel_rfl) | (rw [if_neg (by decide +kernel)]; exact ⟨rfl, rfl⟩))
    (fun os started H enc _ => lifted os started H enc)
theorem proved : Rows.FnExactPuzzleTextSaid := over
#print axioms proved
end Go.Proofs.YteiicfcjhphmpaaDoor.fnExactPuzzleText
namespace Go.Proofs.YteiicfcjhphmpaaDoor
theorem fnExactPuzzleText.plain : (Tryd.f4.params.toList.all fun t => !(Tryd.prog.wantsStandIn t)) = true := by kernel_rfl
theorem fnExactPuzzleText_holds : Rows.FnExactPuzzleTextCardSaid :=
  Claim7.holds_tied_plain_at .later [] [.data, .data, .data] true (true, "f901e37806db68e780f12fd0f4dbf1cef2aa3ebbbdd59b744227c3889c46255c") false
    fnExactPuzzleText.proved (fun _ h => by cases h) (by kernel_rfl) (fun _ h => by cases h) fnExactPuzzleText_row_tie rfl ⟨rfl, rfl⟩ (by kernel_rfl) rfl
    (fun f fn hf hfn => by
      obtain rfl : f = 4 := Option.some.inj (fnExactPuzzleText.named.symm.trans hf) |>.symm
      obtain rfl : fn = Tryd.f4 := (Option.some.inj (Tryd.func4.symm.trans hfn)).symm
      exact ⟨by kernel_rfl, fun j t ht => by
        have hm : t ∈ Tryd.f4.params.toList := by rw [Array.mem_toList_iff]; exact Array.mem_of_getElem? ht
        have := List.all_eq_true.1 fnExactPuzzleText.plain t hm
        exact (show Tryd.prog.wantsStandIn t = false by simpa using this)⟩)
    (by kernel_rfl)
#print axioms fnExactPuzzleText_holds
end Go.Proofs.YteiicfcjhphmpaaDoor

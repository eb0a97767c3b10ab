/- The statement FnExactParsePuzzleSaid of this seat's rows, proved for all its inputs under no condition. -/
import Derived.Below
import Derived.ChangeOld
import Derived.ChangeVars
import Derived.JoinedOf
import Derived.LaidHandle
import Derived.LaidLaws
import Derived.LaidMore
import Derived.Lay
import Derived.Lib.LaidTab
import Derived.MakeChecks
import Derived.OpenShut
import Derived.ProofKit
import Derived.SevenTiedAt
import Derived.Shelf.Vars
import Derived.ShutString
import Derived.SizedLaws
import Derived.Stop.Joined
import Derived.Stop.LaidErr
import Derived.WalkKit
import Derived.Test.YtlbodfogdhjnlaaDoorRows
import Derived.Test.YtlbodfogdhjnlaaDoorQ8698e965
import Derived.Test.YtlbodfogdhjnlaaDoorQceac402f
import Derived.Test.YtlbodfogdhjnlaaDoorQc24f6038
import Derived.Test.YtlbodfogdhjnlaaDoorTie
import Derived.Test.YtlbodfogdhjnlaaDoorCards
import Derived.Test.YtlbodfogdhjnlaaDoorQ31e182c3
namespace Go.Proofs.YtlbodfogdhjnlaaDoor.fnExactParsePuzzle
open Go.ChangeShapes Go.WideShapes Go.ChangeAt Go.RowKit
open Go.ChangeMaps (open_string shut_string)
set_option linter.unusedVariables false
theorem own : ownKnob Tryd.prog.godebug = none := by kernel_rfl
theorem tb_of_laid {W : World} (h : laidMetH Tryd.prog Rows.fnExactParsePuzzleRow.laid W) (hsh : W.ShapedOpen Tryd.prog) : G.Tb W := by
  have h : laidMetH Tryd.prog [("math/bits.deBruijn32tab", Rows.laid_math_bits_deBruijn32tab), ("math/bits.deBruijn64tab", Rows.laid_math_bits_deBruijn64tab), ("internal/strconv.uint64pow10", Rows.laid_internal_strconv_uint64pow10), ("unicode/utf8.acceptRanges", Rows.laid_unicode_utf8_acceptRanges), ("strconv.ErrRange", Rows.laid_strconv_ErrRange), ("strconv.ErrSyntax", Rows.laid_strconv_ErrSyntax), ("unicode/utf8.first", Rows.laid_unicode_utf8_first)] W := h
  rw [MakeChecks.laidMetH_plain _ _ _ (by kernel_rfl)] at h
  have h2 : laidMet Tryd.prog (("internal/strconv.uint64pow10", Lib.tabData .u64 Lib.pow10Tab) :: [("unicode/utf8.acceptRanges", Rows.laid_unicode_utf8_acceptRanges), ("strconv.ErrRange", Rows.laid_strconv_ErrRange), ("strconv.ErrSyntax", Rows.laid_strconv_ErrSyntax), ("unicode/utf8.first", Rows.laid_unicode_utf8_first)]) W := laidMet.tail (laidMet.tail (h))
  have t1 := Lib.tabIs_of_head (by kernel_rfl : Tryd.prog.globalNamed "internal/strconv.uint64pow10" = some 5) (t := 131) (by kernel_rfl) (n := 20) (e := 114) Tryd.underlying131 Tryd.underlying114 (by kernel_rfl) (by kernel_rfl) h2
  have t2 := cell_of_shapedOpen_int (zero := #[.int .i64 0]) (t := 3) (g := 0) hsh (of_decide_eq_true (by kernel_rfl)) (by kernel_rfl) rfl (by kernel_rfl) (by kernel_rfl) Tryd.underlying3
  have h3 : laidMet Tryd.prog (("strconv.ErrSyntax", .iface "*errors.errorString" (.ptr (.agg [.lit (.string [105, 110, 118, 97, 108, 105, 100, 32, 115, 121, 110, 116, 97, 120])]))) :: [("unicode/utf8.first", Rows.laid_unicode_utf8_first)]) W := laidMet.tail (laidMet.tail (laidMet.tail (laidMet.tail (laidMet.tail (h)))))
  have t3 := G.iface_of_laid (by kernel_rfl : Tryd.prog.globalNamed "strconv.ErrSyntax" = some 3) (ti := 80) (by kernel_rfl) Tryd.underlying80 h3
  have h4 : laidMet Tryd.prog (("strconv.ErrRange", .iface "*errors.errorString" (.ptr (.agg [.lit (.string [118, 97, 108, 117, 101, 32, 111, 117, 116, 32, 111, 102, 32, 114, 97, 110, 103, 101])]))) :: [("strconv.ErrSyntax", Rows.laid_strconv_ErrSyntax), ("unicode/utf8.first", Rows.laid_unicode_utf8_first)]) W := laidMet.tail (laidMet.tail (laidMet.tail (laidMet.tail (h))))
  have t4 := G.iface_of_laid (by kernel_rfl : Tryd.prog.globalNamed "strconv.ErrRange" = some 4) (ti := 80) (by kernel_rfl) Tryd.underlying80 h4
  exact ⟨t1, t2, t3, t4⟩
set_option maxRecDepth 100000 in
set_option maxHeartbeats 1000000 in
theorem lifted (os : Os) (started : os.Started) (H : Type) (enc : TypeId × Value → H) :
    ReturnsInHanded {} Tryd.checked os 4 .any (fun w args => (Rows.fnExactParsePuzzleSpec.pre enc Tryd.prog Tryd.f4 Rows.fnExactParsePuzzleRow.domain false w args ∧ laidMetH Tryd.prog Rows.fnExactParsePuzzleRow.laid w) ∧ sizedMet enc Tryd.prog Tryd.f4 (OpenSpec.ofChange Rows.fnExactParsePuzzleSpec) false w args) (Rows.fnExactParsePuzzleSpec.post enc Tryd.prog Tryd.f4 false true false false) := by
  refine G.lifted_of (C := Tryd.checked) (X := fun w _ => laidMetH Tryd.prog Rows.fnExactParsePuzzleRow.laid w) (fun _ _ _ hh h => h.of_heap hh) own started (by kernel_rfl) Tryd.func4
    (ChangeSpec.witness_shaped (enc := enc) (C := Tryd.checked) (os := os) (X := fun w _ => laidMetH Tryd.prog Rows.fnExactParsePuzzleRow.laid w) false (World.laidAll Tryd.prog os Rows.fnExactParsePuzzleRow.laid) #[.string ByteArray.empty] 8 (World.laidAll_os _ _ _) (World.shaped_of_ZipB (by kernel_rfl) (by kernel_rfl)) (by kernel_rfl) (by kernel_rfl) (by kernel_rfl) (by rw [MakeChecks.laidMetH_plain _ _ _ (by kernel_rfl)]; exact laidMet_laidAll _ (by kernel_rfl) (by kernel_rfl))) ?_
  intro W base args ds gs before hval0 hW hcnd hsz0 hL hSh _
  have hT := tb_of_laid hL hSh
  clear hL hSh
  have hsz : (DataW.weightsEach Tryd.prog (Tryd.f4.params.toList ++ Rows.fnExactParsePuzzleSpec.plain.varTypes Tryd.prog) (ds ++ gs)).all (· ≤ reachBytes) = true := hsz0
  have hval : ∀ (j : Nat) t v, Tryd.f4.params[j]? = some t → args[j]? = some v → Value.okWide Tryd.prog W .any base t v := hval0
  have hW' := hW
  obtain ⟨p, q, hA0, hV, rfl, hfz, hnd⟩ := hW
  have hA : DataW.TrodAll enc Tryd.prog W 0 (fun _ => true) true Tryd.f4.params.toList args.toList ds p := hA0
  rw [Tryd.params4] at hA hval hsz
  obtain ⟨v0, vs0, d0, ds0, p0, q0, hargs, rfl, rfl, h0, r0⟩ := trodAll_cons hA
  obtain ⟨rfl, rfl, rfl⟩ := trodAll_nil r0
  obtain rfl : args = #[v0] := by cases args; simp_all
  obtain ⟨rfl, rfl⟩ := trodVars_none hV
  obtain ⟨a0, rfl, rfl, rfl, y0⟩ := open_string Tryd.underlying9 (hval 0 9 v0 rfl rfl) h0
  have w0 : a0.size ≤ 140737488351232 := by
    have z := sized_string hsz (j := 0) (t := 9) rfl rfl
    rw [Array.length_toList] at z
    exact z
  clear hA0 hval0 hsz0 hsz
  refine (G.laws_FnExactParsePuzzle.walk Pure.FnExactParsePuzzle a0 W  w0 hT).mono fun e W' ⟨he, bel⟩ => ?_
  subst he
  exact ⟨_, rfl, _, _, _, [], _, [], hW', trodAll_mk1 (shut_bool Tryd.underlying4 _), (trodAll_cons_mk (shut_string Tryd.underlying9 y0) trodAll_mk0), rfl, bel.frame _, fun h => by cases h⟩
theorem c0 : (Rows.fnExactParsePuzzleRow.wf (OpenSpec.ofChange Rows.fnExactParsePuzzleSpec) : Bool) = true := by kernel_rfl
theorem c1 : (laidOutB Tryd.prog : Bool) = true := Facts.laidOut
theorem c2 : (mapsRowed Tryd.prog : Bool) = true := Facts.mapsRowed
theorem c3 : (Tryd.f4.params.all (Tryd.prog.readableRec ·) : Bool) = true := by kernel_rfl
theorem c4 : (namedTie Tryd.prog Rows.fnExactParsePuzzleRow.named Rows.fnExactParsePuzzleSpec.vars : Bool) = true := by kernel_rfl
theorem c5 : ((Rows.fnExactParsePuzzleRow.stops == []) : Bool) = true := by kernel_rfl
theorem c6 : ((Tryd.prog.stops == []) : Bool) = true := by rw [Facts.stops]; rfl
theorem c7 : ((Rows.fnExactParsePuzzleRow.knobs == []) : Bool) = true := by kernel_rfl
theorem c8 : ((Tryd.prog.stopKnobs == []) : Bool) = true := by rw [Facts.stopKnobs]; rfl
theorem c9 : ((Rows.fnExactParsePuzzleRow.inPlace == Tryd.prog.inPlace 4) : Bool) = true := by kernel_rfl
theorem c10 : ((Rows.fnExactParsePuzzleRow.unfollowed == Tryd.prog.unfollowed 4) : Bool) = true := by kernel_rfl
theorem c11 : ((Rows.fnExactParsePuzzleRow.recurses == Tryd.prog.recurses 4) : Bool) = true := by kernel_rfl
theorem c12 : ((Rows.fnExactParsePuzzleRow.named == Tryd.prog.varsNamed 4) : Bool) = true := by kernel_rfl
theorem c13 : ((Rows.fnExactParsePuzzleRow.maps == (Tryd.f4.params.toList ++ Rows.fnExactParsePuzzleSpec.plain.varTypes Tryd.prog).any (Tryd.prog.mapsRec ·)) : Bool) = true := by kernel_rfl
theorem c14 : ((Rows.fnExactParsePuzzleRow.ifaces == (Tryd.f4.params.toList ++ Rows.fnExactParsePuzzleSpec.plain.varTypes Tryd.prog).any (Tryd.prog.ifacesRec ·)) : Bool) = true := by kernel_rfl
theorem c15 : ((Rows.fnExactParsePuzzleRow.mapsOut == Tryd.prog.mapsAmong Tryd.f4.resultTypes.toList) : Bool) = true := by kernel_rfl
theorem c16 : ((Rows.fnExactParsePuzzleRow.loops == (Tryd.f4.params.toList ++ Rows.fnExactParsePuzzleSpec.plain.varTypes Tryd.prog).any (Tryd.prog.loopsFrom ·)) : Bool) = true := by kernel_rfl
theorem c17 : ((Rows.fnExactParsePuzzleRow.wideKeys == (Tryd.f4.params.toList ++ Rows.fnExactParsePuzzleSpec.plain.varTypes Tryd.prog ++ Tryd.f4.resultTypes.toList).any (Tryd.prog.wideKeysFrom ·)) : Bool) = true := by kernel_rfl
theorem c18 : (Rows.fnExactParsePuzzleSpec.vars.all (Tryd.prog.varReadable ·) : Bool) = true := by kernel_rfl
theorem c19 : (Tryd.f4.resultTypes.all (fun t => Tryd.prog.readableRec t && decide (t < Tryd.prog.types.size)) : Bool) = true := by kernel_rfl
theorem c20 : ((Rows.fnExactParsePuzzleRow.ifacesOut == Tryd.f4.resultTypes.toList.any (Tryd.prog.ifacesRec ·)) : Bool) = true := by kernel_rfl
theorem c21 : ((Rows.fnExactParsePuzzleRow.loopsOut == Tryd.f4.resultTypes.toList.any (Tryd.prog.loopsFrom ·)) : Bool) = true := by kernel_rfl
theorem c22 : ((Rows.fnExactParsePuzzleRow.plainKeys == Tryd.prog.plainKeys) : Bool) = true := by rw [Facts.plainKeys]; rfl
theorem c23 : (Rows.fnExactParsePuzzleRow.shortTexts.isNone : Bool) = true := by kernel_rfl
theorem c24 : (Tryd.prog.stopsHeard : Bool) = true := Facts.stopsHeard
theorem c25 : (Tryd.prog.mayEnter : Bool) = true := Facts.mayEnter
theorem c26 : ((Rows.fnExactParsePuzzleRow.lifted == Tryd.prog.liftsFinal) : Bool) = true := by rw [Facts.lifts]; rfl
theorem c27 : ((Tryd.prog.make == some Rows.fnExactParsePuzzleRow.make) : Bool) = true := by rw [Facts.make]; kernel_rfl
theorem c28 : ((Rows.fnExactParsePuzzleRow.kinds == (if Rows.fnExactParsePuzzleRow.domain.isEmpty then [] else Tryd.f4.params.toList.map fun t => match Tryd.prog.underlying t with | some (.int k) => some k | _ => none)) : Bool) = true := by kernel_rfl
theorem c29 : ((Rows.fnExactParsePuzzleRow.pinned == Rows.fnExactParsePuzzleRow.pinnedBy) : Bool) = true := by kernel_rfl
theorem c30 : ((Rows.fnExactParsePuzzleRow.veiled == (Tryd.f4.params.toList ++ Rows.fnExactParsePuzzleSpec.plain.varTypes Tryd.prog ++ Tryd.f4.resultTypes.toList).any (Tryd.prog.veiledRec ·)) : Bool) = true := by kernel_rfl
theorem c31 : (Rows.fnExactParsePuzzleRow.veiledFits Tryd.prog Tryd.f4.params.toList (Tryd.f4.params.toList ++ Rows.fnExactParsePuzzleSpec.plain.varTypes Tryd.prog ++ Tryd.f4.resultTypes.toList) : Bool) = true := by kernel_rfl
theorem and_ {a b : Bool} (h : a = true) (h' : b = true) : (a && b) = true := by rw [h, h']; rfl
set_option maxRecDepth 100000 in
theorem closed : joinedFacts Tryd.prog 4 Tryd.f4 Rows.fnExactParsePuzzleSpec Rows.fnExactParsePuzzleRow = true := by
  unfold joinedFacts
  exact (and_ (and_ (and_ (and_ (and_ (and_ (and_ (and_ (and_ (and_ (and_ (and_ (and_ (and_ (and_ (and_ (and_ (and_ (and_ (and_ (and_ (and_ (and_ (and_ (and_ (and_ (and_ (and_ (and_ (and_ (and_ c0 c1) c2) c3) c4) c5) c6) c7) c8) c9) c10) c11) c12) c13) c14) c15) c16) c17) c18) c19) c20) c21) c22) c23) c24) c25) c26) c27) c28) c29) c30) c31)
theorem named : Tryd.pinned.checked.prog.funcNamed Rows.fnExactParsePuzzleRow.func = some 4 := by kernel_rfl
theorem over : Rows.fnExactParsePuzzleRow.holds Tryd.pinned (OpenSpec.ofChange Rows.fnExactParsePuzzleSpec) :=
  OpenClaim.holds_of_wide 4 Tryd.f4 rfl rfl rfl rfl rfl rfl rfl ⟨rfl, rfl, rfl, rfl, rfl⟩ rfl rfl rfl rfl rfl named Tryd.func4 closed
    (of_decide_eq_true (by kernel_rfl)) (by unfold Func.isWrapper; first | (rw [if_pos (by decide +kernel)]; kernel_rfl) | (rw [if_neg (by decide +kernel)]; exact ⟨rfl, rfl⟩))
    (fun os started H enc _ => lifted os started H enc)
theorem proved : Rows.FnExactParsePuzzleSaid := over
#print axioms proved
end Go.Proofs.YtlbodfogdhjnlaaDoor.fnExactParsePuzzle
namespace Go.Proofs.YtlbodfogdhjnlaaDoor
theorem fnExactParsePuzzle.plain : (Tryd.f4.params.toList.all fun t => !(Tryd.prog.wantsStandIn t)) = true := by kernel_rfl
theorem fnExactParsePuzzle_holds : Rows.FnExactParsePuzzleCardSaid :=
  Claim7.holds_tied_plain_at .later [] [.data, .data, .data, .data, .sentinel, .sentinel, .pinned] true (true, "392531e14f8d0d0c8c077637b2e88c39126d0c5ba7752e50970b6ffd7b6c8fd2") true
    fnExactParsePuzzle.proved (fun _ h => by cases h) (by kernel_rfl) (fun _ h => by cases h) fnExactParsePuzzle_row_tie rfl ⟨rfl, rfl⟩ (by kernel_rfl) rfl
    (fun f fn hf hfn => by
      obtain rfl : f = 4 := Option.some.inj (fnExactParsePuzzle.named.symm.trans hf) |>.symm
      obtain rfl : fn = Tryd.f4 := (Option.some.inj (Tryd.func4.symm.trans hfn)).symm
      exact ⟨by kernel_rfl, fun j t ht => by
        have hm : t ∈ Tryd.f4.params.toList := by rw [Array.mem_toList_iff]; exact Array.mem_of_getElem? ht
        have := List.all_eq_true.1 fnExactParsePuzzle.plain t hm
        exact (show Tryd.prog.wantsStandIn t = false by simpa using this)⟩)
    (by kernel_rfl)
#print axioms fnExactParsePuzzle_holds
end Go.Proofs.YtlbodfogdhjnlaaDoor

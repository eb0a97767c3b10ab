/- The statement FnHousesGuessedSaid of this seat's rows, proved for all its inputs under no condition. -/
import Derived.Below
import Derived.ChangeOld
import Derived.ChangeVars
import Derived.JoinedOf
import Derived.LaidHandle
import Derived.LaidLaws
import Derived.LaidMore
import Derived.Lay
import Derived.Lib.LaidTab
import Derived.MakeChecks
import Derived.OpenShut
import Derived.ProofKit
import Derived.SevenTiedAt
import Derived.Shelf.Vars
import Derived.ShutString
import Derived.SizedLaws
import Derived.Stop.Joined
import Derived.Stop.LaidErr
import Derived.WalkKit
import Derived.Test.YtijcdpnnjiamjaaGreatDoorRows
import Derived.Test.YtijcdpnnjiamjaaGreatDoorQ5b3eb9e3
import Derived.Test.YtijcdpnnjiamjaaGreatDoorTie
import Derived.Test.YtijcdpnnjiamjaaGreatDoorCards
import Derived.Test.YtijcdpnnjiamjaaGreatDoorQ15781164
namespace Go.Proofs.YtijcdpnnjiamjaaGreatDoor.fnHousesGuessed
open Go.ChangeShapes Go.WideShapes Go.ChangeAt Go.RowKit
open Go.ChangeMaps (open_string shut_string)
set_option linter.unusedVariables false
theorem own : ownKnob Tryz.prog.godebug = none := by kernel_rfl
theorem laidOut : laidOutB Tryz.prog = true := by kernel_rfl
theorem tb_of_laid {W : World} (h : laidMetH Tryz.prog Rows.fnHousesGuessedRow.laid W) (hsh : W.ShapedOpen Tryz.prog) : G.Tb W := by
 have h : laidMetH Tryz.prog [("math/bits.deBruijn32tab", Rows.laid_math_bits_deBruijn32tab), ("math/bits.deBruijn64tab", Rows.laid_math_bits_deBruijn64tab), ("internal/strconv.uint64pow10", Rows.laid_internal_strconv_uint64pow10), ("unicode/utf8.acceptRanges", Rows.laid_unicode_utf8_acceptRanges), ("strconv.ErrRange", Rows.laid_strconv_ErrRange), ("strconv.ErrSyntax", Rows.laid_strconv_ErrSyntax), ("unicode/utf8.first", Rows.laid_unicode_utf8_first)] W := h
 rw [MakeChecks.laidMetH_plain _ _ _ (by kernel_rfl)] at h
 have h2 : laidMet Tryz.prog (("internal/strconv.uint64pow10", Lib.tabData .u64 Lib.pow10Tab) :: [("unicode/utf8.acceptRanges", Rows.laid_unicode_utf8_acceptRanges), ("strconv.ErrRange", Rows.laid_strconv_ErrRange), ("strconv.ErrSyntax", Rows.laid_strconv_ErrSyntax), ("unicode/utf8.first", Rows.laid_unicode_utf8_first)]) W := laidMet.tail (laidMet.tail (h))
 have t1 := Lib.tabIs_of_head (by kernel_rfl : Tryz.prog.globalNamed "internal/strconv.uint64pow10" = some 5) (t := 152) (by kernel_rfl) (n := 20) (e := 73) Tryz.underlying152 Tryz.underlying73 (by kernel_rfl) (by kernel_rfl) h2
 have t2 := cell_of_shapedOpen_int (zero := #[.int .i64 0]) (t := 3) (g := 0) hsh (of_decide_eq_true (by kernel_rfl)) (by kernel_rfl) rfl (by kernel_rfl) (by kernel_rfl) Tryz.underlying3
 have h3 : laidMet Tryz.prog (("strconv.ErrSyntax", .iface "*errors.errorString" (.ptr (.agg [.lit (.string [105, 110, 118, 97, 108, 105, 100, 32, 115, 121, 110, 116, 97, 120])]))) :: [("unicode/utf8.first", Rows.laid_unicode_utf8_first)]) W := laidMet.tail (laidMet.tail (laidMet.tail (laidMet.tail (laidMet.tail (h)))))
 have t3 := G.iface_of_laid (by kernel_rfl : Tryz.prog.globalNamed "strconv.ErrSyntax" = some 1) (ti := 106) (by kernel_rfl) Tryz.underlying106 h3
 have h4 : laidMet Tryz.prog (("strconv.ErrRange", .iface "*errors.errorString" (.ptr (.agg [.lit (.string [118, 97, 108, 117, 101, 32, 111, 117, 116, 32, 111, 102, 32, 114, 97, 110, 103, 101])]))) :: [("strconv.ErrSyntax", Rows.laid_strconv_ErrSyntax), ("unicode/utf8.first", Rows.laid_unicode_utf8_first)]) W := laidMet.tail (laidMet.tail (laidMet.tail (laidMet.tail (h))))
 have t4 := G.iface_of_laid (by kernel_rfl : Tryz.prog.globalNamed "strconv.ErrRange" = some 2) (ti := 106) (by kernel_rfl) Tryz.underlying106 h4
 exact ⟨t1, t2, t3, t4⟩
set_option maxRecDepth 100000 in
set_option maxHeartbeats 1000000 in
theorem lifted (os : Os) (started : os.Started) (H : Type) (enc : TypeId × Value → H) :
  ReturnsInHanded {} Tryz.checked os 3 .any (fun w args => (Rows.fnHousesGuessedSpec.pre enc Tryz.prog Tryz.f3 Rows.fnHousesGuessedRow.domain false w args ∧ laidMetH Tryz.prog Rows.fnHousesGuessedRow.laid w) ∧ sizedMet enc Tryz.prog Tryz.f3 (OpenSpec.ofChange Rows.fnHousesGuessedSpec) false w args) (Rows.fnHousesGuessedSpec.post enc Tryz.prog Tryz.f3 false true false false) := by
 refine G.lifted_of (C := Tryz.checked) (X := fun w _ => laidMetH Tryz.prog Rows.fnHousesGuessedRow.laid w) (fun _ _ _ hh h => h.of_heap hh) own started (by kernel_rfl) Tryz.func3
  (ChangeSpec.witness_shaped (enc := enc) (C := Tryz.checked) (os := os) (X := fun w _ => laidMetH Tryz.prog Rows.fnHousesGuessedRow.laid w) false (World.laidAll Tryz.prog os Rows.fnHousesGuessedRow.laid) #[.slice none 0 0, .slice none 0 0] 8 (World.laidAll_os _ _ _) (World.shaped_of_ZipB (by kernel_rfl) (by kernel_rfl)) (by kernel_rfl) (by kernel_rfl) (by kernel_rfl) (by rw [MakeChecks.laidMetH_plain _ _ _ (by kernel_rfl)]; exact laidMet_laidAll _ (by kernel_rfl) (by kernel_rfl))) ?_
 intro W base args ds gs before hval0 hW hcnd hsz0 hL hSh _
 have hT := tb_of_laid hL hSh
 clear hL hSh
 have hsz : (DataW.weightsEach Tryz.prog (Tryz.f3.params.toList ++ Rows.fnHousesGuessedSpec.plain.varTypes Tryz.prog) (ds ++ gs)).all (· ≤ reachBytes) = true := hsz0
 have hval : ∀ (j : Nat) t v, Tryz.f3.params[j]? = some t → args[j]? = some v → Value.okWide Tryz.prog W .any base t v := hval0
 have hW' := hW
 obtain ⟨p, q, hA0, hV, rfl, hfz, hnd⟩ := hW
 have hA : DataW.TrodAll enc Tryz.prog W 0 (fun _ => true) true Tryz.f3.params.toList args.toList ds p := hA0
 rw [Tryz.params3] at hA hval hsz
 obtain ⟨v0, vs0, d0, ds0, p0, q0, hargs, rfl, rfl, h0, r0⟩ := trodAll_cons hA
 obtain ⟨v1, vs1, d1, ds1, p1, q1, rfl, rfl, rfl, h1, r1⟩ := trodAll_cons r0
 obtain ⟨rfl, rfl, rfl⟩ := trodAll_nil r1
 obtain rfl : args = #[v0, v1] := by cases args; simp_all
 obtain ⟨rfl, rfl⟩ := trodVars_none hV
 obtain ⟨a0, len0, cap0, rfl⟩ := okWide_slice Tryz.underlying22 (hval 0 22 v0 rfl rfl)
 have k0 := h0
 have lt0 : ∀ x ∈ p0, x.block < W.heap.size := by obtain ⟨m, hm⟩ := k0; exact DataW.trod_lt m _ _ _ hm
 obtain ⟨fuel0, hf0⟩ := h0
 obtain ⟨x0, hK0, hX0⟩ := (Open.opens_slice Tryz.underlying22 (by kernel_rfl) (Open.opens_int Tryz.underlying5)) _ _ _ _ _ _ _ _ hf0
 obtain ⟨B0, c0, he0, hc0, hr0⟩ := hK0
 obtain ⟨rfl, rfl, rfl⟩ := Open.slice_eq he0
 obtain ⟨a1, len1, cap1, rfl⟩ := okWide_slice Tryz.underlying22 (hval 1 22 v1 rfl rfl)
 have k1 := h1
 have lt1 : ∀ x ∈ p1, x.block < W.heap.size := by obtain ⟨m, hm⟩ := k1; exact DataW.trod_lt m _ _ _ hm
 obtain ⟨fuel1, hf1⟩ := h1
 obtain ⟨x1, hK1, hX1⟩ := (Open.opens_slice Tryz.underlying22 (by kernel_rfl) (Open.opens_int Tryz.underlying5)) _ _ _ _ _ _ _ _ hf1
 obtain ⟨B1, c1, he1, hc1, hr1⟩ := hK1
 obtain ⟨rfl, rfl, rfl⟩ := Open.slice_eq he1
 clear hA0 hval0 hsz0 hsz
 refine (G.laws_FnHousesGuessed.walk Pure.FnHousesGuessed B0 c0 x0 B1 c1 x1 W hr0 hc0 hr1 hc1 hX0.1 hX0.2 hX1.1 hX1.2 hT).mono fun e W' ⟨he, bel⟩ => ?_
 subst he
 exact ⟨_, rfl, _, _, _, [], _, [], hW', trodAll_mk1 (shut_bool Tryz.underlying4 _), (trodAll_cons_mk (Below.trod laidOut (by kernel_rfl) (of_decide_eq_true (by kernel_rfl)) k0 bel lt0) (trodAll_cons_mk (Below.trod laidOut (by kernel_rfl) (of_decide_eq_true (by kernel_rfl)) k1 bel lt1) trodAll_mk0)), rfl, bel.frame _, fun h => by cases h⟩
theorem c0 : (Rows.fnHousesGuessedRow.wf (OpenSpec.ofChange Rows.fnHousesGuessedSpec) : Bool) = true := by kernel_rfl
theorem c1 : (laidOutB Tryz.prog : Bool) = true := Facts.laidOut
theorem c2 : (mapsRowed Tryz.prog : Bool) = true := Facts.mapsRowed
theorem c3 : (Tryz.f3.params.all (Tryz.prog.readableRec ·) : Bool) = true := by kernel_rfl
theorem c4 : (namedTie Tryz.prog Rows.fnHousesGuessedRow.named Rows.fnHousesGuessedSpec.vars : Bool) = true := by kernel_rfl
theorem c5 : ((Rows.fnHousesGuessedRow.stops == []) : Bool) = true := by kernel_rfl
theorem c6 : ((Tryz.prog.stops == []) : Bool) = true := by rw [Facts.stops]; rfl
theorem c7 : ((Rows.fnHousesGuessedRow.knobs == []) : Bool) = true := by kernel_rfl
theorem c8 : ((Tryz.prog.stopKnobs == []) : Bool) = true := by rw [Facts.stopKnobs]; rfl
theorem c9 : ((Rows.fnHousesGuessedRow.inPlace == Tryz.prog.inPlace 3) : Bool) = true := by kernel_rfl
theorem c10 : ((Rows.fnHousesGuessedRow.unfollowed == Tryz.prog.unfollowed 3) : Bool) = true := by kernel_rfl
theorem c11 : ((Rows.fnHousesGuessedRow.recurses == Tryz.prog.recurses 3) : Bool) = true := by kernel_rfl
theorem c12 : ((Rows.fnHousesGuessedRow.named == Tryz.prog.varsNamed 3) : Bool) = true := by kernel_rfl
theorem c13 : ((Rows.fnHousesGuessedRow.maps == (Tryz.f3.params.toList ++ Rows.fnHousesGuessedSpec.plain.varTypes Tryz.prog).any (Tryz.prog.mapsRec ·)) : Bool) = true := by kernel_rfl
theorem c14 : ((Rows.fnHousesGuessedRow.ifaces == (Tryz.f3.params.toList ++ Rows.fnHousesGuessedSpec.plain.varTypes Tryz.prog).any (Tryz.prog.ifacesRec ·)) : Bool) = true := by kernel_rfl
theorem c15 : ((Rows.fnHousesGuessedRow.mapsOut == Tryz.prog.mapsAmong Tryz.f3.resultTypes.toList) : Bool) = true := by kernel_rfl
theorem c16 : ((Rows.fnHousesGuessedRow.loops == (Tryz.f3.params.toList ++ Rows.fnHousesGuessedSpec.plain.varTypes Tryz.prog).any (Tryz.prog.loopsFrom ·)) : Bool) = true := by kernel_rfl
theorem c17 : ((Rows.fnHousesGuessedRow.wideKeys == (Tryz.f3.params.toList ++ Rows.fnHousesGuessedSpec.plain.varTypes Tryz.prog ++ Tryz.f3.resultTypes.toList).any (Tryz.prog.wideKeysFrom ·)) : Bool) = true := by kernel_rfl
theorem c18 : (Rows.fnHousesGuessedSpec.vars.all (Tryz.prog.varReadable ·) : Bool) = true := by kernel_rfl
theorem c19 : (Tryz.f3.resultTypes.all (fun t => Tryz.prog.readableRec t && decide (t < Tryz.prog.types.size)) : Bool) = true := by kernel_rfl
theorem c20 : ((Rows.fnHousesGuessedRow.ifacesOut == Tryz.f3.resultTypes.toList.any (Tryz.prog.ifacesRec ·)) : Bool) = true := by kernel_rfl
theorem c21 : ((Rows.fnHousesGuessedRow.loopsOut == Tryz.f3.resultTypes.toList.any (Tryz.prog.loopsFrom ·)) : Bool) = true := by kernel_rfl
theorem c22 : ((Rows.fnHousesGuessedRow.plainKeys == Tryz.prog.plainKeys) : Bool) = true := by rw [Facts.plainKeys]; rfl
theorem c23 : (Rows.fnHousesGuessedRow.shortTexts.isNone : Bool) = true := by kernel_rfl
theorem c24 : (Tryz.prog.stopsHeard : Bool) = true := Facts.stopsHeard
theorem c25 : (Tryz.prog.mayEnter : Bool) = true := Facts.mayEnter
theorem c26 : ((Rows.fnHousesGuessedRow.lifted == Tryz.prog.liftsFinal) : Bool) = true := by rw [Facts.lifts]; rfl
theorem c27 : ((Tryz.prog.make == some Rows.fnHousesGuessedRow.make) : Bool) = true := by rw [Facts.make]; kernel_rfl
theorem c28 : ((Rows.fnHousesGuessedRow.kinds == (if Rows.fnHousesGuessedRow.domain.isEmpty then [] else Tryz.f3.params.toList.map fun t => match Tryz.prog.underlying t with | some (.int k) => some k | _ => none)) : Bool) = true := by kernel_rfl
theorem c29 : ((Rows.fnHousesGuessedRow.pinned == Rows.fnHousesGuessedRow.pinnedBy) : Bool) = true := by kernel_rfl
theorem c30 : ((Rows.fnHousesGuessedRow.veiled == (Tryz.f3.params.toList ++ Rows.fnHousesGuessedSpec.plain.varTypes Tryz.prog ++ Tryz.f3.resultTypes.toList).any (Tryz.prog.veiledRec ·)) : Bool) = true := by kernel_rfl
theorem c31 : (Rows.fnHousesGuessedRow.veiledFits Tryz.prog Tryz.f3.params.toList (Tryz.f3.params.toList ++ Rows.fnHousesGuessedSpec.plain.varTypes Tryz.prog ++ Tryz.f3.resultTypes.toList) : Bool) = true := by kernel_rfl
theorem and_ {a b : Bool} (h : a = true) (h' : b = true) : (a && b) = true := by rw [h, h']; rfl
set_option maxRecDepth 100000 in
theorem closed : joinedFacts Tryz.prog 3 Tryz.f3 Rows.fnHousesGuessedSpec Rows.fnHousesGuessedRow = true := by
 unfold joinedFacts
 exact (and_ (and_ (and_ (and_ (and_ (and_ (and_ (and_ (and_ (and_ (and_ (and_ (and_ (and_ (and_ (and_ (and_ (and_ (and_ (and_ (and_ (and_ (and_ (and_ (and_ (and_ (and_ (and_ (and_ (and_ (and_ c0 c1) c2) c3) c4) c5) c6) c7) c8) c9) c10) c11) c12) c13) c14) c15) c16) c17) c18) c19) c20) c21) c22) c23) c24) c25) c26) c27) c28) c29) c30) c31)
theorem named : Tryz.pinned.checked.prog.funcNamed Rows.fnHousesGuessedRow.func = some 3 := by kernel_rfl
theorem over : Rows.fnHousesGuessedRow.holds Tryz.pinned (OpenSpec.ofChange Rows.fnHousesGuessedSpec) :=
 OpenClaim.holds_of_wide 3 Tryz.f3 rfl rfl rfl rfl rfl rfl rfl ⟨rfl, rfl, rfl, rfl, rfl⟩ rfl rfl rfl rfl rfl named Tryz.func3 closed
  (of_decide_eq_true (by kernel_rfl)) (by unfold Func.isWrapper; first | (rw [if_pos (by decide +kernel)]; kernel_rfl) | (rw [if_neg (by decide +kernel)]; exact ⟨rfl, rfl⟩))
  (fun os started H enc _ => lifted os started H enc)
theorem proved : Rows.FnHousesGuessedSaid := over
#print axioms proved
end Go.Proofs.YtijcdpnnjiamjaaGreatDoor.fnHousesGuessed
namespace Go.Proofs.YtijcdpnnjiamjaaGreatDoor
theorem fnHousesGuessed.plain : (Tryz.f3.params.toList.all fun t => !(Tryz.prog.wantsStandIn t)) = true := by kernel_rfl
theorem fnHousesGuessed_holds : Rows.FnHousesGuessedCardSaid :=
 Claim7.holds_tied_plain_at .later [] [.data, .data, .data, .data, .sentinel, .sentinel, .pinned] true (true, "5705f4d5a10af6628e1d3593bd44460a1b25a0ea583071f670fd967c9a86b2d3") true
  fnHousesGuessed.proved (fun _ h => by cases h) (by kernel_rfl) (fun _ h => by cases h) fnHousesGuessed_row_tie rfl ⟨rfl, rfl⟩ (by kernel_rfl) rfl
  (fun f fn hf hfn => by
   obtain rfl : f = 3 := Option.some.inj (fnHousesGuessed.named.symm.trans hf) |>.symm
   obtain rfl : fn = Tryz.f3 := (Option.some.inj (Tryz.func3.symm.trans hfn)).symm
   exact ⟨by kernel_rfl, fun j t ht => by
    have hm : t ∈ Tryz.f3.params.toList := by rw [Array.mem_toList_iff]; exact Array.mem_of_getElem? ht
    have := List.all_eq_true.1 fnHousesGuessed.plain t hm
    exact (show Tryz.prog.wantsStandIn t = false by simpa using this)⟩)
  (by kernel_rfl)
#print axioms fnHousesGuessed_holds
end Go.Proofs.YtijcdpnnjiamjaaGreatDoor

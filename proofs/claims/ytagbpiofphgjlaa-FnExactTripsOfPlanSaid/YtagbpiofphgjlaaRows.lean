/-
  No cell of these rows narrows 'for every input' (looked for: loops, veiled, ifaces, maps, wideKeys, modest, calm, conditions, laid).
  DERIVED. THE GIVEN ROWS OF THIS SEAT. 19 by the template 'for every input the law returns true; each argument reads behind the call as it read before'; 0 by the template 'total and deterministic' (their statements: YtagbpiofphgjlaaTotals.lean).
  GIVEN WITH THE SEED: the statements are not yours to turn. If you find one false, say at which input.
  Laid BY PROGRAM, IN A SANDBOX (cutbox-rows.mjs): the forced cells as the released guide's own fill.sh prints them over the translation e5927406ae9d9177… (all of the seat's roots in one cut). By AI agents, Wed Nov 11 2026. No macro, syntax, notation, axiom, sorry.
-/
import Derived.Test.YtagbpiofphgjlaaChecked
import GoSem.Claim
import GoSem.ClaimJoined
import GoSem.ClaimMapViews
import Derived.JoinedTies
import Derived.KernelRfl
namespace Go.Proofs.Ytagbpiofphgjlaa
/- THE CELL 'sum', in the pinned program and in every row, IS THE sha256 OF THE DUMP (.gsa) THAT YtagbpiofphgjlaaProg.lean LOADS. Nothing in Lean hashes anything: it is a label: what it is worth is what the hold of that sum in a sandbox is worth. -/
noncomputable def Try.pinned : Pinned := { name := "ytagbpiofphgjlaa", sum := "e5927406ae9d91777240886bff1a1ba8f75f69103a905ec6e6a66c79be93486c", checked := Try.checked }
namespace Rows
def none {H : Type} : Left H := { results := [], args := [] }

/-- 'laws.FnExactAreParcels': WHATEVER THE INPUT: true; the input reads as it did. -/
def fnExactAreParcelsSpec : ChangeSpec := { name := "fnExactAreParcels", fn := fun _ => fun
  | [d] => { results := [.lit (.bool true)], args := [d] }
  | _ => none }
def fnExactAreParcelsRow : OpenClaim := { program := "ytagbpiofphgjlaa", sum := "e5927406ae9d91777240886bff1a1ba8f75f69103a905ec6e6a66c79be93486c", func := "loop.example/g01336/laws.FnExactAreParcels", spec := "fnExactAreParcels", unfollowed := true, recurses := true, apart := false }
def FnExactAreParcelsSaid : Prop := fnExactAreParcelsRow.holds Try.pinned (OpenSpec.ofChange fnExactAreParcelsSpec)

/-- ITS FALSE NEIGHBOUR: 'it returns false'. Refute it at one input. -/
def fnExactAreParcelsWrong : ChangeSpec := { name := "fnExactAreParcels", fn := fun _ => fun
  | [d] => { results := [.lit (.bool false)], args := [d] }
  | _ => none }
def FnExactAreParcelsWrongFalsely : Prop := fnExactAreParcelsRow.holds Try.pinned (OpenSpec.ofChange fnExactAreParcelsWrong)

/-- 'laws.FnExactNamedPlan': WHATEVER THE INPUT: true; the input reads as it did. -/
def fnExactNamedPlanSpec : ChangeSpec := { name := "fnExactNamedPlan", fn := fun _ => fun
  | [d] => { results := [.lit (.bool true)], args := [d] }
  | _ => none }
def fnExactNamedPlanRow : OpenClaim := { program := "ytagbpiofphgjlaa", sum := "e5927406ae9d91777240886bff1a1ba8f75f69103a905ec6e6a66c79be93486c", func := "loop.example/g01336/laws.FnExactNamedPlan", spec := "fnExactNamedPlan", apart := false }
def FnExactNamedPlanSaid : Prop := fnExactNamedPlanRow.holds Try.pinned (OpenSpec.ofChange fnExactNamedPlanSpec)

/-- ITS FALSE NEIGHBOUR: 'it returns false'. Refute it at one input. -/
def fnExactNamedPlanWrong : ChangeSpec := { name := "fnExactNamedPlan", fn := fun _ => fun
  | [d] => { results := [.lit (.bool false)], args := [d] }
  | _ => none }
def FnExactNamedPlanWrongFalsely : Prop := fnExactNamedPlanRow.holds Try.pinned (OpenSpec.ofChange fnExactNamedPlanWrong)

/-- 'laws.FnExactLettersLength': WHATEVER THE INPUT: true; the input reads as it did. -/
def fnExactLettersLengthSpec : ChangeSpec := { name := "fnExactLettersLength", fn := fun _ => fun
  | [d1, d2] => { results := [.lit (.bool true)], args := [d1, d2] }
  | _ => none }
def fnExactLettersLengthRow : OpenClaim := { program := "ytagbpiofphgjlaa", sum := "e5927406ae9d91777240886bff1a1ba8f75f69103a905ec6e6a66c79be93486c", func := "loop.example/g01336/laws.FnExactLettersLength", spec := "fnExactLettersLength", apart := false }
def FnExactLettersLengthSaid : Prop := fnExactLettersLengthRow.holds Try.pinned (OpenSpec.ofChange fnExactLettersLengthSpec)

/-- ITS FALSE NEIGHBOUR: 'it returns false'. Refute it at one input. -/
def fnExactLettersLengthWrong : ChangeSpec := { name := "fnExactLettersLength", fn := fun _ => fun
  | [d1, d2] => { results := [.lit (.bool false)], args := [d1, d2] }
  | _ => none }
def FnExactLettersLengthWrongFalsely : Prop := fnExactLettersLengthRow.holds Try.pinned (OpenSpec.ofChange fnExactLettersLengthWrong)

/-- 'laws.FnExactLettersTrips': WHATEVER THE INPUT: true; the input reads as it did. -/
def fnExactLettersTripsSpec : ChangeSpec := { name := "fnExactLettersTrips", fn := fun _ => fun
  | [d1, d2] => { results := [.lit (.bool true)], args := [d1, d2] }
  | _ => none }
def fnExactLettersTripsRow : OpenClaim := { program := "ytagbpiofphgjlaa", sum := "e5927406ae9d91777240886bff1a1ba8f75f69103a905ec6e6a66c79be93486c", func := "loop.example/g01336/laws.FnExactLettersTrips", spec := "fnExactLettersTrips", apart := false }
def FnExactLettersTripsSaid : Prop := fnExactLettersTripsRow.holds Try.pinned (OpenSpec.ofChange fnExactLettersTripsSpec)

/-- ITS FALSE NEIGHBOUR: 'it returns false'. Refute it at one input. -/
def fnExactLettersTripsWrong : ChangeSpec := { name := "fnExactLettersTrips", fn := fun _ => fun
  | [d1, d2] => { results := [.lit (.bool false)], args := [d1, d2] }
  | _ => none }
def FnExactLettersTripsWrongFalsely : Prop := fnExactLettersTripsRow.holds Try.pinned (OpenSpec.ofChange fnExactLettersTripsWrong)

/-- 'laws.FnExactTripsBound': WHATEVER THE INPUT: true; the input reads as it did. -/
def fnExactTripsBoundSpec : ChangeSpec := { name := "fnExactTripsBound", fn := fun _ => fun
  | [d1, d2] => { results := [.lit (.bool true)], args := [d1, d2] }
  | _ => none }
def fnExactTripsBoundRow : OpenClaim := { program := "ytagbpiofphgjlaa", sum := "e5927406ae9d91777240886bff1a1ba8f75f69103a905ec6e6a66c79be93486c", func := "loop.example/g01336/laws.FnExactTripsBound", spec := "fnExactTripsBound", unfollowed := true, recurses := true, apart := false }
def FnExactTripsBoundSaid : Prop := fnExactTripsBoundRow.holds Try.pinned (OpenSpec.ofChange fnExactTripsBoundSpec)

/-- ITS FALSE NEIGHBOUR: 'it returns false'. Refute it at one input. -/
def fnExactTripsBoundWrong : ChangeSpec := { name := "fnExactTripsBound", fn := fun _ => fun
  | [d1, d2] => { results := [.lit (.bool false)], args := [d1, d2] }
  | _ => none }
def FnExactTripsBoundWrongFalsely : Prop := fnExactTripsBoundRow.holds Try.pinned (OpenSpec.ofChange fnExactTripsBoundWrong)

/-- 'laws.FnExactFewestTrips': WHATEVER THE INPUT: true; the input reads as it did. -/
def fnExactFewestTripsSpec : ChangeSpec := { name := "fnExactFewestTrips", fn := fun _ => fun
  | [d1, d2] => { results := [.lit (.bool true)], args := [d1, d2] }
  | _ => none }
def fnExactFewestTripsRow : OpenClaim := { program := "ytagbpiofphgjlaa", sum := "e5927406ae9d91777240886bff1a1ba8f75f69103a905ec6e6a66c79be93486c", func := "loop.example/g01336/laws.FnExactFewestTrips", spec := "fnExactFewestTrips", unfollowed := true, recurses := true, apart := false }
def FnExactFewestTripsSaid : Prop := fnExactFewestTripsRow.holds Try.pinned (OpenSpec.ofChange fnExactFewestTripsSpec)

/-- ITS FALSE NEIGHBOUR: 'it returns false'. Refute it at one input. -/
def fnExactFewestTripsWrong : ChangeSpec := { name := "fnExactFewestTrips", fn := fun _ => fun
  | [d1, d2] => { results := [.lit (.bool false)], args := [d1, d2] }
  | _ => none }
def FnExactFewestTripsWrongFalsely : Prop := fnExactFewestTripsRow.holds Try.pinned (OpenSpec.ofChange fnExactFewestTripsWrong)

/-- 'laws.FnExactPackInOrder': WHATEVER THE INPUT: true; the input reads as it did. -/
def fnExactPackInOrderSpec : ChangeSpec := { name := "fnExactPackInOrder", fn := fun _ => fun
  | [d1, d2] => { results := [.lit (.bool true)], args := [d1, d2] }
  | _ => none }
def fnExactPackInOrderRow : OpenClaim := { program := "ytagbpiofphgjlaa", sum := "e5927406ae9d91777240886bff1a1ba8f75f69103a905ec6e6a66c79be93486c", func := "loop.example/g01336/laws.FnExactPackInOrder", spec := "fnExactPackInOrder", unfollowed := true, recurses := true, apart := false }
def FnExactPackInOrderSaid : Prop := fnExactPackInOrderRow.holds Try.pinned (OpenSpec.ofChange fnExactPackInOrderSpec)

/-- ITS FALSE NEIGHBOUR: 'it returns false'. Refute it at one input. -/
def fnExactPackInOrderWrong : ChangeSpec := { name := "fnExactPackInOrder", fn := fun _ => fun
  | [d1, d2] => { results := [.lit (.bool false)], args := [d1, d2] }
  | _ => none }
def FnExactPackInOrderWrongFalsely : Prop := fnExactPackInOrderRow.holds Try.pinned (OpenSpec.ofChange fnExactPackInOrderWrong)

/-- 'laws.FnExactLightestBag': WHATEVER THE INPUT: true; the input reads as it did. -/
def fnExactLightestBagSpec : ChangeSpec := { name := "fnExactLightestBag", fn := fun _ => fun
  | [d1, d2] => { results := [.lit (.bool true)], args := [d1, d2] }
  | _ => none }
def fnExactLightestBagRow : OpenClaim := { program := "ytagbpiofphgjlaa", sum := "e5927406ae9d91777240886bff1a1ba8f75f69103a905ec6e6a66c79be93486c", func := "loop.example/g01336/laws.FnExactLightestBag", spec := "fnExactLightestBag", unfollowed := true, recurses := true, apart := false }
def FnExactLightestBagSaid : Prop := fnExactLightestBagRow.holds Try.pinned (OpenSpec.ofChange fnExactLightestBagSpec)

/-- ITS FALSE NEIGHBOUR: 'it returns false'. Refute it at one input. -/
def fnExactLightestBagWrong : ChangeSpec := { name := "fnExactLightestBag", fn := fun _ => fun
  | [d1, d2] => { results := [.lit (.bool false)], args := [d1, d2] }
  | _ => none }
def FnExactLightestBagWrongFalsely : Prop := fnExactLightestBagRow.holds Try.pinned (OpenSpec.ofChange fnExactLightestBagWrong)

/-- 'laws.FnExactIsBagPlan': WHATEVER THE INPUT: true; the input reads as it did. -/
def fnExactIsBagPlanSpec : ChangeSpec := { name := "fnExactIsBagPlan", fn := fun _ => fun
  | [d1, d2, d3] => { results := [.lit (.bool true)], args := [d1, d2, d3] }
  | _ => none }
def fnExactIsBagPlanRow : OpenClaim := { program := "ytagbpiofphgjlaa", sum := "e5927406ae9d91777240886bff1a1ba8f75f69103a905ec6e6a66c79be93486c", func := "loop.example/g01336/laws.FnExactIsBagPlan", spec := "fnExactIsBagPlan", unfollowed := true, recurses := true, apart := false }
def FnExactIsBagPlanSaid : Prop := fnExactIsBagPlanRow.holds Try.pinned (OpenSpec.ofChange fnExactIsBagPlanSpec)

/-- ITS FALSE NEIGHBOUR: 'it returns false'. Refute it at one input. -/
def fnExactIsBagPlanWrong : ChangeSpec := { name := "fnExactIsBagPlan", fn := fun _ => fun
  | [d1, d2, d3] => { results := [.lit (.bool false)], args := [d1, d2, d3] }
  | _ => none }
def FnExactIsBagPlanWrongFalsely : Prop := fnExactIsBagPlanRow.holds Try.pinned (OpenSpec.ofChange fnExactIsBagPlanWrong)

/-- 'laws.FnExactFirstFewestPlan': WHATEVER THE INPUT: true; the input reads as it did. -/
def fnExactFirstFewestPlanSpec : ChangeSpec := { name := "fnExactFirstFewestPlan", fn := fun _ => fun
  | [d1, d2] => { results := [.lit (.bool true)], args := [d1, d2] }
  | _ => none }
def fnExactFirstFewestPlanRow : OpenClaim := { program := "ytagbpiofphgjlaa", sum := "e5927406ae9d91777240886bff1a1ba8f75f69103a905ec6e6a66c79be93486c", func := "loop.example/g01336/laws.FnExactFirstFewestPlan", spec := "fnExactFirstFewestPlan", unfollowed := true, recurses := true, apart := false }
def FnExactFirstFewestPlanSaid : Prop := fnExactFirstFewestPlanRow.holds Try.pinned (OpenSpec.ofChange fnExactFirstFewestPlanSpec)

/-- ITS FALSE NEIGHBOUR: 'it returns false'. Refute it at one input. -/
def fnExactFirstFewestPlanWrong : ChangeSpec := { name := "fnExactFirstFewestPlan", fn := fun _ => fun
  | [d1, d2] => { results := [.lit (.bool false)], args := [d1, d2] }
  | _ => none }
def FnExactFirstFewestPlanWrongFalsely : Prop := fnExactFirstFewestPlanRow.holds Try.pinned (OpenSpec.ofChange fnExactFirstFewestPlanWrong)

/-- 'laws.FnExactCountShortestPlans': WHATEVER THE INPUT: true; the input reads as it did. -/
def fnExactCountShortestPlansSpec : ChangeSpec := { name := "fnExactCountShortestPlans", fn := fun _ => fun
  | [d1, d2] => { results := [.lit (.bool true)], args := [d1, d2] }
  | _ => none }
def fnExactCountShortestPlansRow : OpenClaim := { program := "ytagbpiofphgjlaa", sum := "e5927406ae9d91777240886bff1a1ba8f75f69103a905ec6e6a66c79be93486c", func := "loop.example/g01336/laws.FnExactCountShortestPlans", spec := "fnExactCountShortestPlans", unfollowed := true, recurses := true, apart := false }
def FnExactCountShortestPlansSaid : Prop := fnExactCountShortestPlansRow.holds Try.pinned (OpenSpec.ofChange fnExactCountShortestPlansSpec)

/-- ITS FALSE NEIGHBOUR: 'it returns false'. Refute it at one input. -/
def fnExactCountShortestPlansWrong : ChangeSpec := { name := "fnExactCountShortestPlans", fn := fun _ => fun
  | [d1, d2] => { results := [.lit (.bool false)], args := [d1, d2] }
  | _ => none }
def FnExactCountShortestPlansWrongFalsely : Prop := fnExactCountShortestPlansRow.holds Try.pinned (OpenSpec.ofChange fnExactCountShortestPlansWrong)

/-- 'laws.FnExactLeastLength': WHATEVER THE INPUT: true; the input reads as it did. -/
def fnExactLeastLengthSpec : ChangeSpec := { name := "fnExactLeastLength", fn := fun _ => fun
  | [d1, d2] => { results := [.lit (.bool true)], args := [d1, d2] }
  | _ => none }
def fnExactLeastLengthRow : OpenClaim := { program := "ytagbpiofphgjlaa", sum := "e5927406ae9d91777240886bff1a1ba8f75f69103a905ec6e6a66c79be93486c", func := "loop.example/g01336/laws.FnExactLeastLength", spec := "fnExactLeastLength", unfollowed := true, recurses := true, apart := false }
def FnExactLeastLengthSaid : Prop := fnExactLeastLengthRow.holds Try.pinned (OpenSpec.ofChange fnExactLeastLengthSpec)

/-- ITS FALSE NEIGHBOUR: 'it returns false'. Refute it at one input. -/
def fnExactLeastLengthWrong : ChangeSpec := { name := "fnExactLeastLength", fn := fun _ => fun
  | [d1, d2] => { results := [.lit (.bool false)], args := [d1, d2] }
  | _ => none }
def FnExactLeastLengthWrongFalsely : Prop := fnExactLeastLengthRow.holds Try.pinned (OpenSpec.ofChange fnExactLeastLengthWrong)

/-- 'laws.FnExactWeightsOfTrips': WHATEVER THE INPUT: true; the input reads as it did. -/
def fnExactWeightsOfTripsSpec : ChangeSpec := { name := "fnExactWeightsOfTrips", fn := fun _ => fun
  | [d1, d2, d3] => { results := [.lit (.bool true)], args := [d1, d2, d3] }
  | _ => none }
def fnExactWeightsOfTripsRow : OpenClaim := { program := "ytagbpiofphgjlaa", sum := "e5927406ae9d91777240886bff1a1ba8f75f69103a905ec6e6a66c79be93486c", func := "loop.example/g01336/laws.FnExactWeightsOfTrips", spec := "fnExactWeightsOfTrips", unfollowed := true, recurses := true, apart := false }
def FnExactWeightsOfTripsSaid : Prop := fnExactWeightsOfTripsRow.holds Try.pinned (OpenSpec.ofChange fnExactWeightsOfTripsSpec)

/-- ITS FALSE NEIGHBOUR: 'it returns false'. Refute it at one input. -/
def fnExactWeightsOfTripsWrong : ChangeSpec := { name := "fnExactWeightsOfTrips", fn := fun _ => fun
  | [d1, d2, d3] => { results := [.lit (.bool false)], args := [d1, d2, d3] }
  | _ => none }
def FnExactWeightsOfTripsWrongFalsely : Prop := fnExactWeightsOfTripsRow.holds Try.pinned (OpenSpec.ofChange fnExactWeightsOfTripsWrong)

/-- 'laws.FnExactLengthOfPlan': WHATEVER THE INPUT: true; the input reads as it did. -/
def fnExactLengthOfPlanSpec : ChangeSpec := { name := "fnExactLengthOfPlan", fn := fun _ => fun
  | [d1, d2, d3] => { results := [.lit (.bool true)], args := [d1, d2, d3] }
  | _ => none }
def fnExactLengthOfPlanRow : OpenClaim := { program := "ytagbpiofphgjlaa", sum := "e5927406ae9d91777240886bff1a1ba8f75f69103a905ec6e6a66c79be93486c", func := "loop.example/g01336/laws.FnExactLengthOfPlan", spec := "fnExactLengthOfPlan", unfollowed := true, recurses := true, apart := false }
def FnExactLengthOfPlanSaid : Prop := fnExactLengthOfPlanRow.holds Try.pinned (OpenSpec.ofChange fnExactLengthOfPlanSpec)

/-- ITS FALSE NEIGHBOUR: 'it returns false'. Refute it at one input. -/
def fnExactLengthOfPlanWrong : ChangeSpec := { name := "fnExactLengthOfPlan", fn := fun _ => fun
  | [d1, d2, d3] => { results := [.lit (.bool false)], args := [d1, d2, d3] }
  | _ => none }
def FnExactLengthOfPlanWrongFalsely : Prop := fnExactLengthOfPlanRow.holds Try.pinned (OpenSpec.ofChange fnExactLengthOfPlanWrong)

/-- 'laws.FnExactLengthWithoutBack': WHATEVER THE INPUT: true; the input reads as it did. -/
def fnExactLengthWithoutBackSpec : ChangeSpec := { name := "fnExactLengthWithoutBack", fn := fun _ => fun
  | [d1, d2, d3] => { results := [.lit (.bool true)], args := [d1, d2, d3] }
  | _ => none }
def fnExactLengthWithoutBackRow : OpenClaim := { program := "ytagbpiofphgjlaa", sum := "e5927406ae9d91777240886bff1a1ba8f75f69103a905ec6e6a66c79be93486c", func := "loop.example/g01336/laws.FnExactLengthWithoutBack", spec := "fnExactLengthWithoutBack", unfollowed := true, recurses := true, apart := false }
def FnExactLengthWithoutBackSaid : Prop := fnExactLengthWithoutBackRow.holds Try.pinned (OpenSpec.ofChange fnExactLengthWithoutBackSpec)

/-- ITS FALSE NEIGHBOUR: 'it returns false'. Refute it at one input. -/
def fnExactLengthWithoutBackWrong : ChangeSpec := { name := "fnExactLengthWithoutBack", fn := fun _ => fun
  | [d1, d2, d3] => { results := [.lit (.bool false)], args := [d1, d2, d3] }
  | _ => none }
def FnExactLengthWithoutBackWrongFalsely : Prop := fnExactLengthWithoutBackRow.holds Try.pinned (OpenSpec.ofChange fnExactLengthWithoutBackWrong)

/-- 'laws.FnExactFirstShortestPlan': WHATEVER THE INPUT: true; the input reads as it did. -/
def fnExactFirstShortestPlanSpec : ChangeSpec := { name := "fnExactFirstShortestPlan", fn := fun _ => fun
  | [d1, d2] => { results := [.lit (.bool true)], args := [d1, d2] }
  | _ => none }
def fnExactFirstShortestPlanRow : OpenClaim := { program := "ytagbpiofphgjlaa", sum := "e5927406ae9d91777240886bff1a1ba8f75f69103a905ec6e6a66c79be93486c", func := "loop.example/g01336/laws.FnExactFirstShortestPlan", spec := "fnExactFirstShortestPlan", unfollowed := true, recurses := true, apart := false }
def FnExactFirstShortestPlanSaid : Prop := fnExactFirstShortestPlanRow.holds Try.pinned (OpenSpec.ofChange fnExactFirstShortestPlanSpec)

/-- ITS FALSE NEIGHBOUR: 'it returns false'. Refute it at one input. -/
def fnExactFirstShortestPlanWrong : ChangeSpec := { name := "fnExactFirstShortestPlan", fn := fun _ => fun
  | [d1, d2] => { results := [.lit (.bool false)], args := [d1, d2] }
  | _ => none }
def FnExactFirstShortestPlanWrongFalsely : Prop := fnExactFirstShortestPlanRow.holds Try.pinned (OpenSpec.ofChange fnExactFirstShortestPlanWrong)

/-- 'laws.FnExactTripsOfPlan': WHATEVER THE INPUT: true; the input reads as it did. -/
def fnExactTripsOfPlanSpec : ChangeSpec := { name := "fnExactTripsOfPlan", fn := fun _ => fun
  | [d1, d2, d3] => { results := [.lit (.bool true)], args := [d1, d2, d3] }
  | _ => none }
def fnExactTripsOfPlanRow : OpenClaim := { program := "ytagbpiofphgjlaa", sum := "e5927406ae9d91777240886bff1a1ba8f75f69103a905ec6e6a66c79be93486c", func := "loop.example/g01336/laws.FnExactTripsOfPlan", spec := "fnExactTripsOfPlan", unfollowed := true, recurses := true, apart := false }
def FnExactTripsOfPlanSaid : Prop := fnExactTripsOfPlanRow.holds Try.pinned (OpenSpec.ofChange fnExactTripsOfPlanSpec)

/-- ITS FALSE NEIGHBOUR: 'it returns false'. Refute it at one input. -/
def fnExactTripsOfPlanWrong : ChangeSpec := { name := "fnExactTripsOfPlan", fn := fun _ => fun
  | [d1, d2, d3] => { results := [.lit (.bool false)], args := [d1, d2, d3] }
  | _ => none }
def FnExactTripsOfPlanWrongFalsely : Prop := fnExactTripsOfPlanRow.holds Try.pinned (OpenSpec.ofChange fnExactTripsOfPlanWrong)

/-- 'laws.FnExactPackFarthestFirst': WHATEVER THE INPUT: true; the input reads as it did. -/
def fnExactPackFarthestFirstSpec : ChangeSpec := { name := "fnExactPackFarthestFirst", fn := fun _ => fun
  | [d1, d2] => { results := [.lit (.bool true)], args := [d1, d2] }
  | _ => none }
def fnExactPackFarthestFirstRow : OpenClaim := { program := "ytagbpiofphgjlaa", sum := "e5927406ae9d91777240886bff1a1ba8f75f69103a905ec6e6a66c79be93486c", func := "loop.example/g01336/laws.FnExactPackFarthestFirst", spec := "fnExactPackFarthestFirst", unfollowed := true, recurses := true, apart := false }
def FnExactPackFarthestFirstSaid : Prop := fnExactPackFarthestFirstRow.holds Try.pinned (OpenSpec.ofChange fnExactPackFarthestFirstSpec)

/-- ITS FALSE NEIGHBOUR: 'it returns false'. Refute it at one input. -/
def fnExactPackFarthestFirstWrong : ChangeSpec := { name := "fnExactPackFarthestFirst", fn := fun _ => fun
  | [d1, d2] => { results := [.lit (.bool false)], args := [d1, d2] }
  | _ => none }
def FnExactPackFarthestFirstWrongFalsely : Prop := fnExactPackFarthestFirstRow.holds Try.pinned (OpenSpec.ofChange fnExactPackFarthestFirstWrong)

/-- 'laws.FnBagsPlanned': WHATEVER THE INPUT: true; the input reads as it did. -/
def fnBagsPlannedSpec : ChangeSpec := { name := "fnBagsPlanned", fn := fun _ => fun
  | [d1, d2] => { results := [.lit (.bool true)], args := [d1, d2] }
  | _ => none }
def fnBagsPlannedRow : OpenClaim := { program := "ytagbpiofphgjlaa", sum := "e5927406ae9d91777240886bff1a1ba8f75f69103a905ec6e6a66c79be93486c", func := "loop.example/g01336/laws.FnBagsPlanned", spec := "fnBagsPlanned", unfollowed := true, recurses := true, apart := false }
def FnBagsPlannedSaid : Prop := fnBagsPlannedRow.holds Try.pinned (OpenSpec.ofChange fnBagsPlannedSpec)

/-- ITS FALSE NEIGHBOUR: 'it returns false'. Refute it at one input. -/
def fnBagsPlannedWrong : ChangeSpec := { name := "fnBagsPlanned", fn := fun _ => fun
  | [d1, d2] => { results := [.lit (.bool false)], args := [d1, d2] }
  | _ => none }
def FnBagsPlannedWrongFalsely : Prop := fnBagsPlannedRow.holds Try.pinned (OpenSpec.ofChange fnBagsPlannedWrong)

/- THE SECOND FORM. 'bulk': how many values and letters a reading holds, each counted each time it is reached (what is shared counts as often as it is met; a slice's spare places count too). A statement '..UptoSaid' is the law's where the arguments, and the package variables that the reading takes, are together of bulk at most 1048576: NARROWER than '..Said'. Prove '..Said' where nothing that the law and all that it calls make is longer than what came in: it says more and counts as full. Else prove '..UptoSaid'. A law counts once. -/
mutual
def uptoBulk {H : Type} : DataW H → Nat
  | .lit (.string bytes) => bytes.length + 1
  | .lit _ => 1
  | .nil => 1
  | .ptr d => uptoBulk d + 1
  | .slice elems spare => uptoBulkAll elems + uptoBulkAll spare + 1
  | .agg parts => uptoBulkAll parts + 1
  | .iface _ d => uptoBulk d + 1
  | .map entries => uptoBulkEntries entries + 1
  | .held _ => 1
def uptoBulkAll {H : Type} : List (DataW H) → Nat
  | [] => 0
  | d :: r => uptoBulk d + uptoBulkAll r
def uptoBulkEntries {H : Type} : List (Lit × DataW H) → Nat
  | [] => 0
  | x :: r => uptoBulkEntry x + uptoBulkEntries r
def uptoBulkEntry {H : Type} : Lit × DataW H → Nat
  | (.string bytes, d) => bytes.length + uptoBulk d + 1
  | (_, d) => uptoBulk d + 1
 end
def uptoSmall : (H : Type) → List (DataW H) → Bool := fun _ ds => decide (uptoBulkAll ds ≤ 1048576)
def OpenSpec.upto (s : _root_.Go.ChangeSpec) : _root_.Go.OpenSpec := { _root_.Go.OpenSpec.ofChange s with cond := some uptoSmall }

/-- 'laws.FnExactAreParcels', WHERE WHAT IT READS IS OF BULK AT MOST 1048576: true; the input reads as it did. -/
def fnExactAreParcelsUptoRow : OpenClaim := { program := "ytagbpiofphgjlaa", sum := "e5927406ae9d91777240886bff1a1ba8f75f69103a905ec6e6a66c79be93486c", func := "loop.example/g01336/laws.FnExactAreParcels", spec := "fnExactAreParcels", unfollowed := true, recurses := true, apart := false, narrowed := true }
def FnExactAreParcelsUptoSaid : Prop := fnExactAreParcelsUptoRow.holds Try.pinned (OpenSpec.upto fnExactAreParcelsSpec)

/-- 'laws.FnExactNamedPlan', WHERE WHAT IT READS IS OF BULK AT MOST 1048576: true; the input reads as it did. -/
def fnExactNamedPlanUptoRow : OpenClaim := { program := "ytagbpiofphgjlaa", sum := "e5927406ae9d91777240886bff1a1ba8f75f69103a905ec6e6a66c79be93486c", func := "loop.example/g01336/laws.FnExactNamedPlan", spec := "fnExactNamedPlan", apart := false, narrowed := true }
def FnExactNamedPlanUptoSaid : Prop := fnExactNamedPlanUptoRow.holds Try.pinned (OpenSpec.upto fnExactNamedPlanSpec)

/-- 'laws.FnExactLettersLength', WHERE WHAT IT READS IS OF BULK AT MOST 1048576: true; the input reads as it did. -/
def fnExactLettersLengthUptoRow : OpenClaim := { program := "ytagbpiofphgjlaa", sum := "e5927406ae9d91777240886bff1a1ba8f75f69103a905ec6e6a66c79be93486c", func := "loop.example/g01336/laws.FnExactLettersLength", spec := "fnExactLettersLength", apart := false, narrowed := true }
def FnExactLettersLengthUptoSaid : Prop := fnExactLettersLengthUptoRow.holds Try.pinned (OpenSpec.upto fnExactLettersLengthSpec)

/-- 'laws.FnExactLettersTrips', WHERE WHAT IT READS IS OF BULK AT MOST 1048576: true; the input reads as it did. -/
def fnExactLettersTripsUptoRow : OpenClaim := { program := "ytagbpiofphgjlaa", sum := "e5927406ae9d91777240886bff1a1ba8f75f69103a905ec6e6a66c79be93486c", func := "loop.example/g01336/laws.FnExactLettersTrips", spec := "fnExactLettersTrips", apart := false, narrowed := true }
def FnExactLettersTripsUptoSaid : Prop := fnExactLettersTripsUptoRow.holds Try.pinned (OpenSpec.upto fnExactLettersTripsSpec)

/-- 'laws.FnExactTripsBound', WHERE WHAT IT READS IS OF BULK AT MOST 1048576: true; the input reads as it did. -/
def fnExactTripsBoundUptoRow : OpenClaim := { program := "ytagbpiofphgjlaa", sum := "e5927406ae9d91777240886bff1a1ba8f75f69103a905ec6e6a66c79be93486c", func := "loop.example/g01336/laws.FnExactTripsBound", spec := "fnExactTripsBound", unfollowed := true, recurses := true, apart := false, narrowed := true }
def FnExactTripsBoundUptoSaid : Prop := fnExactTripsBoundUptoRow.holds Try.pinned (OpenSpec.upto fnExactTripsBoundSpec)

/-- 'laws.FnExactFewestTrips', WHERE WHAT IT READS IS OF BULK AT MOST 1048576: true; the input reads as it did. -/
def fnExactFewestTripsUptoRow : OpenClaim := { program := "ytagbpiofphgjlaa", sum := "e5927406ae9d91777240886bff1a1ba8f75f69103a905ec6e6a66c79be93486c", func := "loop.example/g01336/laws.FnExactFewestTrips", spec := "fnExactFewestTrips", unfollowed := true, recurses := true, apart := false, narrowed := true }
def FnExactFewestTripsUptoSaid : Prop := fnExactFewestTripsUptoRow.holds Try.pinned (OpenSpec.upto fnExactFewestTripsSpec)

/-- 'laws.FnExactPackInOrder', WHERE WHAT IT READS IS OF BULK AT MOST 1048576: true; the input reads as it did. -/
def fnExactPackInOrderUptoRow : OpenClaim := { program := "ytagbpiofphgjlaa", sum := "e5927406ae9d91777240886bff1a1ba8f75f69103a905ec6e6a66c79be93486c", func := "loop.example/g01336/laws.FnExactPackInOrder", spec := "fnExactPackInOrder", unfollowed := true, recurses := true, apart := false, narrowed := true }
def FnExactPackInOrderUptoSaid : Prop := fnExactPackInOrderUptoRow.holds Try.pinned (OpenSpec.upto fnExactPackInOrderSpec)

/-- 'laws.FnExactLightestBag', WHERE WHAT IT READS IS OF BULK AT MOST 1048576: true; the input reads as it did. -/
def fnExactLightestBagUptoRow : OpenClaim := { program := "ytagbpiofphgjlaa", sum := "e5927406ae9d91777240886bff1a1ba8f75f69103a905ec6e6a66c79be93486c", func := "loop.example/g01336/laws.FnExactLightestBag", spec := "fnExactLightestBag", unfollowed := true, recurses := true, apart := false, narrowed := true }
def FnExactLightestBagUptoSaid : Prop := fnExactLightestBagUptoRow.holds Try.pinned (OpenSpec.upto fnExactLightestBagSpec)

/-- 'laws.FnExactIsBagPlan', WHERE WHAT IT READS IS OF BULK AT MOST 1048576: true; the input reads as it did. -/
def fnExactIsBagPlanUptoRow : OpenClaim := { program := "ytagbpiofphgjlaa", sum := "e5927406ae9d91777240886bff1a1ba8f75f69103a905ec6e6a66c79be93486c", func := "loop.example/g01336/laws.FnExactIsBagPlan", spec := "fnExactIsBagPlan", unfollowed := true, recurses := true, apart := false, narrowed := true }
def FnExactIsBagPlanUptoSaid : Prop := fnExactIsBagPlanUptoRow.holds Try.pinned (OpenSpec.upto fnExactIsBagPlanSpec)

/-- 'laws.FnExactFirstFewestPlan', WHERE WHAT IT READS IS OF BULK AT MOST 1048576: true; the input reads as it did. -/
def fnExactFirstFewestPlanUptoRow : OpenClaim := { program := "ytagbpiofphgjlaa", sum := "e5927406ae9d91777240886bff1a1ba8f75f69103a905ec6e6a66c79be93486c", func := "loop.example/g01336/laws.FnExactFirstFewestPlan", spec := "fnExactFirstFewestPlan", unfollowed := true, recurses := true, apart := false, narrowed := true }
def FnExactFirstFewestPlanUptoSaid : Prop := fnExactFirstFewestPlanUptoRow.holds Try.pinned (OpenSpec.upto fnExactFirstFewestPlanSpec)

/-- 'laws.FnExactCountShortestPlans', WHERE WHAT IT READS IS OF BULK AT MOST 1048576: true; the input reads as it did. -/
def fnExactCountShortestPlansUptoRow : OpenClaim := { program := "ytagbpiofphgjlaa", sum := "e5927406ae9d91777240886bff1a1ba8f75f69103a905ec6e6a66c79be93486c", func := "loop.example/g01336/laws.FnExactCountShortestPlans", spec := "fnExactCountShortestPlans", unfollowed := true, recurses := true, apart := false, narrowed := true }
def FnExactCountShortestPlansUptoSaid : Prop := fnExactCountShortestPlansUptoRow.holds Try.pinned (OpenSpec.upto fnExactCountShortestPlansSpec)

/-- 'laws.FnExactLeastLength', WHERE WHAT IT READS IS OF BULK AT MOST 1048576: true; the input reads as it did. -/
def fnExactLeastLengthUptoRow : OpenClaim := { program := "ytagbpiofphgjlaa", sum := "e5927406ae9d91777240886bff1a1ba8f75f69103a905ec6e6a66c79be93486c", func := "loop.example/g01336/laws.FnExactLeastLength", spec := "fnExactLeastLength", unfollowed := true, recurses := true, apart := false, narrowed := true }
def FnExactLeastLengthUptoSaid : Prop := fnExactLeastLengthUptoRow.holds Try.pinned (OpenSpec.upto fnExactLeastLengthSpec)

/-- 'laws.FnExactWeightsOfTrips', WHERE WHAT IT READS IS OF BULK AT MOST 1048576: true; the input reads as it did. -/
def fnExactWeightsOfTripsUptoRow : OpenClaim := { program := "ytagbpiofphgjlaa", sum := "e5927406ae9d91777240886bff1a1ba8f75f69103a905ec6e6a66c79be93486c", func := "loop.example/g01336/laws.FnExactWeightsOfTrips", spec := "fnExactWeightsOfTrips", unfollowed := true, recurses := true, apart := false, narrowed := true }
def FnExactWeightsOfTripsUptoSaid : Prop := fnExactWeightsOfTripsUptoRow.holds Try.pinned (OpenSpec.upto fnExactWeightsOfTripsSpec)

/-- 'laws.FnExactLengthOfPlan', WHERE WHAT IT READS IS OF BULK AT MOST 1048576: true; the input reads as it did. -/
def fnExactLengthOfPlanUptoRow : OpenClaim := { program := "ytagbpiofphgjlaa", sum := "e5927406ae9d91777240886bff1a1ba8f75f69103a905ec6e6a66c79be93486c", func := "loop.example/g01336/laws.FnExactLengthOfPlan", spec := "fnExactLengthOfPlan", unfollowed := true, recurses := true, apart := false, narrowed := true }
def FnExactLengthOfPlanUptoSaid : Prop := fnExactLengthOfPlanUptoRow.holds Try.pinned (OpenSpec.upto fnExactLengthOfPlanSpec)

/-- 'laws.FnExactLengthWithoutBack', WHERE WHAT IT READS IS OF BULK AT MOST 1048576: true; the input reads as it did. -/
def fnExactLengthWithoutBackUptoRow : OpenClaim := { program := "ytagbpiofphgjlaa", sum := "e5927406ae9d91777240886bff1a1ba8f75f69103a905ec6e6a66c79be93486c", func := "loop.example/g01336/laws.FnExactLengthWithoutBack", spec := "fnExactLengthWithoutBack", unfollowed := true, recurses := true, apart := false, narrowed := true }
def FnExactLengthWithoutBackUptoSaid : Prop := fnExactLengthWithoutBackUptoRow.holds Try.pinned (OpenSpec.upto fnExactLengthWithoutBackSpec)

/-- 'laws.FnExactFirstShortestPlan', WHERE WHAT IT READS IS OF BULK AT MOST 1048576: true; the input reads as it did. -/
def fnExactFirstShortestPlanUptoRow : OpenClaim := { program := "ytagbpiofphgjlaa", sum := "e5927406ae9d91777240886bff1a1ba8f75f69103a905ec6e6a66c79be93486c", func := "loop.example/g01336/laws.FnExactFirstShortestPlan", spec := "fnExactFirstShortestPlan", unfollowed := true, recurses := true, apart := false, narrowed := true }
def FnExactFirstShortestPlanUptoSaid : Prop := fnExactFirstShortestPlanUptoRow.holds Try.pinned (OpenSpec.upto fnExactFirstShortestPlanSpec)

/-- 'laws.FnExactTripsOfPlan', WHERE WHAT IT READS IS OF BULK AT MOST 1048576: true; the input reads as it did. -/
def fnExactTripsOfPlanUptoRow : OpenClaim := { program := "ytagbpiofphgjlaa", sum := "e5927406ae9d91777240886bff1a1ba8f75f69103a905ec6e6a66c79be93486c", func := "loop.example/g01336/laws.FnExactTripsOfPlan", spec := "fnExactTripsOfPlan", unfollowed := true, recurses := true, apart := false, narrowed := true }
def FnExactTripsOfPlanUptoSaid : Prop := fnExactTripsOfPlanUptoRow.holds Try.pinned (OpenSpec.upto fnExactTripsOfPlanSpec)

/-- 'laws.FnExactPackFarthestFirst', WHERE WHAT IT READS IS OF BULK AT MOST 1048576: true; the input reads as it did. -/
def fnExactPackFarthestFirstUptoRow : OpenClaim := { program := "ytagbpiofphgjlaa", sum := "e5927406ae9d91777240886bff1a1ba8f75f69103a905ec6e6a66c79be93486c", func := "loop.example/g01336/laws.FnExactPackFarthestFirst", spec := "fnExactPackFarthestFirst", unfollowed := true, recurses := true, apart := false, narrowed := true }
def FnExactPackFarthestFirstUptoSaid : Prop := fnExactPackFarthestFirstUptoRow.holds Try.pinned (OpenSpec.upto fnExactPackFarthestFirstSpec)

/-- 'laws.FnBagsPlanned', WHERE WHAT IT READS IS OF BULK AT MOST 1048576: true; the input reads as it did. -/
def fnBagsPlannedUptoRow : OpenClaim := { program := "ytagbpiofphgjlaa", sum := "e5927406ae9d91777240886bff1a1ba8f75f69103a905ec6e6a66c79be93486c", func := "loop.example/g01336/laws.FnBagsPlanned", spec := "fnBagsPlanned", unfollowed := true, recurses := true, apart := false, narrowed := true }
def FnBagsPlannedUptoSaid : Prop := fnBagsPlannedUptoRow.holds Try.pinned (OpenSpec.upto fnBagsPlannedSpec)

end Rows
end Go.Proofs.Ytagbpiofphgjlaa

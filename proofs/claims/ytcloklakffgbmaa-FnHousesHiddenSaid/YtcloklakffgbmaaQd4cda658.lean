/- Texts of this seat's proofs: contracts of its functions and plain laws about them, with no condition beyond those that each theorem states. -/
import Derived.Test.YtcloklakffgbmaaQca8d1d27
import Derived.Test.YtcloklakffgbmaaQb642afe6
import Derived.Test.YtcloklakffgbmaaQd6440bb5
import Derived.Test.YtcloklakffgbmaaQ8eefb8ad
set_option maxHeartbeats 8000000
set_option maxRecDepth 100000
section
namespace Go.Proofs.Ytcloklakffgbmaa.G
open Go.RowKit Go.Proofs.YtcloklakffgbmaaW.PrintWords Go.Proofs.YtcloklakffgbmaaW.PrintLast Go.Proofs.YtcloklakffgbmaaW.PrintMore
attribute [local go_sem] max2_int min2_int max_two min_two max_three min_three max_four min_four
set_option linter.unusedVariables false
set_option linter.unusedSimpArgs false
def impl_AddClue.f (a0_0 : Int) (a0_1 : Int) (l0_2 : List (S37)) (a1_0 : Int) (a1_1 : Int) (a1_2 : Int) : Option (Int × Int × (List (S37)) × Bool) := (impl_Clue_44.f l0_2).bind fun t104 => ((some (([(⟨a1_0, a1_1, a1_2⟩ : S37)] : List (S37)) : List (S37))).bind fun y107 => (if t104.length + y107.length < 5864062014805 then ((some (t104 ++ y107 : List (S37))).bind fun y110 => ((impl_IsPuzzle.f a0_0 a0_1 y110).bind fun t114 => (if t114 = true then (some (a0_0, a0_1, y110, true)) else (some (0, 0, ([] : List (S37)), false))))) else (none)))
def impl_AddClue.T1 : Bool × List (List Nat × List Nat) := (true, [([], []), ([0], [0]), ([], []), ([2], [2]), ([3], [3]), ([], []), ([5], [5]), ([4, 6, 4], [4, 6]), ([1, 7], [1, 7]), ([], []), ([9, 8, 7, 0, 1, 2, 3, 4, 5, 6, 7, 8, 9], [8, 9])])
def impl_AddClue.B1 : List Nat := [0, 1, 0, 4, 12, 0, 32, 124, 255, 0, 1023]
theorem impl_AddClue.tab1 : rtab .any (opsOf Try.f10 1) = impl_AddClue.T1 := by kernel_rfl
theorem impl_AddClue.bits1 : waitsOk impl_AddClue.T1.2 impl_AddClue.B1 = true := by kernel_rfl
theorem impl_AddClue.calls (a0_0 : Int) (a0_1 : Int) (A0_2 : Option Addr) (c0_2 : Nat) (l0_2 : List (S37)) (a1_0 : Int) (a1_1 : Int) (a1_2 : Int) (r1 : Int) (r2 : Int) (r3 : List (S37)) (r4 : Bool) (w : World) (hr0_2 : Kd.C k37 w A0_2 l0_2.length l0_2) (hc0_2 : l0_2.length ≤ c0_2) (h : impl_AddClue.f a0_0 a0_1 l0_2 a1_0 a1_1 a1_2 = some (r1, r2, r3, r4)) :
  Calls Try.prog 10 #[.agg #[.int .i64 a0_0, .int .i64 a0_1, .slice A0_2 l0_2.length c0_2], .agg #[.int .i64 a1_0, .int .i64 a1_1, .int .i64 a1_2]] w fun e w' => ∃ v2_ : Value, e = .returned (.tuple #[.agg #[.int .i64 r1, .int .i64 r2, v2_], .bool r4]) ∧ Kd.R k37 37 w' w.heap.size (fun _ => True) v2_ r3 ∧ Below w.heap.size w w' := by
 have hu33 := Try.underlying33
 have hu37 := Try.underlying37
 have hu30 := Try.underlying30
 have HR0_2 := am hr0_2
 have HC0_2 := am hc0_2
 clear hr0_2 hc0_2
 have HB := am (Below.refl w.heap.size w)
 have H : ((impl_Clue_44.f l0_2).bind fun t104 => ((some (([(⟨a1_0, a1_1, a1_2⟩ : S37)] : List (S37)) : List (S37))).bind fun y107 => (if t104.length + y107.length < 5864062014805 then ((some (t104 ++ y107 : List (S37))).bind fun y110 => ((impl_IsPuzzle.f a0_0 a0_1 y110).bind fun t114 => (if t114 = true then (some (a0_0, a0_1, y110, true)) else (some (0, 0, ([] : List (S37)), false))))) else (none)))) = some (r1, r2, r3, r4) := h
 clear h
 replace H := bH H
 obtain ⟨t104, A30, H⟩ := H
 replace H : ((some (([(⟨a1_0, a1_1, a1_2⟩ : S37)] : List (S37)) : List (S37))).bind fun y107 => (if t104.length + y107.length < 5864062014805 then ((some (t104 ++ y107 : List (S37))).bind fun y110 => ((impl_IsPuzzle.f a0_0 a0_1 y110).bind fun t114 => (if t114 = true then (some (a0_0, a0_1, y110, true)) else (some (0, 0, ([] : List (S37)), false))))) else (none))) = some (r1, r2, r3, r4) := H
 have A3 := am A30
 clear A30
 obtain ⟨y107, hy107⟩ : ∃ y_ : List (S37), y_ = (([(⟨a1_0, a1_1, a1_2⟩ : S37)] : List (S37))) := ⟨_, rfl⟩
 replace H : (if t104.length + y107.length < 5864062014805 then ((some (t104 ++ y107 : List (S37))).bind fun y110 => ((impl_IsPuzzle.f a0_0 a0_1 y110).bind fun t114 => (if t114 = true then (some (a0_0, a0_1, y110, true)) else (some (0, 0, ([] : List (S37)), false))))) else (none)) = some (r1, r2, r3, r4) := by first | (rw [hy107]; with_reducible exact H) | (have H2_ := (Option.bind_some _ _).symm.trans H; rw [hy107]; with_reducible exact H2_) | (have H2_ := (Option.bind_some _ _).symm.trans H; with_reducible exact H2_) | with_reducible exact H | (rw [hy107]; exact H) | exact H
 have Ny107 := am hy107
 clear hy107
 by_cases c4 : t104.length + y107.length < 5864062014805
 ·rw [if_pos c4] at H
  have LMc4 := am c4
  clear c4
  obtain ⟨y110, hy110⟩ : ∃ y_ : List (S37), y_ = (t104 ++ y107) := ⟨_, rfl⟩
  replace H : ((impl_IsPuzzle.f a0_0 a0_1 y110).bind fun t114 => (if t114 = true then (some (a0_0, a0_1, y110, true)) else (some (0, 0, ([] : List (S37)), false)))) = some (r1, r2, r3, r4) := by first | (rw [hy110]; with_reducible exact H) | (have H2_ := (Option.bind_some _ _).symm.trans H; rw [hy110]; with_reducible exact H2_) | (have H2_ := (Option.bind_some _ _).symm.trans H; with_reducible exact H2_) | with_reducible exact H | (rw [hy110]; exact H) | exact H
  have Ny110 := am hy110
  clear hy110
  replace H := bH H
  obtain ⟨t114, A50, H⟩ := H
  replace H : (if t114 = true then (some (a0_0, a0_1, y110, true)) else (some (0, 0, ([] : List (S37)), false))) = some (r1, r2, r3, r4) := H
  have A5 := am A50
  clear A50
  by_cases c6 : t114 = true
  ·subst c6
   have H1 : (some (a0_0, a0_1, y110, true)) = some (r1, r2, r3, r4) := by rw [if_pos rfl] at H; exact H
   clear H
   have H := H1
   clear H1
   simp only [Option.some.injEq, Prod.mk.injEq] at H
   obtain ⟨rfl, rfl, rfl, rfl⟩ := H
   go_enter Try.func10, Try.ntmps10
   try go_wp2_with (first | ((with_reducible refine gate_dst (N := 2) rfl ?_); refine uX (N := 2) (cs := #[.int .i64 a0_0, .int .i64 a0_1, .slice A0_2 l0_2.length c0_2]) (t := 33) ?_; intro gb101 hg w7 hbox hb; have BK101 := am (hbox); have GW101 := uE hg; have GE101 := GW101; replace HB := uS hb; clear hb hbox hg) | ((with_reducible refine gate_dst (N := 3) rfl ?_); refine uX (N := 3) (cs := #[.int .i64 a1_0, .int .i64 a1_1, .int .i64 a1_2]) (t := 37) ?_; intro gb102 hg w8 hbox hb; have BK102 := am (hbox); have GW102 := uE hg; have GE102 := GW102; have NB101_102 := uL BK101 hg; have NB102_101 := uY NB101_102; replace BK101 := uB BK101 hb; replace HB := uS hb; clear hb hbox hg) | ((with_reducible refine gate_dst (N := 4) rfl ?_); refine uX (N := 4) (cs := #[.int .i64 0, .int .i64 0, .slice none 0 0]) (t := 33) ?_; intro gb103 hg w9 hbox hb; have BK103 := am (hbox); have GW103 := uE hg; have GE103 := GW103; have NB101_103 := uL BK101 hg; have NB103_101 := uY NB101_103; have NB102_103 := uL BK102 hg; have NB103_102 := uY NB102_103; replace BK101 := uB BK101 hb; replace BK102 := uB BK102 hb; replace HB := uS hb; clear hb hbox hg))
   replace BK101 := am (blk_drew BK101.out)
   replace BK102 := am (blk_drew BK102.out)
   replace BK103 := am (blk_drew BK103.out)
   replace HB := am (below_drew1 HB.out)
   refine start_ (n := 11) (S := fun w' => w'.cell? ⟨gb101, 0, none⟩ = some (.int .i64 a0_0) ∧ w'.cell? ⟨gb101, 1, none⟩ = some (.int .i64 a0_1) ∧ w'.cell? ⟨gb101, 2, none⟩ = some (.slice A0_2 l0_2.length c0_2) ∧ w'.cell? ⟨gb102, 0, none⟩ = some (.int .i64 a1_0) ∧ w'.cell? ⟨gb102, 1, none⟩ = some (.int .i64 a1_1) ∧ w'.cell? ⟨gb102, 2, none⟩ = some (.int .i64 a1_2)) (ds := []) #[false, false, false, false, false, false, false, false, false, false, false] (by kernel_rfl) rfl rfl ⟨uT BK101 0, uT BK101 1, uT BK101 2, uT BK102 0, uT BK102 1, uT BK102 2⟩ (fun hHeld => ?_); refine with_tabW impl_AddClue.tab1 impl_AddClue.bits1 (fun HT_ HW_ => ?_)
   generalize w9.drew = w10 at BK101 BK102 BK103 HB hHeld ⊢
   refine uPu (i := 0) (N := some 7) #[true, false, false, false, false, false, false, false, false, false, false] ?_
   refine uPu (i := 2) (N := some 9) #[true, false, true, false, false, false, false, false, false, false, false] ?_
   refine uTk (i := 1) (N := some 8) #[true, true, true, false, false, false, false, false, false, false, false] hHeld ?_
   refine uTk (i := 3) (N := some 10) #[true, true, true, true, false, false, false, false, false, false, false] hHeld ?_
   refine uTk (i := 5) (N := some 12) #[true, true, true, true, false, true, false, false, false, false, false] hHeld ?_
   refine join_ (σ := Value × Value × Value × Nat) 1 #[true, true, true, true, true, true, true, true, true, true, false] (fun s_ => [(11, s_.1), (13, s_.2.1), (14, s_.2.2.1), (6, .pointer (some ⟨s_.2.2.2, 0, none⟩)), (15, .agg #[.int .i64 a0_0, .int .i64 a0_1, s_.2.2.1])]) (fun s_ w' => (w'.cell? ⟨gb101, 0, none⟩ = some (.int .i64 a0_0) ∧ w'.cell? ⟨gb101, 1, none⟩ = some (.int .i64 a0_1) ∧ w'.cell? ⟨gb101, 2, none⟩ = some (.slice A0_2 l0_2.length c0_2) ∧ w'.cell? ⟨gb102, 0, none⟩ = some (.int .i64 a1_0) ∧ w'.cell? ⟨gb102, 1, none⟩ = some (.int .i64 a1_1) ∧ w'.cell? ⟨gb102, 2, none⟩ = some (.int .i64 a1_2)) ∧ (Kd.R k37 37 w' w.heap.size (fun k_ => some k_ ≠ (s_.2.2.1 : Value).ownBlock ∧ k_ ≠ gb102) s_.2.1 y107) ∧ (Kd.R k37 37 w' w.heap.size (fun k_ => some k_ ≠ (s_.2.1 : Value).ownBlock ∧ k_ ≠ gb102) s_.2.2.1 y110) ∧ (w'.heap[gb101]? = some (.cells #[.int .i64 a0_0, .int .i64 a0_1, .slice A0_2 l0_2.length c0_2] 33 (0, 0))) ∧ (w'.heap[gb102]? = some (.cells #[.int .i64 a1_0, .int .i64 a1_1, .int .i64 a1_2] 37 (0, 0))) ∧ (w'.heap[gb103]? = some (.cells #[.int .i64 0, .int .i64 0, .slice none 0 0] 33 (0, 0))) ∧ (w'.heap[s_.2.2.2]? = some (.cells #[.int .i64 0, .int .i64 0, .slice none 0 0] 33 (0, 0))) ∧ (w.heap.size ≤ s_.2.2.2) ∧ (w.heap.size ≤ s_.2.2.2) ∧ (gb101 ≠ s_.2.2.2) ∧ (s_.2.2.2 ≠ gb101) ∧ (gb102 ≠ s_.2.2.2) ∧ (s_.2.2.2 ≠ gb102) ∧ (gb103 ≠ s_.2.2.2) ∧ (s_.2.2.2 ≠ gb103) ∧ (Below w.heap.size w w')) ?_ ?_
   rotate_left
   ·intro hJ4_6_7_9
    refine join_ (σ := Value × Value × Value) 2 #[true, true, true, true, true, true, true, true, true, false, false] (fun s_ => [(11, s_.1), (13, s_.2.1), (14, s_.2.2), (15, .agg #[.int .i64 a0_0, .int .i64 a0_1, s_.2.2])]) (fun s_ w' => (w'.cell? ⟨gb101, 0, none⟩ = some (.int .i64 a0_0) ∧ w'.cell? ⟨gb101, 1, none⟩ = some (.int .i64 a0_1) ∧ w'.cell? ⟨gb101, 2, none⟩ = some (.slice A0_2 l0_2.length c0_2) ∧ w'.cell? ⟨gb102, 0, none⟩ = some (.int .i64 a1_0) ∧ w'.cell? ⟨gb102, 1, none⟩ = some (.int .i64 a1_1) ∧ w'.cell? ⟨gb102, 2, none⟩ = some (.int .i64 a1_2)) ∧ (Kd.R k37 37 w' w.heap.size (fun k_ => some k_ ≠ (s_.2.2 : Value).ownBlock ∧ k_ ≠ gb102) s_.2.1 y107) ∧ (Kd.R k37 37 w' w.heap.size (fun k_ => some k_ ≠ (s_.2.1 : Value).ownBlock ∧ k_ ≠ gb102) s_.2.2 y110) ∧ (w'.heap[gb101]? = some (.cells #[.int .i64 a0_0, .int .i64 a0_1, .slice A0_2 l0_2.length c0_2] 33 (0, 0))) ∧ (w'.heap[gb102]? = some (.cells #[.int .i64 a1_0, .int .i64 a1_1, .int .i64 a1_2] 37 (0, 0))) ∧ (w'.heap[gb103]? = some (.cells #[.int .i64 0, .int .i64 0, .slice none 0 0] 33 (0, 0))) ∧ (Below w.heap.size w w')) ?_ ?_
    rotate_left
    ·intro hJ4_6_7
     refine join_ (σ := Value × Value × Nat) 3 #[true, true, true, true, true, true, true, false, false, true, false] (fun s_ => [(11, s_.1), (13, s_.2.1), (6, .pointer (some ⟨s_.2.2, 0, none⟩))]) (fun s_ w' => (w'.cell? ⟨gb101, 0, none⟩ = some (.int .i64 a0_0) ∧ w'.cell? ⟨gb101, 1, none⟩ = some (.int .i64 a0_1) ∧ w'.cell? ⟨gb101, 2, none⟩ = some (.slice A0_2 l0_2.length c0_2) ∧ w'.cell? ⟨gb102, 0, none⟩ = some (.int .i64 a1_0) ∧ w'.cell? ⟨gb102, 1, none⟩ = some (.int .i64 a1_1) ∧ w'.cell? ⟨gb102, 2, none⟩ = some (.int .i64 a1_2)) ∧ (Kd.R k37 37 w' w.heap.size (fun k_ => some k_ ≠ (s_.2.1 : Value).ownBlock ∧ k_ ≠ gb102) s_.1 t104) ∧ (Kd.R k37 37 w' w.heap.size (fun k_ => some k_ ≠ (s_.1 : Value).ownBlock ∧ k_ ≠ gb102) s_.2.1 y107) ∧ (w'.heap[gb101]? = some (.cells #[.int .i64 a0_0, .int .i64 a0_1, .slice A0_2 l0_2.length c0_2] 33 (0, 0))) ∧ (w'.heap[gb102]? = some (.cells #[.int .i64 a1_0, .int .i64 a1_1, .int .i64 a1_2] 37 (0, 0))) ∧ (w'.heap[gb103]? = some (.cells #[.int .i64 0, .int .i64 0, .slice none 0 0] 33 (0, 0))) ∧ (w'.heap[s_.2.2]? = some (.cells #[.int .i64 0, .int .i64 0, .slice none 0 0] 33 (0, 0))) ∧ (w.heap.size ≤ s_.2.2) ∧ (w.heap.size ≤ s_.2.2) ∧ (gb101 ≠ s_.2.2) ∧ (s_.2.2 ≠ gb101) ∧ (gb102 ≠ s_.2.2) ∧ (s_.2.2 ≠ gb102) ∧ (gb103 ≠ s_.2.2) ∧ (s_.2.2 ≠ gb103) ∧ (Below w.heap.size w w')) ?_ ?_
     rotate_left
     ·intro hJ4_6_9
      refine join_ (σ := Value × Value) 4 #[true, true, true, true, true, true, true, false, false, false, false] (fun s_ => [(11, s_.1), (13, s_.2)]) (fun s_ w' => (w'.cell? ⟨gb101, 0, none⟩ = some (.int .i64 a0_0) ∧ w'.cell? ⟨gb101, 1, none⟩ = some (.int .i64 a0_1) ∧ w'.cell? ⟨gb101, 2, none⟩ = some (.slice A0_2 l0_2.length c0_2) ∧ w'.cell? ⟨gb102, 0, none⟩ = some (.int .i64 a1_0) ∧ w'.cell? ⟨gb102, 1, none⟩ = some (.int .i64 a1_1) ∧ w'.cell? ⟨gb102, 2, none⟩ = some (.int .i64 a1_2)) ∧ (Kd.R k37 37 w' w.heap.size (fun k_ => some k_ ≠ (s_.2 : Value).ownBlock ∧ k_ ≠ gb102) s_.1 t104) ∧ (Kd.R k37 37 w' w.heap.size (fun k_ => some k_ ≠ (s_.1 : Value).ownBlock ∧ k_ ≠ gb102) s_.2 y107) ∧ (w'.heap[gb101]? = some (.cells #[.int .i64 a0_0, .int .i64 a0_1, .slice A0_2 l0_2.length c0_2] 33 (0, 0))) ∧ (w'.heap[gb102]? = some (.cells #[.int .i64 a1_0, .int .i64 a1_1, .int .i64 a1_2] 37 (0, 0))) ∧ (w'.heap[gb103]? = some (.cells #[.int .i64 0, .int .i64 0, .slice none 0 0] 33 (0, 0))) ∧ (Below w.heap.size w w')) ?_ ?_
      rotate_left
      ·intro hJ4_6
       refine join_ (σ := Value × Nat) 4 #[true, true, true, true, true, true, false, false, false, true, false] (fun s_ => [(11, s_.1), (6, .pointer (some ⟨s_.2, 0, none⟩))]) (fun s_ w' => (w'.cell? ⟨gb101, 0, none⟩ = some (.int .i64 a0_0) ∧ w'.cell? ⟨gb101, 1, none⟩ = some (.int .i64 a0_1) ∧ w'.cell? ⟨gb101, 2, none⟩ = some (.slice A0_2 l0_2.length c0_2) ∧ w'.cell? ⟨gb102, 0, none⟩ = some (.int .i64 a1_0) ∧ w'.cell? ⟨gb102, 1, none⟩ = some (.int .i64 a1_1) ∧ w'.cell? ⟨gb102, 2, none⟩ = some (.int .i64 a1_2)) ∧ (Kd.R k37 37 w' w.heap.size (fun k_ => k_ ≠ gb102) s_.1 t104) ∧ (w'.heap[gb101]? = some (.cells #[.int .i64 a0_0, .int .i64 a0_1, .slice A0_2 l0_2.length c0_2] 33 (0, 0))) ∧ (w'.heap[gb102]? = some (.cells #[.int .i64 a1_0, .int .i64 a1_1, .int .i64 a1_2] 37 (0, 0))) ∧ (w'.heap[gb103]? = some (.cells #[.int .i64 0, .int .i64 0, .slice none 0 0] 33 (0, 0))) ∧ (w'.heap[s_.2]? = some (.cells #[.int .i64 0, .int .i64 0, .slice none 0 0] 33 (0, 0))) ∧ (w.heap.size ≤ s_.2) ∧ (w.heap.size ≤ s_.2) ∧ (gb101 ≠ s_.2) ∧ (s_.2 ≠ gb101) ∧ (gb102 ≠ s_.2) ∧ (s_.2 ≠ gb102) ∧ (gb103 ≠ s_.2) ∧ (s_.2 ≠ gb103) ∧ (Below w.heap.size w w')) ?_ ?_
       rotate_left
       ·intro hJ4_9
        refine join_ (σ := Value × Nat) 4 #[true, true, true, true, false, true, true, false, false, true, false] (fun s_ => [(13, s_.1), (6, .pointer (some ⟨s_.2, 0, none⟩))]) (fun s_ w' => (w'.cell? ⟨gb101, 0, none⟩ = some (.int .i64 a0_0) ∧ w'.cell? ⟨gb101, 1, none⟩ = some (.int .i64 a0_1) ∧ w'.cell? ⟨gb101, 2, none⟩ = some (.slice A0_2 l0_2.length c0_2) ∧ w'.cell? ⟨gb102, 0, none⟩ = some (.int .i64 a1_0) ∧ w'.cell? ⟨gb102, 1, none⟩ = some (.int .i64 a1_1) ∧ w'.cell? ⟨gb102, 2, none⟩ = some (.int .i64 a1_2)) ∧ (Kd.R k37 37 w' w.heap.size (fun k_ => k_ ≠ gb102) s_.1 y107) ∧ (w'.heap[gb101]? = some (.cells #[.int .i64 a0_0, .int .i64 a0_1, .slice A0_2 l0_2.length c0_2] 33 (0, 0))) ∧ (w'.heap[gb102]? = some (.cells #[.int .i64 a1_0, .int .i64 a1_1, .int .i64 a1_2] 37 (0, 0))) ∧ (w'.heap[gb103]? = some (.cells #[.int .i64 0, .int .i64 0, .slice none 0 0] 33 (0, 0))) ∧ (w'.heap[s_.2]? = some (.cells #[.int .i64 0, .int .i64 0, .slice none 0 0] 33 (0, 0))) ∧ (w.heap.size ≤ s_.2) ∧ (w.heap.size ≤ s_.2) ∧ (gb101 ≠ s_.2) ∧ (s_.2 ≠ gb101) ∧ (gb102 ≠ s_.2) ∧ (s_.2 ≠ gb102) ∧ (gb103 ≠ s_.2) ∧ (s_.2 ≠ gb103) ∧ (Below w.heap.size w w')) ?_ ?_
        rotate_left
        ·intro hJ6_9
         refine join_ (σ := Value) 5 #[true, true, true, true, true, true, false, false, false, false, false] (fun s_ => [(11, s_)]) (fun s_ w' => (w'.cell? ⟨gb101, 0, none⟩ = some (.int .i64 a0_0) ∧ w'.cell? ⟨gb101, 1, none⟩ = some (.int .i64 a0_1) ∧ w'.cell? ⟨gb101, 2, none⟩ = some (.slice A0_2 l0_2.length c0_2) ∧ w'.cell? ⟨gb102, 0, none⟩ = some (.int .i64 a1_0) ∧ w'.cell? ⟨gb102, 1, none⟩ = some (.int .i64 a1_1) ∧ w'.cell? ⟨gb102, 2, none⟩ = some (.int .i64 a1_2)) ∧ (Kd.R k37 37 w' w.heap.size (fun k_ => k_ ≠ gb102) s_ t104) ∧ (w'.heap[gb101]? = some (.cells #[.int .i64 a0_0, .int .i64 a0_1, .slice A0_2 l0_2.length c0_2] 33 (0, 0))) ∧ (w'.heap[gb102]? = some (.cells #[.int .i64 a1_0, .int .i64 a1_1, .int .i64 a1_2] 37 (0, 0))) ∧ (w'.heap[gb103]? = some (.cells #[.int .i64 0, .int .i64 0, .slice none 0 0] 33 (0, 0))) ∧ (Below w.heap.size w w')) ?_ ?_
         rotate_left
         ·intro hJ4
          refine join_ (σ := Value) 5 #[true, true, true, true, false, true, true, false, false, false, false] (fun s_ => [(13, s_)]) (fun s_ w' => (w'.cell? ⟨gb101, 0, none⟩ = some (.int .i64 a0_0) ∧ w'.cell? ⟨gb101, 1, none⟩ = some (.int .i64 a0_1) ∧ w'.cell? ⟨gb101, 2, none⟩ = some (.slice A0_2 l0_2.length c0_2) ∧ w'.cell? ⟨gb102, 0, none⟩ = some (.int .i64 a1_0) ∧ w'.cell? ⟨gb102, 1, none⟩ = some (.int .i64 a1_1) ∧ w'.cell? ⟨gb102, 2, none⟩ = some (.int .i64 a1_2)) ∧ (Kd.R k37 37 w' w.heap.size (fun k_ => k_ ≠ gb102) s_ y107) ∧ (w'.heap[gb101]? = some (.cells #[.int .i64 a0_0, .int .i64 a0_1, .slice A0_2 l0_2.length c0_2] 33 (0, 0))) ∧ (w'.heap[gb102]? = some (.cells #[.int .i64 a1_0, .int .i64 a1_1, .int .i64 a1_2] 37 (0, 0))) ∧ (w'.heap[gb103]? = some (.cells #[.int .i64 0, .int .i64 0, .slice none 0 0] 33 (0, 0))) ∧ (Below w.heap.size w w')) ?_ ?_
          rotate_left
          ·intro hJ6
           refine join_ (σ := Nat) 5 #[true, true, true, true, false, true, false, false, false, true, false] (fun s_ => [(6, .pointer (some ⟨s_, 0, none⟩))]) (fun s_ w' => (w'.cell? ⟨gb101, 0, none⟩ = some (.int .i64 a0_0) ∧ w'.cell? ⟨gb101, 1, none⟩ = some (.int .i64 a0_1) ∧ w'.cell? ⟨gb101, 2, none⟩ = some (.slice A0_2 l0_2.length c0_2) ∧ w'.cell? ⟨gb102, 0, none⟩ = some (.int .i64 a1_0) ∧ w'.cell? ⟨gb102, 1, none⟩ = some (.int .i64 a1_1) ∧ w'.cell? ⟨gb102, 2, none⟩ = some (.int .i64 a1_2)) ∧ (w'.heap[gb101]? = some (.cells #[.int .i64 a0_0, .int .i64 a0_1, .slice A0_2 l0_2.length c0_2] 33 (0, 0))) ∧ (w'.heap[gb102]? = some (.cells #[.int .i64 a1_0, .int .i64 a1_1, .int .i64 a1_2] 37 (0, 0))) ∧ (w'.heap[gb103]? = some (.cells #[.int .i64 0, .int .i64 0, .slice none 0 0] 33 (0, 0))) ∧ (w'.heap[s_]? = some (.cells #[.int .i64 0, .int .i64 0, .slice none 0 0] 33 (0, 0))) ∧ (w.heap.size ≤ s_) ∧ (w.heap.size ≤ s_) ∧ (gb101 ≠ s_) ∧ (s_ ≠ gb101) ∧ (gb102 ≠ s_) ∧ (s_ ≠ gb102) ∧ (gb103 ≠ s_) ∧ (s_ ≠ gb103) ∧ (Below w.heap.size w w')) ?_ ?_
           rotate_left
           ·intro hJ9
            refine three_ (i := 4) (j := 6) (k := 9) (Ni := some 11) (Nj := some 13) (Nk := some 6) #[true, true, true, true, true, true, false, false, false, false, false] #[true, true, true, true, false, true, true, false, false, false, false] #[true, true, true, true, false, true, false, false, false, true, false] rfl rfl rfl rfl rfl rfl (three_of HT_.out (by kernel_rfl)) (by decide) (by decide) (by decide) (fun K hK => ?_) (fun K hK => ?_) (fun K hK => ?_)
            ·skip
             refine uGs Try.func44 #[.slice A0_2 l0_2.length c0_2] ?_
             with_reducible refine (impl_Clue_44.calls _ _ l0_2 t104 _ ?side1 ?side2 A3.out).mono ?_
             (case side1 => repeat (first | exact (Kd.C_below HR0_2.out HB.out) | (with_reducible refine cA ?_ _) | (with_reducible refine cN ?_ _) | (with_reducible refine cD ?_)))
             (case side2 => exact HC0_2.out)
             rintro e w11 ⟨v105, rfl, ho0, hb⟩
             refine ⟨_, rfl, ?_⟩
             have HO106 := am (Kd.R_lower (Kd.R_newB ho0 (uP BK102)) (below_size uW))
             replace BK101 := uB BK101 hb
             replace BK102 := uB BK102 hb
             replace BK103 := uB BK103 hb
             replace HB := uS hb
             (try clear hb)
             (try clear hb2)
             (try clear hk)
             (try clear hi)
             (try clear ho0)
             refine hK.out _ _ ⟨uT BK101 0, uT BK101 1, uT BK101 2, uT BK102 0, uT BK102 1, uT BK102 2⟩ (fun hHeld => ?_)
             clear hK K
             refine uNo (some 11) ?_
             exact norm_ (by first | (simp only [putAll, Act.put, List.setIfInBounds_toArray, List.set_cons_zero, List.set_cons_succ]; done) | (simp only [putAll, Act.put, List.setIfInBounds_toArray, List.set_cons_zero, List.set_cons_succ]; rfl)) (hJ4 (v105) _ ⟨hHeld, (by (with_reducible repeat (first | apply rA | apply rN | apply rD)); exact Kd.R_mono HO106.out (fun _ hk => hk.2)), (uP BK101), (uP BK102), (uP BK103), uW⟩)
            ·skip
             refine Kd.R_lit_step k37 _ 37 ?hg (N := 13) ?hd (xs := ([(⟨a1_0, a1_1, a1_2⟩ : S37)] : List (S37))) (inner := [.int .i64 a1_0, .int .i64 a1_1, .int .i64 a1_2]) (ok := fun _ => True) (okp := fun _ => True) ?hr ?hp (fun _ hk => hk) trivial (Below.refl _ _) (Nat.le_refl _) (by simp) ?_; (case hd => rfl); (case hg => rfl); (case hr => first | (go_simp; done) | (go_simp; rfl)); (case hp => exact (Reps.c3 (show Kd.M k37 _ _ _ (⟨a1_0, a1_1, a1_2⟩ : S37) [.int .i64 a1_0, .int .i64 a1_1, .int .i64 a1_2] from (k37_mkM _ _ _ (⟨a1_0, a1_1, a1_2⟩ : S37) )) (Reps.none _ _)))
             intro v108 w11 ho12 hb hg_ hnew_
             clear hg_ hnew_
             (first | rw [← Ny107.out] at ho12 | (simp only [Int.reduceToNat] at ho12; rw [← Ny107.out] at ho12))
             have HO109 := am (Kd.R_lower (Kd.R_newB ho12 (uP BK102)) (below_size uW))
             replace BK101 := uB BK101 hb
             replace BK102 := uB BK102 hb
             replace BK103 := uB BK103 hb
             replace HB := uS hb
             clear hb ho12
             refine hK.out _ _ ⟨uT BK101 0, uT BK101 1, uT BK101 2, uT BK102 0, uT BK102 1, uT BK102 2⟩ (fun hHeld => ?_)
             clear hK K
             refine uNo (some 13) ?_
             exact norm_ (by first | (simp only [putAll, Act.put, List.setIfInBounds_toArray, List.set_cons_zero, List.set_cons_succ]; done) | (simp only [putAll, Act.put, List.setIfInBounds_toArray, List.set_cons_zero, List.set_cons_succ]; rfl)) (hJ6 (v108) _ ⟨hHeld, (by (with_reducible repeat (first | apply rA | apply rN | apply rD)); exact Kd.R_mono HO109.out (fun _ hk => hk.2)), (uP BK101), (uP BK102), (uP BK103), uW⟩)
            ·skip
             refine box_step ?hg (N := 6) ?hd (cs := #[.int .i64 0, .int .i64 0, .slice none 0 0]) (t := 33) ?hr ?_; (case hd => rfl); (case hg => rfl); (case hr => first | (go_simp; done) | (go_simp; rfl))
             intro gb113 hg w11 hbox hb
             have BK113 := am (hbox)
             have GW113 := uE hg
             have GE113 := GW113
             have NB101_113 := uL BK101 hg
             have NB113_101 := uY NB101_113
             have NB102_113 := uL BK102 hg
             have NB113_102 := uY NB102_113
             have NB103_113 := uL BK103 hg
             have NB113_103 := uY NB103_113
             replace BK101 := uB BK101 hb
             replace BK102 := uB BK102 hb
             replace BK103 := uB BK103 hb
             replace HB := uS hb
             clear hb hbox hg
             refine hK.out _ _ ⟨uT BK101 0, uT BK101 1, uT BK101 2, uT BK102 0, uT BK102 1, uT BK102 2⟩ (fun hHeld => ?_)
             clear hK K
             refine uNo (some 6) ?_
             exact norm_ (by first | (simp only [putAll, Act.put, List.setIfInBounds_toArray, List.set_cons_zero, List.set_cons_succ]; done) | (simp only [putAll, Act.put, List.setIfInBounds_toArray, List.set_cons_zero, List.set_cons_succ]; rfl)) (hJ9 (gb113) _ ⟨hHeld, (uP BK101), (uP BK102), (uP BK103), (uP BK113), GW113.out, GE113.out, NB101_113.out, NB113_101.out, NB102_113.out, NB113_102.out, NB103_113.out, NB113_103.out, uW⟩)
           ·skip
            rintro gb113 w12 ⟨hS_, h0_, h1_, h2_, h3_, h4_, h5_, h6_, h7_, h8_, h9_, h10_, h11_, h12_⟩
            have n0_ : Aside0 (w12.heap[gb101]? = some (.cells #[.int .i64 a0_0, .int .i64 a0_1, .slice A0_2 l0_2.length c0_2] 33 (0, 0))) := ⟨h0_⟩
            have n1_ : Aside0 (w12.heap[gb102]? = some (.cells #[.int .i64 a1_0, .int .i64 a1_1, .int .i64 a1_2] 37 (0, 0))) := ⟨h1_⟩
            have n2_ : Aside0 (w12.heap[gb103]? = some (.cells #[.int .i64 0, .int .i64 0, .slice none 0 0] 33 (0, 0))) := ⟨h2_⟩
            have n3_ : Aside0 (w12.heap[gb113]? = some (.cells #[.int .i64 0, .int .i64 0, .slice none 0 0] 33 (0, 0))) := ⟨h3_⟩
            have n4_ : Aside0 (w.heap.size ≤ gb113) := ⟨h4_⟩
            have n5_ : Aside0 (w.heap.size ≤ gb113) := ⟨h5_⟩
            have n6_ : Aside0 (gb101 ≠ gb113) := ⟨h6_⟩
            have n7_ : Aside0 (gb113 ≠ gb101) := ⟨h7_⟩
            have n8_ : Aside0 (gb102 ≠ gb113) := ⟨h8_⟩
            have n9_ : Aside0 (gb113 ≠ gb102) := ⟨h9_⟩
            have n10_ : Aside0 (gb103 ≠ gb113) := ⟨h10_⟩
            have n11_ : Aside0 (gb113 ≠ gb103) := ⟨h11_⟩
            have n12_ : Aside0 (Below w.heap.size w w12) := ⟨h12_⟩
            clear BK101
            clear BK102
            clear BK103
            clear HB
            clear h0_ h1_ h2_ h3_ h4_ h5_ h6_ h7_ h8_ h9_ h10_ h11_ h12_
            have BK101 := n0_
            have BK102 := n1_
            have BK103 := n2_
            have BK113 := n3_
            have GW113 := n4_
            have GE113 := n5_
            have NB101_113 := n6_
            have NB113_101 := n7_
            have NB102_113 := n8_
            have NB113_102 := n9_
            have NB103_113 := n10_
            have NB113_103 := n11_
            have HB := n12_
            clear n0_ n1_ n2_ n3_ n4_ n5_ n6_ n7_ n8_ n9_ n10_ n11_ n12_
            have hHeld : w12.cell? ⟨gb101, 0, none⟩ = some (.int .i64 a0_0) ∧ w12.cell? ⟨gb101, 1, none⟩ = some (.int .i64 a0_1) ∧ w12.cell? ⟨gb101, 2, none⟩ = some (.slice A0_2 l0_2.length c0_2) ∧ w12.cell? ⟨gb102, 0, none⟩ = some (.int .i64 a1_0) ∧ w12.cell? ⟨gb102, 1, none⟩ = some (.int .i64 a1_1) ∧ w12.cell? ⟨gb102, 2, none⟩ = some (.int .i64 a1_2) := hS_
            refine uNp ?_
            refine two_ (i := 4) (j := 6) (Ni := some 11) (Nj := some 13) #[true, true, true, true, true, true, false, false, false, true, false] #[true, true, true, true, false, true, true, false, false, true, false] rfl rfl rfl rfl (two_of HT_.out (by kernel_rfl)) (by decide) (by decide) (fun K hK => ?_) (fun K hK => ?_)
            ·skip
             refine uGs Try.func44 #[.slice A0_2 l0_2.length c0_2] ?_
             with_reducible refine (impl_Clue_44.calls _ _ l0_2 t104 _ ?side1 ?side2 A3.out).mono ?_
             (case side1 => repeat (first | exact (Kd.C_below HR0_2.out HB.out) | (with_reducible refine cA ?_ _) | (with_reducible refine cN ?_ _) | (with_reducible refine cD ?_)))
             (case side2 => exact HC0_2.out)
             rintro e w13 ⟨v105, rfl, ho0, hb⟩
             refine ⟨_, rfl, ?_⟩
             have HO106 := am (Kd.R_lower (Kd.R_newB ho0 (uP BK102)) (below_size uW))
             replace BK101 := uB BK101 hb
             replace BK102 := uB BK102 hb
             replace BK103 := uB BK103 hb
             replace BK113 := uB BK113 hb
             replace HB := uS hb
             (try clear hb)
             (try clear hb2)
             (try clear hk)
             (try clear hi)
             (try clear ho0)
             refine hK.out _ _ ⟨uT BK101 0, uT BK101 1, uT BK101 2, uT BK102 0, uT BK102 1, uT BK102 2⟩ (fun hHeld => ?_)
             clear hK K
             refine uNo (some 11) ?_
             exact norm_ (by first | (simp only [putAll, Act.put, List.setIfInBounds_toArray, List.set_cons_zero, List.set_cons_succ]; done) | (simp only [putAll, Act.put, List.setIfInBounds_toArray, List.set_cons_zero, List.set_cons_succ]; rfl)) (hJ4_9 (v105, gb113) _ ⟨hHeld, (by (with_reducible repeat (first | apply rA | apply rN | apply rD)); exact Kd.R_mono HO106.out (fun _ hk => hk.2)), (uP BK101), (uP BK102), (uP BK103), (uP BK113), GW113.out, GE113.out, NB101_113.out, NB113_101.out, NB102_113.out, NB113_102.out, NB103_113.out, NB113_103.out, uW⟩)
            ·skip
             refine Kd.R_lit_step k37 _ 37 ?hg (N := 13) ?hd (xs := ([(⟨a1_0, a1_1, a1_2⟩ : S37)] : List (S37))) (inner := [.int .i64 a1_0, .int .i64 a1_1, .int .i64 a1_2]) (ok := fun _ => True) (okp := fun _ => True) ?hr ?hp (fun _ hk => hk) trivial (Below.refl _ _) (Nat.le_refl _) (by simp) ?_; (case hd => rfl); (case hg => rfl); (case hr => first | (go_simp; done) | (go_simp; rfl)); (case hp => exact (Reps.c3 (show Kd.M k37 _ _ _ (⟨a1_0, a1_1, a1_2⟩ : S37) [.int .i64 a1_0, .int .i64 a1_1, .int .i64 a1_2] from (k37_mkM _ _ _ (⟨a1_0, a1_1, a1_2⟩ : S37) )) (Reps.none _ _)))
             intro v108 w13 ho14 hb hg_ hnew_
             clear hg_ hnew_
             (first | rw [← Ny107.out] at ho14 | (simp only [Int.reduceToNat] at ho14; rw [← Ny107.out] at ho14))
             have HO109 := am (Kd.R_lower (Kd.R_newB ho14 (uP BK102)) (below_size uW))
             replace BK101 := uB BK101 hb
             replace BK102 := uB BK102 hb
             replace BK103 := uB BK103 hb
             replace BK113 := uB BK113 hb
             replace HB := uS hb
             clear hb ho14
             refine hK.out _ _ ⟨uT BK101 0, uT BK101 1, uT BK101 2, uT BK102 0, uT BK102 1, uT BK102 2⟩ (fun hHeld => ?_)
             clear hK K
             refine uNo (some 13) ?_
             exact norm_ (by first | (simp only [putAll, Act.put, List.setIfInBounds_toArray, List.set_cons_zero, List.set_cons_succ]; done) | (simp only [putAll, Act.put, List.setIfInBounds_toArray, List.set_cons_zero, List.set_cons_succ]; rfl)) (hJ6_9 (v108, gb113) _ ⟨hHeld, (by (with_reducible repeat (first | apply rA | apply rN | apply rD)); exact Kd.R_mono HO109.out (fun _ hk => hk.2)), (uP BK101), (uP BK102), (uP BK103), (uP BK113), GW113.out, GE113.out, NB101_113.out, NB113_101.out, NB102_113.out, NB113_102.out, NB103_113.out, NB113_103.out, uW⟩)
          ·skip
           rintro v108 w13 ⟨hS_, h0_, h1_, h2_, h3_, h4_⟩
           have n0_ : Aside0 (Kd.R k37 37 w13 w.heap.size (fun k_ => k_ ≠ gb102) v108 y107) := ⟨h0_⟩
           have n1_ : Aside0 (w13.heap[gb101]? = some (.cells #[.int .i64 a0_0, .int .i64 a0_1, .slice A0_2 l0_2.length c0_2] 33 (0, 0))) := ⟨h1_⟩
           have n2_ : Aside0 (w13.heap[gb102]? = some (.cells #[.int .i64 a1_0, .int .i64 a1_1, .int .i64 a1_2] 37 (0, 0))) := ⟨h2_⟩
           have n3_ : Aside0 (w13.heap[gb103]? = some (.cells #[.int .i64 0, .int .i64 0, .slice none 0 0] 33 (0, 0))) := ⟨h3_⟩
           have n4_ : Aside0 (Below w.heap.size w w13) := ⟨h4_⟩
           clear BK101
           clear BK102
           clear BK103
           clear HB
           clear h0_ h1_ h2_ h3_ h4_
           have HO109 := n0_
           have BK101 := n1_
           have BK102 := n2_
           have BK103 := n3_
           have HB := n4_
           clear n0_ n1_ n2_ n3_ n4_
           have hHeld : w13.cell? ⟨gb101, 0, none⟩ = some (.int .i64 a0_0) ∧ w13.cell? ⟨gb101, 1, none⟩ = some (.int .i64 a0_1) ∧ w13.cell? ⟨gb101, 2, none⟩ = some (.slice A0_2 l0_2.length c0_2) ∧ w13.cell? ⟨gb102, 0, none⟩ = some (.int .i64 a1_0) ∧ w13.cell? ⟨gb102, 1, none⟩ = some (.int .i64 a1_1) ∧ w13.cell? ⟨gb102, 2, none⟩ = some (.int .i64 a1_2) := hS_
           refine uNp ?_
           refine two_ (i := 4) (j := 9) (Ni := some 11) (Nj := some 6) #[true, true, true, true, true, true, true, false, false, false, false] #[true, true, true, true, false, true, true, false, false, true, false] rfl rfl rfl rfl (two_of HT_.out (by kernel_rfl)) (by decide) (by decide) (fun K hK => ?_) (fun K hK => ?_)
           ·skip
            refine uGs Try.func44 #[.slice A0_2 l0_2.length c0_2] ?_
            with_reducible refine (impl_Clue_44.calls _ _ l0_2 t104 _ ?side1 ?side2 A3.out).mono ?_
            (case side1 => repeat (first | exact (Kd.C_below HR0_2.out HB.out) | (with_reducible refine cA ?_ _) | (with_reducible refine cN ?_ _) | (with_reducible refine cD ?_)))
            (case side2 => exact HC0_2.out)
            rintro e w14 ⟨v105, rfl, ho0, hb⟩
            refine ⟨_, rfl, ?_⟩
            have HO106 := am (Kd.R_lower (Kd.R_newB (Kd.R_new' ho0 (Kd.R_lt (uR HO109))) (uP BK102)) (below_size uW))
            replace HO109 := am (Kd.R_elder' (uR HO109) (Kd.R_base ho0) hb)
            replace BK101 := uB BK101 hb
            replace BK102 := uB BK102 hb
            replace BK103 := uB BK103 hb
            replace HB := uS hb
            (try clear hb)
            (try clear hb2)
            (try clear hk)
            (try clear hi)
            (try clear ho0)
            refine hK.out _ _ ⟨uT BK101 0, uT BK101 1, uT BK101 2, uT BK102 0, uT BK102 1, uT BK102 2⟩ (fun hHeld => ?_)
            clear hK K
            refine uNo (some 11) ?_
            exact norm_ (by first | (simp only [putAll, Act.put, List.setIfInBounds_toArray, List.set_cons_zero, List.set_cons_succ]; done) | (simp only [putAll, Act.put, List.setIfInBounds_toArray, List.set_cons_zero, List.set_cons_succ]; rfl)) (hJ4_6 (v105, v108) _ ⟨hHeld, (by (with_reducible repeat (first | apply rA | apply rN | apply rD)); exact Kd.R_mono HO106.out (fun _ hk => ⟨hk.1.2, hk.2⟩)), (by (with_reducible repeat (first | apply rA | apply rN | apply rD)); exact Kd.R_mono HO109.out (fun _ hk => ⟨hk.2, hk.1⟩)), (uP BK101), (uP BK102), (uP BK103), uW⟩)
           ·skip
            refine box_step ?hg (N := 6) ?hd (cs := #[.int .i64 0, .int .i64 0, .slice none 0 0]) (t := 33) ?hr ?_; (case hd => rfl); (case hg => rfl); (case hr => first | (go_simp; done) | (go_simp; rfl))
            intro gb113 hg w14 hbox hb
            have BK113 := am (hbox)
            have GW113 := uE hg
            have GE113 := GW113
            have NB101_113 := uL BK101 hg
            have NB113_101 := uY NB101_113
            have NB102_113 := uL BK102 hg
            have NB113_102 := uY NB102_113
            have NB103_113 := uL BK103 hg
            have NB113_103 := uY NB103_113
            replace HO109 := am (Kd.R_below (uR HO109) hb)
            replace BK101 := uB BK101 hb
            replace BK102 := uB BK102 hb
            replace BK103 := uB BK103 hb
            replace HB := uS hb
            clear hb hbox hg
            refine hK.out _ _ ⟨uT BK101 0, uT BK101 1, uT BK101 2, uT BK102 0, uT BK102 1, uT BK102 2⟩ (fun hHeld => ?_)
            clear hK K
            refine uNo (some 6) ?_
            exact norm_ (by first | (simp only [putAll, Act.put, List.setIfInBounds_toArray, List.set_cons_zero, List.set_cons_succ]; done) | (simp only [putAll, Act.put, List.setIfInBounds_toArray, List.set_cons_zero, List.set_cons_succ]; rfl)) (hJ6_9 (v108, gb113) _ ⟨hHeld, (uR HO109), (uP BK101), (uP BK102), (uP BK103), (uP BK113), GW113.out, GE113.out, NB101_113.out, NB113_101.out, NB102_113.out, NB113_102.out, NB103_113.out, NB113_103.out, uW⟩)
         ·skip
          rintro v105 w12 ⟨hS_, h0_, h1_, h2_, h3_, h4_⟩
          have n0_ : Aside0 (Kd.R k37 37 w12 w.heap.size (fun k_ => k_ ≠ gb102) v105 t104) := ⟨h0_⟩
          have n1_ : Aside0 (w12.heap[gb101]? = some (.cells #[.int .i64 a0_0, .int .i64 a0_1, .slice A0_2 l0_2.length c0_2] 33 (0, 0))) := ⟨h1_⟩
          have n2_ : Aside0 (w12.heap[gb102]? = some (.cells #[.int .i64 a1_0, .int .i64 a1_1, .int .i64 a1_2] 37 (0, 0))) := ⟨h2_⟩
          have n3_ : Aside0 (w12.heap[gb103]? = some (.cells #[.int .i64 0, .int .i64 0, .slice none 0 0] 33 (0, 0))) := ⟨h3_⟩
          have n4_ : Aside0 (Below w.heap.size w w12) := ⟨h4_⟩
          clear BK101
          clear BK102
          clear BK103
          clear HB
          clear h0_ h1_ h2_ h3_ h4_
          have HO106 := n0_
          have BK101 := n1_
          have BK102 := n2_
          have BK103 := n3_
          have HB := n4_
          clear n0_ n1_ n2_ n3_ n4_
          have hHeld : w12.cell? ⟨gb101, 0, none⟩ = some (.int .i64 a0_0) ∧ w12.cell? ⟨gb101, 1, none⟩ = some (.int .i64 a0_1) ∧ w12.cell? ⟨gb101, 2, none⟩ = some (.slice A0_2 l0_2.length c0_2) ∧ w12.cell? ⟨gb102, 0, none⟩ = some (.int .i64 a1_0) ∧ w12.cell? ⟨gb102, 1, none⟩ = some (.int .i64 a1_1) ∧ w12.cell? ⟨gb102, 2, none⟩ = some (.int .i64 a1_2) := hS_
          refine uNp ?_
          refine two_ (i := 6) (j := 9) (Ni := some 13) (Nj := some 6) #[true, true, true, true, true, true, true, false, false, false, false] #[true, true, true, true, true, true, false, false, false, true, false] rfl rfl rfl rfl (two_of HT_.out (by kernel_rfl)) (by decide) (by decide) (fun K hK => ?_) (fun K hK => ?_)
          ·skip
           refine Kd.R_lit_step k37 _ 37 ?hg (N := 13) ?hd (xs := ([(⟨a1_0, a1_1, a1_2⟩ : S37)] : List (S37))) (inner := [.int .i64 a1_0, .int .i64 a1_1, .int .i64 a1_2]) (ok := fun _ => True) (okp := fun _ => True) ?hr ?hp (fun _ hk => hk) trivial (Below.refl _ _) (Nat.le_refl _) (by simp) ?_; (case hd => rfl); (case hg => rfl); (case hr => first | (go_simp; done) | (go_simp; rfl)); (case hp => exact (Reps.c3 (show Kd.M k37 _ _ _ (⟨a1_0, a1_1, a1_2⟩ : S37) [.int .i64 a1_0, .int .i64 a1_1, .int .i64 a1_2] from (k37_mkM _ _ _ (⟨a1_0, a1_1, a1_2⟩ : S37) )) (Reps.none _ _)))
           intro v108 w13 ho14 hb hg_ hnew_
           clear hg_ hnew_
           (first | rw [← Ny107.out] at ho14 | (simp only [Int.reduceToNat] at ho14; rw [← Ny107.out] at ho14))
           have HO109 := am (Kd.R_lower (Kd.R_newB (Kd.R_new' ho14 (Kd.R_lt (uR HO106))) (uP BK102)) (below_size uW))
           replace HO106 := am (Kd.R_elder' (uR HO106) (Kd.R_base ho14) hb)
           replace BK101 := uB BK101 hb
           replace BK102 := uB BK102 hb
           replace BK103 := uB BK103 hb
           replace HB := uS hb
           clear hb ho14
           refine hK.out _ _ ⟨uT BK101 0, uT BK101 1, uT BK101 2, uT BK102 0, uT BK102 1, uT BK102 2⟩ (fun hHeld => ?_)
           clear hK K
           refine uNo (some 13) ?_
           exact norm_ (by first | (simp only [putAll, Act.put, List.setIfInBounds_toArray, List.set_cons_zero, List.set_cons_succ]; done) | (simp only [putAll, Act.put, List.setIfInBounds_toArray, List.set_cons_zero, List.set_cons_succ]; rfl)) (hJ4_6 (v105, v108) _ ⟨hHeld, (by (with_reducible repeat (first | apply rA | apply rN | apply rD)); exact Kd.R_mono HO106.out (fun _ hk => ⟨hk.2, hk.1⟩)), (by (with_reducible repeat (first | apply rA | apply rN | apply rD)); exact Kd.R_mono HO109.out (fun _ hk => ⟨hk.1.2, hk.2⟩)), (uP BK101), (uP BK102), (uP BK103), uW⟩)
          ·skip
           refine box_step ?hg (N := 6) ?hd (cs := #[.int .i64 0, .int .i64 0, .slice none 0 0]) (t := 33) ?hr ?_; (case hd => rfl); (case hg => rfl); (case hr => first | (go_simp; done) | (go_simp; rfl))
           intro gb113 hg w13 hbox hb
           have BK113 := am (hbox)
           have GW113 := uE hg
           have GE113 := GW113
           have NB101_113 := uL BK101 hg
           have NB113_101 := uY NB101_113
           have NB102_113 := uL BK102 hg
           have NB113_102 := uY NB102_113
           have NB103_113 := uL BK103 hg
           have NB113_103 := uY NB103_113
           replace HO106 := am (Kd.R_below (uR HO106) hb)
           replace BK101 := uB BK101 hb
           replace BK102 := uB BK102 hb
           replace BK103 := uB BK103 hb
           replace HB := uS hb
           clear hb hbox hg
           refine hK.out _ _ ⟨uT BK101 0, uT BK101 1, uT BK101 2, uT BK102 0, uT BK102 1, uT BK102 2⟩ (fun hHeld => ?_)
           clear hK K
           refine uNo (some 6) ?_
           exact norm_ (by first | (simp only [putAll, Act.put, List.setIfInBounds_toArray, List.set_cons_zero, List.set_cons_succ]; done) | (simp only [putAll, Act.put, List.setIfInBounds_toArray, List.set_cons_zero, List.set_cons_succ]; rfl)) (hJ4_9 (v105, gb113) _ ⟨hHeld, (uR HO106), (uP BK101), (uP BK102), (uP BK103), (uP BK113), GW113.out, GE113.out, NB101_113.out, NB113_101.out, NB102_113.out, NB113_102.out, NB103_113.out, NB113_103.out, uW⟩)
        ·skip
         rintro ⟨v108, gb113⟩ w14 ⟨hS_, h0_, h1_, h2_, h3_, h4_, h5_, h6_, h7_, h8_, h9_, h10_, h11_, h12_, h13_⟩
         have n0_ : Aside0 (Kd.R k37 37 w14 w.heap.size (fun k_ => k_ ≠ gb102) v108 y107) := ⟨h0_⟩
         have n1_ : Aside0 (w14.heap[gb101]? = some (.cells #[.int .i64 a0_0, .int .i64 a0_1, .slice A0_2 l0_2.length c0_2] 33 (0, 0))) := ⟨h1_⟩
         have n2_ : Aside0 (w14.heap[gb102]? = some (.cells #[.int .i64 a1_0, .int .i64 a1_1, .int .i64 a1_2] 37 (0, 0))) := ⟨h2_⟩
         have n3_ : Aside0 (w14.heap[gb103]? = some (.cells #[.int .i64 0, .int .i64 0, .slice none 0 0] 33 (0, 0))) := ⟨h3_⟩
         have n4_ : Aside0 (w14.heap[gb113]? = some (.cells #[.int .i64 0, .int .i64 0, .slice none 0 0] 33 (0, 0))) := ⟨h4_⟩
         have n5_ : Aside0 (w.heap.size ≤ gb113) := ⟨h5_⟩
         have n6_ : Aside0 (w.heap.size ≤ gb113) := ⟨h6_⟩
         have n7_ : Aside0 (gb101 ≠ gb113) := ⟨h7_⟩
         have n8_ : Aside0 (gb113 ≠ gb101) := ⟨h8_⟩
         have n9_ : Aside0 (gb102 ≠ gb113) := ⟨h9_⟩
         have n10_ : Aside0 (gb113 ≠ gb102) := ⟨h10_⟩
         have n11_ : Aside0 (gb103 ≠ gb113) := ⟨h11_⟩
         have n12_ : Aside0 (gb113 ≠ gb103) := ⟨h12_⟩
         have n13_ : Aside0 (Below w.heap.size w w14) := ⟨h13_⟩
         clear BK101
         clear BK102
         clear BK103
         clear HB
         clear h0_ h1_ h2_ h3_ h4_ h5_ h6_ h7_ h8_ h9_ h10_ h11_ h12_ h13_
         have HO109 := n0_
         have BK101 := n1_
         have BK102 := n2_
         have BK103 := n3_
         have BK113 := n4_
         have GW113 := n5_
         have GE113 := n6_
         have NB101_113 := n7_
         have NB113_101 := n8_
         have NB102_113 := n9_
         have NB113_102 := n10_
         have NB103_113 := n11_
         have NB113_103 := n12_
         have HB := n13_
         clear n0_ n1_ n2_ n3_ n4_ n5_ n6_ n7_ n8_ n9_ n10_ n11_ n12_ n13_
         have hHeld : w14.cell? ⟨gb101, 0, none⟩ = some (.int .i64 a0_0) ∧ w14.cell? ⟨gb101, 1, none⟩ = some (.int .i64 a0_1) ∧ w14.cell? ⟨gb101, 2, none⟩ = some (.slice A0_2 l0_2.length c0_2) ∧ w14.cell? ⟨gb102, 0, none⟩ = some (.int .i64 a1_0) ∧ w14.cell? ⟨gb102, 1, none⟩ = some (.int .i64 a1_1) ∧ w14.cell? ⟨gb102, 2, none⟩ = some (.int .i64 a1_2) := hS_
         refine uNp ?_
         refine uOn (i := 4) (N := some 11) #[true, true, true, true, true, true, true, false, false, true, false] (fun K hK => ?_)
         refine uGs Try.func44 #[.slice A0_2 l0_2.length c0_2] ?_
         with_reducible refine (impl_Clue_44.calls _ _ l0_2 t104 _ ?side1 ?side2 A3.out).mono ?_
         (case side1 => repeat (first | exact (Kd.C_below HR0_2.out HB.out) | (with_reducible refine cA ?_ _) | (with_reducible refine cN ?_ _) | (with_reducible refine cD ?_)))
         (case side2 => exact HC0_2.out)
         rintro e w15 ⟨v105, rfl, ho0, hb⟩
         refine ⟨_, rfl, ?_⟩
         have HO106 := am (Kd.R_lower (Kd.R_newB (Kd.R_new' ho0 (Kd.R_lt (uR HO109))) (uP BK102)) (below_size uW))
         replace HO109 := am (Kd.R_elder' (uR HO109) (Kd.R_base ho0) hb)
         replace BK101 := uB BK101 hb
         replace BK102 := uB BK102 hb
         replace BK103 := uB BK103 hb
         replace BK113 := uB BK113 hb
         replace HB := uS hb
         (try clear hb)
         (try clear hb2)
         (try clear hk)
         (try clear hi)
         (try clear ho0)
         refine hK.out _ _ ⟨uT BK101 0, uT BK101 1, uT BK101 2, uT BK102 0, uT BK102 1, uT BK102 2⟩ (fun hHeld => ?_)
         clear hK K
         refine uNo (some 11) ?_
         exact norm_ (by first | (simp only [putAll, Act.put, List.setIfInBounds_toArray, List.set_cons_zero, List.set_cons_succ]; done) | (simp only [putAll, Act.put, List.setIfInBounds_toArray, List.set_cons_zero, List.set_cons_succ]; rfl)) (hJ4_6_9 (v105, v108, gb113) _ ⟨hHeld, (by (with_reducible repeat (first | apply rA | apply rN | apply rD)); exact Kd.R_mono HO106.out (fun _ hk => ⟨hk.1.2, hk.2⟩)), (by (with_reducible repeat (first | apply rA | apply rN | apply rD)); exact Kd.R_mono HO109.out (fun _ hk => ⟨hk.2, hk.1⟩)), (uP BK101), (uP BK102), (uP BK103), (uP BK113), GW113.out, GE113.out, NB101_113.out, NB113_101.out, NB102_113.out, NB113_102.out, NB103_113.out, NB113_103.out, uW⟩)
       ·skip
        rintro ⟨v105, gb113⟩ w13 ⟨hS_, h0_, h1_, h2_, h3_, h4_, h5_, h6_, h7_, h8_, h9_, h10_, h11_, h12_, h13_⟩
        have n0_ : Aside0 (Kd.R k37 37 w13 w.heap.size (fun k_ => k_ ≠ gb102) v105 t104) := ⟨h0_⟩
        have n1_ : Aside0 (w13.heap[gb101]? = some (.cells #[.int .i64 a0_0, .int .i64 a0_1, .slice A0_2 l0_2.length c0_2] 33 (0, 0))) := ⟨h1_⟩
        have n2_ : Aside0 (w13.heap[gb102]? = some (.cells #[.int .i64 a1_0, .int .i64 a1_1, .int .i64 a1_2] 37 (0, 0))) := ⟨h2_⟩
        have n3_ : Aside0 (w13.heap[gb103]? = some (.cells #[.int .i64 0, .int .i64 0, .slice none 0 0] 33 (0, 0))) := ⟨h3_⟩
        have n4_ : Aside0 (w13.heap[gb113]? = some (.cells #[.int .i64 0, .int .i64 0, .slice none 0 0] 33 (0, 0))) := ⟨h4_⟩
        have n5_ : Aside0 (w.heap.size ≤ gb113) := ⟨h5_⟩
        have n6_ : Aside0 (w.heap.size ≤ gb113) := ⟨h6_⟩
        have n7_ : Aside0 (gb101 ≠ gb113) := ⟨h7_⟩
        have n8_ : Aside0 (gb113 ≠ gb101) := ⟨h8_⟩
        have n9_ : Aside0 (gb102 ≠ gb113) := ⟨h9_⟩
        have n10_ : Aside0 (gb113 ≠ gb102) := ⟨h10_⟩
        have n11_ : Aside0 (gb103 ≠ gb113) := ⟨h11_⟩
        have n12_ : Aside0 (gb113 ≠ gb103) := ⟨h12_⟩
        have n13_ : Aside0 (Below w.heap.size w w13) := ⟨h13_⟩
        clear BK101
        clear BK102
        clear BK103
        clear HB
        clear h0_ h1_ h2_ h3_ h4_ h5_ h6_ h7_ h8_ h9_ h10_ h11_ h12_ h13_
        have HO106 := n0_
        have BK101 := n1_
        have BK102 := n2_
        have BK103 := n3_
        have BK113 := n4_
        have GW113 := n5_
        have GE113 := n6_
        have NB101_113 := n7_
        have NB113_101 := n8_
        have NB102_113 := n9_
        have NB113_102 := n10_
        have NB103_113 := n11_
        have NB113_103 := n12_
        have HB := n13_
        clear n0_ n1_ n2_ n3_ n4_ n5_ n6_ n7_ n8_ n9_ n10_ n11_ n12_ n13_
        have hHeld : w13.cell? ⟨gb101, 0, none⟩ = some (.int .i64 a0_0) ∧ w13.cell? ⟨gb101, 1, none⟩ = some (.int .i64 a0_1) ∧ w13.cell? ⟨gb101, 2, none⟩ = some (.slice A0_2 l0_2.length c0_2) ∧ w13.cell? ⟨gb102, 0, none⟩ = some (.int .i64 a1_0) ∧ w13.cell? ⟨gb102, 1, none⟩ = some (.int .i64 a1_1) ∧ w13.cell? ⟨gb102, 2, none⟩ = some (.int .i64 a1_2) := hS_
        refine uNp ?_
        refine uOn (i := 6) (N := some 13) #[true, true, true, true, true, true, true, false, false, true, false] (fun K hK => ?_)
        refine Kd.R_lit_step k37 _ 37 ?hg (N := 13) ?hd (xs := ([(⟨a1_0, a1_1, a1_2⟩ : S37)] : List (S37))) (inner := [.int .i64 a1_0, .int .i64 a1_1, .int .i64 a1_2]) (ok := fun _ => True) (okp := fun _ => True) ?hr ?hp (fun _ hk => hk) trivial (Below.refl _ _) (Nat.le_refl _) (by simp) ?_; (case hd => rfl); (case hg => rfl); (case hr => first | (go_simp; done) | (go_simp; rfl)); (case hp => exact (Reps.c3 (show Kd.M k37 _ _ _ (⟨a1_0, a1_1, a1_2⟩ : S37) [.int .i64 a1_0, .int .i64 a1_1, .int .i64 a1_2] from (k37_mkM _ _ _ (⟨a1_0, a1_1, a1_2⟩ : S37) )) (Reps.none _ _)))
        intro v108 w14 ho15 hb hg_ hnew_
        clear hg_ hnew_
        (first | rw [← Ny107.out] at ho15 | (simp only [Int.reduceToNat] at ho15; rw [← Ny107.out] at ho15))
        have HO109 := am (Kd.R_lower (Kd.R_newB (Kd.R_new' ho15 (Kd.R_lt (uR HO106))) (uP BK102)) (below_size uW))
        replace HO106 := am (Kd.R_elder' (uR HO106) (Kd.R_base ho15) hb)
        replace BK101 := uB BK101 hb
        replace BK102 := uB BK102 hb
        replace BK103 := uB BK103 hb
        replace BK113 := uB BK113 hb
        replace HB := uS hb
        clear hb ho15
        refine hK.out _ _ ⟨uT BK101 0, uT BK101 1, uT BK101 2, uT BK102 0, uT BK102 1, uT BK102 2⟩ (fun hHeld => ?_)
        clear hK K
        refine uNo (some 13) ?_
        exact norm_ (by first | (simp only [putAll, Act.put, List.setIfInBounds_toArray, List.set_cons_zero, List.set_cons_succ]; done) | (simp only [putAll, Act.put, List.setIfInBounds_toArray, List.set_cons_zero, List.set_cons_succ]; rfl)) (hJ4_6_9 (v105, v108, gb113) _ ⟨hHeld, (by (with_reducible repeat (first | apply rA | apply rN | apply rD)); exact Kd.R_mono HO106.out (fun _ hk => ⟨hk.2, hk.1⟩)), (by (with_reducible repeat (first | apply rA | apply rN | apply rD)); exact Kd.R_mono HO109.out (fun _ hk => ⟨hk.1.2, hk.2⟩)), (uP BK101), (uP BK102), (uP BK103), (uP BK113), GW113.out, GE113.out, NB101_113.out, NB113_101.out, NB102_113.out, NB113_102.out, NB103_113.out, NB113_103.out, uW⟩)
      ·skip
       rintro ⟨v105, v108⟩ w14 ⟨hS_, h0_, h1_, h2_, h3_, h4_, h5_⟩
       have n0_ : Aside0 (Kd.R k37 37 w14 w.heap.size (fun k_ => some k_ ≠ (v108 : Value).ownBlock ∧ k_ ≠ gb102) v105 t104) := ⟨h0_⟩
       have n1_ : Aside0 (Kd.R k37 37 w14 w.heap.size (fun k_ => some k_ ≠ (v105 : Value).ownBlock ∧ k_ ≠ gb102) v108 y107) := ⟨h1_⟩
       have n2_ : Aside0 (w14.heap[gb101]? = some (.cells #[.int .i64 a0_0, .int .i64 a0_1, .slice A0_2 l0_2.length c0_2] 33 (0, 0))) := ⟨h2_⟩
       have n3_ : Aside0 (w14.heap[gb102]? = some (.cells #[.int .i64 a1_0, .int .i64 a1_1, .int .i64 a1_2] 37 (0, 0))) := ⟨h3_⟩
       have n4_ : Aside0 (w14.heap[gb103]? = some (.cells #[.int .i64 0, .int .i64 0, .slice none 0 0] 33 (0, 0))) := ⟨h4_⟩
       have n5_ : Aside0 (Below w.heap.size w w14) := ⟨h5_⟩
       clear BK101
       clear BK102
       clear BK103
       clear HB
       clear h0_ h1_ h2_ h3_ h4_ h5_
       have HO106 := n0_
       have HO109 := n1_
       have BK101 := n2_
       have BK102 := n3_
       have BK103 := n4_
       have HB := n5_
       clear n0_ n1_ n2_ n3_ n4_ n5_
       have hHeld : w14.cell? ⟨gb101, 0, none⟩ = some (.int .i64 a0_0) ∧ w14.cell? ⟨gb101, 1, none⟩ = some (.int .i64 a0_1) ∧ w14.cell? ⟨gb101, 2, none⟩ = some (.slice A0_2 l0_2.length c0_2) ∧ w14.cell? ⟨gb102, 0, none⟩ = some (.int .i64 a1_0) ∧ w14.cell? ⟨gb102, 1, none⟩ = some (.int .i64 a1_1) ∧ w14.cell? ⟨gb102, 2, none⟩ = some (.int .i64 a1_2) := hS_
       obtain ⟨Ao16, co16, eo16⟩ := Kd.R_slice HO109.out
       (first | subst eo16 | (injection eo16 with f1_ f2_ f3_; have f4_ := f1_.symm; have f5_ := f3_.symm; clear f1_ f2_ f3_; subst f4_; subst f5_))
       refine uNp ?_
       refine two_ (i := 7) (j := 9) (Ni := some 14) (Nj := some 6) #[true, true, true, true, true, true, true, true, false, false, false] #[true, true, true, true, true, true, true, false, false, true, false] rfl rfl rfl rfl (two_of HT_.out (by kernel_rfl)) (by decide) (by decide) (fun K hK => ?_) (fun K hK => ?_)
       ·skip
        refine Kd.R_append_rows_step k37 (w0 := w) w.heap.size (by rfl) (.tmp 11) (.tmp 13) 31 37 (.agg #[(.int .i64 0), (.int .i64 0), (.int .i64 0)]) 24 rfl Try.underlying31 info37 rfl (by decide) (by omega) v105 t104 y107 _ _ _ (fun k_ => some k_ ≠ (.slice Ao16 y107.length co16 : Value).ownBlock ∧ k_ ≠ gb102) (fun _ => False) rfl rfl ?aO ?aR (fun _ _ h => h) (fun _ h => h.elim) ?aF ?aB ?aS ?aL ?_
        (case aR => repeat (first | exact (Kd.R_reads' HO109.out).2.2 | (with_reducible refine cA ?_ _) | (with_reducible refine cN ?_ _) | (with_reducible refine cD ?_)))
        (case aB => exact uW)
        (case aF => exact (fun k_ hk => ⟨Kd.fresh' (Kd.R_lt (uR HO109)) k_ hk, Kd.freshB (uP BK102) k_ hk⟩))
        (case aO => exact (uR HO106))
        (case aS => exact (below_size uW))
        (case aL => have := LMc4.out; omega)
        intro v111 w15 ho hb hg hat
        rw [← Ny110.out] at ho
        have HO112 := am (ho)
        replace BK101 := am (blk_grown (uP BK101) hg (Kd.R_ne HO106.out BK101.out (by decide)))
        replace BK102 := am (blk_grown (uP BK102) hg (Kd.R_away HO106.out (fun _ hk => hk.2)))
        replace BK103 := am (blk_grown (uP BK103) hg (Kd.R_ne HO106.out BK103.out (by decide)))
        replace HO109 := am (Kd.R_after (ok := (fun k_ => k_ ≠ gb102)) (by (with_reducible repeat (first | apply rA | apply rN | apply rD)); exact Kd.R_mono HO109.out (fun _ hk => ⟨hk.2, hk.1⟩)) hg hat)
        replace HB := am (hb)
        clear HO106
        clear ho hb hg hat
        obtain ⟨Ao17, co17, eo17⟩ := Kd.R_slice HO112.out
        (first | subst eo17 | (injection eo17 with f1_ f2_ f3_; have f4_ := f1_.symm; have f5_ := f3_.symm; clear f1_ f2_ f3_; subst f4_; subst f5_))
        refine hK.out _ _ ⟨uT BK101 0, uT BK101 1, uT BK101 2, uT BK102 0, uT BK102 1, uT BK102 2⟩ (fun hHeld => ?_)
        clear hK K
        refine uNo (some 14) ?_
        refine uPu (i := 8) (N := some 15) #[true, true, true, true, true, true, true, true, true, false, false] ?_
        exact norm_ (by first | (simp only [putAll, Act.put, List.setIfInBounds_toArray, List.set_cons_zero, List.set_cons_succ]; done) | (simp only [putAll, Act.put, List.setIfInBounds_toArray, List.set_cons_zero, List.set_cons_succ]; rfl)) (hJ4_6_7 (v105, .slice Ao16 y107.length co16, .slice Ao17 y110.length co17) _ ⟨hHeld, (by (with_reducible repeat (first | apply rA | apply rN | apply rD)); exact Kd.R_mono HO109.out (fun _ hk => ⟨hk.2, hk.1⟩)), (uR HO112), (uP BK101), (uP BK102), (uP BK103), uW⟩)
       ·skip
        refine box_step ?hg (N := 6) ?hd (cs := #[.int .i64 0, .int .i64 0, .slice none 0 0]) (t := 33) ?hr ?_; (case hd => rfl); (case hg => rfl); (case hr => first | (go_simp; done) | (go_simp; rfl))
        intro gb113 hg w15 hbox hb
        have BK113 := am (hbox)
        have GW113 := uE hg
        have GE113 := GW113
        have NB101_113 := uL BK101 hg
        have NB113_101 := uY NB101_113
        have NB102_113 := uL BK102 hg
        have NB113_102 := uY NB102_113
        have NB103_113 := uL BK103 hg
        have NB113_103 := uY NB103_113
        replace HO106 := am (Kd.R_below (uR HO106) hb)
        replace HO109 := am (Kd.R_below (uR HO109) hb)
        replace BK101 := uB BK101 hb
        replace BK102 := uB BK102 hb
        replace BK103 := uB BK103 hb
        replace HB := uS hb
        clear hb hbox hg
        refine hK.out _ _ ⟨uT BK101 0, uT BK101 1, uT BK101 2, uT BK102 0, uT BK102 1, uT BK102 2⟩ (fun hHeld => ?_)
        clear hK K
        refine uNo (some 6) ?_
        exact norm_ (by first | (simp only [putAll, Act.put, List.setIfInBounds_toArray, List.set_cons_zero, List.set_cons_succ]; done) | (simp only [putAll, Act.put, List.setIfInBounds_toArray, List.set_cons_zero, List.set_cons_succ]; rfl)) (hJ4_6_9 (v105, .slice Ao16 y107.length co16, gb113) _ ⟨hHeld, (uR HO106), (uR HO109), (uP BK101), (uP BK102), (uP BK103), (uP BK113), GW113.out, GE113.out, NB101_113.out, NB113_101.out, NB102_113.out, NB113_102.out, NB103_113.out, NB113_103.out, uW⟩)
     ·skip
      rintro ⟨v105, v108, gb113⟩ w15 ⟨hS_, h0_, h1_, h2_, h3_, h4_, h5_, h6_, h7_, h8_, h9_, h10_, h11_, h12_, h13_, h14_⟩
      have n0_ : Aside0 (Kd.R k37 37 w15 w.heap.size (fun k_ => some k_ ≠ (v108 : Value).ownBlock ∧ k_ ≠ gb102) v105 t104) := ⟨h0_⟩
      have n1_ : Aside0 (Kd.R k37 37 w15 w.heap.size (fun k_ => some k_ ≠ (v105 : Value).ownBlock ∧ k_ ≠ gb102) v108 y107) := ⟨h1_⟩
      have n2_ : Aside0 (w15.heap[gb101]? = some (.cells #[.int .i64 a0_0, .int .i64 a0_1, .slice A0_2 l0_2.length c0_2] 33 (0, 0))) := ⟨h2_⟩
      have n3_ : Aside0 (w15.heap[gb102]? = some (.cells #[.int .i64 a1_0, .int .i64 a1_1, .int .i64 a1_2] 37 (0, 0))) := ⟨h3_⟩
      have n4_ : Aside0 (w15.heap[gb103]? = some (.cells #[.int .i64 0, .int .i64 0, .slice none 0 0] 33 (0, 0))) := ⟨h4_⟩
      have n5_ : Aside0 (w15.heap[gb113]? = some (.cells #[.int .i64 0, .int .i64 0, .slice none 0 0] 33 (0, 0))) := ⟨h5_⟩
      have n6_ : Aside0 (w.heap.size ≤ gb113) := ⟨h6_⟩
      have n7_ : Aside0 (w.heap.size ≤ gb113) := ⟨h7_⟩
      have n8_ : Aside0 (gb101 ≠ gb113) := ⟨h8_⟩
      have n9_ : Aside0 (gb113 ≠ gb101) := ⟨h9_⟩
      have n10_ : Aside0 (gb102 ≠ gb113) := ⟨h10_⟩
      have n11_ : Aside0 (gb113 ≠ gb102) := ⟨h11_⟩
      have n12_ : Aside0 (gb103 ≠ gb113) := ⟨h12_⟩
      have n13_ : Aside0 (gb113 ≠ gb103) := ⟨h13_⟩
      have n14_ : Aside0 (Below w.heap.size w w15) := ⟨h14_⟩
      clear BK101
      clear BK102
      clear BK103
      clear HB
      clear h0_ h1_ h2_ h3_ h4_ h5_ h6_ h7_ h8_ h9_ h10_ h11_ h12_ h13_ h14_
      have HO106 := n0_
      have HO109 := n1_
      have BK101 := n2_
      have BK102 := n3_
      have BK103 := n4_
      have BK113 := n5_
      have GW113 := n6_
      have GE113 := n7_
      have NB101_113 := n8_
      have NB113_101 := n9_
      have NB102_113 := n10_
      have NB113_102 := n11_
      have NB103_113 := n12_
      have NB113_103 := n13_
      have HB := n14_
      clear n0_ n1_ n2_ n3_ n4_ n5_ n6_ n7_ n8_ n9_ n10_ n11_ n12_ n13_ n14_
      have hHeld : w15.cell? ⟨gb101, 0, none⟩ = some (.int .i64 a0_0) ∧ w15.cell? ⟨gb101, 1, none⟩ = some (.int .i64 a0_1) ∧ w15.cell? ⟨gb101, 2, none⟩ = some (.slice A0_2 l0_2.length c0_2) ∧ w15.cell? ⟨gb102, 0, none⟩ = some (.int .i64 a1_0) ∧ w15.cell? ⟨gb102, 1, none⟩ = some (.int .i64 a1_1) ∧ w15.cell? ⟨gb102, 2, none⟩ = some (.int .i64 a1_2) := hS_
      obtain ⟨Ao17, co17, eo17⟩ := Kd.R_slice HO109.out
      (first | subst eo17 | (injection eo17 with f1_ f2_ f3_; have f4_ := f1_.symm; have f5_ := f3_.symm; clear f1_ f2_ f3_; subst f4_; subst f5_))
      refine uNp ?_
      refine uOn (i := 7) (N := some 14) #[true, true, true, true, true, true, true, true, false, true, false] (fun K hK => ?_)
      refine Kd.R_append_rows_step k37 (w0 := w) w.heap.size (by rfl) (.tmp 11) (.tmp 13) 31 37 (.agg #[(.int .i64 0), (.int .i64 0), (.int .i64 0)]) 24 rfl Try.underlying31 info37 rfl (by decide) (by omega) v105 t104 y107 _ _ _ (fun k_ => some k_ ≠ (.slice Ao17 y107.length co17 : Value).ownBlock ∧ k_ ≠ gb102) (fun _ => False) rfl rfl ?aO ?aR (fun _ _ h => h) (fun _ h => h.elim) ?aF ?aB ?aS ?aL ?_
      (case aR => repeat (first | exact (Kd.R_reads' HO109.out).2.2 | (with_reducible refine cA ?_ _) | (with_reducible refine cN ?_ _) | (with_reducible refine cD ?_)))
      (case aB => exact uW)
      (case aF => exact (fun k_ hk => ⟨Kd.fresh' (Kd.R_lt (uR HO109)) k_ hk, Kd.freshB (uP BK102) k_ hk⟩))
      (case aO => exact (uR HO106))
      (case aS => exact (below_size uW))
      (case aL => have := LMc4.out; omega)
      intro v111 w16 ho hb hg hat
      rw [← Ny110.out] at ho
      have HO112 := am (ho)
      replace BK101 := am (blk_grown (uP BK101) hg (Kd.R_ne HO106.out BK101.out (by decide)))
      replace BK102 := am (blk_grown (uP BK102) hg (Kd.R_away HO106.out (fun _ hk => hk.2)))
      replace BK103 := am (blk_grown (uP BK103) hg (Kd.R_ne HO106.out BK103.out (by decide)))
      replace HO109 := am (Kd.R_after (ok := (fun k_ => k_ ≠ gb102)) (by (with_reducible repeat (first | apply rA | apply rN | apply rD)); exact Kd.R_mono HO109.out (fun _ hk => ⟨hk.2, hk.1⟩)) hg hat)
      replace BK113 := am (blk_grown (uP BK113) hg (Kd.R_ne HO106.out BK113.out (by decide)))
      replace HB := am (hb)
      clear HO106
      clear ho hb hg hat
      obtain ⟨Ao18, co18, eo18⟩ := Kd.R_slice HO112.out
      (first | subst eo18 | (injection eo18 with f1_ f2_ f3_; have f4_ := f1_.symm; have f5_ := f3_.symm; clear f1_ f2_ f3_; subst f4_; subst f5_))
      refine hK.out _ _ ⟨uT BK101 0, uT BK101 1, uT BK101 2, uT BK102 0, uT BK102 1, uT BK102 2⟩ (fun hHeld => ?_)
      clear hK K
      refine uNo (some 14) ?_
      refine uPu (i := 8) (N := some 15) #[true, true, true, true, true, true, true, true, true, true, false] ?_
      exact norm_ (by first | (simp only [putAll, Act.put, List.setIfInBounds_toArray, List.set_cons_zero, List.set_cons_succ]; done) | (simp only [putAll, Act.put, List.setIfInBounds_toArray, List.set_cons_zero, List.set_cons_succ]; rfl)) (hJ4_6_7_9 (v105, .slice Ao17 y107.length co17, .slice Ao18 y110.length co18, gb113) _ ⟨hHeld, (by (with_reducible repeat (first | apply rA | apply rN | apply rD)); exact Kd.R_mono HO109.out (fun _ hk => ⟨hk.2, hk.1⟩)), (uR HO112), (uP BK101), (uP BK102), (uP BK103), (uP BK113), GW113.out, GE113.out, NB101_113.out, NB113_101.out, NB102_113.out, NB113_102.out, NB103_113.out, NB113_103.out, uW⟩)
    ·skip
     rintro ⟨v105, v108, v111⟩ w17 ⟨hS_, h0_, h1_, h2_, h3_, h4_, h5_⟩
     have n0_ : Aside0 (Kd.R k37 37 w17 w.heap.size (fun k_ => some k_ ≠ (v111 : Value).ownBlock ∧ k_ ≠ gb102) v108 y107) := ⟨h0_⟩
     have n1_ : Aside0 (Kd.R k37 37 w17 w.heap.size (fun k_ => some k_ ≠ (v108 : Value).ownBlock ∧ k_ ≠ gb102) v111 y110) := ⟨h1_⟩
     have n2_ : Aside0 (w17.heap[gb101]? = some (.cells #[.int .i64 a0_0, .int .i64 a0_1, .slice A0_2 l0_2.length c0_2] 33 (0, 0))) := ⟨h2_⟩
     have n3_ : Aside0 (w17.heap[gb102]? = some (.cells #[.int .i64 a1_0, .int .i64 a1_1, .int .i64 a1_2] 37 (0, 0))) := ⟨h3_⟩
     have n4_ : Aside0 (w17.heap[gb103]? = some (.cells #[.int .i64 0, .int .i64 0, .slice none 0 0] 33 (0, 0))) := ⟨h4_⟩
     have n5_ : Aside0 (Below w.heap.size w w17) := ⟨h5_⟩
     clear BK101
     clear BK102
     clear BK103
     clear HB
     clear h0_ h1_ h2_ h3_ h4_ h5_
     have HO109 := n0_
     have HO112 := n1_
     have BK101 := n2_
     have BK102 := n3_
     have BK103 := n4_
     have HB := n5_
     clear n0_ n1_ n2_ n3_ n4_ n5_
     have hHeld : w17.cell? ⟨gb101, 0, none⟩ = some (.int .i64 a0_0) ∧ w17.cell? ⟨gb101, 1, none⟩ = some (.int .i64 a0_1) ∧ w17.cell? ⟨gb101, 2, none⟩ = some (.slice A0_2 l0_2.length c0_2) ∧ w17.cell? ⟨gb102, 0, none⟩ = some (.int .i64 a1_0) ∧ w17.cell? ⟨gb102, 1, none⟩ = some (.int .i64 a1_1) ∧ w17.cell? ⟨gb102, 2, none⟩ = some (.int .i64 a1_2) := hS_
     obtain ⟨Ao18, co18, eo18⟩ := Kd.R_slice HO112.out
     (first | subst eo18 | (injection eo18 with f1_ f2_ f3_; have f4_ := f1_.symm; have f5_ := f3_.symm; clear f1_ f2_ f3_; subst f4_; subst f5_))
     refine uNp ?_
     refine uOn (i := 9) (N := some 6) #[true, true, true, true, true, true, true, true, true, true, false] (fun K hK => ?_)
     refine box_step ?hg (N := 6) ?hd (cs := #[.int .i64 0, .int .i64 0, .slice none 0 0]) (t := 33) ?hr ?_; (case hd => rfl); (case hg => rfl); (case hr => first | (go_simp; done) | (go_simp; rfl))
     intro gb113 hg w19 hbox hb
     have BK113 := am (hbox)
     have GW113 := uE hg
     have GE113 := GW113
     have NB101_113 := uL BK101 hg
     have NB113_101 := uY NB101_113
     have NB102_113 := uL BK102 hg
     have NB113_102 := uY NB102_113
     have NB103_113 := uL BK103 hg
     have NB113_103 := uY NB103_113
     replace HO109 := am (Kd.R_below (uR HO109) hb)
     replace HO112 := am (Kd.R_below (uR HO112) hb)
     replace BK101 := uB BK101 hb
     replace BK102 := uB BK102 hb
     replace BK103 := uB BK103 hb
     replace HB := uS hb
     clear hb hbox hg
     refine hK.out _ _ ⟨uT BK101 0, uT BK101 1, uT BK101 2, uT BK102 0, uT BK102 1, uT BK102 2⟩ (fun hHeld => ?_)
     clear hK K
     refine uNo (some 6) ?_
     exact norm_ (by first | (simp only [putAll, Act.put, List.setIfInBounds_toArray, List.set_cons_zero, List.set_cons_succ]; done) | (simp only [putAll, Act.put, List.setIfInBounds_toArray, List.set_cons_zero, List.set_cons_succ]; rfl)) (hJ4_6_7_9 (v105, v108, .slice Ao18 y110.length co18, gb113) _ ⟨hHeld, (uR HO109), (uR HO112), (uP BK101), (uP BK102), (uP BK103), (uP BK113), GW113.out, GE113.out, NB101_113.out, NB113_101.out, NB102_113.out, NB113_102.out, NB103_113.out, NB113_103.out, uW⟩)
   rintro ⟨v105, v108, v111, gb113⟩ w18 ⟨hS_, h0_, h1_, h2_, h3_, h4_, h5_, h6_, h7_, h8_, h9_, h10_, h11_, h12_, h13_, h14_⟩
   have n0_ : Aside0 (Kd.R k37 37 w18 w.heap.size (fun k_ => some k_ ≠ (v111 : Value).ownBlock ∧ k_ ≠ gb102) v108 y107) := ⟨h0_⟩
   have n1_ : Aside0 (Kd.R k37 37 w18 w.heap.size (fun k_ => some k_ ≠ (v108 : Value).ownBlock ∧ k_ ≠ gb102) v111 y110) := ⟨h1_⟩
   have n2_ : Aside0 (w18.heap[gb101]? = some (.cells #[.int .i64 a0_0, .int .i64 a0_1, .slice A0_2 l0_2.length c0_2] 33 (0, 0))) := ⟨h2_⟩
   have n3_ : Aside0 (w18.heap[gb102]? = some (.cells #[.int .i64 a1_0, .int .i64 a1_1, .int .i64 a1_2] 37 (0, 0))) := ⟨h3_⟩
   have n4_ : Aside0 (w18.heap[gb103]? = some (.cells #[.int .i64 0, .int .i64 0, .slice none 0 0] 33 (0, 0))) := ⟨h4_⟩
   have n5_ : Aside0 (w18.heap[gb113]? = some (.cells #[.int .i64 0, .int .i64 0, .slice none 0 0] 33 (0, 0))) := ⟨h5_⟩
   have n6_ : Aside0 (w.heap.size ≤ gb113) := ⟨h6_⟩
   have n7_ : Aside0 (w.heap.size ≤ gb113) := ⟨h7_⟩
   have n8_ : Aside0 (gb101 ≠ gb113) := ⟨h8_⟩
   have n9_ : Aside0 (gb113 ≠ gb101) := ⟨h9_⟩
   have n10_ : Aside0 (gb102 ≠ gb113) := ⟨h10_⟩
   have n11_ : Aside0 (gb113 ≠ gb102) := ⟨h11_⟩
   have n12_ : Aside0 (gb103 ≠ gb113) := ⟨h12_⟩
   have n13_ : Aside0 (gb113 ≠ gb103) := ⟨h13_⟩
   have n14_ : Aside0 (Below w.heap.size w w18) := ⟨h14_⟩
   clear BK101
   clear BK102
   clear BK103
   clear HB
   clear h0_ h1_ h2_ h3_ h4_ h5_ h6_ h7_ h8_ h9_ h10_ h11_ h12_ h13_ h14_
   have HO109 := n0_
   have HO112 := n1_
   have BK101 := n2_
   have BK102 := n3_
   have BK103 := n4_
   have BK113 := n5_
   have GW113 := n6_
   have GE113 := n7_
   have NB101_113 := n8_
   have NB113_101 := n9_
   have NB102_113 := n10_
   have NB113_102 := n11_
   have NB103_113 := n12_
   have NB113_103 := n13_
   have HB := n14_
   clear n0_ n1_ n2_ n3_ n4_ n5_ n6_ n7_ n8_ n9_ n10_ n11_ n12_ n13_ n14_
   have hHeld : w18.cell? ⟨gb101, 0, none⟩ = some (.int .i64 a0_0) ∧ w18.cell? ⟨gb101, 1, none⟩ = some (.int .i64 a0_1) ∧ w18.cell? ⟨gb101, 2, none⟩ = some (.slice A0_2 l0_2.length c0_2) ∧ w18.cell? ⟨gb102, 0, none⟩ = some (.int .i64 a1_0) ∧ w18.cell? ⟨gb102, 1, none⟩ = some (.int .i64 a1_1) ∧ w18.cell? ⟨gb102, 2, none⟩ = some (.int .i64 a1_2) := hS_
   obtain ⟨Ao19, co19, eo19⟩ := Kd.R_slice HO112.out
   (first | subst eo19 | (injection eo19 with f1_ f2_ f3_; have f4_ := f1_.symm; have f5_ := f3_.symm; clear f1_ f2_ f3_; subst f4_; subst f5_))
   refine uNp ?_
   refine uOn (i := 10) (N := none) #[true, true, true, true, true, true, true, true, true, true, true] (fun K hK => ?_)
   have hs20 : w18.cell? ⟨gb113, 0, none⟩ = some (.int .i64 0) := uT BK113 0
   have hfs20 := blk_frozen BK113.out 0
   have hns20_0 := NB101_113.out
   have hns20_1 := NB102_113.out
   have hns20_2 := NB103_113.out
   have hms20_0 := NB113_101.out
   have hms20_1 := NB113_102.out
   have hms20_2 := NB113_103.out
   have hs21 : w18.cell? ⟨gb113, 1, none⟩ = some (.int .i64 0) := uT BK113 1
   have hfs21 := blk_frozen BK113.out 1
   have hns21_0 := NB101_113.out
   have hns21_1 := NB102_113.out
   have hns21_2 := NB103_113.out
   have hms21_0 := NB113_101.out
   have hms21_1 := NB113_102.out
   have hms21_2 := NB113_103.out
   have hs22 : w18.cell? ⟨gb113, 2, none⟩ = some (.slice none 0 0) := uT BK113 2
   have hfs22 := blk_frozen BK113.out 2
   have hns22_0 := NB101_113.out
   have hns22_1 := NB102_113.out
   have hns22_2 := NB103_113.out
   have hms22_0 := NB113_101.out
   have hms22_1 := NB113_102.out
   have hms22_2 := NB113_103.out
   refine skip_ (w1 := ?_) (by rfl) rfl ?_ ?_
   rotate_left
   ·go_simp
    rfl
   refine hK.out _ _ ⟨((cell_far (p := ⟨gb113, _, none⟩) NB101_113.out _).trans (((cell_far (p := ⟨gb113, _, none⟩) NB101_113.out _).trans (((cell_far (p := ⟨gb113, _, none⟩) NB101_113.out _).trans (hHeld.1)))))), ((cell_far (p := ⟨gb113, _, none⟩) NB101_113.out _).trans (((cell_far (p := ⟨gb113, _, none⟩) NB101_113.out _).trans (((cell_far (p := ⟨gb113, _, none⟩) NB101_113.out _).trans (hHeld.2.1)))))), ((cell_far (p := ⟨gb113, _, none⟩) NB101_113.out _).trans (((cell_far (p := ⟨gb113, _, none⟩) NB101_113.out _).trans (((cell_far (p := ⟨gb113, _, none⟩) NB101_113.out _).trans (hHeld.2.2.1)))))), ((cell_far (p := ⟨gb113, _, none⟩) NB102_113.out _).trans (((cell_far (p := ⟨gb113, _, none⟩) NB102_113.out _).trans (((cell_far (p := ⟨gb113, _, none⟩) NB102_113.out _).trans (hHeld.2.2.2.1)))))), ((cell_far (p := ⟨gb113, _, none⟩) NB102_113.out _).trans (((cell_far (p := ⟨gb113, _, none⟩) NB102_113.out _).trans (((cell_far (p := ⟨gb113, _, none⟩) NB102_113.out _).trans (hHeld.2.2.2.2.1)))))), ((cell_far (p := ⟨gb113, _, none⟩) NB102_113.out _).trans (((cell_far (p := ⟨gb113, _, none⟩) NB102_113.out _).trans (((cell_far (p := ⟨gb113, _, none⟩) NB102_113.out _).trans (hHeld.2.2.2.2.2))))))⟩ (fun hHeld => ?_)
   clear hK K
   refine done_ (done_of HT_.out (by kernel_rfl)) ?_
   have hnb23 := NB113_101.out
   have hnc23 := NB101_113.out
   have hnb24 := NB113_102.out
   have hnc24 := NB102_113.out
   have hnb25 := NB113_103.out
   have hnc25 := NB103_113.out
   obtain ⟨hcz26_0, hcz26_1, hcz26_2, hfz26_0, hfz26_1, hfz26_2⟩ := uZ3 BK113
   try go_wp2_with (first | ((with_reducible refine gate_callee (f := 23) rfl ?_); refine uGo (some 17) Try.func23 #[.agg #[.int .i64 a0_0, .int .i64 a0_1, .slice Ao19 y110.length co19]] ?_; (with_reducible refine (impl_IsPuzzle.calls a0_0 a0_1 _ _ y110 true _ ?side1 ?side2 A5.out).mono ?_); (case side1 => refine (Kd.R_reads' (e := 37) (base := w.heap.size) (ok := fun k_ => (some k_ ≠ (v108 : Value).ownBlock ∧ k_ ≠ gb102)) (n := y110.length) (c := co19) ?_).2.2; exact (by (with_reducible repeat (first | apply rA | apply rN | apply rD)); exact (Kd.R_mono (Kd.R_far (p := ⟨gb113, 2, none⟩) (Kd.R_far (p := ⟨gb113, 1, none⟩) (Kd.R_far (p := ⟨gb113, 0, none⟩) (Kd.R_types HO112.out BK113.out (by decide)) (fun _ hk => hk.2) (.int .i64 a0_0)) (fun _ hk => hk.2) (.int .i64 a0_1)) (fun _ hk => hk.2) (.slice Ao19 y110.length co19)) (fun _ h_ => h_.1)))); (case side2 => exact (Kd.R_reads' HO112.out).2.1); rintro e w27 ⟨rfl, hb⟩; refine ⟨_, rfl, ?_⟩; replace HO109 := am (Kd.R_below (by (with_reducible repeat (first | apply rA | apply rN | apply rD)); exact (Kd.R_mono (Kd.R_far (p := ⟨gb113, 2, none⟩) (Kd.R_far (p := ⟨gb113, 1, none⟩) (Kd.R_far (p := ⟨gb113, 0, none⟩) (Kd.R_types HO109.out BK113.out (by decide)) (fun _ hk => hk.2) (.int .i64 a0_0)) (fun _ hk => hk.2) (.int .i64 a0_1)) (fun _ hk => hk.2) (.slice Ao19 y110.length co19)) (fun _ h_ => h_.1))) hb); replace HO112 := am (Kd.R_below (by (with_reducible repeat (first | apply rA | apply rN | apply rD)); exact (Kd.R_mono (Kd.R_far (p := ⟨gb113, 2, none⟩) (Kd.R_far (p := ⟨gb113, 1, none⟩) (Kd.R_far (p := ⟨gb113, 0, none⟩) (Kd.R_types HO112.out BK113.out (by decide)) (fun _ hk => hk.2) (.int .i64 a0_0)) (fun _ hk => hk.2) (.int .i64 a0_1)) (fun _ hk => hk.2) (.slice Ao19 y110.length co19)) (fun _ h_ => h_.1))) hb); replace BK101 := am (blk_below (g := gb101) (o := .cells #[.int .i64 a0_0, .int .i64 a0_1, .slice A0_2 l0_2.length c0_2] 33 (0, 0)) (by refine blk_far ?_ NB101_113.out _; refine blk_far ?_ NB101_113.out _; refine blk_far ?_ NB101_113.out _; exact (uP BK101)) hb); replace BK102 := am (blk_below (g := gb102) (o := .cells #[.int .i64 a1_0, .int .i64 a1_1, .int .i64 a1_2] 37 (0, 0)) (by refine blk_far ?_ NB102_113.out _; refine blk_far ?_ NB102_113.out _; refine blk_far ?_ NB102_113.out _; exact (uP BK102)) hb); replace BK103 := am (blk_below (g := gb103) (o := .cells #[.int .i64 0, .int .i64 0, .slice none 0 0] 33 (0, 0)) (by refine blk_far ?_ NB103_113.out _; refine blk_far ?_ NB103_113.out _; refine blk_far ?_ NB103_113.out _; exact (uP BK103)) hb); replace BK113 := am (blk_below (g := gb113) (o := .cells #[.int .i64 a0_0, .int .i64 a0_1, .slice Ao19 y110.length co19] 33 (0, 0)) (by refine blk_put (cs := #[.int .i64 a0_0, .int .i64 a0_1, .slice none 0 0]) ?_ 2 _ rfl; refine blk_put (cs := #[.int .i64 a0_0, .int .i64 0, .slice none 0 0]) ?_ 1 _ rfl; refine blk_put (cs := #[.int .i64 0, .int .i64 0, .slice none 0 0]) ?_ 0 _ rfl; exact (uP BK113)) hb); replace HB := uS hb; (try clear hb); (try clear hb2); (try clear hk); (try clear hi); obtain ⟨hcz28_0, hcz28_1, hcz28_2, hfz28_0, hfz28_1, hfz28_2⟩ := uZ3 BK113; have hnb29 := NB103_101.out; have hnc29 := NB101_103.out; have hnb30 := NB103_102.out; have hnc30 := NB102_103.out; obtain ⟨hcz31_0, hcz31_1, hcz31_2, hfz31_0, hfz31_1, hfz31_2⟩ := uZ3 BK103))
   refine bodyPost_ret (results_ct rfl _ _ gb103 33 #[.int .i64 a0_0, .int .i64 a0_1, .slice Ao19 y110.length co19] (0, 0) _ rfl (by refine blk_put (cs := #[.int .i64 a0_0, .int .i64 a0_1, .slice none 0 0]) ?_ 2 _ rfl; refine blk_put (cs := #[.int .i64 a0_0, .int .i64 0, .slice none 0 0]) ?_ 1 _ rfl; refine blk_put (cs := #[.int .i64 0, .int .i64 0, .slice none 0 0]) ?_ 0 _ rfl; exact (uP BK103)) Try.underlying33 rfl (by kernel_rfl)) rfl ?_
   exact ⟨_, uA, by (with_reducible repeat (first | apply rA | apply rN | apply rD)); exact Kd.R_mono (Kd.R_far (p := ⟨gb103, 2, none⟩) (Kd.R_far (p := ⟨gb103, 1, none⟩) (Kd.R_far (p := ⟨gb103, 0, none⟩) (Kd.R_types HO112.out BK103.out (by decide)) (fun _ hk => hk.2) (.int .i64 a0_0)) (fun _ hk => hk.2) (.int .i64 a0_1)) (fun _ hk => hk.2) (.slice Ao19 y110.length co19)) (fun _ hk => trivial), by exact uW⟩
  ·replace c6 := Bool.eq_false_iff.mpr c6
   subst c6
   have H1 : (some (0, 0, ([] : List (S37)), false)) = some (r1, r2, r3, r4) := by rw [if_neg (show ¬ (false = true) by decide)] at H; exact H
   clear H
   have H := H1
   clear H1
   simp only [Option.some.injEq, Prod.mk.injEq] at H
   obtain ⟨rfl, rfl, rfl, rfl⟩ := H
   go_enter Try.func10, Try.ntmps10
   try go_wp2_with (first | ((with_reducible refine gate_dst (N := 2) rfl ?_); refine uX (N := 2) (cs := #[.int .i64 a0_0, .int .i64 a0_1, .slice A0_2 l0_2.length c0_2]) (t := 33) ?_; intro gb101 hg w32 hbox hb; have BK101 := am (hbox); have GW101 := uE hg; have GE101 := GW101; replace HB := uS hb; clear hb hbox hg) | ((with_reducible refine gate_dst (N := 3) rfl ?_); refine uX (N := 3) (cs := #[.int .i64 a1_0, .int .i64 a1_1, .int .i64 a1_2]) (t := 37) ?_; intro gb102 hg w33 hbox hb; have BK102 := am (hbox); have GW102 := uE hg; have GE102 := GW102; have NB101_102 := uL BK101 hg; have NB102_101 := uY NB101_102; replace BK101 := uB BK101 hb; replace HB := uS hb; clear hb hbox hg) | ((with_reducible refine gate_dst (N := 4) rfl ?_); refine uX (N := 4) (cs := #[.int .i64 0, .int .i64 0, .slice none 0 0]) (t := 33) ?_; intro gb103 hg w34 hbox hb; have BK103 := am (hbox); have GW103 := uE hg; have GE103 := GW103; have NB101_103 := uL BK101 hg; have NB103_101 := uY NB101_103; have NB102_103 := uL BK102 hg; have NB103_102 := uY NB102_103; replace BK101 := uB BK101 hb; replace BK102 := uB BK102 hb; replace HB := uS hb; clear hb hbox hg))
   replace BK101 := am (blk_drew BK101.out)
   replace BK102 := am (blk_drew BK102.out)
   replace BK103 := am (blk_drew BK103.out)
   replace HB := am (below_drew1 HB.out)
   refine start_ (n := 11) (S := fun w' => w'.cell? ⟨gb101, 0, none⟩ = some (.int .i64 a0_0) ∧ w'.cell? ⟨gb101, 1, none⟩ = some (.int .i64 a0_1) ∧ w'.cell? ⟨gb101, 2, none⟩ = some (.slice A0_2 l0_2.length c0_2) ∧ w'.cell? ⟨gb102, 0, none⟩ = some (.int .i64 a1_0) ∧ w'.cell? ⟨gb102, 1, none⟩ = some (.int .i64 a1_1) ∧ w'.cell? ⟨gb102, 2, none⟩ = some (.int .i64 a1_2)) (ds := []) #[false, false, false, false, false, false, false, false, false, false, false] (by kernel_rfl) rfl rfl ⟨uT BK101 0, uT BK101 1, uT BK101 2, uT BK102 0, uT BK102 1, uT BK102 2⟩ (fun hHeld => ?_); refine with_tabW impl_AddClue.tab1 impl_AddClue.bits1 (fun HT_ HW_ => ?_)
   generalize w34.drew = w35 at BK101 BK102 BK103 HB hHeld ⊢
   refine uPu (i := 0) (N := some 7) #[true, false, false, false, false, false, false, false, false, false, false] ?_
   refine uPu (i := 2) (N := some 9) #[true, false, true, false, false, false, false, false, false, false, false] ?_
   refine uTk (i := 1) (N := some 8) #[true, true, true, false, false, false, false, false, false, false, false] hHeld ?_
   refine uTk (i := 3) (N := some 10) #[true, true, true, true, false, false, false, false, false, false, false] hHeld ?_
   refine uTk (i := 5) (N := some 12) #[true, true, true, true, false, true, false, false, false, false, false] hHeld ?_
   refine join_ (σ := Value × Value × Value × Nat) 1 #[true, true, true, true, true, true, true, true, true, true, false] (fun s_ => [(11, s_.1), (13, s_.2.1), (14, s_.2.2.1), (6, .pointer (some ⟨s_.2.2.2, 0, none⟩)), (15, .agg #[.int .i64 a0_0, .int .i64 a0_1, s_.2.2.1])]) (fun s_ w' => (w'.cell? ⟨gb101, 0, none⟩ = some (.int .i64 a0_0) ∧ w'.cell? ⟨gb101, 1, none⟩ = some (.int .i64 a0_1) ∧ w'.cell? ⟨gb101, 2, none⟩ = some (.slice A0_2 l0_2.length c0_2) ∧ w'.cell? ⟨gb102, 0, none⟩ = some (.int .i64 a1_0) ∧ w'.cell? ⟨gb102, 1, none⟩ = some (.int .i64 a1_1) ∧ w'.cell? ⟨gb102, 2, none⟩ = some (.int .i64 a1_2)) ∧ (Kd.R k37 37 w' w.heap.size (fun k_ => some k_ ≠ (s_.2.2.1 : Value).ownBlock ∧ k_ ≠ gb102) s_.2.1 y107) ∧ (Kd.R k37 37 w' w.heap.size (fun k_ => some k_ ≠ (s_.2.1 : Value).ownBlock ∧ k_ ≠ gb102) s_.2.2.1 y110) ∧ (w'.heap[gb101]? = some (.cells #[.int .i64 a0_0, .int .i64 a0_1, .slice A0_2 l0_2.length c0_2] 33 (0, 0))) ∧ (w'.heap[gb102]? = some (.cells #[.int .i64 a1_0, .int .i64 a1_1, .int .i64 a1_2] 37 (0, 0))) ∧ (w'.heap[gb103]? = some (.cells #[.int .i64 0, .int .i64 0, .slice none 0 0] 33 (0, 0))) ∧ (w'.heap[s_.2.2.2]? = some (.cells #[.int .i64 0, .int .i64 0, .slice none 0 0] 33 (0, 0))) ∧ (w.heap.size ≤ s_.2.2.2) ∧ (w.heap.size ≤ s_.2.2.2) ∧ (gb101 ≠ s_.2.2.2) ∧ (s_.2.2.2 ≠ gb101) ∧ (gb102 ≠ s_.2.2.2) ∧ (s_.2.2.2 ≠ gb102) ∧ (gb103 ≠ s_.2.2.2) ∧ (s_.2.2.2 ≠ gb103) ∧ (Below w.heap.size w w')) ?_ ?_
   rotate_left
   ·intro hJ4_6_7_9
    refine join_ (σ := Value × Value × Value) 2 #[true, true, true, true, true, true, true, true, true, false, false] (fun s_ => [(11, s_.1), (13, s_.2.1), (14, s_.2.2), (15, .agg #[.int .i64 a0_0, .int .i64 a0_1, s_.2.2])]) (fun s_ w' => (w'.cell? ⟨gb101, 0, none⟩ = some (.int .i64 a0_0) ∧ w'.cell? ⟨gb101, 1, none⟩ = some (.int .i64 a0_1) ∧ w'.cell? ⟨gb101, 2, none⟩ = some (.slice A0_2 l0_2.length c0_2) ∧ w'.cell? ⟨gb102, 0, none⟩ = some (.int .i64 a1_0) ∧ w'.cell? ⟨gb102, 1, none⟩ = some (.int .i64 a1_1) ∧ w'.cell? ⟨gb102, 2, none⟩ = some (.int .i64 a1_2)) ∧ (Kd.R k37 37 w' w.heap.size (fun k_ => some k_ ≠ (s_.2.2 : Value).ownBlock ∧ k_ ≠ gb102) s_.2.1 y107) ∧ (Kd.R k37 37 w' w.heap.size (fun k_ => some k_ ≠ (s_.2.1 : Value).ownBlock ∧ k_ ≠ gb102) s_.2.2 y110) ∧ (w'.heap[gb101]? = some (.cells #[.int .i64 a0_0, .int .i64 a0_1, .slice A0_2 l0_2.length c0_2] 33 (0, 0))) ∧ (w'.heap[gb102]? = some (.cells #[.int .i64 a1_0, .int .i64 a1_1, .int .i64 a1_2] 37 (0, 0))) ∧ (w'.heap[gb103]? = some (.cells #[.int .i64 0, .int .i64 0, .slice none 0 0] 33 (0, 0))) ∧ (Below w.heap.size w w')) ?_ ?_
    rotate_left
    ·intro hJ4_6_7
     refine join_ (σ := Value × Value × Nat) 3 #[true, true, true, true, true, true, true, false, false, true, false] (fun s_ => [(11, s_.1), (13, s_.2.1), (6, .pointer (some ⟨s_.2.2, 0, none⟩))]) (fun s_ w' => (w'.cell? ⟨gb101, 0, none⟩ = some (.int .i64 a0_0) ∧ w'.cell? ⟨gb101, 1, none⟩ = some (.int .i64 a0_1) ∧ w'.cell? ⟨gb101, 2, none⟩ = some (.slice A0_2 l0_2.length c0_2) ∧ w'.cell? ⟨gb102, 0, none⟩ = some (.int .i64 a1_0) ∧ w'.cell? ⟨gb102, 1, none⟩ = some (.int .i64 a1_1) ∧ w'.cell? ⟨gb102, 2, none⟩ = some (.int .i64 a1_2)) ∧ (Kd.R k37 37 w' w.heap.size (fun k_ => some k_ ≠ (s_.2.1 : Value).ownBlock ∧ k_ ≠ gb102) s_.1 t104) ∧ (Kd.R k37 37 w' w.heap.size (fun k_ => some k_ ≠ (s_.1 : Value).ownBlock ∧ k_ ≠ gb102) s_.2.1 y107) ∧ (w'.heap[gb101]? = some (.cells #[.int .i64 a0_0, .int .i64 a0_1, .slice A0_2 l0_2.length c0_2] 33 (0, 0))) ∧ (w'.heap[gb102]? = some (.cells #[.int .i64 a1_0, .int .i64 a1_1, .int .i64 a1_2] 37 (0, 0))) ∧ (w'.heap[gb103]? = some (.cells #[.int .i64 0, .int .i64 0, .slice none 0 0] 33 (0, 0))) ∧ (w'.heap[s_.2.2]? = some (.cells #[.int .i64 0, .int .i64 0, .slice none 0 0] 33 (0, 0))) ∧ (w.heap.size ≤ s_.2.2) ∧ (w.heap.size ≤ s_.2.2) ∧ (gb101 ≠ s_.2.2) ∧ (s_.2.2 ≠ gb101) ∧ (gb102 ≠ s_.2.2) ∧ (s_.2.2 ≠ gb102) ∧ (gb103 ≠ s_.2.2) ∧ (s_.2.2 ≠ gb103) ∧ (Below w.heap.size w w')) ?_ ?_
     rotate_left
     ·intro hJ4_6_9
      refine join_ (σ := Value × Value) 4 #[true, true, true, true, true, true, true, false, false, false, false] (fun s_ => [(11, s_.1), (13, s_.2)]) (fun s_ w' => (w'.cell? ⟨gb101, 0, none⟩ = some (.int .i64 a0_0) ∧ w'.cell? ⟨gb101, 1, none⟩ = some (.int .i64 a0_1) ∧ w'.cell? ⟨gb101, 2, none⟩ = some (.slice A0_2 l0_2.length c0_2) ∧ w'.cell? ⟨gb102, 0, none⟩ = some (.int .i64 a1_0) ∧ w'.cell? ⟨gb102, 1, none⟩ = some (.int .i64 a1_1) ∧ w'.cell? ⟨gb102, 2, none⟩ = some (.int .i64 a1_2)) ∧ (Kd.R k37 37 w' w.heap.size (fun k_ => some k_ ≠ (s_.2 : Value).ownBlock ∧ k_ ≠ gb102) s_.1 t104) ∧ (Kd.R k37 37 w' w.heap.size (fun k_ => some k_ ≠ (s_.1 : Value).ownBlock ∧ k_ ≠ gb102) s_.2 y107) ∧ (w'.heap[gb101]? = some (.cells #[.int .i64 a0_0, .int .i64 a0_1, .slice A0_2 l0_2.length c0_2] 33 (0, 0))) ∧ (w'.heap[gb102]? = some (.cells #[.int .i64 a1_0, .int .i64 a1_1, .int .i64 a1_2] 37 (0, 0))) ∧ (w'.heap[gb103]? = some (.cells #[.int .i64 0, .int .i64 0, .slice none 0 0] 33 (0, 0))) ∧ (Below w.heap.size w w')) ?_ ?_
      rotate_left
      ·intro hJ4_6
       refine join_ (σ := Value × Nat) 4 #[true, true, true, true, true, true, false, false, false, true, false] (fun s_ => [(11, s_.1), (6, .pointer (some ⟨s_.2, 0, none⟩))]) (fun s_ w' => (w'.cell? ⟨gb101, 0, none⟩ = some (.int .i64 a0_0) ∧ w'.cell? ⟨gb101, 1, none⟩ = some (.int .i64 a0_1) ∧ w'.cell? ⟨gb101, 2, none⟩ = some (.slice A0_2 l0_2.length c0_2) ∧ w'.cell? ⟨gb102, 0, none⟩ = some (.int .i64 a1_0) ∧ w'.cell? ⟨gb102, 1, none⟩ = some (.int .i64 a1_1) ∧ w'.cell? ⟨gb102, 2, none⟩ = some (.int .i64 a1_2)) ∧ (Kd.R k37 37 w' w.heap.size (fun k_ => k_ ≠ gb102) s_.1 t104) ∧ (w'.heap[gb101]? = some (.cells #[.int .i64 a0_0, .int .i64 a0_1, .slice A0_2 l0_2.length c0_2] 33 (0, 0))) ∧ (w'.heap[gb102]? = some (.cells #[.int .i64 a1_0, .int .i64 a1_1, .int .i64 a1_2] 37 (0, 0))) ∧ (w'.heap[gb103]? = some (.cells #[.int .i64 0, .int .i64 0, .slice none 0 0] 33 (0, 0))) ∧ (w'.heap[s_.2]? = some (.cells #[.int .i64 0, .int .i64 0, .slice none 0 0] 33 (0, 0))) ∧ (w.heap.size ≤ s_.2) ∧ (w.heap.size ≤ s_.2) ∧ (gb101 ≠ s_.2) ∧ (s_.2 ≠ gb101) ∧ (gb102 ≠ s_.2) ∧ (s_.2 ≠ gb102) ∧ (gb103 ≠ s_.2) ∧ (s_.2 ≠ gb103) ∧ (Below w.heap.size w w')) ?_ ?_
       rotate_left
       ·intro hJ4_9
        refine join_ (σ := Value × Nat) 4 #[true, true, true, true, false, true, true, false, false, true, false] (fun s_ => [(13, s_.1), (6, .pointer (some ⟨s_.2, 0, none⟩))]) (fun s_ w' => (w'.cell? ⟨gb101, 0, none⟩ = some (.int .i64 a0_0) ∧ w'.cell? ⟨gb101, 1, none⟩ = some (.int .i64 a0_1) ∧ w'.cell? ⟨gb101, 2, none⟩ = some (.slice A0_2 l0_2.length c0_2) ∧ w'.cell? ⟨gb102, 0, none⟩ = some (.int .i64 a1_0) ∧ w'.cell? ⟨gb102, 1, none⟩ = some (.int .i64 a1_1) ∧ w'.cell? ⟨gb102, 2, none⟩ = some (.int .i64 a1_2)) ∧ (Kd.R k37 37 w' w.heap.size (fun k_ => k_ ≠ gb102) s_.1 y107) ∧ (w'.heap[gb101]? = some (.cells #[.int .i64 a0_0, .int .i64 a0_1, .slice A0_2 l0_2.length c0_2] 33 (0, 0))) ∧ (w'.heap[gb102]? = some (.cells #[.int .i64 a1_0, .int .i64 a1_1, .int .i64 a1_2] 37 (0, 0))) ∧ (w'.heap[gb103]? = some (.cells #[.int .i64 0, .int .i64 0, .slice none 0 0] 33 (0, 0))) ∧ (w'.heap[s_.2]? = some (.cells #[.int .i64 0, .int .i64 0, .slice none 0 0] 33 (0, 0))) ∧ (w.heap.size ≤ s_.2) ∧ (w.heap.size ≤ s_.2) ∧ (gb101 ≠ s_.2) ∧ (s_.2 ≠ gb101) ∧ (gb102 ≠ s_.2) ∧ (s_.2 ≠ gb102) ∧ (gb103 ≠ s_.2) ∧ (s_.2 ≠ gb103) ∧ (Below w.heap.size w w')) ?_ ?_
        rotate_left
        ·intro hJ6_9
         refine join_ (σ := Value) 5 #[true, true, true, true, true, true, false, false, false, false, false] (fun s_ => [(11, s_)]) (fun s_ w' => (w'.cell? ⟨gb101, 0, none⟩ = some (.int .i64 a0_0) ∧ w'.cell? ⟨gb101, 1, none⟩ = some (.int .i64 a0_1) ∧ w'.cell? ⟨gb101, 2, none⟩ = some (.slice A0_2 l0_2.length c0_2) ∧ w'.cell? ⟨gb102, 0, none⟩ = some (.int .i64 a1_0) ∧ w'.cell? ⟨gb102, 1, none⟩ = some (.int .i64 a1_1) ∧ w'.cell? ⟨gb102, 2, none⟩ = some (.int .i64 a1_2)) ∧ (Kd.R k37 37 w' w.heap.size (fun k_ => k_ ≠ gb102) s_ t104) ∧ (w'.heap[gb101]? = some (.cells #[.int .i64 a0_0, .int .i64 a0_1, .slice A0_2 l0_2.length c0_2] 33 (0, 0))) ∧ (w'.heap[gb102]? = some (.cells #[.int .i64 a1_0, .int .i64 a1_1, .int .i64 a1_2] 37 (0, 0))) ∧ (w'.heap[gb103]? = some (.cells #[.int .i64 0, .int .i64 0, .slice none 0 0] 33 (0, 0))) ∧ (Below w.heap.size w w')) ?_ ?_
         rotate_left
         ·intro hJ4
          refine join_ (σ := Value) 5 #[true, true, true, true, false, true, true, false, false, false, false] (fun s_ => [(13, s_)]) (fun s_ w' => (w'.cell? ⟨gb101, 0, none⟩ = some (.int .i64 a0_0) ∧ w'.cell? ⟨gb101, 1, none⟩ = some (.int .i64 a0_1) ∧ w'.cell? ⟨gb101, 2, none⟩ = some (.slice A0_2 l0_2.length c0_2) ∧ w'.cell? ⟨gb102, 0, none⟩ = some (.int .i64 a1_0) ∧ w'.cell? ⟨gb102, 1, none⟩ = some (.int .i64 a1_1) ∧ w'.cell? ⟨gb102, 2, none⟩ = some (.int .i64 a1_2)) ∧ (Kd.R k37 37 w' w.heap.size (fun k_ => k_ ≠ gb102) s_ y107) ∧ (w'.heap[gb101]? = some (.cells #[.int .i64 a0_0, .int .i64 a0_1, .slice A0_2 l0_2.length c0_2] 33 (0, 0))) ∧ (w'.heap[gb102]? = some (.cells #[.int .i64 a1_0, .int .i64 a1_1, .int .i64 a1_2] 37 (0, 0))) ∧ (w'.heap[gb103]? = some (.cells #[.int .i64 0, .int .i64 0, .slice none 0 0] 33 (0, 0))) ∧ (Below w.heap.size w w')) ?_ ?_
          rotate_left
          ·intro hJ6
           refine join_ (σ := Nat) 5 #[true, true, true, true, false, true, false, false, false, true, false] (fun s_ => [(6, .pointer (some ⟨s_, 0, none⟩))]) (fun s_ w' => (w'.cell? ⟨gb101, 0, none⟩ = some (.int .i64 a0_0) ∧ w'.cell? ⟨gb101, 1, none⟩ = some (.int .i64 a0_1) ∧ w'.cell? ⟨gb101, 2, none⟩ = some (.slice A0_2 l0_2.length c0_2) ∧ w'.cell? ⟨gb102, 0, none⟩ = some (.int .i64 a1_0) ∧ w'.cell? ⟨gb102, 1, none⟩ = some (.int .i64 a1_1) ∧ w'.cell? ⟨gb102, 2, none⟩ = some (.int .i64 a1_2)) ∧ (w'.heap[gb101]? = some (.cells #[.int .i64 a0_0, .int .i64 a0_1, .slice A0_2 l0_2.length c0_2] 33 (0, 0))) ∧ (w'.heap[gb102]? = some (.cells #[.int .i64 a1_0, .int .i64 a1_1, .int .i64 a1_2] 37 (0, 0))) ∧ (w'.heap[gb103]? = some (.cells #[.int .i64 0, .int .i64 0, .slice none 0 0] 33 (0, 0))) ∧ (w'.heap[s_]? = some (.cells #[.int .i64 0, .int .i64 0, .slice none 0 0] 33 (0, 0))) ∧ (w.heap.size ≤ s_) ∧ (w.heap.size ≤ s_) ∧ (gb101 ≠ s_) ∧ (s_ ≠ gb101) ∧ (gb102 ≠ s_) ∧ (s_ ≠ gb102) ∧ (gb103 ≠ s_) ∧ (s_ ≠ gb103) ∧ (Below w.heap.size w w')) ?_ ?_
           rotate_left
           ·intro hJ9
            refine three_ (i := 4) (j := 6) (k := 9) (Ni := some 11) (Nj := some 13) (Nk := some 6) #[true, true, true, true, true, true, false, false, false, false, false] #[true, true, true, true, false, true, true, false, false, false, false] #[true, true, true, true, false, true, false, false, false, true, false] rfl rfl rfl rfl rfl rfl (three_of HT_.out (by kernel_rfl)) (by decide) (by decide) (by decide) (fun K hK => ?_) (fun K hK => ?_) (fun K hK => ?_)
            ·skip
             refine uGs Try.func44 #[.slice A0_2 l0_2.length c0_2] ?_
             with_reducible refine (impl_Clue_44.calls _ _ l0_2 t104 _ ?side1 ?side2 A3.out).mono ?_
             (case side1 => repeat (first | exact (Kd.C_below HR0_2.out HB.out) | (with_reducible refine cA ?_ _) | (with_reducible refine cN ?_ _) | (with_reducible refine cD ?_)))
             (case side2 => exact HC0_2.out)
             rintro e w36 ⟨v105, rfl, ho0, hb⟩
             refine ⟨_, rfl, ?_⟩
             have HO106 := am (Kd.R_lower (Kd.R_newB ho0 (uP BK102)) (below_size uW))
             replace BK101 := uB BK101 hb
             replace BK102 := uB BK102 hb
             replace BK103 := uB BK103 hb
             replace HB := uS hb
             (try clear hb)
             (try clear hb2)
             (try clear hk)
             (try clear hi)
             (try clear ho0)
             refine hK.out _ _ ⟨uT BK101 0, uT BK101 1, uT BK101 2, uT BK102 0, uT BK102 1, uT BK102 2⟩ (fun hHeld => ?_)
             clear hK K
             refine uNo (some 11) ?_
             exact norm_ (by first | (simp only [putAll, Act.put, List.setIfInBounds_toArray, List.set_cons_zero, List.set_cons_succ]; done) | (simp only [putAll, Act.put, List.setIfInBounds_toArray, List.set_cons_zero, List.set_cons_succ]; rfl)) (hJ4 (v105) _ ⟨hHeld, (by (with_reducible repeat (first | apply rA | apply rN | apply rD)); exact Kd.R_mono HO106.out (fun _ hk => hk.2)), (uP BK101), (uP BK102), (uP BK103), uW⟩)
            ·skip
             refine Kd.R_lit_step k37 _ 37 ?hg (N := 13) ?hd (xs := ([(⟨a1_0, a1_1, a1_2⟩ : S37)] : List (S37))) (inner := [.int .i64 a1_0, .int .i64 a1_1, .int .i64 a1_2]) (ok := fun _ => True) (okp := fun _ => True) ?hr ?hp (fun _ hk => hk) trivial (Below.refl _ _) (Nat.le_refl _) (by simp) ?_; (case hd => rfl); (case hg => rfl); (case hr => first | (go_simp; done) | (go_simp; rfl)); (case hp => exact (Reps.c3 (show Kd.M k37 _ _ _ (⟨a1_0, a1_1, a1_2⟩ : S37) [.int .i64 a1_0, .int .i64 a1_1, .int .i64 a1_2] from (k37_mkM _ _ _ (⟨a1_0, a1_1, a1_2⟩ : S37) )) (Reps.none _ _)))
             intro v108 w36 ho37 hb hg_ hnew_
             clear hg_ hnew_
             (first | rw [← Ny107.out] at ho37 | (simp only [Int.reduceToNat] at ho37; rw [← Ny107.out] at ho37))
             have HO109 := am (Kd.R_lower (Kd.R_newB ho37 (uP BK102)) (below_size uW))
             replace BK101 := uB BK101 hb
             replace BK102 := uB BK102 hb
             replace BK103 := uB BK103 hb
             replace HB := uS hb
             clear hb ho37
             refine hK.out _ _ ⟨uT BK101 0, uT BK101 1, uT BK101 2, uT BK102 0, uT BK102 1, uT BK102 2⟩ (fun hHeld => ?_)
             clear hK K
             refine uNo (some 13) ?_
             exact norm_ (by first | (simp only [putAll, Act.put, List.setIfInBounds_toArray, List.set_cons_zero, List.set_cons_succ]; done) | (simp only [putAll, Act.put, List.setIfInBounds_toArray, List.set_cons_zero, List.set_cons_succ]; rfl)) (hJ6 (v108) _ ⟨hHeld, (by (with_reducible repeat (first | apply rA | apply rN | apply rD)); exact Kd.R_mono HO109.out (fun _ hk => hk.2)), (uP BK101), (uP BK102), (uP BK103), uW⟩)
            ·skip
             refine box_step ?hg (N := 6) ?hd (cs := #[.int .i64 0, .int .i64 0, .slice none 0 0]) (t := 33) ?hr ?_; (case hd => rfl); (case hg => rfl); (case hr => first | (go_simp; done) | (go_simp; rfl))
             intro gb113 hg w36 hbox hb
             have BK113 := am (hbox)
             have GW113 := uE hg
             have GE113 := GW113
             have NB101_113 := uL BK101 hg
             have NB113_101 := uY NB101_113
             have NB102_113 := uL BK102 hg
             have NB113_102 := uY NB102_113
             have NB103_113 := uL BK103 hg
             have NB113_103 := uY NB103_113
             replace BK101 := uB BK101 hb
             replace BK102 := uB BK102 hb
             replace BK103 := uB BK103 hb
             replace HB := uS hb
             clear hb hbox hg
             refine hK.out _ _ ⟨uT BK101 0, uT BK101 1, uT BK101 2, uT BK102 0, uT BK102 1, uT BK102 2⟩ (fun hHeld => ?_)
             clear hK K
             refine uNo (some 6) ?_
             exact norm_ (by first | (simp only [putAll, Act.put, List.setIfInBounds_toArray, List.set_cons_zero, List.set_cons_succ]; done) | (simp only [putAll, Act.put, List.setIfInBounds_toArray, List.set_cons_zero, List.set_cons_succ]; rfl)) (hJ9 (gb113) _ ⟨hHeld, (uP BK101), (uP BK102), (uP BK103), (uP BK113), GW113.out, GE113.out, NB101_113.out, NB113_101.out, NB102_113.out, NB113_102.out, NB103_113.out, NB113_103.out, uW⟩)
           ·skip
            rintro gb113 w37 ⟨hS_, h0_, h1_, h2_, h3_, h4_, h5_, h6_, h7_, h8_, h9_, h10_, h11_, h12_⟩
            have n0_ : Aside0 (w37.heap[gb101]? = some (.cells #[.int .i64 a0_0, .int .i64 a0_1, .slice A0_2 l0_2.length c0_2] 33 (0, 0))) := ⟨h0_⟩
            have n1_ : Aside0 (w37.heap[gb102]? = some (.cells #[.int .i64 a1_0, .int .i64 a1_1, .int .i64 a1_2] 37 (0, 0))) := ⟨h1_⟩
            have n2_ : Aside0 (w37.heap[gb103]? = some (.cells #[.int .i64 0, .int .i64 0, .slice none 0 0] 33 (0, 0))) := ⟨h2_⟩
            have n3_ : Aside0 (w37.heap[gb113]? = some (.cells #[.int .i64 0, .int .i64 0, .slice none 0 0] 33 (0, 0))) := ⟨h3_⟩
            have n4_ : Aside0 (w.heap.size ≤ gb113) := ⟨h4_⟩
            have n5_ : Aside0 (w.heap.size ≤ gb113) := ⟨h5_⟩
            have n6_ : Aside0 (gb101 ≠ gb113) := ⟨h6_⟩
            have n7_ : Aside0 (gb113 ≠ gb101) := ⟨h7_⟩
            have n8_ : Aside0 (gb102 ≠ gb113) := ⟨h8_⟩
            have n9_ : Aside0 (gb113 ≠ gb102) := ⟨h9_⟩
            have n10_ : Aside0 (gb103 ≠ gb113) := ⟨h10_⟩
            have n11_ : Aside0 (gb113 ≠ gb103) := ⟨h11_⟩
            have n12_ : Aside0 (Below w.heap.size w w37) := ⟨h12_⟩
            clear BK101
            clear BK102
            clear BK103
            clear HB
            clear h0_ h1_ h2_ h3_ h4_ h5_ h6_ h7_ h8_ h9_ h10_ h11_ h12_
            have BK101 := n0_
            have BK102 := n1_
            have BK103 := n2_
            have BK113 := n3_
            have GW113 := n4_
            have GE113 := n5_
            have NB101_113 := n6_
            have NB113_101 := n7_
            have NB102_113 := n8_
            have NB113_102 := n9_
            have NB103_113 := n10_
            have NB113_103 := n11_
            have HB := n12_
            clear n0_ n1_ n2_ n3_ n4_ n5_ n6_ n7_ n8_ n9_ n10_ n11_ n12_
            have hHeld : w37.cell? ⟨gb101, 0, none⟩ = some (.int .i64 a0_0) ∧ w37.cell? ⟨gb101, 1, none⟩ = some (.int .i64 a0_1) ∧ w37.cell? ⟨gb101, 2, none⟩ = some (.slice A0_2 l0_2.length c0_2) ∧ w37.cell? ⟨gb102, 0, none⟩ = some (.int .i64 a1_0) ∧ w37.cell? ⟨gb102, 1, none⟩ = some (.int .i64 a1_1) ∧ w37.cell? ⟨gb102, 2, none⟩ = some (.int .i64 a1_2) := hS_
            refine uNp ?_
            refine two_ (i := 4) (j := 6) (Ni := some 11) (Nj := some 13) #[true, true, true, true, true, true, false, false, false, true, false] #[true, true, true, true, false, true, true, false, false, true, false] rfl rfl rfl rfl (two_of HT_.out (by kernel_rfl)) (by decide) (by decide) (fun K hK => ?_) (fun K hK => ?_)
            ·skip
             refine uGs Try.func44 #[.slice A0_2 l0_2.length c0_2] ?_
             with_reducible refine (impl_Clue_44.calls _ _ l0_2 t104 _ ?side1 ?side2 A3.out).mono ?_
             (case side1 => repeat (first | exact (Kd.C_below HR0_2.out HB.out) | (with_reducible refine cA ?_ _) | (with_reducible refine cN ?_ _) | (with_reducible refine cD ?_)))
             (case side2 => exact HC0_2.out)
             rintro e w38 ⟨v105, rfl, ho0, hb⟩
             refine ⟨_, rfl, ?_⟩
             have HO106 := am (Kd.R_lower (Kd.R_newB ho0 (uP BK102)) (below_size uW))
             replace BK101 := uB BK101 hb
             replace BK102 := uB BK102 hb
             replace BK103 := uB BK103 hb
             replace BK113 := uB BK113 hb
             replace HB := uS hb
             (try clear hb)
             (try clear hb2)
             (try clear hk)
             (try clear hi)
             (try clear ho0)
             refine hK.out _ _ ⟨uT BK101 0, uT BK101 1, uT BK101 2, uT BK102 0, uT BK102 1, uT BK102 2⟩ (fun hHeld => ?_)
             clear hK K
             refine uNo (some 11) ?_
             exact norm_ (by first | (simp only [putAll, Act.put, List.setIfInBounds_toArray, List.set_cons_zero, List.set_cons_succ]; done) | (simp only [putAll, Act.put, List.setIfInBounds_toArray, List.set_cons_zero, List.set_cons_succ]; rfl)) (hJ4_9 (v105, gb113) _ ⟨hHeld, (by (with_reducible repeat (first | apply rA | apply rN | apply rD)); exact Kd.R_mono HO106.out (fun _ hk => hk.2)), (uP BK101), (uP BK102), (uP BK103), (uP BK113), GW113.out, GE113.out, NB101_113.out, NB113_101.out, NB102_113.out, NB113_102.out, NB103_113.out, NB113_103.out, uW⟩)
            ·skip
             refine Kd.R_lit_step k37 _ 37 ?hg (N := 13) ?hd (xs := ([(⟨a1_0, a1_1, a1_2⟩ : S37)] : List (S37))) (inner := [.int .i64 a1_0, .int .i64 a1_1, .int .i64 a1_2]) (ok := fun _ => True) (okp := fun _ => True) ?hr ?hp (fun _ hk => hk) trivial (Below.refl _ _) (Nat.le_refl _) (by simp) ?_; (case hd => rfl); (case hg => rfl); (case hr => first | (go_simp; done) | (go_simp; rfl)); (case hp => exact (Reps.c3 (show Kd.M k37 _ _ _ (⟨a1_0, a1_1, a1_2⟩ : S37) [.int .i64 a1_0, .int .i64 a1_1, .int .i64 a1_2] from (k37_mkM _ _ _ (⟨a1_0, a1_1, a1_2⟩ : S37) )) (Reps.none _ _)))
             intro v108 w38 ho39 hb hg_ hnew_
             clear hg_ hnew_
             (first | rw [← Ny107.out] at ho39 | (simp only [Int.reduceToNat] at ho39; rw [← Ny107.out] at ho39))
             have HO109 := am (Kd.R_lower (Kd.R_newB ho39 (uP BK102)) (below_size uW))
             replace BK101 := uB BK101 hb
             replace BK102 := uB BK102 hb
             replace BK103 := uB BK103 hb
             replace BK113 := uB BK113 hb
             replace HB := uS hb
             clear hb ho39
             refine hK.out _ _ ⟨uT BK101 0, uT BK101 1, uT BK101 2, uT BK102 0, uT BK102 1, uT BK102 2⟩ (fun hHeld => ?_)
             clear hK K
             refine uNo (some 13) ?_
             exact norm_ (by first | (simp only [putAll, Act.put, List.setIfInBounds_toArray, List.set_cons_zero, List.set_cons_succ]; done) | (simp only [putAll, Act.put, List.setIfInBounds_toArray, List.set_cons_zero, List.set_cons_succ]; rfl)) (hJ6_9 (v108, gb113) _ ⟨hHeld, (by (with_reducible repeat (first | apply rA | apply rN | apply rD)); exact Kd.R_mono HO109.out (fun _ hk => hk.2)), (uP BK101), (uP BK102), (uP BK103), (uP BK113), GW113.out, GE113.out, NB101_113.out, NB113_101.out, NB102_113.out, NB113_102.out, NB103_113.out, NB113_103.out, uW⟩)
          ·skip
           rintro v108 w38 ⟨hS_, h0_, h1_, h2_, h3_, h4_⟩
           have n0_ : Aside0 (Kd.R k37 37 w38 w.heap.size (fun k_ => k_ ≠ gb102) v108 y107) := ⟨h0_⟩
           have n1_ : Aside0 (w38.heap[gb101]? = some (.cells #[.int .i64 a0_0, .int .i64 a0_1, .slice A0_2 l0_2.length c0_2] 33 (0, 0))) := ⟨h1_⟩
           have n2_ : Aside0 (w38.heap[gb102]? = some (.cells #[.int .i64 a1_0, .int .i64 a1_1, .int .i64 a1_2] 37 (0, 0))) := ⟨h2_⟩
           have n3_ : Aside0 (w38.heap[gb103]? = some (.cells #[.int .i64 0, .int .i64 0, .slice none 0 0] 33 (0, 0))) := ⟨h3_⟩
           have n4_ : Aside0 (Below w.heap.size w w38) := ⟨h4_⟩
           clear BK101
           clear BK102
           clear BK103
           clear HB
           clear h0_ h1_ h2_ h3_ h4_
           have HO109 := n0_
           have BK101 := n1_
           have BK102 := n2_
           have BK103 := n3_
           have HB := n4_
           clear n0_ n1_ n2_ n3_ n4_
           have hHeld : w38.cell? ⟨gb101, 0, none⟩ = some (.int .i64 a0_0) ∧ w38.cell? ⟨gb101, 1, none⟩ = some (.int .i64 a0_1) ∧ w38.cell? ⟨gb101, 2, none⟩ = some (.slice A0_2 l0_2.length c0_2) ∧ w38.cell? ⟨gb102, 0, none⟩ = some (.int .i64 a1_0) ∧ w38.cell? ⟨gb102, 1, none⟩ = some (.int .i64 a1_1) ∧ w38.cell? ⟨gb102, 2, none⟩ = some (.int .i64 a1_2) := hS_
           refine uNp ?_
           refine two_ (i := 4) (j := 9) (Ni := some 11) (Nj := some 6) #[true, true, true, true, true, true, true, false, false, false, false] #[true, true, true, true, false, true, true, false, false, true, false] rfl rfl rfl rfl (two_of HT_.out (by kernel_rfl)) (by decide) (by decide) (fun K hK => ?_) (fun K hK => ?_)
           ·skip
            refine uGs Try.func44 #[.slice A0_2 l0_2.length c0_2] ?_
            with_reducible refine (impl_Clue_44.calls _ _ l0_2 t104 _ ?side1 ?side2 A3.out).mono ?_
            (case side1 => repeat (first | exact (Kd.C_below HR0_2.out HB.out) | (with_reducible refine cA ?_ _) | (with_reducible refine cN ?_ _) | (with_reducible refine cD ?_)))
            (case side2 => exact HC0_2.out)
            rintro e w39 ⟨v105, rfl, ho0, hb⟩
            refine ⟨_, rfl, ?_⟩
            have HO106 := am (Kd.R_lower (Kd.R_newB (Kd.R_new' ho0 (Kd.R_lt (uR HO109))) (uP BK102)) (below_size uW))
            replace HO109 := am (Kd.R_elder' (uR HO109) (Kd.R_base ho0) hb)
            replace BK101 := uB BK101 hb
            replace BK102 := uB BK102 hb
            replace BK103 := uB BK103 hb
            replace HB := uS hb
            (try clear hb)
            (try clear hb2)
            (try clear hk)
            (try clear hi)
            (try clear ho0)
            refine hK.out _ _ ⟨uT BK101 0, uT BK101 1, uT BK101 2, uT BK102 0, uT BK102 1, uT BK102 2⟩ (fun hHeld => ?_)
            clear hK K
            refine uNo (some 11) ?_
            exact norm_ (by first | (simp only [putAll, Act.put, List.setIfInBounds_toArray, List.set_cons_zero, List.set_cons_succ]; done) | (simp only [putAll, Act.put, List.setIfInBounds_toArray, List.set_cons_zero, List.set_cons_succ]; rfl)) (hJ4_6 (v105, v108) _ ⟨hHeld, (by (with_reducible repeat (first | apply rA | apply rN | apply rD)); exact Kd.R_mono HO106.out (fun _ hk => ⟨hk.1.2, hk.2⟩)), (by (with_reducible repeat (first | apply rA | apply rN | apply rD)); exact Kd.R_mono HO109.out (fun _ hk => ⟨hk.2, hk.1⟩)), (uP BK101), (uP BK102), (uP BK103), uW⟩)
           ·skip
            refine box_step ?hg (N := 6) ?hd (cs := #[.int .i64 0, .int .i64 0, .slice none 0 0]) (t := 33) ?hr ?_; (case hd => rfl); (case hg => rfl); (case hr => first | (go_simp; done) | (go_simp; rfl))
            intro gb113 hg w39 hbox hb
            have BK113 := am (hbox)
            have GW113 := uE hg
            have GE113 := GW113
            have NB101_113 := uL BK101 hg
            have NB113_101 := uY NB101_113
            have NB102_113 := uL BK102 hg
            have NB113_102 := uY NB102_113
            have NB103_113 := uL BK103 hg
            have NB113_103 := uY NB103_113
            replace HO109 := am (Kd.R_below (uR HO109) hb)
            replace BK101 := uB BK101 hb
            replace BK102 := uB BK102 hb
            replace BK103 := uB BK103 hb
            replace HB := uS hb
            clear hb hbox hg
            refine hK.out _ _ ⟨uT BK101 0, uT BK101 1, uT BK101 2, uT BK102 0, uT BK102 1, uT BK102 2⟩ (fun hHeld => ?_)
            clear hK K
            refine uNo (some 6) ?_
            exact norm_ (by first | (simp only [putAll, Act.put, List.setIfInBounds_toArray, List.set_cons_zero, List.set_cons_succ]; done) | (simp only [putAll, Act.put, List.setIfInBounds_toArray, List.set_cons_zero, List.set_cons_succ]; rfl)) (hJ6_9 (v108, gb113) _ ⟨hHeld, (uR HO109), (uP BK101), (uP BK102), (uP BK103), (uP BK113), GW113.out, GE113.out, NB101_113.out, NB113_101.out, NB102_113.out, NB113_102.out, NB103_113.out, NB113_103.out, uW⟩)
         ·skip
          rintro v105 w37 ⟨hS_, h0_, h1_, h2_, h3_, h4_⟩
          have n0_ : Aside0 (Kd.R k37 37 w37 w.heap.size (fun k_ => k_ ≠ gb102) v105 t104) := ⟨h0_⟩
          have n1_ : Aside0 (w37.heap[gb101]? = some (.cells #[.int .i64 a0_0, .int .i64 a0_1, .slice A0_2 l0_2.length c0_2] 33 (0, 0))) := ⟨h1_⟩
          have n2_ : Aside0 (w37.heap[gb102]? = some (.cells #[.int .i64 a1_0, .int .i64 a1_1, .int .i64 a1_2] 37 (0, 0))) := ⟨h2_⟩
          have n3_ : Aside0 (w37.heap[gb103]? = some (.cells #[.int .i64 0, .int .i64 0, .slice none 0 0] 33 (0, 0))) := ⟨h3_⟩
          have n4_ : Aside0 (Below w.heap.size w w37) := ⟨h4_⟩
          clear BK101
          clear BK102
          clear BK103
          clear HB
          clear h0_ h1_ h2_ h3_ h4_
          have HO106 := n0_
          have BK101 := n1_
          have BK102 := n2_
          have BK103 := n3_
          have HB := n4_
          clear n0_ n1_ n2_ n3_ n4_
          have hHeld : w37.cell? ⟨gb101, 0, none⟩ = some (.int .i64 a0_0) ∧ w37.cell? ⟨gb101, 1, none⟩ = some (.int .i64 a0_1) ∧ w37.cell? ⟨gb101, 2, none⟩ = some (.slice A0_2 l0_2.length c0_2) ∧ w37.cell? ⟨gb102, 0, none⟩ = some (.int .i64 a1_0) ∧ w37.cell? ⟨gb102, 1, none⟩ = some (.int .i64 a1_1) ∧ w37.cell? ⟨gb102, 2, none⟩ = some (.int .i64 a1_2) := hS_
          refine uNp ?_
          refine two_ (i := 6) (j := 9) (Ni := some 13) (Nj := some 6) #[true, true, true, true, true, true, true, false, false, false, false] #[true, true, true, true, true, true, false, false, false, true, false] rfl rfl rfl rfl (two_of HT_.out (by kernel_rfl)) (by decide) (by decide) (fun K hK => ?_) (fun K hK => ?_)
          ·skip
           refine Kd.R_lit_step k37 _ 37 ?hg (N := 13) ?hd (xs := ([(⟨a1_0, a1_1, a1_2⟩ : S37)] : List (S37))) (inner := [.int .i64 a1_0, .int .i64 a1_1, .int .i64 a1_2]) (ok := fun _ => True) (okp := fun _ => True) ?hr ?hp (fun _ hk => hk) trivial (Below.refl _ _) (Nat.le_refl _) (by simp) ?_; (case hd => rfl); (case hg => rfl); (case hr => first | (go_simp; done) | (go_simp; rfl)); (case hp => exact (Reps.c3 (show Kd.M k37 _ _ _ (⟨a1_0, a1_1, a1_2⟩ : S37) [.int .i64 a1_0, .int .i64 a1_1, .int .i64 a1_2] from (k37_mkM _ _ _ (⟨a1_0, a1_1, a1_2⟩ : S37) )) (Reps.none _ _)))
           intro v108 w38 ho39 hb hg_ hnew_
           clear hg_ hnew_
           (first | rw [← Ny107.out] at ho39 | (simp only [Int.reduceToNat] at ho39; rw [← Ny107.out] at ho39))
           have HO109 := am (Kd.R_lower (Kd.R_newB (Kd.R_new' ho39 (Kd.R_lt (uR HO106))) (uP BK102)) (below_size uW))
           replace HO106 := am (Kd.R_elder' (uR HO106) (Kd.R_base ho39) hb)
           replace BK101 := uB BK101 hb
           replace BK102 := uB BK102 hb
           replace BK103 := uB BK103 hb
           replace HB := uS hb
           clear hb ho39
           refine hK.out _ _ ⟨uT BK101 0, uT BK101 1, uT BK101 2, uT BK102 0, uT BK102 1, uT BK102 2⟩ (fun hHeld => ?_)
           clear hK K
           refine uNo (some 13) ?_
           exact norm_ (by first | (simp only [putAll, Act.put, List.setIfInBounds_toArray, List.set_cons_zero, List.set_cons_succ]; done) | (simp only [putAll, Act.put, List.setIfInBounds_toArray, List.set_cons_zero, List.set_cons_succ]; rfl)) (hJ4_6 (v105, v108) _ ⟨hHeld, (by (with_reducible repeat (first | apply rA | apply rN | apply rD)); exact Kd.R_mono HO106.out (fun _ hk => ⟨hk.2, hk.1⟩)), (by (with_reducible repeat (first | apply rA | apply rN | apply rD)); exact Kd.R_mono HO109.out (fun _ hk => ⟨hk.1.2, hk.2⟩)), (uP BK101), (uP BK102), (uP BK103), uW⟩)
          ·skip
           refine box_step ?hg (N := 6) ?hd (cs := #[.int .i64 0, .int .i64 0, .slice none 0 0]) (t := 33) ?hr ?_; (case hd => rfl); (case hg => rfl); (case hr => first | (go_simp; done) | (go_simp; rfl))
           intro gb113 hg w38 hbox hb
           have BK113 := am (hbox)
           have GW113 := uE hg
           have GE113 := GW113
           have NB101_113 := uL BK101 hg
           have NB113_101 := uY NB101_113
           have NB102_113 := uL BK102 hg
           have NB113_102 := uY NB102_113
           have NB103_113 := uL BK103 hg
           have NB113_103 := uY NB103_113
           replace HO106 := am (Kd.R_below (uR HO106) hb)
           replace BK101 := uB BK101 hb
           replace BK102 := uB BK102 hb
           replace BK103 := uB BK103 hb
           replace HB := uS hb
           clear hb hbox hg
           refine hK.out _ _ ⟨uT BK101 0, uT BK101 1, uT BK101 2, uT BK102 0, uT BK102 1, uT BK102 2⟩ (fun hHeld => ?_)
           clear hK K
           refine uNo (some 6) ?_
           exact norm_ (by first | (simp only [putAll, Act.put, List.setIfInBounds_toArray, List.set_cons_zero, List.set_cons_succ]; done) | (simp only [putAll, Act.put, List.setIfInBounds_toArray, List.set_cons_zero, List.set_cons_succ]; rfl)) (hJ4_9 (v105, gb113) _ ⟨hHeld, (uR HO106), (uP BK101), (uP BK102), (uP BK103), (uP BK113), GW113.out, GE113.out, NB101_113.out, NB113_101.out, NB102_113.out, NB113_102.out, NB103_113.out, NB113_103.out, uW⟩)
        ·skip
         rintro ⟨v108, gb113⟩ w39 ⟨hS_, h0_, h1_, h2_, h3_, h4_, h5_, h6_, h7_, h8_, h9_, h10_, h11_, h12_, h13_⟩
         have n0_ : Aside0 (Kd.R k37 37 w39 w.heap.size (fun k_ => k_ ≠ gb102) v108 y107) := ⟨h0_⟩
         have n1_ : Aside0 (w39.heap[gb101]? = some (.cells #[.int .i64 a0_0, .int .i64 a0_1, .slice A0_2 l0_2.length c0_2] 33 (0, 0))) := ⟨h1_⟩
         have n2_ : Aside0 (w39.heap[gb102]? = some (.cells #[.int .i64 a1_0, .int .i64 a1_1, .int .i64 a1_2] 37 (0, 0))) := ⟨h2_⟩
         have n3_ : Aside0 (w39.heap[gb103]? = some (.cells #[.int .i64 0, .int .i64 0, .slice none 0 0] 33 (0, 0))) := ⟨h3_⟩
         have n4_ : Aside0 (w39.heap[gb113]? = some (.cells #[.int .i64 0, .int .i64 0, .slice none 0 0] 33 (0, 0))) := ⟨h4_⟩
         have n5_ : Aside0 (w.heap.size ≤ gb113) := ⟨h5_⟩
         have n6_ : Aside0 (w.heap.size ≤ gb113) := ⟨h6_⟩
         have n7_ : Aside0 (gb101 ≠ gb113) := ⟨h7_⟩
         have n8_ : Aside0 (gb113 ≠ gb101) := ⟨h8_⟩
         have n9_ : Aside0 (gb102 ≠ gb113) := ⟨h9_⟩
         have n10_ : Aside0 (gb113 ≠ gb102) := ⟨h10_⟩
         have n11_ : Aside0 (gb103 ≠ gb113) := ⟨h11_⟩
         have n12_ : Aside0 (gb113 ≠ gb103) := ⟨h12_⟩
         have n13_ : Aside0 (Below w.heap.size w w39) := ⟨h13_⟩
         clear BK101
         clear BK102
         clear BK103
         clear HB
         clear h0_ h1_ h2_ h3_ h4_ h5_ h6_ h7_ h8_ h9_ h10_ h11_ h12_ h13_
         have HO109 := n0_
         have BK101 := n1_
         have BK102 := n2_
         have BK103 := n3_
         have BK113 := n4_
         have GW113 := n5_
         have GE113 := n6_
         have NB101_113 := n7_
         have NB113_101 := n8_
         have NB102_113 := n9_
         have NB113_102 := n10_
         have NB103_113 := n11_
         have NB113_103 := n12_
         have HB := n13_
         clear n0_ n1_ n2_ n3_ n4_ n5_ n6_ n7_ n8_ n9_ n10_ n11_ n12_ n13_
         have hHeld : w39.cell? ⟨gb101, 0, none⟩ = some (.int .i64 a0_0) ∧ w39.cell? ⟨gb101, 1, none⟩ = some (.int .i64 a0_1) ∧ w39.cell? ⟨gb101, 2, none⟩ = some (.slice A0_2 l0_2.length c0_2) ∧ w39.cell? ⟨gb102, 0, none⟩ = some (.int .i64 a1_0) ∧ w39.cell? ⟨gb102, 1, none⟩ = some (.int .i64 a1_1) ∧ w39.cell? ⟨gb102, 2, none⟩ = some (.int .i64 a1_2) := hS_
         refine uNp ?_
         refine uOn (i := 4) (N := some 11) #[true, true, true, true, true, true, true, false, false, true, false] (fun K hK => ?_)
         refine uGs Try.func44 #[.slice A0_2 l0_2.length c0_2] ?_
         with_reducible refine (impl_Clue_44.calls _ _ l0_2 t104 _ ?side1 ?side2 A3.out).mono ?_
         (case side1 => repeat (first | exact (Kd.C_below HR0_2.out HB.out) | (with_reducible refine cA ?_ _) | (with_reducible refine cN ?_ _) | (with_reducible refine cD ?_)))
         (case side2 => exact HC0_2.out)
         rintro e w40 ⟨v105, rfl, ho0, hb⟩
         refine ⟨_, rfl, ?_⟩
         have HO106 := am (Kd.R_lower (Kd.R_newB (Kd.R_new' ho0 (Kd.R_lt (uR HO109))) (uP BK102)) (below_size uW))
         replace HO109 := am (Kd.R_elder' (uR HO109) (Kd.R_base ho0) hb)
         replace BK101 := uB BK101 hb
         replace BK102 := uB BK102 hb
         replace BK103 := uB BK103 hb
         replace BK113 := uB BK113 hb
         replace HB := uS hb
         (try clear hb)
         (try clear hb2)
         (try clear hk)
         (try clear hi)
         (try clear ho0)
         refine hK.out _ _ ⟨uT BK101 0, uT BK101 1, uT BK101 2, uT BK102 0, uT BK102 1, uT BK102 2⟩ (fun hHeld => ?_)
         clear hK K
         refine uNo (some 11) ?_
         exact norm_ (by first | (simp only [putAll, Act.put, List.setIfInBounds_toArray, List.set_cons_zero, List.set_cons_succ]; done) | (simp only [putAll, Act.put, List.setIfInBounds_toArray, List.set_cons_zero, List.set_cons_succ]; rfl)) (hJ4_6_9 (v105, v108, gb113) _ ⟨hHeld, (by (with_reducible repeat (first | apply rA | apply rN | apply rD)); exact Kd.R_mono HO106.out (fun _ hk => ⟨hk.1.2, hk.2⟩)), (by (with_reducible repeat (first | apply rA | apply rN | apply rD)); exact Kd.R_mono HO109.out (fun _ hk => ⟨hk.2, hk.1⟩)), (uP BK101), (uP BK102), (uP BK103), (uP BK113), GW113.out, GE113.out, NB101_113.out, NB113_101.out, NB102_113.out, NB113_102.out, NB103_113.out, NB113_103.out, uW⟩)
       ·skip
        rintro ⟨v105, gb113⟩ w38 ⟨hS_, h0_, h1_, h2_, h3_, h4_, h5_, h6_, h7_, h8_, h9_, h10_, h11_, h12_, h13_⟩
        have n0_ : Aside0 (Kd.R k37 37 w38 w.heap.size (fun k_ => k_ ≠ gb102) v105 t104) := ⟨h0_⟩
        have n1_ : Aside0 (w38.heap[gb101]? = some (.cells #[.int .i64 a0_0, .int .i64 a0_1, .slice A0_2 l0_2.length c0_2] 33 (0, 0))) := ⟨h1_⟩
        have n2_ : Aside0 (w38.heap[gb102]? = some (.cells #[.int .i64 a1_0, .int .i64 a1_1, .int .i64 a1_2] 37 (0, 0))) := ⟨h2_⟩
        have n3_ : Aside0 (w38.heap[gb103]? = some (.cells #[.int .i64 0, .int .i64 0, .slice none 0 0] 33 (0, 0))) := ⟨h3_⟩
        have n4_ : Aside0 (w38.heap[gb113]? = some (.cells #[.int .i64 0, .int .i64 0, .slice none 0 0] 33 (0, 0))) := ⟨h4_⟩
        have n5_ : Aside0 (w.heap.size ≤ gb113) := ⟨h5_⟩
        have n6_ : Aside0 (w.heap.size ≤ gb113) := ⟨h6_⟩
        have n7_ : Aside0 (gb101 ≠ gb113) := ⟨h7_⟩
        have n8_ : Aside0 (gb113 ≠ gb101) := ⟨h8_⟩
        have n9_ : Aside0 (gb102 ≠ gb113) := ⟨h9_⟩
        have n10_ : Aside0 (gb113 ≠ gb102) := ⟨h10_⟩
        have n11_ : Aside0 (gb103 ≠ gb113) := ⟨h11_⟩
        have n12_ : Aside0 (gb113 ≠ gb103) := ⟨h12_⟩
        have n13_ : Aside0 (Below w.heap.size w w38) := ⟨h13_⟩
        clear BK101
        clear BK102
        clear BK103
        clear HB
        clear h0_ h1_ h2_ h3_ h4_ h5_ h6_ h7_ h8_ h9_ h10_ h11_ h12_ h13_
        have HO106 := n0_
        have BK101 := n1_
        have BK102 := n2_
        have BK103 := n3_
        have BK113 := n4_
        have GW113 := n5_
        have GE113 := n6_
        have NB101_113 := n7_
        have NB113_101 := n8_
        have NB102_113 := n9_
        have NB113_102 := n10_
        have NB103_113 := n11_
        have NB113_103 := n12_
        have HB := n13_
        clear n0_ n1_ n2_ n3_ n4_ n5_ n6_ n7_ n8_ n9_ n10_ n11_ n12_ n13_
        have hHeld : w38.cell? ⟨gb101, 0, none⟩ = some (.int .i64 a0_0) ∧ w38.cell? ⟨gb101, 1, none⟩ = some (.int .i64 a0_1) ∧ w38.cell? ⟨gb101, 2, none⟩ = some (.slice A0_2 l0_2.length c0_2) ∧ w38.cell? ⟨gb102, 0, none⟩ = some (.int .i64 a1_0) ∧ w38.cell? ⟨gb102, 1, none⟩ = some (.int .i64 a1_1) ∧ w38.cell? ⟨gb102, 2, none⟩ = some (.int .i64 a1_2) := hS_
        refine uNp ?_
        refine uOn (i := 6) (N := some 13) #[true, true, true, true, true, true, true, false, false, true, false] (fun K hK => ?_)
        refine Kd.R_lit_step k37 _ 37 ?hg (N := 13) ?hd (xs := ([(⟨a1_0, a1_1, a1_2⟩ : S37)] : List (S37))) (inner := [.int .i64 a1_0, .int .i64 a1_1, .int .i64 a1_2]) (ok := fun _ => True) (okp := fun _ => True) ?hr ?hp (fun _ hk => hk) trivial (Below.refl _ _) (Nat.le_refl _) (by simp) ?_; (case hd => rfl); (case hg => rfl); (case hr => first | (go_simp; done) | (go_simp; rfl)); (case hp => exact (Reps.c3 (show Kd.M k37 _ _ _ (⟨a1_0, a1_1, a1_2⟩ : S37) [.int .i64 a1_0, .int .i64 a1_1, .int .i64 a1_2] from (k37_mkM _ _ _ (⟨a1_0, a1_1, a1_2⟩ : S37) )) (Reps.none _ _)))
        intro v108 w39 ho40 hb hg_ hnew_
        clear hg_ hnew_
        (first | rw [← Ny107.out] at ho40 | (simp only [Int.reduceToNat] at ho40; rw [← Ny107.out] at ho40))
        have HO109 := am (Kd.R_lower (Kd.R_newB (Kd.R_new' ho40 (Kd.R_lt (uR HO106))) (uP BK102)) (below_size uW))
        replace HO106 := am (Kd.R_elder' (uR HO106) (Kd.R_base ho40) hb)
        replace BK101 := uB BK101 hb
        replace BK102 := uB BK102 hb
        replace BK103 := uB BK103 hb
        replace BK113 := uB BK113 hb
        replace HB := uS hb
        clear hb ho40
        refine hK.out _ _ ⟨uT BK101 0, uT BK101 1, uT BK101 2, uT BK102 0, uT BK102 1, uT BK102 2⟩ (fun hHeld => ?_)
        clear hK K
        refine uNo (some 13) ?_
        exact norm_ (by first | (simp only [putAll, Act.put, List.setIfInBounds_toArray, List.set_cons_zero, List.set_cons_succ]; done) | (simp only [putAll, Act.put, List.setIfInBounds_toArray, List.set_cons_zero, List.set_cons_succ]; rfl)) (hJ4_6_9 (v105, v108, gb113) _ ⟨hHeld, (by (with_reducible repeat (first | apply rA | apply rN | apply rD)); exact Kd.R_mono HO106.out (fun _ hk => ⟨hk.2, hk.1⟩)), (by (with_reducible repeat (first | apply rA | apply rN | apply rD)); exact Kd.R_mono HO109.out (fun _ hk => ⟨hk.1.2, hk.2⟩)), (uP BK101), (uP BK102), (uP BK103), (uP BK113), GW113.out, GE113.out, NB101_113.out, NB113_101.out, NB102_113.out, NB113_102.out, NB103_113.out, NB113_103.out, uW⟩)
      ·skip
       rintro ⟨v105, v108⟩ w39 ⟨hS_, h0_, h1_, h2_, h3_, h4_, h5_⟩
       have n0_ : Aside0 (Kd.R k37 37 w39 w.heap.size (fun k_ => some k_ ≠ (v108 : Value).ownBlock ∧ k_ ≠ gb102) v105 t104) := ⟨h0_⟩
       have n1_ : Aside0 (Kd.R k37 37 w39 w.heap.size (fun k_ => some k_ ≠ (v105 : Value).ownBlock ∧ k_ ≠ gb102) v108 y107) := ⟨h1_⟩
       have n2_ : Aside0 (w39.heap[gb101]? = some (.cells #[.int .i64 a0_0, .int .i64 a0_1, .slice A0_2 l0_2.length c0_2] 33 (0, 0))) := ⟨h2_⟩
       have n3_ : Aside0 (w39.heap[gb102]? = some (.cells #[.int .i64 a1_0, .int .i64 a1_1, .int .i64 a1_2] 37 (0, 0))) := ⟨h3_⟩
       have n4_ : Aside0 (w39.heap[gb103]? = some (.cells #[.int .i64 0, .int .i64 0, .slice none 0 0] 33 (0, 0))) := ⟨h4_⟩
       have n5_ : Aside0 (Below w.heap.size w w39) := ⟨h5_⟩
       clear BK101
       clear BK102
       clear BK103
       clear HB
       clear h0_ h1_ h2_ h3_ h4_ h5_
       have HO106 := n0_
       have HO109 := n1_
       have BK101 := n2_
       have BK102 := n3_
       have BK103 := n4_
       have HB := n5_
       clear n0_ n1_ n2_ n3_ n4_ n5_
       have hHeld : w39.cell? ⟨gb101, 0, none⟩ = some (.int .i64 a0_0) ∧ w39.cell? ⟨gb101, 1, none⟩ = some (.int .i64 a0_1) ∧ w39.cell? ⟨gb101, 2, none⟩ = some (.slice A0_2 l0_2.length c0_2) ∧ w39.cell? ⟨gb102, 0, none⟩ = some (.int .i64 a1_0) ∧ w39.cell? ⟨gb102, 1, none⟩ = some (.int .i64 a1_1) ∧ w39.cell? ⟨gb102, 2, none⟩ = some (.int .i64 a1_2) := hS_
       obtain ⟨Ao41, co41, eo41⟩ := Kd.R_slice HO109.out
       (first | subst eo41 | (injection eo41 with f1_ f2_ f3_; have f4_ := f1_.symm; have f5_ := f3_.symm; clear f1_ f2_ f3_; subst f4_; subst f5_))
       refine uNp ?_
       refine two_ (i := 7) (j := 9) (Ni := some 14) (Nj := some 6) #[true, true, true, true, true, true, true, true, false, false, false] #[true, true, true, true, true, true, true, false, false, true, false] rfl rfl rfl rfl (two_of HT_.out (by kernel_rfl)) (by decide) (by decide) (fun K hK => ?_) (fun K hK => ?_)
       ·skip
        refine Kd.R_append_rows_step k37 (w0 := w) w.heap.size (by rfl) (.tmp 11) (.tmp 13) 31 37 (.agg #[(.int .i64 0), (.int .i64 0), (.int .i64 0)]) 24 rfl Try.underlying31 info37 rfl (by decide) (by omega) v105 t104 y107 _ _ _ (fun k_ => some k_ ≠ (.slice Ao41 y107.length co41 : Value).ownBlock ∧ k_ ≠ gb102) (fun _ => False) rfl rfl ?aO ?aR (fun _ _ h => h) (fun _ h => h.elim) ?aF ?aB ?aS ?aL ?_
        (case aR => repeat (first | exact (Kd.R_reads' HO109.out).2.2 | (with_reducible refine cA ?_ _) | (with_reducible refine cN ?_ _) | (with_reducible refine cD ?_)))
        (case aB => exact uW)
        (case aF => exact (fun k_ hk => ⟨Kd.fresh' (Kd.R_lt (uR HO109)) k_ hk, Kd.freshB (uP BK102) k_ hk⟩))
        (case aO => exact (uR HO106))
        (case aS => exact (below_size uW))
        (case aL => have := LMc4.out; omega)
        intro v111 w40 ho hb hg hat
        rw [← Ny110.out] at ho
        have HO112 := am (ho)
        replace BK101 := am (blk_grown (uP BK101) hg (Kd.R_ne HO106.out BK101.out (by decide)))
        replace BK102 := am (blk_grown (uP BK102) hg (Kd.R_away HO106.out (fun _ hk => hk.2)))
        replace BK103 := am (blk_grown (uP BK103) hg (Kd.R_ne HO106.out BK103.out (by decide)))
        replace HO109 := am (Kd.R_after (ok := (fun k_ => k_ ≠ gb102)) (by (with_reducible repeat (first | apply rA | apply rN | apply rD)); exact Kd.R_mono HO109.out (fun _ hk => ⟨hk.2, hk.1⟩)) hg hat)
        replace HB := am (hb)
        clear HO106
        clear ho hb hg hat
        obtain ⟨Ao42, co42, eo42⟩ := Kd.R_slice HO112.out
        (first | subst eo42 | (injection eo42 with f1_ f2_ f3_; have f4_ := f1_.symm; have f5_ := f3_.symm; clear f1_ f2_ f3_; subst f4_; subst f5_))
        refine hK.out _ _ ⟨uT BK101 0, uT BK101 1, uT BK101 2, uT BK102 0, uT BK102 1, uT BK102 2⟩ (fun hHeld => ?_)
        clear hK K
        refine uNo (some 14) ?_
        refine uPu (i := 8) (N := some 15) #[true, true, true, true, true, true, true, true, true, false, false] ?_
        exact norm_ (by first | (simp only [putAll, Act.put, List.setIfInBounds_toArray, List.set_cons_zero, List.set_cons_succ]; done) | (simp only [putAll, Act.put, List.setIfInBounds_toArray, List.set_cons_zero, List.set_cons_succ]; rfl)) (hJ4_6_7 (v105, .slice Ao41 y107.length co41, .slice Ao42 y110.length co42) _ ⟨hHeld, (by (with_reducible repeat (first | apply rA | apply rN | apply rD)); exact Kd.R_mono HO109.out (fun _ hk => ⟨hk.2, hk.1⟩)), (uR HO112), (uP BK101), (uP BK102), (uP BK103), uW⟩)
       ·skip
        refine box_step ?hg (N := 6) ?hd (cs := #[.int .i64 0, .int .i64 0, .slice none 0 0]) (t := 33) ?hr ?_; (case hd => rfl); (case hg => rfl); (case hr => first | (go_simp; done) | (go_simp; rfl))
        intro gb113 hg w40 hbox hb
        have BK113 := am (hbox)
        have GW113 := uE hg
        have GE113 := GW113
        have NB101_113 := uL BK101 hg
        have NB113_101 := uY NB101_113
        have NB102_113 := uL BK102 hg
        have NB113_102 := uY NB102_113
        have NB103_113 := uL BK103 hg
        have NB113_103 := uY NB103_113
        replace HO106 := am (Kd.R_below (uR HO106) hb)
        replace HO109 := am (Kd.R_below (uR HO109) hb)
        replace BK101 := uB BK101 hb
        replace BK102 := uB BK102 hb
        replace BK103 := uB BK103 hb
        replace HB := uS hb
        clear hb hbox hg
        refine hK.out _ _ ⟨uT BK101 0, uT BK101 1, uT BK101 2, uT BK102 0, uT BK102 1, uT BK102 2⟩ (fun hHeld => ?_)
        clear hK K
        refine uNo (some 6) ?_
        exact norm_ (by first | (simp only [putAll, Act.put, List.setIfInBounds_toArray, List.set_cons_zero, List.set_cons_succ]; done) | (simp only [putAll, Act.put, List.setIfInBounds_toArray, List.set_cons_zero, List.set_cons_succ]; rfl)) (hJ4_6_9 (v105, .slice Ao41 y107.length co41, gb113) _ ⟨hHeld, (uR HO106), (uR HO109), (uP BK101), (uP BK102), (uP BK103), (uP BK113), GW113.out, GE113.out, NB101_113.out, NB113_101.out, NB102_113.out, NB113_102.out, NB103_113.out, NB113_103.out, uW⟩)
     ·skip
      rintro ⟨v105, v108, gb113⟩ w40 ⟨hS_, h0_, h1_, h2_, h3_, h4_, h5_, h6_, h7_, h8_, h9_, h10_, h11_, h12_, h13_, h14_⟩
      have n0_ : Aside0 (Kd.R k37 37 w40 w.heap.size (fun k_ => some k_ ≠ (v108 : Value).ownBlock ∧ k_ ≠ gb102) v105 t104) := ⟨h0_⟩
      have n1_ : Aside0 (Kd.R k37 37 w40 w.heap.size (fun k_ => some k_ ≠ (v105 : Value).ownBlock ∧ k_ ≠ gb102) v108 y107) := ⟨h1_⟩
      have n2_ : Aside0 (w40.heap[gb101]? = some (.cells #[.int .i64 a0_0, .int .i64 a0_1, .slice A0_2 l0_2.length c0_2] 33 (0, 0))) := ⟨h2_⟩
      have n3_ : Aside0 (w40.heap[gb102]? = some (.cells #[.int .i64 a1_0, .int .i64 a1_1, .int .i64 a1_2] 37 (0, 0))) := ⟨h3_⟩
      have n4_ : Aside0 (w40.heap[gb103]? = some (.cells #[.int .i64 0, .int .i64 0, .slice none 0 0] 33 (0, 0))) := ⟨h4_⟩
      have n5_ : Aside0 (w40.heap[gb113]? = some (.cells #[.int .i64 0, .int .i64 0, .slice none 0 0] 33 (0, 0))) := ⟨h5_⟩
      have n6_ : Aside0 (w.heap.size ≤ gb113) := ⟨h6_⟩
      have n7_ : Aside0 (w.heap.size ≤ gb113) := ⟨h7_⟩
      have n8_ : Aside0 (gb101 ≠ gb113) := ⟨h8_⟩
      have n9_ : Aside0 (gb113 ≠ gb101) := ⟨h9_⟩
      have n10_ : Aside0 (gb102 ≠ gb113) := ⟨h10_⟩
      have n11_ : Aside0 (gb113 ≠ gb102) := ⟨h11_⟩
      have n12_ : Aside0 (gb103 ≠ gb113) := ⟨h12_⟩
      have n13_ : Aside0 (gb113 ≠ gb103) := ⟨h13_⟩
      have n14_ : Aside0 (Below w.heap.size w w40) := ⟨h14_⟩
      clear BK101
      clear BK102
      clear BK103
      clear HB
      clear h0_ h1_ h2_ h3_ h4_ h5_ h6_ h7_ h8_ h9_ h10_ h11_ h12_ h13_ h14_
      have HO106 := n0_
      have HO109 := n1_
      have BK101 := n2_
      have BK102 := n3_
      have BK103 := n4_
      have BK113 := n5_
      have GW113 := n6_
      have GE113 := n7_
      have NB101_113 := n8_
      have NB113_101 := n9_
      have NB102_113 := n10_
      have NB113_102 := n11_
      have NB103_113 := n12_
      have NB113_103 := n13_
      have HB := n14_
      clear n0_ n1_ n2_ n3_ n4_ n5_ n6_ n7_ n8_ n9_ n10_ n11_ n12_ n13_ n14_
      have hHeld : w40.cell? ⟨gb101, 0, none⟩ = some (.int .i64 a0_0) ∧ w40.cell? ⟨gb101, 1, none⟩ = some (.int .i64 a0_1) ∧ w40.cell? ⟨gb101, 2, none⟩ = some (.slice A0_2 l0_2.length c0_2) ∧ w40.cell? ⟨gb102, 0, none⟩ = some (.int .i64 a1_0) ∧ w40.cell? ⟨gb102, 1, none⟩ = some (.int .i64 a1_1) ∧ w40.cell? ⟨gb102, 2, none⟩ = some (.int .i64 a1_2) := hS_
      obtain ⟨Ao42, co42, eo42⟩ := Kd.R_slice HO109.out
      (first | subst eo42 | (injection eo42 with f1_ f2_ f3_; have f4_ := f1_.symm; have f5_ := f3_.symm; clear f1_ f2_ f3_; subst f4_; subst f5_))
      refine uNp ?_
      refine uOn (i := 7) (N := some 14) #[true, true, true, true, true, true, true, true, false, true, false] (fun K hK => ?_)
      refine Kd.R_append_rows_step k37 (w0 := w) w.heap.size (by rfl) (.tmp 11) (.tmp 13) 31 37 (.agg #[(.int .i64 0), (.int .i64 0), (.int .i64 0)]) 24 rfl Try.underlying31 info37 rfl (by decide) (by omega) v105 t104 y107 _ _ _ (fun k_ => some k_ ≠ (.slice Ao42 y107.length co42 : Value).ownBlock ∧ k_ ≠ gb102) (fun _ => False) rfl rfl ?aO ?aR (fun _ _ h => h) (fun _ h => h.elim) ?aF ?aB ?aS ?aL ?_
      (case aR => repeat (first | exact (Kd.R_reads' HO109.out).2.2 | (with_reducible refine cA ?_ _) | (with_reducible refine cN ?_ _) | (with_reducible refine cD ?_)))
      (case aB => exact uW)
      (case aF => exact (fun k_ hk => ⟨Kd.fresh' (Kd.R_lt (uR HO109)) k_ hk, Kd.freshB (uP BK102) k_ hk⟩))
      (case aO => exact (uR HO106))
      (case aS => exact (below_size uW))
      (case aL => have := LMc4.out; omega)
      intro v111 w41 ho hb hg hat
      rw [← Ny110.out] at ho
      have HO112 := am (ho)
      replace BK101 := am (blk_grown (uP BK101) hg (Kd.R_ne HO106.out BK101.out (by decide)))
      replace BK102 := am (blk_grown (uP BK102) hg (Kd.R_away HO106.out (fun _ hk => hk.2)))
      replace BK103 := am (blk_grown (uP BK103) hg (Kd.R_ne HO106.out BK103.out (by decide)))
      replace HO109 := am (Kd.R_after (ok := (fun k_ => k_ ≠ gb102)) (by (with_reducible repeat (first | apply rA | apply rN | apply rD)); exact Kd.R_mono HO109.out (fun _ hk => ⟨hk.2, hk.1⟩)) hg hat)
      replace BK113 := am (blk_grown (uP BK113) hg (Kd.R_ne HO106.out BK113.out (by decide)))
      replace HB := am (hb)
      clear HO106
      clear ho hb hg hat
      obtain ⟨Ao43, co43, eo43⟩ := Kd.R_slice HO112.out
      (first | subst eo43 | (injection eo43 with f1_ f2_ f3_; have f4_ := f1_.symm; have f5_ := f3_.symm; clear f1_ f2_ f3_; subst f4_; subst f5_))
      refine hK.out _ _ ⟨uT BK101 0, uT BK101 1, uT BK101 2, uT BK102 0, uT BK102 1, uT BK102 2⟩ (fun hHeld => ?_)
      clear hK K
      refine uNo (some 14) ?_
      refine uPu (i := 8) (N := some 15) #[true, true, true, true, true, true, true, true, true, true, false] ?_
      exact norm_ (by first | (simp only [putAll, Act.put, List.setIfInBounds_toArray, List.set_cons_zero, List.set_cons_succ]; done) | (simp only [putAll, Act.put, List.setIfInBounds_toArray, List.set_cons_zero, List.set_cons_succ]; rfl)) (hJ4_6_7_9 (v105, .slice Ao42 y107.length co42, .slice Ao43 y110.length co43, gb113) _ ⟨hHeld, (by (with_reducible repeat (first | apply rA | apply rN | apply rD)); exact Kd.R_mono HO109.out (fun _ hk => ⟨hk.2, hk.1⟩)), (uR HO112), (uP BK101), (uP BK102), (uP BK103), (uP BK113), GW113.out, GE113.out, NB101_113.out, NB113_101.out, NB102_113.out, NB113_102.out, NB103_113.out, NB113_103.out, uW⟩)
    ·skip
     rintro ⟨v105, v108, v111⟩ w42 ⟨hS_, h0_, h1_, h2_, h3_, h4_, h5_⟩
     have n0_ : Aside0 (Kd.R k37 37 w42 w.heap.size (fun k_ => some k_ ≠ (v111 : Value).ownBlock ∧ k_ ≠ gb102) v108 y107) := ⟨h0_⟩
     have n1_ : Aside0 (Kd.R k37 37 w42 w.heap.size (fun k_ => some k_ ≠ (v108 : Value).ownBlock ∧ k_ ≠ gb102) v111 y110) := ⟨h1_⟩
     have n2_ : Aside0 (w42.heap[gb101]? = some (.cells #[.int .i64 a0_0, .int .i64 a0_1, .slice A0_2 l0_2.length c0_2] 33 (0, 0))) := ⟨h2_⟩
     have n3_ : Aside0 (w42.heap[gb102]? = some (.cells #[.int .i64 a1_0, .int .i64 a1_1, .int .i64 a1_2] 37 (0, 0))) := ⟨h3_⟩
     have n4_ : Aside0 (w42.heap[gb103]? = some (.cells #[.int .i64 0, .int .i64 0, .slice none 0 0] 33 (0, 0))) := ⟨h4_⟩
     have n5_ : Aside0 (Below w.heap.size w w42) := ⟨h5_⟩
     clear BK101
     clear BK102
     clear BK103
     clear HB
     clear h0_ h1_ h2_ h3_ h4_ h5_
     have HO109 := n0_
     have HO112 := n1_
     have BK101 := n2_
     have BK102 := n3_
     have BK103 := n4_
     have HB := n5_
     clear n0_ n1_ n2_ n3_ n4_ n5_
     have hHeld : w42.cell? ⟨gb101, 0, none⟩ = some (.int .i64 a0_0) ∧ w42.cell? ⟨gb101, 1, none⟩ = some (.int .i64 a0_1) ∧ w42.cell? ⟨gb101, 2, none⟩ = some (.slice A0_2 l0_2.length c0_2) ∧ w42.cell? ⟨gb102, 0, none⟩ = some (.int .i64 a1_0) ∧ w42.cell? ⟨gb102, 1, none⟩ = some (.int .i64 a1_1) ∧ w42.cell? ⟨gb102, 2, none⟩ = some (.int .i64 a1_2) := hS_
     obtain ⟨Ao43, co43, eo43⟩ := Kd.R_slice HO112.out
     (first | subst eo43 | (injection eo43 with f1_ f2_ f3_; have f4_ := f1_.symm; have f5_ := f3_.symm; clear f1_ f2_ f3_; subst f4_; subst f5_))
     refine uNp ?_
     refine uOn (i := 9) (N := some 6) #[true, true, true, true, true, true, true, true, true, true, false] (fun K hK => ?_)
     refine box_step ?hg (N := 6) ?hd (cs := #[.int .i64 0, .int .i64 0, .slice none 0 0]) (t := 33) ?hr ?_; (case hd => rfl); (case hg => rfl); (case hr => first | (go_simp; done) | (go_simp; rfl))
     intro gb113 hg w44 hbox hb
     have BK113 := am (hbox)
     have GW113 := uE hg
     have GE113 := GW113
     have NB101_113 := uL BK101 hg
     have NB113_101 := uY NB101_113
     have NB102_113 := uL BK102 hg
     have NB113_102 := uY NB102_113
     have NB103_113 := uL BK103 hg
     have NB113_103 := uY NB103_113
     replace HO109 := am (Kd.R_below (uR HO109) hb)
     replace HO112 := am (Kd.R_below (uR HO112) hb)
     replace BK101 := uB BK101 hb
     replace BK102 := uB BK102 hb
     replace BK103 := uB BK103 hb
     replace HB := uS hb
     clear hb hbox hg
     refine hK.out _ _ ⟨uT BK101 0, uT BK101 1, uT BK101 2, uT BK102 0, uT BK102 1, uT BK102 2⟩ (fun hHeld => ?_)
     clear hK K
     refine uNo (some 6) ?_
     exact norm_ (by first | (simp only [putAll, Act.put, List.setIfInBounds_toArray, List.set_cons_zero, List.set_cons_succ]; done) | (simp only [putAll, Act.put, List.setIfInBounds_toArray, List.set_cons_zero, List.set_cons_succ]; rfl)) (hJ4_6_7_9 (v105, v108, .slice Ao43 y110.length co43, gb113) _ ⟨hHeld, (uR HO109), (uR HO112), (uP BK101), (uP BK102), (uP BK103), (uP BK113), GW113.out, GE113.out, NB101_113.out, NB113_101.out, NB102_113.out, NB113_102.out, NB103_113.out, NB113_103.out, uW⟩)
   rintro ⟨v105, v108, v111, gb113⟩ w43 ⟨hS_, h0_, h1_, h2_, h3_, h4_, h5_, h6_, h7_, h8_, h9_, h10_, h11_, h12_, h13_, h14_⟩
   have n0_ : Aside0 (Kd.R k37 37 w43 w.heap.size (fun k_ => some k_ ≠ (v111 : Value).ownBlock ∧ k_ ≠ gb102) v108 y107) := ⟨h0_⟩
   have n1_ : Aside0 (Kd.R k37 37 w43 w.heap.size (fun k_ => some k_ ≠ (v108 : Value).ownBlock ∧ k_ ≠ gb102) v111 y110) := ⟨h1_⟩
   have n2_ : Aside0 (w43.heap[gb101]? = some (.cells #[.int .i64 a0_0, .int .i64 a0_1, .slice A0_2 l0_2.length c0_2] 33 (0, 0))) := ⟨h2_⟩
   have n3_ : Aside0 (w43.heap[gb102]? = some (.cells #[.int .i64 a1_0, .int .i64 a1_1, .int .i64 a1_2] 37 (0, 0))) := ⟨h3_⟩
   have n4_ : Aside0 (w43.heap[gb103]? = some (.cells #[.int .i64 0, .int .i64 0, .slice none 0 0] 33 (0, 0))) := ⟨h4_⟩
   have n5_ : Aside0 (w43.heap[gb113]? = some (.cells #[.int .i64 0, .int .i64 0, .slice none 0 0] 33 (0, 0))) := ⟨h5_⟩
   have n6_ : Aside0 (w.heap.size ≤ gb113) := ⟨h6_⟩
   have n7_ : Aside0 (w.heap.size ≤ gb113) := ⟨h7_⟩
   have n8_ : Aside0 (gb101 ≠ gb113) := ⟨h8_⟩
   have n9_ : Aside0 (gb113 ≠ gb101) := ⟨h9_⟩
   have n10_ : Aside0 (gb102 ≠ gb113) := ⟨h10_⟩
   have n11_ : Aside0 (gb113 ≠ gb102) := ⟨h11_⟩
   have n12_ : Aside0 (gb103 ≠ gb113) := ⟨h12_⟩
   have n13_ : Aside0 (gb113 ≠ gb103) := ⟨h13_⟩
   have n14_ : Aside0 (Below w.heap.size w w43) := ⟨h14_⟩
   clear BK101
   clear BK102
   clear BK103
   clear HB
   clear h0_ h1_ h2_ h3_ h4_ h5_ h6_ h7_ h8_ h9_ h10_ h11_ h12_ h13_ h14_
   have HO109 := n0_
   have HO112 := n1_
   have BK101 := n2_
   have BK102 := n3_
   have BK103 := n4_
   have BK113 := n5_
   have GW113 := n6_
   have GE113 := n7_
   have NB101_113 := n8_
   have NB113_101 := n9_
   have NB102_113 := n10_
   have NB113_102 := n11_
   have NB103_113 := n12_
   have NB113_103 := n13_
   have HB := n14_
   clear n0_ n1_ n2_ n3_ n4_ n5_ n6_ n7_ n8_ n9_ n10_ n11_ n12_ n13_ n14_
   have hHeld : w43.cell? ⟨gb101, 0, none⟩ = some (.int .i64 a0_0) ∧ w43.cell? ⟨gb101, 1, none⟩ = some (.int .i64 a0_1) ∧ w43.cell? ⟨gb101, 2, none⟩ = some (.slice A0_2 l0_2.length c0_2) ∧ w43.cell? ⟨gb102, 0, none⟩ = some (.int .i64 a1_0) ∧ w43.cell? ⟨gb102, 1, none⟩ = some (.int .i64 a1_1) ∧ w43.cell? ⟨gb102, 2, none⟩ = some (.int .i64 a1_2) := hS_
   obtain ⟨Ao44, co44, eo44⟩ := Kd.R_slice HO112.out
   (first | subst eo44 | (injection eo44 with f1_ f2_ f3_; have f4_ := f1_.symm; have f5_ := f3_.symm; clear f1_ f2_ f3_; subst f4_; subst f5_))
   refine uNp ?_
   refine uOn (i := 10) (N := none) #[true, true, true, true, true, true, true, true, true, true, true] (fun K hK => ?_)
   have hs45 : w43.cell? ⟨gb113, 0, none⟩ = some (.int .i64 0) := uT BK113 0
   have hfs45 := blk_frozen BK113.out 0
   have hns45_0 := NB101_113.out
   have hns45_1 := NB102_113.out
   have hns45_2 := NB103_113.out
   have hms45_0 := NB113_101.out
   have hms45_1 := NB113_102.out
   have hms45_2 := NB113_103.out
   have hs46 : w43.cell? ⟨gb113, 1, none⟩ = some (.int .i64 0) := uT BK113 1
   have hfs46 := blk_frozen BK113.out 1
   have hns46_0 := NB101_113.out
   have hns46_1 := NB102_113.out
   have hns46_2 := NB103_113.out
   have hms46_0 := NB113_101.out
   have hms46_1 := NB113_102.out
   have hms46_2 := NB113_103.out
   have hs47 : w43.cell? ⟨gb113, 2, none⟩ = some (.slice none 0 0) := uT BK113 2
   have hfs47 := blk_frozen BK113.out 2
   have hns47_0 := NB101_113.out
   have hns47_1 := NB102_113.out
   have hns47_2 := NB103_113.out
   have hms47_0 := NB113_101.out
   have hms47_1 := NB113_102.out
   have hms47_2 := NB113_103.out
   refine skip_ (w1 := ?_) (by rfl) rfl ?_ ?_
   rotate_left
   ·go_simp
    rfl
   refine hK.out _ _ ⟨((cell_far (p := ⟨gb113, _, none⟩) NB101_113.out _).trans (((cell_far (p := ⟨gb113, _, none⟩) NB101_113.out _).trans (((cell_far (p := ⟨gb113, _, none⟩) NB101_113.out _).trans (hHeld.1)))))), ((cell_far (p := ⟨gb113, _, none⟩) NB101_113.out _).trans (((cell_far (p := ⟨gb113, _, none⟩) NB101_113.out _).trans (((cell_far (p := ⟨gb113, _, none⟩) NB101_113.out _).trans (hHeld.2.1)))))), ((cell_far (p := ⟨gb113, _, none⟩) NB101_113.out _).trans (((cell_far (p := ⟨gb113, _, none⟩) NB101_113.out _).trans (((cell_far (p := ⟨gb113, _, none⟩) NB101_113.out _).trans (hHeld.2.2.1)))))), ((cell_far (p := ⟨gb113, _, none⟩) NB102_113.out _).trans (((cell_far (p := ⟨gb113, _, none⟩) NB102_113.out _).trans (((cell_far (p := ⟨gb113, _, none⟩) NB102_113.out _).trans (hHeld.2.2.2.1)))))), ((cell_far (p := ⟨gb113, _, none⟩) NB102_113.out _).trans (((cell_far (p := ⟨gb113, _, none⟩) NB102_113.out _).trans (((cell_far (p := ⟨gb113, _, none⟩) NB102_113.out _).trans (hHeld.2.2.2.2.1)))))), ((cell_far (p := ⟨gb113, _, none⟩) NB102_113.out _).trans (((cell_far (p := ⟨gb113, _, none⟩) NB102_113.out _).trans (((cell_far (p := ⟨gb113, _, none⟩) NB102_113.out _).trans (hHeld.2.2.2.2.2))))))⟩ (fun hHeld => ?_)
   clear hK K
   refine done_ (done_of HT_.out (by kernel_rfl)) ?_
   have hnb48 := NB113_101.out
   have hnc48 := NB101_113.out
   have hnb49 := NB113_102.out
   have hnc49 := NB102_113.out
   have hnb50 := NB113_103.out
   have hnc50 := NB103_113.out
   obtain ⟨hcz51_0, hcz51_1, hcz51_2, hfz51_0, hfz51_1, hfz51_2⟩ := uZ3 BK113
   try go_wp2_with (first | ((with_reducible refine gate_callee (f := 23) rfl ?_); refine uGo (some 17) Try.func23 #[.agg #[.int .i64 a0_0, .int .i64 a0_1, .slice Ao44 y110.length co44]] ?_; (with_reducible refine (impl_IsPuzzle.calls a0_0 a0_1 _ _ y110 false _ ?side1 ?side2 A5.out).mono ?_); (case side1 => refine (Kd.R_reads' (e := 37) (base := w.heap.size) (ok := fun k_ => (some k_ ≠ (v108 : Value).ownBlock ∧ k_ ≠ gb102)) (n := y110.length) (c := co44) ?_).2.2; exact (by (with_reducible repeat (first | apply rA | apply rN | apply rD)); exact (Kd.R_mono (Kd.R_far (p := ⟨gb113, 2, none⟩) (Kd.R_far (p := ⟨gb113, 1, none⟩) (Kd.R_far (p := ⟨gb113, 0, none⟩) (Kd.R_types HO112.out BK113.out (by decide)) (fun _ hk => hk.2) (.int .i64 a0_0)) (fun _ hk => hk.2) (.int .i64 a0_1)) (fun _ hk => hk.2) (.slice Ao44 y110.length co44)) (fun _ h_ => h_.1)))); (case side2 => exact (Kd.R_reads' HO112.out).2.1); rintro e w52 ⟨rfl, hb⟩; refine ⟨_, rfl, ?_⟩; replace HO109 := am (Kd.R_below (by (with_reducible repeat (first | apply rA | apply rN | apply rD)); exact (Kd.R_mono (Kd.R_far (p := ⟨gb113, 2, none⟩) (Kd.R_far (p := ⟨gb113, 1, none⟩) (Kd.R_far (p := ⟨gb113, 0, none⟩) (Kd.R_types HO109.out BK113.out (by decide)) (fun _ hk => hk.2) (.int .i64 a0_0)) (fun _ hk => hk.2) (.int .i64 a0_1)) (fun _ hk => hk.2) (.slice Ao44 y110.length co44)) (fun _ h_ => h_.1))) hb); replace HO112 := am (Kd.R_below (by (with_reducible repeat (first | apply rA | apply rN | apply rD)); exact (Kd.R_mono (Kd.R_far (p := ⟨gb113, 2, none⟩) (Kd.R_far (p := ⟨gb113, 1, none⟩) (Kd.R_far (p := ⟨gb113, 0, none⟩) (Kd.R_types HO112.out BK113.out (by decide)) (fun _ hk => hk.2) (.int .i64 a0_0)) (fun _ hk => hk.2) (.int .i64 a0_1)) (fun _ hk => hk.2) (.slice Ao44 y110.length co44)) (fun _ h_ => h_.1))) hb); replace BK101 := am (blk_below (g := gb101) (o := .cells #[.int .i64 a0_0, .int .i64 a0_1, .slice A0_2 l0_2.length c0_2] 33 (0, 0)) (by refine blk_far ?_ NB101_113.out _; refine blk_far ?_ NB101_113.out _; refine blk_far ?_ NB101_113.out _; exact (uP BK101)) hb); replace BK102 := am (blk_below (g := gb102) (o := .cells #[.int .i64 a1_0, .int .i64 a1_1, .int .i64 a1_2] 37 (0, 0)) (by refine blk_far ?_ NB102_113.out _; refine blk_far ?_ NB102_113.out _; refine blk_far ?_ NB102_113.out _; exact (uP BK102)) hb); replace BK103 := am (blk_below (g := gb103) (o := .cells #[.int .i64 0, .int .i64 0, .slice none 0 0] 33 (0, 0)) (by refine blk_far ?_ NB103_113.out _; refine blk_far ?_ NB103_113.out _; refine blk_far ?_ NB103_113.out _; exact (uP BK103)) hb); replace BK113 := am (blk_below (g := gb113) (o := .cells #[.int .i64 a0_0, .int .i64 a0_1, .slice Ao44 y110.length co44] 33 (0, 0)) (by refine blk_put (cs := #[.int .i64 a0_0, .int .i64 a0_1, .slice none 0 0]) ?_ 2 _ rfl; refine blk_put (cs := #[.int .i64 a0_0, .int .i64 0, .slice none 0 0]) ?_ 1 _ rfl; refine blk_put (cs := #[.int .i64 0, .int .i64 0, .slice none 0 0]) ?_ 0 _ rfl; exact (uP BK113)) hb); replace HB := uS hb; (try clear hb); (try clear hb2); (try clear hk); (try clear hi); have hnb53 := NB103_101.out; have hnc53 := NB101_103.out; have hnb54 := NB103_102.out; have hnc54 := NB102_103.out; obtain ⟨hcz55_0, hcz55_1, hcz55_2, hfz55_0, hfz55_1, hfz55_2⟩ := uZ3 BK103))
   refine bodyPost_ret (results_ct rfl _ _ gb103 33 #[.int .i64 0, .int .i64 0, .slice none 0 0] (0, 0) _ rfl (by refine blk_put (cs := #[.int .i64 0, .int .i64 0, .slice none 0 0]) ?_ 2 _ rfl; refine blk_put (cs := #[.int .i64 0, .int .i64 0, .slice none 0 0]) ?_ 1 _ rfl; refine blk_put (cs := #[.int .i64 0, .int .i64 0, .slice none 0 0]) ?_ 0 _ rfl; exact (uP BK103)) Try.underlying33 rfl (by kernel_rfl)) rfl ?_
   exact ⟨_, uA, uN, by exact uW⟩
 ·rw [if_neg c4] at H
  exact absurd H (by simp)
def spec_DrawHarderPuzzle.f (k : Nat) (l0 : List Int) : Option (Int × Int × (List (S37))) := (spec_l1Cur_one.f l0 0 0 4).bind fun bt103 => (if bt103.1 = true then ((spec_l1Cur_puzzle.f k l0 bt103.2.1 bt103.2.2).bind fun bt106 => (some (bt106.1, bt106.2.1, bt106.2.2.1))) else ((spec_l1Cur_hidden.f l0 bt103.2.1 bt103.2.2).bind fun bt113 => ((spec_l1Cur_pick.f l0 bt113.2.2.2.1 bt113.2.2.2.2 4).bind fun bt119 => ((spec_l1Cur_pick.f l0 bt119.2.1 bt119.2.2 10000).bind fun bt122 => ((spec_MakePuzzle.f k bt113.1 bt113.2.1 bt113.2.2.1 bt119.1 bt122.1).bind fun bt125 => ((spec_pzOf.f bt113.1 bt113.2.1 0 0 bt113.2.2.1).bind fun bt132 => ((spec_pzOf.f bt113.1 bt113.2.1 1 0 bt113.2.2.1).bind fun bt135 => ((some (([(⟨bt132.1, bt132.2.1, bt132.2.2⟩ : S37), (⟨bt135.1, bt135.2.1, bt135.2.2⟩ : S37)] : List (S37)) : List (S37))).bind fun y138 => (if bt125.2.2.1.length + y138.length < 5864062014805 then (some (bt125.1, bt125.2.1, (bt125.2.2.1 ++ y138))) else (none))))))))))
def spec_DrawHarderPuzzle.T5 : Bool × List (List Nat × List Nat) := (true, [([], []), ([], []), ([], []), ([2], [2]), ([], []), ([4, 3], [4]), ([0, 1, 3, 5, 5], [0, 1, 3, 5]), ([6], [6]), ([7], [7]), ([7], [7]), ([], []), ([10, 8, 6, 0, 1, 2, 3, 4, 5, 6, 7, 8, 10], [8, 10]), ([9, 11, 0, 1, 2, 3, 4, 5, 6, 7, 8, 9, 10, 11], [9])])
def spec_DrawHarderPuzzle.B5 : List Nat := [0, 0, 0, 4, 0, 28, 63, 127, 255, 255, 0, 1535, 4095]
theorem spec_DrawHarderPuzzle.tab5 : rtab .any (opsOf Try.f24 5) = spec_DrawHarderPuzzle.T5 := by kernel_rfl
theorem spec_DrawHarderPuzzle.bits5 : waitsOk spec_DrawHarderPuzzle.T5.2 spec_DrawHarderPuzzle.B5 = true := by kernel_rfl
def spec_DrawHarderPuzzle.T6 : Bool × List (List Nat × List Nat) := (true, [([], []), ([0], [0]), ([], []), ([], []), ([2, 3], [2, 3]), ([], []), ([], []), ([5, 6, 4], [5, 6]), ([4, 7], [4, 7]), ([1, 8, 7], [1, 8]), ([0, 1, 2, 3, 4, 5, 6, 7, 8, 9], []), ([10, 9, 9, 0, 1, 2, 3, 4, 5, 6, 7, 8, 9], [9, 10])])
def spec_DrawHarderPuzzle.B6 : List Nat := [0, 1, 0, 0, 12, 0, 0, 124, 252, 511, 1023, 2047]
theorem spec_DrawHarderPuzzle.tab6 : rtab .any (opsOf Try.f24 6) = spec_DrawHarderPuzzle.T6 := by kernel_rfl
theorem spec_DrawHarderPuzzle.bits6 : waitsOk spec_DrawHarderPuzzle.T6.2 spec_DrawHarderPuzzle.B6 = true := by kernel_rfl
theorem spec_DrawHarderPuzzle.calls (k : Nat) (A0 : Option Addr) (c0 : Nat) (l0 : List Int) (r1 : Int) (r2 : Int) (r3 : List (S37)) (w : World) (hr0 : Kd.C (Kd.int .u8) w A0 l0.length l0) (hc0 : l0.length ≤ c0) (h : spec_DrawHarderPuzzle.f k l0 = some (r1, r2, r3)) :
  Calls Try.prog 24 #[.slice A0 l0.length c0] w fun e w' => ∃ v2_ : Value, e = .returned (.agg #[.int .i64 r1, .int .i64 r2, v2_]) ∧ Kd.R k37 37 w' w.heap.size (fun _ => True) v2_ r3 ∧ Below w.heap.size w w' := by
 have hu33 := Try.underlying33
 have hu89 := Try.underlying89
 have hu30 := Try.underlying30
 have HR0 := am hr0
 have HC0 := am hc0
 clear hr0 hc0
 have HB := am (Below.refl w.heap.size w)
 have H : ((spec_l1Cur_one.f l0 0 0 4).bind fun bt103 => (if bt103.1 = true then ((spec_l1Cur_puzzle.f k l0 bt103.2.1 bt103.2.2).bind fun bt106 => (some (bt106.1, bt106.2.1, bt106.2.2.1))) else ((spec_l1Cur_hidden.f l0 bt103.2.1 bt103.2.2).bind fun bt113 => ((spec_l1Cur_pick.f l0 bt113.2.2.2.1 bt113.2.2.2.2 4).bind fun bt119 => ((spec_l1Cur_pick.f l0 bt119.2.1 bt119.2.2 10000).bind fun bt122 => ((spec_MakePuzzle.f k bt113.1 bt113.2.1 bt113.2.2.1 bt119.1 bt122.1).bind fun bt125 => ((spec_pzOf.f bt113.1 bt113.2.1 0 0 bt113.2.2.1).bind fun bt132 => ((spec_pzOf.f bt113.1 bt113.2.1 1 0 bt113.2.2.1).bind fun bt135 => ((some (([(⟨bt132.1, bt132.2.1, bt132.2.2⟩ : S37), (⟨bt135.1, bt135.2.1, bt135.2.2⟩ : S37)] : List (S37)) : List (S37))).bind fun y138 => (if bt125.2.2.1.length + y138.length < 5864062014805 then (some (bt125.1, bt125.2.1, (bt125.2.2.1 ++ y138))) else (none))))))))))) = some (r1, r2, r3) := h
 clear h
 replace H := bH H
 obtain ⟨⟨t103, t104, t105⟩, A20, H⟩ := H
 replace H : (if t103 = true then ((spec_l1Cur_puzzle.f k l0 t104 t105).bind fun bt106 => (some (bt106.1, bt106.2.1, bt106.2.2.1))) else ((spec_l1Cur_hidden.f l0 t104 t105).bind fun bt113 => ((spec_l1Cur_pick.f l0 bt113.2.2.2.1 bt113.2.2.2.2 4).bind fun bt119 => ((spec_l1Cur_pick.f l0 bt119.2.1 bt119.2.2 10000).bind fun bt122 => ((spec_MakePuzzle.f k bt113.1 bt113.2.1 bt113.2.2.1 bt119.1 bt122.1).bind fun bt125 => ((spec_pzOf.f bt113.1 bt113.2.1 0 0 bt113.2.2.1).bind fun bt132 => ((spec_pzOf.f bt113.1 bt113.2.1 1 0 bt113.2.2.1).bind fun bt135 => ((some (([(⟨bt132.1, bt132.2.1, bt132.2.2⟩ : S37), (⟨bt135.1, bt135.2.1, bt135.2.2⟩ : S37)] : List (S37)) : List (S37))).bind fun y138 => (if bt125.2.2.1.length + y138.length < 5864062014805 then (some (bt125.1, bt125.2.1, (bt125.2.2.1 ++ y138))) else (none)))))))))) = some (r1, r2, r3) := H
 have A2 := am A20
 clear A20
 by_cases c3 : t103 = true
 ·subst c3
  have H1 : ((spec_l1Cur_puzzle.f k l0 t104 t105).bind fun bt106 => (some (bt106.1, bt106.2.1, bt106.2.2.1))) = some (r1, r2, r3) := by rw [if_pos rfl] at H; exact H
  clear H
  have H := H1
  clear H1
  replace H := bH H
  obtain ⟨⟨t106, t107, t108, t111, t112⟩, A40, H⟩ := H
  replace H : (some (t106, t107, t108)) = some (r1, r2, r3) := H
  have A4 := am A40
  clear A40
  simp only [Option.some.injEq, Prod.mk.injEq] at H
  obtain ⟨rfl, rfl, rfl⟩ := H
  go_enter Try.func24, Try.ntmps24
  go_wp2_with (first | ((with_reducible refine gate_dst (N := 2) rfl ?_); refine uX (N := 2) (cs := #[.int .i64 0, .int .i64 0, .slice none 0 0]) (t := 33) ?_; intro gb101 hg w5 hbox hb; have BK101 := am (hbox); have GW101 := uE hg; have GE101 := GW101; replace HB := uS hb; clear hb hbox hg) | ((with_reducible refine gate_dst (N := 10) rfl ?_); refine uX (N := 10) (cs := #[.slice A0 l0.length c0, .int .i64 0, .int .u64 0]) (t := 89) ?_; intro gb102 hg w6 hbox hb; have BK102 := am (hbox); have GW102 := uE hg; have GE102 := GW102; have NB101_102 := uL BK101 hg; have NB102_101 := uY NB101_102; replace BK101 := uB BK101 hb; replace HB := uS hb; clear hb hbox hg) | ((with_reducible refine gate_callee (f := 57) rfl ?_); refine uGo (some 12) Try.func57 #[.pointer (some ⟨gb102, 0, none⟩), .int .i64 4] ?_; (with_reducible refine (spec_l1Cur_one.calls gb102 l0 0 0 4 true t104 t105 w _ ?side1 ?side2 A2.out).mono ?_); (case side1 => exact ⟨_, _, by (with_reducible repeat (first | refine bN ?_ _ | refine bD ?_ | refine bA ?_ _)); exact BK102.out, GE102.out, HR0.out⟩); (case side2 => exact uW); rintro e w7 ⟨rfl, hi, hb, hk⟩; refine ⟨_, rfl, ?_⟩; have HI102 := am (hi); replace BK101 := am (KeepBut.blk hk (uP BK101) NB101_102.out (by simp)); replace HB := am (hb); clear BK102; (try clear hb); (try clear hb2); (try clear hk); (try clear hi)) | ((with_reducible refine gate_callee (f := 68) rfl ?_); refine uGo (some 14) Try.func68 #[.pointer (some ⟨gb102, 0, none⟩)] ?_; (with_reducible refine (spec_l1Cur_puzzle.calls k gb102 l0 t104 t105 t106 t107 t108 t111 t112 w _ ?side1 ?side2 A4.out).mono ?_); (case side1 => exact uI); (case side2 => exact uW); rintro e w8 ⟨v109, rfl, ho0, hi, hb, hk⟩; refine ⟨_, rfl, ?_⟩; have HO110 := am (Kd.R_lower ho0 (below_size uW)); replace BK101 := am (KeepBut.blk hk (uP BK101) NB101_102.out (by simp)); replace HB := am (hb); replace HI102 := am (hi); (try clear hb); (try clear hb2); (try clear hk); (try clear hi); (try clear ho0); have hnb9 := NB101_102.out; have hnc9 := NB102_101.out; obtain ⟨hcz10_0, hcz10_1, hcz10_2, hfz10_0, hfz10_1, hfz10_2⟩ := uZ3 BK101; obtain ⟨Ao11, co11, eo11⟩ := Kd.R_slice HO110.out; subst eo11))
  refine bodyPost_ret (results_cell_row rfl _ _ gb101 33 #[.int .i64 t106, .int .i64 t107, .slice Ao11 t108.length co11] (0, 0) _ rfl (by refine blk_put (cs := #[.int .i64 t106, .int .i64 t107, .slice none 0 0]) ?_ 2 _ rfl; refine blk_put (cs := #[.int .i64 t106, .int .i64 0, .slice none 0 0]) ?_ 1 _ rfl; refine blk_put (cs := #[.int .i64 0, .int .i64 0, .slice none 0 0]) ?_ 0 _ rfl; exact (uP BK101)) Try.underlying33 rfl (by kernel_rfl)) rfl ?_
  exact ⟨_, uA, by (with_reducible repeat (first | apply rA | apply rN | apply rD)); exact Kd.R_mono (Kd.R_far (p := ⟨gb101, 2, none⟩) (Kd.R_far (p := ⟨gb101, 1, none⟩) (Kd.R_far (p := ⟨gb101, 0, none⟩) (Kd.R_types HO110.out BK101.out (by decide)) (fun _ hk => hk.2) (.int .i64 t106)) (fun _ hk => hk.2) (.int .i64 t107)) (fun _ hk => hk.2) (.slice Ao11 t108.length co11)) (fun _ hk => trivial), by exact uW⟩
 ·replace c3 := Bool.eq_false_iff.mpr c3
  subst c3
  have H1 : ((spec_l1Cur_hidden.f l0 t104 t105).bind fun bt113 => ((spec_l1Cur_pick.f l0 bt113.2.2.2.1 bt113.2.2.2.2 4).bind fun bt119 => ((spec_l1Cur_pick.f l0 bt119.2.1 bt119.2.2 10000).bind fun bt122 => ((spec_MakePuzzle.f k bt113.1 bt113.2.1 bt113.2.2.1 bt119.1 bt122.1).bind fun bt125 => ((spec_pzOf.f bt113.1 bt113.2.1 0 0 bt113.2.2.1).bind fun bt132 => ((spec_pzOf.f bt113.1 bt113.2.1 1 0 bt113.2.2.1).bind fun bt135 => ((some (([(⟨bt132.1, bt132.2.1, bt132.2.2⟩ : S37), (⟨bt135.1, bt135.2.1, bt135.2.2⟩ : S37)] : List (S37)) : List (S37))).bind fun y138 => (if bt125.2.2.1.length + y138.length < 5864062014805 then (some (bt125.1, bt125.2.1, (bt125.2.2.1 ++ y138))) else (none))))))))) = some (r1, r2, r3) := by rw [if_neg (show ¬ (false = true) by decide)] at H; exact H
  clear H
  have H := H1
  clear H1
  replace H := bH H
  obtain ⟨⟨t113, t114, t115, t116, t117⟩, A120, H⟩ := H
  replace H : ((spec_l1Cur_pick.f l0 t116 t117 4).bind fun bt119 => ((spec_l1Cur_pick.f l0 bt119.2.1 bt119.2.2 10000).bind fun bt122 => ((spec_MakePuzzle.f k t113 t114 t115 bt119.1 bt122.1).bind fun bt125 => ((spec_pzOf.f t113 t114 0 0 t115).bind fun bt132 => ((spec_pzOf.f t113 t114 1 0 t115).bind fun bt135 => ((some (([(⟨bt132.1, bt132.2.1, bt132.2.2⟩ : S37), (⟨bt135.1, bt135.2.1, bt135.2.2⟩ : S37)] : List (S37)) : List (S37))).bind fun y138 => (if bt125.2.2.1.length + y138.length < 5864062014805 then (some (bt125.1, bt125.2.1, (bt125.2.2.1 ++ y138))) else (none)))))))) = some (r1, r2, r3) := H
  have A12 := am A120
  clear A120
  replace H := bH H
  obtain ⟨⟨t119, t120, t121⟩, A130, H⟩ := H
  replace H : ((spec_l1Cur_pick.f l0 t120 t121 10000).bind fun bt122 => ((spec_MakePuzzle.f k t113 t114 t115 t119 bt122.1).bind fun bt125 => ((spec_pzOf.f t113 t114 0 0 t115).bind fun bt132 => ((spec_pzOf.f t113 t114 1 0 t115).bind fun bt135 => ((some (([(⟨bt132.1, bt132.2.1, bt132.2.2⟩ : S37), (⟨bt135.1, bt135.2.1, bt135.2.2⟩ : S37)] : List (S37)) : List (S37))).bind fun y138 => (if bt125.2.2.1.length + y138.length < 5864062014805 then (some (bt125.1, bt125.2.1, (bt125.2.2.1 ++ y138))) else (none))))))) = some (r1, r2, r3) := H
  have A13 := am A130
  clear A130
  replace H := bH H
  obtain ⟨⟨t122, t123, t124⟩, A140, H⟩ := H
  replace H : ((spec_MakePuzzle.f k t113 t114 t115 t119 t122).bind fun bt125 => ((spec_pzOf.f t113 t114 0 0 t115).bind fun bt132 => ((spec_pzOf.f t113 t114 1 0 t115).bind fun bt135 => ((some (([(⟨bt132.1, bt132.2.1, bt132.2.2⟩ : S37), (⟨bt135.1, bt135.2.1, bt135.2.2⟩ : S37)] : List (S37)) : List (S37))).bind fun y138 => (if bt125.2.2.1.length + y138.length < 5864062014805 then (some (bt125.1, bt125.2.1, (bt125.2.2.1 ++ y138))) else (none)))))) = some (r1, r2, r3) := H
  have A14 := am A140
  clear A140
  replace H := bH H
  obtain ⟨⟨t125, t126, t127, t130⟩, A150, H⟩ := H
  replace H : ((spec_pzOf.f t113 t114 0 0 t115).bind fun bt132 => ((spec_pzOf.f t113 t114 1 0 t115).bind fun bt135 => ((some (([(⟨bt132.1, bt132.2.1, bt132.2.2⟩ : S37), (⟨bt135.1, bt135.2.1, bt135.2.2⟩ : S37)] : List (S37)) : List (S37))).bind fun y138 => (if t127.length + y138.length < 5864062014805 then (some (t125, t126, (t127 ++ y138))) else (none))))) = some (r1, r2, r3) := H
  have A15 := am A150
  clear A150
  replace H := bH H
  obtain ⟨⟨t132, t133, t134⟩, A160, H⟩ := H
  replace H : ((spec_pzOf.f t113 t114 1 0 t115).bind fun bt135 => ((some (([(⟨t132, t133, t134⟩ : S37), (⟨bt135.1, bt135.2.1, bt135.2.2⟩ : S37)] : List (S37)) : List (S37))).bind fun y138 => (if t127.length + y138.length < 5864062014805 then (some (t125, t126, (t127 ++ y138))) else (none)))) = some (r1, r2, r3) := H
  have A16 := am A160
  clear A160
  replace H := bH H
  obtain ⟨⟨t135, t136, t137⟩, A170, H⟩ := H
  replace H : ((some (([(⟨t132, t133, t134⟩ : S37), (⟨t135, t136, t137⟩ : S37)] : List (S37)) : List (S37))).bind fun y138 => (if t127.length + y138.length < 5864062014805 then (some (t125, t126, (t127 ++ y138))) else (none))) = some (r1, r2, r3) := H
  have A17 := am A170
  clear A170
  obtain ⟨y138, hy138⟩ : ∃ y_ : List (S37), y_ = (([(⟨t132, t133, t134⟩ : S37), (⟨t135, t136, t137⟩ : S37)] : List (S37))) := ⟨_, rfl⟩
  replace H : (if t127.length + y138.length < 5864062014805 then (some (t125, t126, (t127 ++ y138))) else (none)) = some (r1, r2, r3) := by first | (rw [hy138]; with_reducible exact H) | (have H2_ := (Option.bind_some _ _).symm.trans H; rw [hy138]; with_reducible exact H2_) | (have H2_ := (Option.bind_some _ _).symm.trans H; with_reducible exact H2_) | with_reducible exact H | (rw [hy138]; exact H) | exact H
  have Ny138 := am hy138
  clear hy138
  by_cases c18 : t127.length + y138.length < 5864062014805
  ·rw [if_pos c18] at H
   have LMc18 := am c18
   clear c18
   obtain ⟨y141, hy141⟩ : ∃ y_ : List (S37), y_ = (t127 ++ y138) := ⟨_, rfl⟩
   replace H : (some (t125, t126, y141)) = some (r1, r2, r3) := by first | (rw [hy141]; with_reducible exact H) | (have H2_ := (Option.bind_some _ _).symm.trans H; rw [hy141]; with_reducible exact H2_) | (have H2_ := (Option.bind_some _ _).symm.trans H; with_reducible exact H2_) | with_reducible exact H | (rw [hy141]; exact H) | exact H
   have Ny141 := am hy141
   clear hy141
   simp only [Option.some.injEq, Prod.mk.injEq] at H
   obtain ⟨rfl, rfl, rfl⟩ := H
   go_enter Try.func24, Try.ntmps24
   try go_wp2_with (first | ((with_reducible refine gate_dst (N := 2) rfl ?_); refine uX (N := 2) (cs := #[.int .i64 0, .int .i64 0, .slice none 0 0]) (t := 33) ?_; intro gb101 hg w19 hbox hb; have BK101 := am (hbox); have GW101 := uE hg; have GE101 := GW101; replace HB := uS hb; clear hb hbox hg) | ((with_reducible refine gate_dst (N := 10) rfl ?_); refine uX (N := 10) (cs := #[.slice A0 l0.length c0, .int .i64 0, .int .u64 0]) (t := 89) ?_; intro gb102 hg w20 hbox hb; have BK102 := am (hbox); have GW102 := uE hg; have GE102 := GW102; have NB101_102 := uL BK101 hg; have NB102_101 := uY NB101_102; replace BK101 := uB BK101 hb; replace HB := uS hb; clear hb hbox hg) | ((with_reducible refine gate_callee (f := 57) rfl ?_); refine uGo (some 12) Try.func57 #[.pointer (some ⟨gb102, 0, none⟩), .int .i64 4] ?_; (with_reducible refine (spec_l1Cur_one.calls gb102 l0 0 0 4 false t104 t105 w _ ?side1 ?side2 A2.out).mono ?_); (case side1 => exact ⟨_, _, by (with_reducible repeat (first | refine bN ?_ _ | refine bD ?_ | refine bA ?_ _)); exact BK102.out, GE102.out, HR0.out⟩); (case side2 => exact uW); rintro e w21 ⟨rfl, hi, hb, hk⟩; refine ⟨_, rfl, ?_⟩; have HI102 := am (hi); replace BK101 := am (KeepBut.blk hk (uP BK101) NB101_102.out (by simp)); replace HB := am (hb); clear BK102; (try clear hb); (try clear hb2); (try clear hk); (try clear hi)) | ((with_reducible refine gate_callee (f := 60) rfl ?_); refine uGo (some 17) Try.func60 #[.pointer (some ⟨gb102, 0, none⟩)] ?_; (with_reducible refine (spec_l1Cur_hidden.calls gb102 l0 t104 t105 t113 t114 t115 t116 t117 w _ ?side1 ?side2 A12.out).mono ?_); (case side1 => exact uI); (case side2 => exact uW); rintro e w22 ⟨rfl, hi, hb, hk⟩; refine ⟨_, rfl, ?_⟩; replace BK101 := am (KeepBut.blk hk (uP BK101) NB101_102.out (by simp)); replace HB := am (hb); replace HI102 := am (hi); (try clear hb); (try clear hb2); (try clear hk); (try clear hi)) | ((with_reducible refine gate_dst (N := 4) rfl ?_); refine uX (N := 4) (cs := #[.int .i64 0, .int .i64 0]) (t := 30) ?_; intro gb118 hg w23 hbox hb; have BK118 := am (hbox); have GW118 := uE hg; have GE118 := GW118; have NB101_118 := uL BK101 hg; have NB118_101 := uY NB101_118; have NB102_118 := am ((by rw [hg]; exact Nat.ne_of_lt (IsS89.lt (show IsS89 w _ gb102 l0 t116 t117 from by exact uI)) : gb102 ≠ gb118)); have NB118_102 := am ((by rw [hg]; exact Nat.ne_of_gt (IsS89.lt (show IsS89 w _ gb102 l0 t116 t117 from by exact uI)) : gb118 ≠ gb102)); replace BK101 := uB BK101 hb; replace HI102 := am (IsS89.below uI hb); replace HB := uS hb; clear hb hbox hg; have hnb24 := NB118_101.out; have hnc24 := NB101_118.out; have hnb25 := NB118_102.out; have hnc25 := NB102_118.out; obtain ⟨hcz26_0, hcz26_1, hfz26_0, hfz26_1⟩ := uZ2 BK118))
   have n0_ : Aside0 (((w23.setCell ⟨gb118, 0, none⟩ (.int .i64 t113)).setCell ⟨gb118, 1, none⟩ (.int .i64 t114)).heap[gb101]? = some (.cells #[.int .i64 0, .int .i64 0, .slice none 0 0] 33 (0, 0))) := ⟨by refine blk_far ?_ NB101_118.out _; refine blk_far ?_ NB101_118.out _; exact (uP BK101)⟩
   have n1_ : Aside0 (((w23.setCell ⟨gb118, 0, none⟩ (.int .i64 t113)).setCell ⟨gb118, 1, none⟩ (.int .i64 t114)).heap[gb118]? = some (.cells #[.int .i64 t113, .int .i64 t114] 30 (0, 0))) := ⟨by refine blk_put (cs := #[.int .i64 t113, .int .i64 0]) ?_ 1 _ rfl; refine blk_put (cs := #[.int .i64 0, .int .i64 0]) ?_ 0 _ rfl; exact (uP BK118)⟩
   have n2_ : Aside0 (IsS89 w ((w23.setCell ⟨gb118, 0, none⟩ (.int .i64 t113)).setCell ⟨gb118, 1, none⟩ (.int .i64 t114)) gb102 l0 t116 t117) := ⟨by exact uI⟩
   have n3_ : Aside0 (Below w.heap.size w ((w23.setCell ⟨gb118, 0, none⟩ (.int .i64 t113)).setCell ⟨gb118, 1, none⟩ (.int .i64 t114))) := ⟨by exact uW⟩
   (try clear BK101)
   (try clear BK118)
   (try clear HI102)
   (try clear HB)
   generalize ((w23.setCell ⟨gb118, 0, none⟩ (.int .i64 t113)).setCell ⟨gb118, 1, none⟩ (.int .i64 t114)) = w27 at n0_ n1_ n2_ n3_ ⊢
   have BK101 := n0_
   have BK118 := n1_
   have HI102 := n2_
   have HB := n3_
   clear n0_ n1_ n2_ n3_
   replace BK101 := am (blk_drew BK101.out)
   replace BK118 := am (blk_drew BK118.out)
   replace HI102 := am (IsS89.drew HI102.out)
   replace HB := am (below_drew1 HB.out)
   refine start_ (n := 13) (S := fun w' => w'.cell? ⟨gb118, 0, none⟩ = some (.int .i64 t113) ∧ w'.cell? ⟨gb118, 1, none⟩ = some (.int .i64 t114)) (ds := []) #[false, false, false, false, false, false, false, false, false, false, false, false, false] (by kernel_rfl) rfl rfl ⟨uT BK118 0, uT BK118 1⟩ (fun hHeld => ?_); refine with_tabW spec_DrawHarderPuzzle.tab5 spec_DrawHarderPuzzle.bits5 (fun HT_ HW_ => ?_)
   generalize w27.drew = w28 at BK101 BK118 HI102 HB hHeld ⊢
   refine uPu (i := 1) (N := some 22) #[false, true, false, false, false, false, false, false, false, false, false, false, false] ?_
   refine uPu (i := 2) (N := some 23) #[false, true, true, false, false, false, false, false, false, false, false, false, false] ?_
   refine uPu (i := 4) (N := some 25) #[false, true, true, false, true, false, false, false, false, false, false, false, false] ?_
   refine uTk (i := 0) (N := some 21) #[true, true, true, false, true, false, false, false, false, false, false, false, false] hHeld ?_
   refine join_ (σ := Value × Nat) 2 #[true, true, true, true, true, true, true, true, true, true, true, false, false] (fun s_ => [(24, .int .i64 t119), (26, .int .i64 t122), (27, .tuple #[.agg #[.int .i64 t125, .int .i64 t126, s_.1], .bool t130]), (6, .pointer (some ⟨s_.2, 0, none⟩)), (20, .tuple #[.agg #[.int .i64 t125, .int .i64 t126, s_.1], .bool t130]), (28, .agg #[.int .i64 t125, .int .i64 t126, s_.1]), (29, .bool t130)]) (fun s_ w' => (w'.cell? ⟨gb118, 0, none⟩ = some (.int .i64 t113) ∧ w'.cell? ⟨gb118, 1, none⟩ = some (.int .i64 t114)) ∧ (Kd.R k37 37 w' w.heap.size (fun _ => True) s_.1 t127) ∧ (w'.heap[gb101]? = some (.cells #[.int .i64 0, .int .i64 0, .slice none 0 0] 33 (0, 0))) ∧ (w'.heap[gb118]? = some (.cells #[.int .i64 t113, .int .i64 t114] 30 (0, 0))) ∧ (w'.heap[s_.2]? = some (.cells #[.int .i64 0, .int .i64 0, .slice none 0 0] 33 (0, 0))) ∧ (w.heap.size ≤ s_.2) ∧ (w.heap.size ≤ s_.2) ∧ (gb102 ≠ s_.2) ∧ (s_.2 ≠ gb102) ∧ (gb101 ≠ s_.2) ∧ (s_.2 ≠ gb101) ∧ (gb118 ≠ s_.2) ∧ (s_.2 ≠ gb118) ∧ (IsS89 w w' gb102 l0 t123 t124) ∧ (Below w.heap.size w w')) ?_ ?_
   rotate_left
   ·intro hCont
    refine two_ (i := 3) (j := 10) (Ni := some 24) (Nj := some 6) #[true, true, true, true, true, false, false, false, false, false, false, false, false] #[true, true, true, false, true, false, false, false, false, false, true, false, false] rfl rfl rfl rfl (two_of HT_.out (by kernel_rfl)) (by decide) (by decide) (fun K hK => ?_) (fun K hK => ?_)
    ·skip
     refine uGs Try.func61 #[.pointer (some ⟨gb102, 0, none⟩), .int .i64 4] ?_
     with_reducible refine (spec_l1Cur_pick.calls gb102 l0 t116 t117 4 t119 t120 t121 w _ ?side1 ?side2 A13.out).mono ?_
     (case side1 => exact uI)
     (case side2 => exact uW)
     rintro e w29 ⟨rfl, hi, hb, hk⟩
     refine ⟨_, rfl, ?_⟩
     replace BK101 := am (KeepBut.blk hk (uP BK101) NB101_102.out (by simp))
     replace BK118 := am (KeepBut.blk hk (uP BK118) NB118_102.out (by simp))
     replace HB := am (hb)
     replace HI102 := am (hi)
     (try clear hb)
     (try clear hb2)
     (try clear hk)
     (try clear hi)
     refine hK.out _ _ ⟨uT BK118 0, uT BK118 1⟩ (fun hHeld => ?_)
     clear hK K
     refine uNo (some 24) ?_
     refine two_ (i := 5) (j := 10) (Ni := some 26) (Nj := some 6) #[true, true, true, true, true, true, false, false, false, false, false, false, false] #[true, true, true, true, true, false, false, false, false, false, true, false, false] rfl rfl rfl rfl (two_of HT_.out (by kernel_rfl)) (by decide) (by decide) (fun K hK => ?_) (fun K hK => ?_)
     ·skip
      refine uGs Try.func61 #[.pointer (some ⟨gb102, 0, none⟩), .int .i64 10000] ?_
      with_reducible refine (spec_l1Cur_pick.calls gb102 l0 t120 t121 10000 t122 t123 t124 w _ ?side1 ?side2 A14.out).mono ?_
      (case side1 => exact uI)
      (case side2 => exact uW)
      rintro e w30 ⟨rfl, hi, hb, hk⟩
      refine ⟨_, rfl, ?_⟩
      replace BK101 := am (KeepBut.blk hk (uP BK101) NB101_102.out (by simp))
      replace BK118 := am (KeepBut.blk hk (uP BK118) NB118_102.out (by simp))
      replace HB := am (hb)
      replace HI102 := am (hi)
      (try clear hb)
      (try clear hb2)
      (try clear hk)
      (try clear hi)
      refine hK.out _ _ ⟨uT BK118 0, uT BK118 1⟩ (fun hHeld => ?_)
      clear hK K
      refine uNo (some 26) ?_
      refine two_ (i := 6) (j := 10) (Ni := some 27) (Nj := some 6) #[true, true, true, true, true, true, true, false, false, false, false, false, false] #[true, true, true, true, true, true, false, false, false, false, true, false, false] rfl rfl rfl rfl (two_of HT_.out (by kernel_rfl)) (by decide) (by decide) (fun K hK => ?_) (fun K hK => ?_)
      ·skip
       refine uGs Try.func14 #[.agg #[.int .i64 t113, .int .i64 t114], .int .i64 t115, .int .i64 t119, .int .i64 t122] ?_
       with_reducible refine (spec_MakePuzzle.calls k t113 t114 t115 t119 t122 t125 t126 t127 t130 _ A15.out).mono ?_
       rintro e w31 ⟨v128, rfl, ho0, hb⟩
       refine ⟨_, rfl, ?_⟩
       have HO129 := am (Kd.R_lower ho0 (below_size uW))
       replace BK101 := uB BK101 hb
       replace HI102 := am (IsS89.below uI hb)
       replace BK118 := uB BK118 hb
       replace HB := uS hb
       (try clear hb)
       (try clear hb2)
       (try clear hk)
       (try clear hi)
       (try clear ho0)
       refine hK.out _ _ ⟨uT BK118 0, uT BK118 1⟩ (fun hHeld => ?_)
       clear hK K
       refine uNo (some 27) ?_
       refine uPu (i := 7) (N := some 20) #[true, true, true, true, true, true, true, true, false, false, false, false, false] ?_
       refine uPu (i := 8) (N := some 28) #[true, true, true, true, true, true, true, true, true, false, false, false, false] ?_
       refine uPu (i := 9) (N := some 29) #[true, true, true, true, true, true, true, true, true, true, false, false, false] ?_
       refine uOn (i := 10) (N := some 6) #[true, true, true, true, true, true, true, true, true, true, true, false, false] (fun K hK => ?_)
       refine box_step ?hg (N := 6) ?hd (cs := #[.int .i64 0, .int .i64 0, .slice none 0 0]) (t := 33) ?hr ?_; (case hd => rfl); (case hg => rfl); (case hr => first | (go_simp; done) | (go_simp; rfl))
       intro gb131 hg w32 hbox hb
       have BK131 := am (hbox)
       have GW131 := uE hg
       have GE131 := GW131
       have NB101_131 := uL BK101 hg
       have NB131_101 := uY NB101_131
       have NB118_131 := uL BK118 hg
       have NB131_118 := uY NB118_131
       have NB102_131 := am ((by rw [hg]; exact Nat.ne_of_lt (IsS89.lt (show IsS89 w _ gb102 l0 t123 t124 from by exact uI)) : gb102 ≠ gb131))
       have NB131_102 := am ((by rw [hg]; exact Nat.ne_of_gt (IsS89.lt (show IsS89 w _ gb102 l0 t123 t124 from by exact uI)) : gb131 ≠ gb102))
       replace HO129 := am (Kd.R_below (uR HO129) hb)
       replace BK101 := uB BK101 hb
       replace HI102 := am (IsS89.below uI hb)
       replace BK118 := uB BK118 hb
       replace HB := uS hb
       clear hb hbox hg
       refine hK.out _ _ ⟨uT BK118 0, uT BK118 1⟩ (fun hHeld => ?_)
       clear hK K
       refine uNo (some 6) ?_
       exact norm_ (by simp only [putAll, Act.put, List.setIfInBounds_toArray, List.set_cons_zero, List.set_cons_succ]) (hCont (v128, gb131) _ ⟨hHeld, (uR HO129), (uP BK101), (uP BK118), (uP BK131), GW131.out, GE131.out, NB102_131.out, NB131_102.out, NB101_131.out, NB131_101.out, NB118_131.out, NB131_118.out, uI, uW⟩)
      ·skip
       refine box_step ?hg (N := 6) ?hd (cs := #[.int .i64 0, .int .i64 0, .slice none 0 0]) (t := 33) ?hr ?_; (case hd => rfl); (case hg => rfl); (case hr => first | (go_simp; done) | (go_simp; rfl))
       intro gb131 hg w31 hbox hb
       have BK131 := am (hbox)
       have GW131 := uE hg
       have GE131 := GW131
       have NB101_131 := uL BK101 hg
       have NB131_101 := uY NB101_131
       have NB118_131 := uL BK118 hg
       have NB131_118 := uY NB118_131
       have NB102_131 := am ((by rw [hg]; exact Nat.ne_of_lt (IsS89.lt (show IsS89 w _ gb102 l0 t123 t124 from by exact uI)) : gb102 ≠ gb131))
       have NB131_102 := am ((by rw [hg]; exact Nat.ne_of_gt (IsS89.lt (show IsS89 w _ gb102 l0 t123 t124 from by exact uI)) : gb131 ≠ gb102))
       replace BK101 := uB BK101 hb
       replace HI102 := am (IsS89.below uI hb)
       replace BK118 := uB BK118 hb
       replace HB := uS hb
       clear hb hbox hg
       refine hK.out _ _ ⟨uT BK118 0, uT BK118 1⟩ (fun hHeld => ?_)
       clear hK K
       refine uNo (some 6) ?_
       refine uOn (i := 6) (N := some 27) #[true, true, true, true, true, true, true, false, false, false, true, false, false] (fun K hK => ?_)
       refine uGs Try.func14 #[.agg #[.int .i64 t113, .int .i64 t114], .int .i64 t115, .int .i64 t119, .int .i64 t122] ?_
       with_reducible refine (spec_MakePuzzle.calls k t113 t114 t115 t119 t122 t125 t126 t127 t130 _ A15.out).mono ?_
       rintro e w32 ⟨v128, rfl, ho0, hb⟩
       refine ⟨_, rfl, ?_⟩
       have HO129 := am (Kd.R_lower ho0 (below_size uW))
       replace BK101 := uB BK101 hb
       replace HI102 := am (IsS89.below uI hb)
       replace BK118 := uB BK118 hb
       replace BK131 := uB BK131 hb
       replace HB := uS hb
       (try clear hb)
       (try clear hb2)
       (try clear hk)
       (try clear hi)
       (try clear ho0)
       refine hK.out _ _ ⟨uT BK118 0, uT BK118 1⟩ (fun hHeld => ?_)
       clear hK K
       refine uNo (some 27) ?_
       refine uPu (i := 7) (N := some 20) #[true, true, true, true, true, true, true, true, false, false, true, false, false] ?_
       refine uPu (i := 8) (N := some 28) #[true, true, true, true, true, true, true, true, true, false, true, false, false] ?_
       refine uPu (i := 9) (N := some 29) #[true, true, true, true, true, true, true, true, true, true, true, false, false] ?_
       exact norm_ (by simp only [putAll, Act.put, List.setIfInBounds_toArray, List.set_cons_zero, List.set_cons_succ]) (hCont (v128, gb131) _ ⟨hHeld, (uR HO129), (uP BK101), (uP BK118), (uP BK131), GW131.out, GE131.out, NB102_131.out, NB131_102.out, NB101_131.out, NB131_101.out, NB118_131.out, NB131_118.out, uI, uW⟩)
     ·skip
      refine box_step ?hg (N := 6) ?hd (cs := #[.int .i64 0, .int .i64 0, .slice none 0 0]) (t := 33) ?hr ?_; (case hd => rfl); (case hg => rfl); (case hr => first | (go_simp; done) | (go_simp; rfl))
      intro gb131 hg w30 hbox hb
      have BK131 := am (hbox)
      have GW131 := uE hg
      have GE131 := GW131
      have NB101_131 := uL BK101 hg
      have NB131_101 := uY NB101_131
      have NB118_131 := uL BK118 hg
      have NB131_118 := uY NB118_131
      have NB102_131 := am ((by rw [hg]; exact Nat.ne_of_lt (IsS89.lt (show IsS89 w _ gb102 l0 t120 t121 from by exact uI)) : gb102 ≠ gb131))
      have NB131_102 := am ((by rw [hg]; exact Nat.ne_of_gt (IsS89.lt (show IsS89 w _ gb102 l0 t120 t121 from by exact uI)) : gb131 ≠ gb102))
      replace BK101 := uB BK101 hb
      replace HI102 := am (IsS89.below uI hb)
      replace BK118 := uB BK118 hb
      replace HB := uS hb
      clear hb hbox hg
      refine hK.out _ _ ⟨uT BK118 0, uT BK118 1⟩ (fun hHeld => ?_)
      clear hK K
      refine uNo (some 6) ?_
      refine uOn (i := 5) (N := some 26) #[true, true, true, true, true, true, false, false, false, false, true, false, false] (fun K hK => ?_)
      refine uGs Try.func61 #[.pointer (some ⟨gb102, 0, none⟩), .int .i64 10000] ?_
      with_reducible refine (spec_l1Cur_pick.calls gb102 l0 t120 t121 10000 t122 t123 t124 w _ ?side1 ?side2 A14.out).mono ?_
      (case side1 => exact uI)
      (case side2 => exact uW)
      rintro e w31 ⟨rfl, hi, hb, hk⟩
      refine ⟨_, rfl, ?_⟩
      replace BK101 := am (KeepBut.blk hk (uP BK101) NB101_102.out (by simp))
      replace BK118 := am (KeepBut.blk hk (uP BK118) NB118_102.out (by simp))
      replace BK131 := am (KeepBut.blk hk (uP BK131) NB131_102.out (by simp))
      replace HB := am (hb)
      replace HI102 := am (hi)
      (try clear hb)
      (try clear hb2)
      (try clear hk)
      (try clear hi)
      refine hK.out _ _ ⟨uT BK118 0, uT BK118 1⟩ (fun hHeld => ?_)
      clear hK K
      refine uNo (some 26) ?_
      refine uOn (i := 6) (N := some 27) #[true, true, true, true, true, true, true, false, false, false, true, false, false] (fun K hK => ?_)
      refine uGs Try.func14 #[.agg #[.int .i64 t113, .int .i64 t114], .int .i64 t115, .int .i64 t119, .int .i64 t122] ?_
      with_reducible refine (spec_MakePuzzle.calls k t113 t114 t115 t119 t122 t125 t126 t127 t130 _ A15.out).mono ?_
      rintro e w32 ⟨v128, rfl, ho0, hb⟩
      refine ⟨_, rfl, ?_⟩
      have HO129 := am (Kd.R_lower ho0 (below_size uW))
      replace BK101 := uB BK101 hb
      replace HI102 := am (IsS89.below uI hb)
      replace BK118 := uB BK118 hb
      replace BK131 := uB BK131 hb
      replace HB := uS hb
      (try clear hb)
      (try clear hb2)
      (try clear hk)
      (try clear hi)
      (try clear ho0)
      refine hK.out _ _ ⟨uT BK118 0, uT BK118 1⟩ (fun hHeld => ?_)
      clear hK K
      refine uNo (some 27) ?_
      refine uPu (i := 7) (N := some 20) #[true, true, true, true, true, true, true, true, false, false, true, false, false] ?_
      refine uPu (i := 8) (N := some 28) #[true, true, true, true, true, true, true, true, true, false, true, false, false] ?_
      refine uPu (i := 9) (N := some 29) #[true, true, true, true, true, true, true, true, true, true, true, false, false] ?_
      exact norm_ (by simp only [putAll, Act.put, List.setIfInBounds_toArray, List.set_cons_zero, List.set_cons_succ]) (hCont (v128, gb131) _ ⟨hHeld, (uR HO129), (uP BK101), (uP BK118), (uP BK131), GW131.out, GE131.out, NB102_131.out, NB131_102.out, NB101_131.out, NB131_101.out, NB118_131.out, NB131_118.out, uI, uW⟩)
    ·skip
     refine box_step ?hg (N := 6) ?hd (cs := #[.int .i64 0, .int .i64 0, .slice none 0 0]) (t := 33) ?hr ?_; (case hd => rfl); (case hg => rfl); (case hr => first | (go_simp; done) | (go_simp; rfl))
     intro gb131 hg w29 hbox hb
     have BK131 := am (hbox)
     have GW131 := uE hg
     have GE131 := GW131
     have NB101_131 := uL BK101 hg
     have NB131_101 := uY NB101_131
     have NB118_131 := uL BK118 hg
     have NB131_118 := uY NB118_131
     have NB102_131 := am ((by rw [hg]; exact Nat.ne_of_lt (IsS89.lt (show IsS89 w _ gb102 l0 t116 t117 from by exact uI)) : gb102 ≠ gb131))
     have NB131_102 := am ((by rw [hg]; exact Nat.ne_of_gt (IsS89.lt (show IsS89 w _ gb102 l0 t116 t117 from by exact uI)) : gb131 ≠ gb102))
     replace BK101 := uB BK101 hb
     replace HI102 := am (IsS89.below uI hb)
     replace BK118 := uB BK118 hb
     replace HB := uS hb
     clear hb hbox hg
     refine hK.out _ _ ⟨uT BK118 0, uT BK118 1⟩ (fun hHeld => ?_)
     clear hK K
     refine uNo (some 6) ?_
     refine uOn (i := 3) (N := some 24) #[true, true, true, true, true, false, false, false, false, false, true, false, false] (fun K hK => ?_)
     refine uGs Try.func61 #[.pointer (some ⟨gb102, 0, none⟩), .int .i64 4] ?_
     with_reducible refine (spec_l1Cur_pick.calls gb102 l0 t116 t117 4 t119 t120 t121 w _ ?side1 ?side2 A13.out).mono ?_
     (case side1 => exact uI)
     (case side2 => exact uW)
     rintro e w30 ⟨rfl, hi, hb, hk⟩
     refine ⟨_, rfl, ?_⟩
     replace BK101 := am (KeepBut.blk hk (uP BK101) NB101_102.out (by simp))
     replace BK118 := am (KeepBut.blk hk (uP BK118) NB118_102.out (by simp))
     replace BK131 := am (KeepBut.blk hk (uP BK131) NB131_102.out (by simp))
     replace HB := am (hb)
     replace HI102 := am (hi)
     (try clear hb)
     (try clear hb2)
     (try clear hk)
     (try clear hi)
     refine hK.out _ _ ⟨uT BK118 0, uT BK118 1⟩ (fun hHeld => ?_)
     clear hK K
     refine uNo (some 24) ?_
     refine uOn (i := 5) (N := some 26) #[true, true, true, true, true, true, false, false, false, false, true, false, false] (fun K hK => ?_)
     refine uGs Try.func61 #[.pointer (some ⟨gb102, 0, none⟩), .int .i64 10000] ?_
     with_reducible refine (spec_l1Cur_pick.calls gb102 l0 t120 t121 10000 t122 t123 t124 w _ ?side1 ?side2 A14.out).mono ?_
     (case side1 => exact uI)
     (case side2 => exact uW)
     rintro e w31 ⟨rfl, hi, hb, hk⟩
     refine ⟨_, rfl, ?_⟩
     replace BK101 := am (KeepBut.blk hk (uP BK101) NB101_102.out (by simp))
     replace BK118 := am (KeepBut.blk hk (uP BK118) NB118_102.out (by simp))
     replace BK131 := am (KeepBut.blk hk (uP BK131) NB131_102.out (by simp))
     replace HB := am (hb)
     replace HI102 := am (hi)
     (try clear hb)
     (try clear hb2)
     (try clear hk)
     (try clear hi)
     refine hK.out _ _ ⟨uT BK118 0, uT BK118 1⟩ (fun hHeld => ?_)
     clear hK K
     refine uNo (some 26) ?_
     refine uOn (i := 6) (N := some 27) #[true, true, true, true, true, true, true, false, false, false, true, false, false] (fun K hK => ?_)
     refine uGs Try.func14 #[.agg #[.int .i64 t113, .int .i64 t114], .int .i64 t115, .int .i64 t119, .int .i64 t122] ?_
     with_reducible refine (spec_MakePuzzle.calls k t113 t114 t115 t119 t122 t125 t126 t127 t130 _ A15.out).mono ?_
     rintro e w32 ⟨v128, rfl, ho0, hb⟩
     refine ⟨_, rfl, ?_⟩
     have HO129 := am (Kd.R_lower ho0 (below_size uW))
     replace BK101 := uB BK101 hb
     replace HI102 := am (IsS89.below uI hb)
     replace BK118 := uB BK118 hb
     replace BK131 := uB BK131 hb
     replace HB := uS hb
     (try clear hb)
     (try clear hb2)
     (try clear hk)
     (try clear hi)
     (try clear ho0)
     refine hK.out _ _ ⟨uT BK118 0, uT BK118 1⟩ (fun hHeld => ?_)
     clear hK K
     refine uNo (some 27) ?_
     refine uPu (i := 7) (N := some 20) #[true, true, true, true, true, true, true, true, false, false, true, false, false] ?_
     refine uPu (i := 8) (N := some 28) #[true, true, true, true, true, true, true, true, true, false, true, false, false] ?_
     refine uPu (i := 9) (N := some 29) #[true, true, true, true, true, true, true, true, true, true, true, false, false] ?_
     exact norm_ (by simp only [putAll, Act.put, List.setIfInBounds_toArray, List.set_cons_zero, List.set_cons_succ]) (hCont (v128, gb131) _ ⟨hHeld, (uR HO129), (uP BK101), (uP BK118), (uP BK131), GW131.out, GE131.out, NB102_131.out, NB131_102.out, NB101_131.out, NB131_101.out, NB118_131.out, NB131_118.out, uI, uW⟩)
   rintro ⟨v128, gb131⟩ w33 ⟨hS_, h0_, h1_, h2_, h3_, h4_, h5_, h6_, h7_, h8_, h9_, h10_, h11_, h12_, h13_⟩
   have n0_ : Aside0 (Kd.R k37 37 w33 w.heap.size (fun _ => True) v128 t127) := ⟨h0_⟩
   have n1_ : Aside0 (w33.heap[gb101]? = some (.cells #[.int .i64 0, .int .i64 0, .slice none 0 0] 33 (0, 0))) := ⟨h1_⟩
   have n2_ : Aside0 (w33.heap[gb118]? = some (.cells #[.int .i64 t113, .int .i64 t114] 30 (0, 0))) := ⟨h2_⟩
   have n3_ : Aside0 (w33.heap[gb131]? = some (.cells #[.int .i64 0, .int .i64 0, .slice none 0 0] 33 (0, 0))) := ⟨h3_⟩
   have n4_ : Aside0 (w.heap.size ≤ gb131) := ⟨h4_⟩
   have n5_ : Aside0 (w.heap.size ≤ gb131) := ⟨h5_⟩
   have n6_ : Aside0 (gb102 ≠ gb131) := ⟨h6_⟩
   have n7_ : Aside0 (gb131 ≠ gb102) := ⟨h7_⟩
   have n8_ : Aside0 (gb101 ≠ gb131) := ⟨h8_⟩
   have n9_ : Aside0 (gb131 ≠ gb101) := ⟨h9_⟩
   have n10_ : Aside0 (gb118 ≠ gb131) := ⟨h10_⟩
   have n11_ : Aside0 (gb131 ≠ gb118) := ⟨h11_⟩
   have n12_ : Aside0 (IsS89 w w33 gb102 l0 t123 t124) := ⟨h12_⟩
   have n13_ : Aside0 (Below w.heap.size w w33) := ⟨h13_⟩
   clear BK101
   clear BK118
   clear HI102
   clear HB
   clear h0_ h1_ h2_ h3_ h4_ h5_ h6_ h7_ h8_ h9_ h10_ h11_ h12_ h13_
   have HO129 := n0_
   have BK101 := n1_
   have BK118 := n2_
   have BK131 := n3_
   have GW131 := n4_
   have GE131 := n5_
   have NB102_131 := n6_
   have NB131_102 := n7_
   have NB101_131 := n8_
   have NB131_101 := n9_
   have NB118_131 := n10_
   have NB131_118 := n11_
   have HI102 := n12_
   have HB := n13_
   clear n0_ n1_ n2_ n3_ n4_ n5_ n6_ n7_ n8_ n9_ n10_ n11_ n12_ n13_
   have hHeld : w33.cell? ⟨gb118, 0, none⟩ = some (.int .i64 t113) ∧ w33.cell? ⟨gb118, 1, none⟩ = some (.int .i64 t114) := hS_
   obtain ⟨Ao36, co36, eo36⟩ := Kd.R_slice HO129.out
   (first | subst eo36 | (injection eo36 with f1_ f2_ f3_; have f4_ := f1_.symm; have f5_ := f3_.symm; clear f1_ f2_ f3_; subst f4_; subst f5_))
   refine uNp ?_
   refine uOn (i := 11) (N := none) #[true, true, true, true, true, true, true, true, true, true, true, true, false] (fun K hK => ?_)
   have hs34 : w33.cell? ⟨gb131, 0, none⟩ = some (.int .i64 0) := uT BK131 0
   have hfs34 := blk_frozen BK131.out 0
   have hns34_0 := NB101_131.out
   have hns34_1 := NB118_131.out
   have hms34_0 := NB131_101.out
   have hms34_1 := NB131_118.out
   have hs35 : w33.cell? ⟨gb131, 1, none⟩ = some (.int .i64 0) := uT BK131 1
   have hfs35 := blk_frozen BK131.out 1
   have hns35_0 := NB101_131.out
   have hns35_1 := NB118_131.out
   have hms35_0 := NB131_101.out
   have hms35_1 := NB131_118.out
   have hs37 : w33.cell? ⟨gb131, 2, none⟩ = some (.slice none 0 0) := uT BK131 2
   have hfs37 := blk_frozen BK131.out 2
   have hns37_0 := NB101_131.out
   have hns37_1 := NB118_131.out
   have hms37_0 := NB131_101.out
   have hms37_1 := NB131_118.out
   refine skip_ (w1 := ?_) (by rfl) rfl ?_ ?_
   rotate_left
   ·go_simp
    rfl
   refine hK.out _ _ ⟨((cell_far (p := ⟨gb131, _, none⟩) NB118_131.out _).trans (((cell_far (p := ⟨gb131, _, none⟩) NB118_131.out _).trans (((cell_far (p := ⟨gb131, _, none⟩) NB118_131.out _).trans (hHeld.1)))))), ((cell_far (p := ⟨gb131, _, none⟩) NB118_131.out _).trans (((cell_far (p := ⟨gb131, _, none⟩) NB118_131.out _).trans (((cell_far (p := ⟨gb131, _, none⟩) NB118_131.out _).trans (hHeld.2))))))⟩ (fun hHeld => ?_)
   clear hK K
   refine uPu (i := 12) (N := some 7) #[true, true, true, true, true, true, true, true, true, true, true, true, true] ?_
   refine done_ (done_of HT_.out (by kernel_rfl)) ?_
   try go_wp2
   have n0_ : Aside0 (Kd.R k37 37 (((w33.setCell ⟨gb131, 0, none⟩ (.int .i64 t125)).setCell ⟨gb131, 1, none⟩ (.int .i64 t126)).setCell ⟨gb131, 2, none⟩ (.slice Ao36 t127.length co36)) w.heap.size (fun _ => True) (.slice Ao36 t127.length co36) t127) := ⟨by (with_reducible repeat (first | apply rA | apply rN | apply rD)); exact Kd.R_mono (Kd.R_far (p := ⟨gb131, 2, none⟩) (Kd.R_far (p := ⟨gb131, 1, none⟩) (Kd.R_far (p := ⟨gb131, 0, none⟩) (Kd.R_types HO129.out BK131.out (by decide)) (fun _ hk => hk.2) (.int .i64 t125)) (fun _ hk => hk.2) (.int .i64 t126)) (fun _ hk => hk.2) (.slice Ao36 t127.length co36)) (fun _ hk => trivial)⟩
   have n1_ : Aside0 ((((w33.setCell ⟨gb131, 0, none⟩ (.int .i64 t125)).setCell ⟨gb131, 1, none⟩ (.int .i64 t126)).setCell ⟨gb131, 2, none⟩ (.slice Ao36 t127.length co36)).heap[gb101]? = some (.cells #[.int .i64 0, .int .i64 0, .slice none 0 0] 33 (0, 0))) := ⟨by refine blk_far ?_ NB101_131.out _; refine blk_far ?_ NB101_131.out _; refine blk_far ?_ NB101_131.out _; exact (uP BK101)⟩
   have n2_ : Aside0 ((((w33.setCell ⟨gb131, 0, none⟩ (.int .i64 t125)).setCell ⟨gb131, 1, none⟩ (.int .i64 t126)).setCell ⟨gb131, 2, none⟩ (.slice Ao36 t127.length co36)).heap[gb118]? = some (.cells #[.int .i64 t113, .int .i64 t114] 30 (0, 0))) := ⟨by refine blk_far ?_ NB118_131.out _; refine blk_far ?_ NB118_131.out _; refine blk_far ?_ NB118_131.out _; exact (uP BK118)⟩
   have n3_ : Aside0 ((((w33.setCell ⟨gb131, 0, none⟩ (.int .i64 t125)).setCell ⟨gb131, 1, none⟩ (.int .i64 t126)).setCell ⟨gb131, 2, none⟩ (.slice Ao36 t127.length co36)).heap[gb131]? = some (.cells #[.int .i64 t125, .int .i64 t126, .slice Ao36 t127.length co36] 33 (0, 0))) := ⟨by refine blk_put (cs := #[.int .i64 t125, .int .i64 t126, .slice none 0 0]) ?_ 2 _ rfl; refine blk_put (cs := #[.int .i64 t125, .int .i64 0, .slice none 0 0]) ?_ 1 _ rfl; refine blk_put (cs := #[.int .i64 0, .int .i64 0, .slice none 0 0]) ?_ 0 _ rfl; exact (uP BK131)⟩
   have n4_ : Aside0 (IsS89 w (((w33.setCell ⟨gb131, 0, none⟩ (.int .i64 t125)).setCell ⟨gb131, 1, none⟩ (.int .i64 t126)).setCell ⟨gb131, 2, none⟩ (.slice Ao36 t127.length co36)) gb102 l0 t123 t124) := ⟨by exact uI⟩
   have n5_ : Aside0 (Below w.heap.size w (((w33.setCell ⟨gb131, 0, none⟩ (.int .i64 t125)).setCell ⟨gb131, 1, none⟩ (.int .i64 t126)).setCell ⟨gb131, 2, none⟩ (.slice Ao36 t127.length co36))) := ⟨by exact uW⟩
   (try clear HO129)
   (try clear BK101)
   (try clear BK118)
   (try clear BK131)
   (try clear HI102)
   (try clear HB)
   generalize (((w33.setCell ⟨gb131, 0, none⟩ (.int .i64 t125)).setCell ⟨gb131, 1, none⟩ (.int .i64 t126)).setCell ⟨gb131, 2, none⟩ (.slice Ao36 t127.length co36)) = w38 at n0_ n1_ n2_ n3_ n4_ n5_ ⊢
   have HO129 := n0_
   have BK101 := n1_
   have BK118 := n2_
   have BK131 := n3_
   have HI102 := n4_
   have HB := n5_
   clear n0_ n1_ n2_ n3_ n4_ n5_
   replace HO129 := am (Kd.R_drew HO129.out)
   replace BK101 := am (blk_drew BK101.out)
   replace BK118 := am (blk_drew BK118.out)
   replace BK131 := am (blk_drew BK131.out)
   replace HI102 := am (IsS89.drew HI102.out)
   replace HB := am (below_drew1 HB.out)
   refine start_ (n := 12) (S := fun w' => w'.cell? ⟨gb131, 0, none⟩ = some (.int .i64 t125) ∧ w'.cell? ⟨gb131, 1, none⟩ = some (.int .i64 t126) ∧ w'.cell? ⟨gb131, 2, none⟩ = some (.slice Ao36 t127.length co36) ∧ w'.cell? ⟨gb118, 0, none⟩ = some (.int .i64 t113) ∧ w'.cell? ⟨gb118, 1, none⟩ = some (.int .i64 t114)) (ds := [11]) #[false, false, false, false, false, false, false, false, false, false, false, false] (by kernel_rfl) rfl rfl ⟨uT BK131 0, uT BK131 1, uT BK131 2, uT BK118 0, uT BK118 1⟩ (fun hHeld => ?_); refine with_tabW spec_DrawHarderPuzzle.tab6 spec_DrawHarderPuzzle.bits6 (fun HT_ HW_ => ?_)
   generalize w38.drew = w39 at HO129 BK101 BK118 BK131 HI102 HB hHeld ⊢
   refine uPu (i := 0) (N := some 30) #[true, false, false, false, false, false, false, false, false, false, false, false] ?_
   refine uPu (i := 3) (N := some 33) #[true, false, false, true, false, false, false, false, false, false, false, false] ?_
   refine uPu (i := 6) (N := some 36) #[true, false, false, true, false, false, true, false, false, false, false, false] ?_
   refine uTk (i := 1) (N := some 31) #[true, true, false, true, false, false, true, false, false, false, false, false] hHeld ?_
   refine uTk (i := 2) (N := some 32) #[true, true, true, true, false, false, true, false, false, false, false, false] hHeld ?_
   refine uTk (i := 5) (N := some 35) #[true, true, true, true, false, true, true, false, false, false, false, false] hHeld ?_
   refine uOn (i := 4) (N := some 34) #[true, true, true, true, true, true, true, false, false, false, false, false] (fun K hK => ?_)
   refine uGs Try.func52 #[.agg #[.int .i64 t113, .int .i64 t114], .int .i64 0, .int .i64 0, .int .i64 t115] ?_
   with_reducible refine (spec_pzOf.calls t113 t114 0 0 t115 t132 t133 t134 _ A16.out).mono ?_
   rintro e w40 ⟨rfl, hb⟩
   refine ⟨_, rfl, ?_⟩
   replace HO129 := am (Kd.R_below (uR HO129) hb)
   replace BK101 := uB BK101 hb
   replace HI102 := am (IsS89.below uI hb)
   replace BK118 := uB BK118 hb
   replace BK131 := uB BK131 hb
   replace HB := uS hb
   (try clear hb)
   (try clear hb2)
   (try clear hk)
   (try clear hi)
   refine hK.out _ _ ⟨uT BK131 0, uT BK131 1, uT BK131 2, uT BK118 0, uT BK118 1⟩ (fun hHeld => ?_)
   clear hK K
   refine uNo (some 34) ?_
   refine uOn (i := 7) (N := some 37) #[true, true, true, true, true, true, true, true, false, false, false, false] (fun K hK => ?_)
   refine uGs Try.func52 #[.agg #[.int .i64 t113, .int .i64 t114], .int .i64 1, .int .i64 0, .int .i64 t115] ?_
   with_reducible refine (spec_pzOf.calls t113 t114 1 0 t115 t135 t136 t137 _ A17.out).mono ?_
   rintro e w41 ⟨rfl, hb⟩
   refine ⟨_, rfl, ?_⟩
   replace HO129 := am (Kd.R_below (uR HO129) hb)
   replace BK101 := uB BK101 hb
   replace HI102 := am (IsS89.below uI hb)
   replace BK118 := uB BK118 hb
   replace BK131 := uB BK131 hb
   replace HB := uS hb
   (try clear hb)
   (try clear hb2)
   (try clear hk)
   (try clear hi)
   refine hK.out _ _ ⟨uT BK131 0, uT BK131 1, uT BK131 2, uT BK118 0, uT BK118 1⟩ (fun hHeld => ?_)
   clear hK K
   refine uNo (some 37) ?_
   refine uOn (i := 8) (N := some 38) #[true, true, true, true, true, true, true, true, true, false, false, false] (fun K hK => ?_)
   refine Kd.R_lit_step k37 _ 37 ?hg (N := 38) ?hd (xs := ([(⟨t132, t133, t134⟩ : S37), (⟨t135, t136, t137⟩ : S37)] : List (S37))) (inner := [.int .i64 t132, .int .i64 t133, .int .i64 t134, .int .i64 t135, .int .i64 t136, .int .i64 t137]) (ok := fun _ => True) (okp := fun _ => True) ?hr ?hp (fun _ hk => hk) trivial (Below.refl _ _) (Nat.le_refl _) (by simp) ?_; (case hd => rfl); (case hg => rfl); (case hr => first | (go_simp; done) | (go_simp; rfl)); (case hp => exact (Reps.c3 (show Kd.M k37 _ _ _ (⟨t132, t133, t134⟩ : S37) [.int .i64 t132, .int .i64 t133, .int .i64 t134] from (k37_mkM _ _ _ (⟨t132, t133, t134⟩ : S37) )) (Reps.c3 (show Kd.M k37 _ _ _ (⟨t135, t136, t137⟩ : S37) [.int .i64 t135, .int .i64 t136, .int .i64 t137] from (k37_mkM _ _ _ (⟨t135, t136, t137⟩ : S37) )) (Reps.none _ _))))
   intro v139 w42 ho43 hb hg_ hnew_
   clear hg_ hnew_
   (first | rw [← Ny138.out] at ho43 | (simp only [Int.reduceToNat] at ho43; rw [← Ny138.out] at ho43))
   have HO140 := am (Kd.R_lower (Kd.R_new' ho43 (Kd.R_lt (uR HO129))) (below_size uW))
   replace HO129 := am (Kd.R_elder' (uR HO129) (Kd.R_base ho43) hb)
   replace BK101 := uB BK101 hb
   replace HI102 := am (IsS89.below uI hb)
   replace BK118 := uB BK118 hb
   replace BK131 := uB BK131 hb
   replace HB := uS hb
   clear hb ho43
   obtain ⟨Ao45, co45, eo45⟩ := Kd.R_slice HO140.out
   (first | subst eo45 | (injection eo45 with f1_ f2_ f3_; have f4_ := f1_.symm; have f5_ := f3_.symm; clear f1_ f2_ f3_; subst f4_; subst f5_))
   refine hK.out _ _ ⟨uT BK131 0, uT BK131 1, uT BK131 2, uT BK118 0, uT BK118 1⟩ (fun hHeld => ?_)
   clear hK K
   refine uNo (some 38) ?_
   refine uOn (i := 9) (N := some 39) #[true, true, true, true, true, true, true, true, true, true, false, false] (fun K hK => ?_)
   refine Kd.R_append_rows_step k37 (w0 := w) w.heap.size (by rfl) (.tmp 31) (.tmp 38) 31 37 (.agg #[(.int .i64 0), (.int .i64 0), (.int .i64 0)]) 24 rfl Try.underlying31 info37 rfl (by decide) (by omega) (.slice Ao36 t127.length co36) t127 y138 _ _ _ (fun k_ => some k_ ≠ (.slice Ao45 y138.length co45 : Value).ownBlock) (fun _ => False) rfl rfl ?aO ?aR (fun _ _ h => h) (fun _ h => h.elim) ?aF ?aB ?aS ?aL ?_
   (case aR => repeat (first | exact (Kd.R_reads' HO140.out).2.2 | (with_reducible refine cA ?_ _) | (with_reducible refine cN ?_ _) | (with_reducible refine cD ?_)))
   (case aB => exact uW)
   (case aF => exact (fun k_ hk => Kd.fresh' (Kd.R_lt (uR HO140)) k_ hk))
   (case aO => exact (by (with_reducible repeat (first | apply rA | apply rN | apply rD)); exact Kd.R_mono HO129.out (fun _ hk => hk.2)))
   (case aS => exact (below_size uW))
   (case aL => have := LMc18.out; omega)
   intro v142 w44 ho hb hg hat
   rw [← Ny141.out] at ho
   have HO143 := am (ho)
   replace BK101 := am (blk_grown (uP BK101) hg (Kd.R_ne HO129.out BK101.out (by decide)))
   replace HI102 := am (IsS89.grown uI hg (IsS89.own_ne HI102.out HO129.out (by decide)))
   replace BK118 := am (blk_grown (uP BK118) hg (Kd.R_ne HO129.out BK118.out (by decide)))
   replace BK131 := am (blk_grown (uP BK131) hg (Kd.R_ne HO129.out BK131.out (by decide)))
   replace HO140 := am (Kd.R_after (ok := (fun _ => True)) (uR HO140) hg hat)
   replace HB := am (hb)
   clear HO129
   clear ho hb hg hat
   obtain ⟨Ao46, co46, eo46⟩ := Kd.R_slice HO143.out
   (first | subst eo46 | (injection eo46 with f1_ f2_ f3_; have f4_ := f1_.symm; have f5_ := f3_.symm; clear f1_ f2_ f3_; subst f4_; subst f5_))
   refine hK.out _ _ ⟨uT BK131 0, uT BK131 1, uT BK131 2, uT BK118 0, uT BK118 1⟩ (fun hHeld => ?_)
   clear hK K
   refine uNo (some 39) ?_
   refine uPu (i := 10) (N := some 40) #[true, true, true, true, true, true, true, true, true, true, true, false] ?_
   refine last_ (i := 11) (N := none) #[true, true, true, true, true, true, true, true, true, true, true, true] rfl rfl (one_of HT_.out (by kernel_rfl)) (by decide) (fun K hK => ?_)
   have hs47 : w44.cell? ⟨gb131, 2, none⟩ = some (.slice Ao36 t127.length co36) := uT BK131 2
   have hfs47 := blk_frozen BK131.out 2
   have hns47_0 := NB101_131.out
   have hns47_1 := NB118_131.out
   have hms47_0 := NB131_101.out
   have hms47_1 := NB131_118.out
   refine skip_ (w1 := ?_) (by rfl) rfl ?_ ?_
   rotate_left
   ·go_simp
    rfl
   refine hK.out _ _ ?_
   clear hK K
   refine done_ (done_of HT_.out (by kernel_rfl)) ?_
   have hnb48 := NB131_101.out
   have hnc48 := NB101_131.out
   have hnb49 := NB131_118.out
   have hnc49 := NB118_131.out
   have hnb50 := NB131_102.out
   have hnc50 := NB102_131.out
   obtain ⟨hcz51_0, hcz51_1, hcz51_2, hfz51_0, hfz51_1, hfz51_2⟩ := uZ3 BK131
   have hnb52 := NB101_102.out
   have hnc52 := NB102_101.out
   obtain ⟨hcz53_0, hcz53_1, hcz53_2, hfz53_0, hfz53_1, hfz53_2⟩ := uZ3 BK101
   try go_wp2
   refine bodyPost_ret (results_cell_row rfl _ _ gb101 33 #[.int .i64 t125, .int .i64 t126, .slice Ao46 y141.length co46] (0, 0) _ rfl (by refine blk_put (cs := #[.int .i64 t125, .int .i64 t126, .slice none 0 0]) ?_ 2 _ rfl; refine blk_put (cs := #[.int .i64 t125, .int .i64 0, .slice none 0 0]) ?_ 1 _ rfl; refine blk_put (cs := #[.int .i64 0, .int .i64 0, .slice none 0 0]) ?_ 0 _ rfl; refine blk_far ?_ NB101_131.out _; exact (uP BK101)) Try.underlying33 rfl (by kernel_rfl)) rfl ?_
   exact ⟨_, uA, by (with_reducible repeat (first | apply rA | apply rN | apply rD)); exact Kd.R_mono (Kd.R_far (p := ⟨gb101, 2, none⟩) (Kd.R_far (p := ⟨gb101, 1, none⟩) (Kd.R_far (p := ⟨gb101, 0, none⟩) (Kd.R_far (p := ⟨gb131, 2, none⟩) (Kd.R_types (Kd.R_types HO143.out BK131.out (by decide)) BK101.out (by decide)) (fun _ hk => hk.1.2) (.slice Ao46 y141.length co46)) (fun _ hk => hk.2) (.int .i64 t125)) (fun _ hk => hk.2) (.int .i64 t126)) (fun _ hk => hk.2) (.slice Ao46 y141.length co46)) (fun _ hk => trivial), by exact uW⟩
  ·rw [if_neg c18] at H
   exact absurd H (by simp)
end Go.Proofs.Ytcloklakffgbmaa.G
end
section
namespace Go.Proofs.Ytcloklakffgbmaa.G
open Go.RowKit Go.Proofs.YtcloklakffgbmaaW.PrintWords Go.Proofs.YtcloklakffgbmaaW.PrintLast Go.Proofs.YtcloklakffgbmaaW.PrintMore
attribute [local go_sem] max2_int min2_int max_two min_two max_three min_three max_four min_four
attribute [local go_sem high] eqA37
set_option linter.unusedVariables false
set_option linter.unusedSimpArgs false
structure Held (p : World → Prop) (W : World) : Prop where mk :: (out : p W)
class Stay (p : World → Prop) : Prop where step : ∀ {W W' : World}, p W → Below W.heap.size W W' → p W'
instance stay_C {α : Type} {d : Kd α} {A : Option Addr} {n : Nat} {xs : List α} : Stay (fun W => Kd.C d W A n xs) := ⟨fun h hb => Kd.C_below h hb⟩
instance stay_box {g : Nat} {o : Obj} : Stay (fun W => W.heap[g]? = some o) := ⟨fun h hb => blk_below h hb⟩
instance stay_cell {a : Addr} {v : Value} : Stay (fun W => W.cell? a = some v) := ⟨fun h hb => (hb.cell (World.block_lt_of_cell? _ _ h)).trans h⟩
instance stay_held {p : World → Prop} [hp : Stay p] : Stay (fun W => Held p W) := ⟨fun h hb => ⟨hp.step h.out hb⟩⟩
instance stay_old {w : World} : Stay (fun W => Below w.heap.size w W) := ⟨fun h hb => below_step h hb⟩
instance stay_and {p q : World → Prop} [hp : Stay p] [hq : Stay q] : Stay (fun W => p W ∧ q W) := ⟨fun h hb => ⟨hp.step h.1 hb, hq.step h.2 hb⟩⟩
theorem Held.below {p : World → Prop} {W W' : World} (h : Held p W) [hp : Stay p] (hb : Below W.heap.size W W') : Held p W' := ⟨hp.step h.out hb⟩
theorem Held.push {p q : World → Prop} {W : World} (h : Held p W) (hq : q W) : Held (fun W => q W ∧ p W) W := ⟨hq, h.out⟩
theorem Held.box {p : World → Prop} {W : World} {g : Nat} {o : Obj} (h : Held p W) (hh : W.heap[g]? = some o) : Held (fun W => W.heap[g]? = some o ∧ p W) W := ⟨hh, h.out⟩
theorem Held.row {α : Type} {d : Kd α} {A : Option Addr} {n : Nat} {xs : List α} {p : World → Prop} {W : World} (h : Held p W) (hh : Kd.C d W A n xs) : Held (fun W => Kd.C d W A n xs ∧ p W) W := ⟨hh, h.out⟩
theorem box2 {W w : World} {g : Nat} {t : TypeId} {a b x y : Value} (hg : W.heap.size ≤ g) (hh : w.heap[g]? = some (.cells #[a, b] t (0, 0))) (hb : Below W.heap.size W w) :
  Below W.heap.size W ((w.setCell ⟨g, 0, none⟩ x).setCell ⟨g, 1, none⟩ y) ∧ ((w.setCell ⟨g, 0, none⟩ x).setCell ⟨g, 1, none⟩ y).heap[g]? = some (.cells #[x, y] t (0, 0)) :=
 ⟨below_set (below_set hb hg) hg, blk_set (blk_set hh 0 x) 1 y⟩
theorem box3 {W w : World} {g : Nat} {t : TypeId} {a b c x y z : Value} (hg : W.heap.size ≤ g) (hh : w.heap[g]? = some (.cells #[a, b, c] t (0, 0))) (hb : Below W.heap.size W w) :
  Below W.heap.size W (((w.setCell ⟨g, 0, none⟩ x).setCell ⟨g, 1, none⟩ y).setCell ⟨g, 2, none⟩ z) ∧ (((w.setCell ⟨g, 0, none⟩ x).setCell ⟨g, 1, none⟩ y).setCell ⟨g, 2, none⟩ z).heap[g]? = some (.cells #[x, y, z] t (0, 0)) :=
 ⟨below_set (below_set (below_set hb hg) hg) hg, blk_set (blk_set (blk_set hh 0 x) 1 y) 2 z⟩
theorem far2 {w : World} {g g' : Nat} {t : TypeId} {cs : Array Value} {x y : Value} (hh : w.heap[g']? = some (.cells cs t (0, 0))) (hn : g' ≠ g) : ((w.setCell ⟨g, 0, none⟩ x).setCell ⟨g, 1, none⟩ y).heap[g']? = some (.cells cs t (0, 0)) :=
 blk_far (blk_far hh hn _) hn _
theorem far3 {w : World} {g g' : Nat} {t : TypeId} {cs : Array Value} {x y z : Value} (hh : w.heap[g']? = some (.cells cs t (0, 0))) (hn : g' ≠ g) : (((w.setCell ⟨g, 0, none⟩ x).setCell ⟨g, 1, none⟩ y).setCell ⟨g, 2, none⟩ z).heap[g']? = some (.cells cs t (0, 0)) :=
 blk_far (blk_far (blk_far hh hn _) hn _) hn _
theorem undrew {W w : World} (h : Below W.drew.heap.size W.drew w) : Below W.heap.size W w := ⟨h.os, h.tape, h.output, h.size, h.block⟩
theorem box_below {W w : World} {o : Obj} (h : Below (W.alloc o).heap.size (W.alloc o) w) : Below W.heap.size W w := ((Below.refl _ _).alloc (Nat.le_refl _) _).trans (h.mono (by simp))
theorem uHt {P : Program} {ops : Array Oper} {Q : Exit → Act → World → Prop} {md : Region.Mode} {S : World → Prop} {i : Nat} {oi : Oper} {v : Value} {fuel : Nat} {listed : Array Bool} {a a' : Act} {w : World} (hS : S w)
  (h : wpAnyH P md ops Q S fuel (listed.setIfInBounds i true) a' w) (hi : ops[i]? = some oi := by simp only [List.getElem?_toArray, List.getElem?_cons_zero, List.getElem?_cons_succ]; rfl) (hs : Region.noSelect ops = true := by kernel_rfl) (hf : Region.free md ops listed i = true := by kernel_rfl)
  (hr : (Region.ready md ops listed).contains i = true := by kernel_rfl) (hQ : ∀ c a w, Q (.panic c) (a.put oi.dst v) w → Q (.panic c) a w := by exact fun _ _ _ h => h) (hw : Region.wanted oi (yielded ops a.tmps) = true := by rfl) (hy : ∀ w', S w' → (execOp a.eval oi).run P w' = .ok (.value v) w' := by intro w' hSw; (try dsimp only at hSw); go_simp; all_goals (try (with_reducible rfl)))
  (ha : a.put oi.dst v = a' := by (try simp only [Act.put, List.setIfInBounds_toArray, List.set_cons_zero, List.set_cons_succ]); rfl) : wpAnyH P md ops Q S (fuel + 1) listed a w := by
 subst ha
 exact wpAnyH_take hi hs hf hr hQ (Or.inl ⟨hw, hy⟩) hS h
theorem uHs {P : Program} {ops : Array Oper} {Q : Exit → Act → World → Prop} {md : Region.Mode} {S : World → Prop} {i : Nat} {oi : Oper} {fuel : Nat} {listed : Array Bool} {a a' : Act} {w : World} (hS : S w)
  (h : wpAnyH P md ops Q S fuel (listed.setIfInBounds i true) a' w) (hi : ops[i]? = some oi := by simp only [List.getElem?_toArray, List.getElem?_cons_zero, List.getElem?_cons_succ]; rfl) (hs : Region.noSelect ops = true := by kernel_rfl) (hf : Region.free md ops listed i = true := by kernel_rfl)
  (hr : (Region.ready md ops listed).contains i = true := by kernel_rfl) (hQ : ∀ c a w, Q (.panic c) (a.put oi.dst undef) w → Q (.panic c) a w := by exact fun _ _ _ h => h) (hw : Region.wanted oi (yielded ops a.tmps) = false := by rfl)
  (ha : a.put oi.dst undef = a' := by (try simp only [Act.put, List.setIfInBounds_toArray, List.set_cons_zero, List.set_cons_succ]); rfl) : wpAnyH P md ops Q S (fuel + 1) listed a w := by
 subst ha
 exact wpAnyH_take hi hs hf hr hQ (Or.inr ⟨hw, rfl⟩) hS h
structure RunD (k : Nat) (q1 q2 : Int) (ql : List S37) (h1 h2 : Int) (hl : List S37) (xs ys nd : List Int) : Prop where
 sol : impl_Solutions.f q1 q2 ql = some (xs, true)
 solh : impl_Solutions.f h1 h2 hl = some (ys, true)
 need : impl_NeedlessClues.f k h1 h2 hl = some (nd, true)
 same : laws_aSame.f k xs ys = some true
 none : nd.length = 0
 le : hl.length ≤ ql.length
structure RunE (k : Nat) (l1 : List Int) (r1 r2 : Int) (rl : List S37) (x1 x2 x3 b1 b2 : Int) (al bl : List S37) (four : Bool) (s3 s4 : Int) (sl : List S37) (kk d1 d2 : Int) (dl vl : List S37) (six : Bool) (t1 t2 e1 e2 e3 ex : Int) (fits eight : Bool) (u1 u2 f1 f2 f3 : Int) (isu : Bool) : Prop where
 draw : spec_DrawAddClue.f k l1 = some (r1, r2, rl, x1, x2, x3)
 impl : impl_AddClue.f r1 r2 rl x1 x2 x3 = some (b1, b2, al, four)
 spec : spec_AddClue.f k r1 r2 rl x1 x2 x3 = some (b1, b2, bl, four)
 eq : laws_aPuzzle.f k b1 b2 al b1 b2 bl = some true
 draw2 : spec_DrawDropClue.f k l1 = some (s3, s4, sl, kk)
 impl2 : impl_DropClue.f s3 s4 sl kk = some (d1, d2, dl, six)
 spec2 : spec_DropClue.f k s3 s4 sl kk = some (d1, d2, vl, six)
 eq2 : laws_aPuzzle.f k d1 d2 dl d1 d2 vl = some true
 draw3 : spec_DrawDoesFit.f k l1 = some (t1, t2, e1, e2, e3, ex)
 impl3 : impl_DoesFit.f t1 t2 e1 e2 e3 ex = some (fits, eight)
 spec3 : spec_DoesFit.f t1 t2 e1 e2 e3 ex = some (fits, eight)
 draw4 : spec_DrawIsClue.f k l1 = some (u1, u2, f1, f2, f3)
 impl4 : impl_IsClue.f u1 u2 f1 f2 f3 = some isu
 spec4 : spec_IsClue.f u1 u2 f1 f2 f3 = some isu
 small : sl.length ≤ 1000
 clue : eight = true → impl_IsClue.f t1 t2 e1 e2 e3 = some true
structure RunF (k : Nat) (r1 r2 : Int) (rl : List S37) (x1 x2 x3 b1 b2 : Int) (al : List S37) (z1 z2 : Int) (zl : List S37) : Prop where
 drop : impl_DropClue.f b1 b2 al rl.length = some (z1, z2, zl, true)
 eq : laws_aPuzzle.f k z1 z2 zl r1 r2 rl = some true
 rd : rd_T37 al (rl.length : Int) = ⟨x1, x2, x3⟩
 lt : rl.length < al.length
 small : al.length ≤ 1000
structure RunG (k : Nat) (s3 s4 : Int) (sl : List S37) (kk d1 d2 : Int) (dl : List S37) (c1 c2 c3 y1 y2 : Int) (yl : List S37) : Prop where
 pos : 1 ≤ sl.length
 rd : rd_T37 sl kk = ⟨c1, c2, c3⟩
 add : impl_AddClue.f d1 d2 dl c1 c2 c3 = some (y1, y2, yl, true)
 eq : laws_aPuzzle.f k y1 y2 yl s3 s4 sl = some true
structure RunA (k : Nat) (l0 : List Int) (s1 s2 ho cl sd m1 m2 : Int) (ml nl : List S37) (ok : Bool) : Prop where
 draw : spec_DrawMakePuzzle.f l0 = some (s1, s2, ho, cl, sd)
 impl : impl_MakePuzzle.f k s1 s2 ho cl sd = some (m1, m2, ml, ok)
 spec : spec_MakePuzzle.f k s1 s2 ho cl sd = some (m1, m2, nl, ok)
 eq : laws_aPuzzle.f k m1 m2 ml m1 m2 nl = some true
structure RunB (k : Nat) (s1 s2 ho cl m1 m2 : Int) (ml : List S37) (side plot oth : Int) (four : Bool) : Prop where
 plo : impl_PlotOf.f s1 s2 ho = some (side, plot, true)
 fit0 : impl_DoesFit.f s1 s2 0 0 side ho = some (true, true)
 fit1 : impl_DoesFit.f s1 s2 1 0 plot ho = some (true, true)
 opp : impl_OppositeOf.f k s1 s2 ho = some (oth, four)
 none : (!four && (oth != 0)) = false
 fit5 : impl_DoesFit.f s1 s2 5 0 oth ho = some (true, true)
 isp : impl_IsPuzzle.f m1 m2 ml = some true
 len : (ml.length : Int) = cl
 small : ml.length ≤ 1000
 each : ∀ x ∈ ml, impl_DoesFit.f s1 s2 x.f0 x.f1 x.f2 ho = some (true, true)
structure RunC (k : Nat) (l1 : List Int) (q1 q2 : Int) (ql : List S37) (h1 h2 : Int) (hl il : List S37) (one solved three : Bool) : Prop where
 draw : spec_DrawHarderPuzzle.f k l1 = some (q1, q2, ql)
 impl : impl_HarderPuzzle.f k q1 q2 ql = some (h1, h2, hl, one)
 spec : spec_HarderPuzzle.f k q1 q2 ql = some (h1, h2, il, one)
 eq : laws_aPuzzle.f k h1 h2 hl h1 h2 il = some true
 slv : impl_IsSolved.f q1 q2 ql = some (solved, three)
 one : one = (three && solved)
end Go.Proofs.Ytcloklakffgbmaa.G
end
section
namespace Go.Proofs.Ytcloklakffgbmaa.G
open Go.RowKit Go.Proofs.YtcloklakffgbmaaW.PrintWords Go.Proofs.YtcloklakffgbmaaW.PrintLast Go.Proofs.YtcloklakffgbmaaW.PrintMore
attribute [local go_sem] max2_int min2_int max_two min_two max_three min_three max_four min_four
attribute [local go_sem high] eqA37
set_option linter.unusedVariables false
set_option linter.unusedSimpArgs false
def HhPure : Prop := ∀ (l0 l1 : List Int), l0.length ≤ maxLen → (∀ x ∈ l0, (Lit.int .u8 x).wf = true) → l1.length ≤ maxLen → (∀ x ∈ l1, (Lit.int .u8 x).wf = true) → laws_big.f l0 l1 = some true ∨ (laws_big.f l0 l1 = some false ∧ ∃ (k : Nat), ∃ (s1 s2 ho cl sd m1 m2 : Int), ∃ (ml nl : List S37), ∃ (ok : Bool), (RunA k l0 s1 s2 ho cl sd m1 m2 ml nl ok) ∧ (ok = true → ∃ side plot oth four, RunB k s1 s2 ho cl m1 m2 ml side plot oth four) ∧ ∃ (q1 q2 : Int), ∃ (ql : List S37), ∃ (h1 h2 : Int), ∃ (hl il : List S37), ∃ (one solved three : Bool), (RunC k l1 q1 q2 ql h1 h2 hl il one solved three) ∧ (one = true → ∃ xs ys nd, RunD k q1 q2 ql h1 h2 hl xs ys nd) ∧ ∃ (r1 r2 : Int), ∃ (rl : List S37), ∃ (x1 x2 x3 b1 b2 : Int), ∃ (al bl : List S37), ∃ (four : Bool), ∃ (s3 s4 : Int), ∃ (sl : List S37), ∃ (kk d1 d2 : Int), ∃ (dl vl : List S37), ∃ (six : Bool), ∃ (t1 t2 e1 e2 e3 ex : Int), ∃ (fits eight : Bool), ∃ (u1 u2 f1 f2 f3 : Int), ∃ (isu : Bool), (RunE k l1 r1 r2 rl x1 x2 x3 b1 b2 al bl four s3 s4 sl kk d1 d2 dl vl six t1 t2 e1 e2 e3 ex fits eight u1 u2 f1 f2 f3 isu) ∧ (four = true → ∃ z1 z2 zl, RunF k r1 r2 rl x1 x2 x3 b1 b2 al z1 z2 zl) ∧ (six = true → kk = (sl.length : Int) - 1 → ∃ c1 c2 c3 y1 y2 yl, RunG k s3 s4 sl kk d1 d2 dl c1 c2 c3 y1 y2 yl))
end Go.Proofs.Ytcloklakffgbmaa.G
end
section
namespace Go.Proofs.Ytcloklakffgbmaa.G
open Go.RowKit Go.Proofs.YtcloklakffgbmaaW.PrintWords Go.Proofs.YtcloklakffgbmaaW.PrintLast Go.Proofs.YtcloklakffgbmaaW.PrintMore
attribute [local go_sem] max2_int min2_int max_two min_two max_three min_three max_four min_four
attribute [local go_sem high] eqA37
set_option linter.unusedVariables false
set_option linter.unusedSimpArgs false
def hidden_1 : {Q : Prop // Aside0 Q → ∀ (A0 : Option Addr) (c0 : Nat) (l0 : List Int) (A1 : Option Addr) (c1 : Nat) (l1 : List Int) (w : World) (hr0 : Kd.C (Kd.int .u8) w A0 l0.length l0) (hc0 : l0.length ≤ c0) (hr1 : Kd.C (Kd.int .u8) w A1 l1.length l1) (hc1 : l1.length ≤ c1) (k : Nat) (s1 s2 ho cl sd m1 m2 : Int) (ml nl : List S37) (ok : Bool) (big : laws_big.f l0 l1 = some false) (ra : RunA k l0 s1 s2 ho cl sd m1 m2 ml nl ok) (rb : ok = true → ∃ side plot oth four, RunB k s1 s2 ho cl m1 m2 ml side plot oth four) (q1 q2 : Int) (ql : List S37) (h1 h2 : Int) (hl il : List S37) (one solved three : Bool) (rc : RunC k l1 q1 q2 ql h1 h2 hl il one solved three) (rd : one = true → ∃ xs ys nd, RunD k q1 q2 ql h1 h2 hl xs ys nd) (r1 r2 : Int) (rl : List S37) (x1 x2 x3 b1 b2 : Int) (al bl : List S37) (four : Bool) (s3 s4 : Int) (sl : List S37) (kk d1 d2 : Int) (dl vl : List S37) (six : Bool) (t1 t2 e1 e2 e3 ex : Int) (fits eight : Bool) (u1 u2 f1 f2 f3 : Int) (isu : Bool) (re : RunE k l1 r1 r2 rl x1 x2 x3 b1 b2 al bl four s3 s4 sl kk d1 d2 dl vl six t1 t2 e1 e2 e3 ex fits eight u1 u2 f1 f2 f3 isu) (rf : four = true → ∃ z1 z2 zl, RunF k r1 r2 rl x1 x2 x3 b1 b2 al z1 z2 zl) (rg : six = true → kk = (sl.length : Int) - 1 → ∃ c1 c2 c3 y1 y2 yl, RunG k s3 s4 sl kk d1 d2 dl c1 c2 c3 y1 y2 yl), Calls Try.prog 5 #[.slice A0 l0.length c0, .slice A1 l1.length c1] w fun e w' => e = .returned (.bool true) ∧ Below w.heap.size w w'} := ⟨_, fun q_ => by
 intro A0 c0 l0 A1 c1 l1 w hr0 hc0 hr1 hc1 k s1 s2 ho cl sd m1 m2 ml nl ok big ra rb q1 q2 ql h1 h2 hl il one solved three rc rd r1 r2 rl x1 x2 x3 b1 b2 al bl four s3 s4 sl kk d1 d2 dl vl six t1 t2 e1 e2 e3 ex fits eight u1 u2 f1 f2 f3 isu re rf rg
 have hu30 := Try.underlying30
 have hu33 := Try.underlying33
 have hu37 := Try.underlying37
 have HC0 := am hc0
 have HC1 := am hc1
 have HBIG := am big
 have HA := am ra
 have HL := am (((Held.mk (p := fun W => Below w.heap.size w W) (Below.refl _ w)).push (q := fun W => Kd.C (Kd.int .u8) W A0 l0.length l0) hr0).push (q := fun W => Kd.C (Kd.int .u8) W A1 l1.length l1) hr1)
 clear hr0 hc0 hr1 hc1 big ra
 have HRB := am rb
 have HCC := am rc
 have HRD := am rd
 have HE := am re
 have HRF := am rf
 have HRG := am rg
 clear rb rc rd re rf rg
 go_enter Try.func5, Try.ntmps5
 go_wp2_with fail
 refine (laws_big.calls A0 c0 l0 A1 c1 l1 false _ HL.out.out.2.1 HC0.out HL.out.out.1 HC1.out HBIG.out).mono ?_
 rintro e w1 ⟨rfl, hd⟩
 have HL_ := am (HL.out.below hd.below)
 clear HL
 have HL := HL_
 clear HL_
 clear hd
 go_wp2_with fail
 refine (spec_DrawMakePuzzle.calls A0 c0 l0 s1 s2 ho cl sd _ HL.out.out.2.1 HC0.out HA.out.draw).mono ?_
 rintro e w2 ⟨rfl, hb⟩
 have HL_ := am (HL.out.below hb)
 clear HL
 have HL := HL_
 clear HL_
 clear hb
 go_wp2_with (first
  | ((with_reducible refine gate_dst (N := 5) rfl ?_); refine uX (N := 5) (cs := #[.int .i64 0, .int .i64 0]) (t := 30) ?_; intro g5 hg w3 hh hb; have hz5_0 := blk_cell hh 0; have hz5_1 := blk_cell hh 1; have hz5_2 := blk_frozen hh 0; have hz5_3 := blk_frozen hh 1; have HG5 := am (Nat.le_of_eq hg.symm); have HB := am hb; have HH5 := am hh; clear hg hb hh)
  | ((with_reducible refine gate_store (t := 30) (p := 5) rfl ?_); refine store_event (t := 30) (p := 5) (v := ?vo_w4) (w1 := ((w3.setCell ⟨g5, 0, none⟩ (.int .i64 s1)).setCell ⟨g5, 1, none⟩ (.int .i64 s2))) ?hg ?ho ?hn ?hr ?_; (case ho => rfl); (case hg => rfl); (case hn => rfl); (case hr => first | (go_simp; done) | (go_simp; rfl)); intro w4 ew_; obtain ⟨hb2, hh2⟩ := box2 (x := .int .i64 s1) (y := .int .i64 s2) HG5.out HH5.out HB.out; rw [← ew_] at hb2 hh2; have HL_ := am ((HL.out.below hb2).box hh2); clear HL; have HL := HL_; clear HL_; clear hb2 hh2 HB HH5 HG5 ew_ hz5_0 hz5_1 hz5_2 hz5_3; have hx5_0 := blk_cell HL.out.out.1 0; have hx5_1 := blk_cell HL.out.out.1 1)
  | fail)
 refine (impl_MakePuzzle.calls k s1 s2 ho cl sd m1 m2 ml ok _ HA.out.impl).mono ?_
 rintro e w5 ⟨v, rfl, ho, hb⟩
 obtain ⟨Aml, cml, rfl⟩ := Kd.R_slice ho
 have LEml := am (Kd.R_reads' ho).2.1
 have HL_ := am ((HL.out.below hb).row (Kd.R_reads' ho).2.2)
 clear HL
 have HL := HL_
 clear HL_
 clear ho hb
 clear hx5_0 hx5_1
 go_wp2_with (first
  | ((with_reducible refine gate_dst (N := 9) rfl ?_); refine uX (N := 9) (cs := #[.int .i64 0, .int .i64 0, .slice none 0 0]) (t := 33) ?_; intro g9 hg w6 hh hb; have hz9_0 := blk_cell hh 0; have hz9_1 := blk_cell hh 1; have hz9_2 := blk_cell hh 2; have hz9_3 := blk_frozen hh 0; have hz9_4 := blk_frozen hh 1; have hz9_5 := blk_frozen hh 2; have HG9 := am (Nat.le_of_eq hg.symm); have HB := am hb; have HH9 := am hh; clear hg hb hh)
  | ((with_reducible refine gate_store (t := 33) (p := 9) rfl ?_); refine store_event (t := 33) (p := 9) (v := ?vo_w7) (w1 := (((w6.setCell ⟨g9, 0, none⟩ (.int .i64 m1)).setCell ⟨g9, 1, none⟩ (.int .i64 m2)).setCell ⟨g9, 2, none⟩ (.slice Aml ml.length cml))) ?hg ?ho ?hn ?hr ?_; (case ho => rfl); (case hg => rfl); (case hn => rfl); (case hr => first | (go_simp; done) | (go_simp; rfl)); intro w7 ew_; obtain ⟨hb2, hh2⟩ := box3 (x := .int .i64 m1) (y := .int .i64 m2) (z := .slice Aml ml.length cml) HG9.out HH9.out HB.out; rw [← ew_] at hb2 hh2; have HL_ := am ((HL.out.below hb2).box hh2); clear HL; have HL := HL_; clear HL_; clear hb2 hh2 HB HH9 HG9 ew_ hz9_0 hz9_1 hz9_2 hz9_3 hz9_4 hz9_5; have hx5_0 := blk_cell HL.out.out.2.2.1 0; have hx5_1 := blk_cell HL.out.out.2.2.1 1)
  | fail)
 refine (spec_MakePuzzle.calls k s1 s2 ho cl sd m1 m2 nl ok _ HA.out.spec).mono ?_
 rintro e w8 ⟨v, rfl, ho, hb⟩
 obtain ⟨Anl, cnl, rfl⟩ := Kd.R_slice ho
 have LEnl := am (Kd.R_reads' ho).2.1
 have HL_ := am ((HL.out.below hb).row (Kd.R_reads' ho).2.2)
 clear HL
 have HL := HL_
 clear HL_
 clear ho hb
 clear hx5_0 hx5_1
 go_wp2_with (first
  | ((with_reducible refine gate_dst (N := 11) rfl ?_); refine uX (N := 11) (cs := #[.int .i64 0, .int .i64 0, .slice none 0 0]) (t := 33) ?_; intro g11 hg w9 hh hb; have hz11_0 := blk_cell hh 0; have hz11_1 := blk_cell hh 1; have hz11_2 := blk_cell hh 2; have hz11_3 := blk_frozen hh 0; have hz11_4 := blk_frozen hh 1; have hz11_5 := blk_frozen hh 2; have HG11 := am (Nat.le_of_eq hg.symm); have HB := am hb; have HH11 := am hh; clear hg hb hh)
  | ((with_reducible refine gate_store (t := 33) (p := 11) rfl ?_); refine store_event (t := 33) (p := 11) (v := ?vo_w10) (w1 := (((w9.setCell ⟨g11, 0, none⟩ (.int .i64 m1)).setCell ⟨g11, 1, none⟩ (.int .i64 m2)).setCell ⟨g11, 2, none⟩ (.slice Anl nl.length cnl))) ?hg ?ho ?hn ?hr ?_; (case ho => rfl); (case hg => rfl); (case hn => rfl); (case hr => first | (go_simp; done) | (go_simp; rfl)); intro w10 ew_; obtain ⟨hb2, hh2⟩ := box3 (x := .int .i64 m1) (y := .int .i64 m2) (z := .slice Anl nl.length cnl) HG11.out HH11.out HB.out; rw [← ew_] at hb2 hh2; have HL_ := am ((HL.out.below hb2).box hh2); clear HL; have HL := HL_; clear HL_; clear hb2 hh2 HB HH11 HG11 ew_ hz11_0 hz11_1 hz11_2 hz11_3 hz11_4 hz11_5; have hx9_0 := blk_cell HL.out.out.2.2.1 0; have hx9_1 := blk_cell HL.out.out.2.2.1 1; have hx9_2 := blk_cell HL.out.out.2.2.1 2; have hx11_0 := blk_cell HL.out.out.1 0; have hx11_1 := blk_cell HL.out.out.1 1; have hx11_2 := blk_cell HL.out.out.1 2)
  | fail)
 refine (laws_aPuzzle.calls k m1 m2 _ _ ml m1 m2 _ _ nl true _ HL.out.out.2.2.2.1 LEml.out HL.out.out.2.1 LEnl.out HA.out.eq).mono ?_
 rintro e w11 ⟨rfl, hb⟩
 have HL_ := am (HL.out.below hb)
 clear HL
 have HL := HL_
 clear HL_
 clear hb
 clear hx9_0 hx9_1 hx9_2 hx11_0 hx11_1 hx11_2
 go_upto_if 101 with fail
 go_cut [13, 14, 15, 16, 17, 18, 19, 20, 21, 22, 23, 24, 25, 26, 27] (fun s13 s14 s15 s16 s17 s18 s19 s20 s21 s22 s23 s24 s25 s26 s27 wx => Aside0 (Held (fun W => Kd.C (Kd.int .u8) W A1 l1.length l1 ∧ Kd.C (Kd.int .u8) W A0 l0.length l0 ∧ Below w.heap.size w W) wx))
 case first =>
  cases ok
  ·go_wp2_with fail
   go_meet
   exact ⟨⟨HL.out.out.2.2.2.2.2.1, HL.out.out.2.2.2.2.2.2.1, HL.out.out.2.2.2.2.2.2.2⟩⟩
  ·
   obtain ⟨side, plot, oth, four, rb⟩ := HRB.out rfl
   have HB1 := am rb
   clear rb
   have hx5_0 := blk_cell HL.out.out.2.2.2.2.1 0
   have hx5_1 := blk_cell HL.out.out.2.2.2.2.1 1
   go_wp2_with fail
   refine (impl_PlotOf.calls s1 s2 ho side plot true _ HB1.out.plo).mono ?_
   rintro e w12 ⟨rfl, hb⟩
   have HL_ := am (HL.out.below hb)
   clear HL
   have HL := HL_
   clear HL_
   clear hb
   clear hx5_0 hx5_1
   have hx5_0 := blk_cell HL.out.out.2.2.2.2.1 0
   have hx5_1 := blk_cell HL.out.out.2.2.2.2.1 1
   go_wp2_with fail
   refine (impl_DoesFit.calls s1 s2 0 0 side ho true true _ HB1.out.fit0).mono ?_
   rintro e w13 ⟨rfl, hb⟩
   have HL_ := am (HL.out.below hb)
   clear HL
   have HL := HL_
   clear HL_
   clear hb
   clear hx5_0 hx5_1
   have hx5_0 := blk_cell HL.out.out.2.2.2.2.1 0
   have hx5_1 := blk_cell HL.out.out.2.2.2.2.1 1
   go_wp2_with fail
   refine (impl_DoesFit.calls s1 s2 1 0 plot ho true true _ HB1.out.fit1).mono ?_
   rintro e w14 ⟨rfl, hb⟩
   have HL_ := am (HL.out.below hb)
   clear HL
   have HL := HL_
   clear HL_
   clear hb
   clear hx5_0 hx5_1
   have hx5_0 := blk_cell HL.out.out.2.2.2.2.1 0
   have hx5_1 := blk_cell HL.out.out.2.2.2.2.1 1
   go_wp2_with fail
   refine (impl_OppositeOf.calls k s1 s2 ho oth four _ HB1.out.opp).mono ?_
   rintro e w15 ⟨rfl, hb⟩
   have HL_ := am (HL.out.below hb)
   clear HL
   have HL := HL_
   clear HL_
   clear hb
   clear hx5_0 hx5_1
   go_upto_region 13 with fail
   go_cut [20, 21, 136] from 131 to 136 (fun s20 s21 s136 wx => s20 = .int .i64 oth ∧ s21 = .bool four ∧ s136 = .bool false ∧ Aside0 (Held (fun W => W.heap[g9]? = some (.cells #[.int .i64 m1, .int .i64 m2, .slice Aml ml.length cml] 33 (0, 0)) ∧ Kd.C k37 W Aml ml.length ml ∧ W.heap[g5]? = some (.cells #[.int .i64 s1, .int .i64 s2] 30 (0, 0)) ∧ Kd.C (Kd.int .u8) W A1 l1.length l1 ∧ Kd.C (Kd.int .u8) W A0 l0.length l0 ∧ Below w.heap.size w W) wx))
   case first =>
    have hz := HB1.out.none
    cases four
    ·obtain rfl : oth = 0 := by simpa using hz
     clear hz
     go_wp2_with fail
     go_meet
     exact ⟨rfl, rfl, rfl, ⟨⟨HL.out.out.2.2.1, HL.out.out.2.2.2.1, HL.out.out.2.2.2.2.1, HL.out.out.2.2.2.2.2.1, HL.out.out.2.2.2.2.2.2.1, HL.out.out.2.2.2.2.2.2.2⟩⟩⟩
    ·clear hz
     go_wp2_with fail
     go_meet
     exact ⟨rfl, rfl, rfl, ⟨⟨HL.out.out.2.2.1, HL.out.out.2.2.2.1, HL.out.out.2.2.2.2.1, HL.out.out.2.2.2.2.2.1, HL.out.out.2.2.2.2.2.2.1, HL.out.out.2.2.2.2.2.2.2⟩⟩⟩
   case rest =>
    obtain ⟨rfl, rfl, rfl, HL2⟩ := hcut
    clear HL
    have HL := HL2
    clear HL2
    have hx5_0 := blk_cell HL.out.out.2.2.1 0
    have hx5_1 := blk_cell HL.out.out.2.2.1 1
    go_wp2_with fail
    refine (impl_DoesFit.calls s1 s2 5 0 oth ho true true _ HB1.out.fit5).mono ?_
    rintro e w16 ⟨rfl, hb⟩
    have HL_ := am (HL.out.below hb)
    clear HL
    have HL := HL_
    clear HL_
    clear hb
    clear hx5_0 hx5_1
    have hx9_0 := blk_cell HL.out.out.1 0
    have hx9_1 := blk_cell HL.out.out.1 1
    have hx9_2 := blk_cell HL.out.out.1 2
    go_wp2_with fail
    refine (impl_IsPuzzle.calls m1 m2 _ _ ml true _ HL.out.out.2.1 LEml.out HB1.out.isp).mono ?_
    rintro e w17 ⟨rfl, hb⟩
    have HL_ := am (HL.out.below hb)
    clear HL
    have HL := HL_
    clear HL_
    clear hb
    clear hx9_0 hx9_1 hx9_2
    have hne : ((ml.length : Int) != cl) = false := by rw [HB1.out.len]; simp
    have hx9_0 := blk_cell HL.out.out.1 0
    have hx9_1 := blk_cell HL.out.out.1 1
    have hx9_2 := blk_cell HL.out.out.1 2
    go_wp2_with fail
    clear hx9_0 hx9_1 hx9_2
    go_loopg [25, 26, 27, 186] ml.length (fun gg s25 s26 s27 s186 wr => ∃ i : Nat, s186 = .int .i64 (i : Int) ∧ i + gg = ml.length ∧ Aside0 (Held (fun W => W.heap[g9]? = some (.cells #[.int .i64 m1, .int .i64 m2, .slice Aml ml.length cml] 33 (0, 0)) ∧ Kd.C k37 W Aml ml.length ml ∧ W.heap[g5]? = some (.cells #[.int .i64 s1, .int .i64 s2] 30 (0, 0)) ∧ Kd.C (Kd.int .u8) W A1 l1.length l1 ∧ Kd.C (Kd.int .u8) W A0 l0.length l0 ∧ Below w.heap.size w W) wr))
    case atStart => exact ⟨0, rfl, by omega, ⟨⟨HL.out.out.1, HL.out.out.2.1, HL.out.out.2.2.1, HL.out.out.2.2.2.1, HL.out.out.2.2.2.2.1, HL.out.out.2.2.2.2.2⟩⟩⟩
    case round =>
     obtain ⟨i, rfl, hg, HL2⟩ := hrel
     clear HL hne
     have HL := HL2
     clear HL2
     by_cases hlt : i < ml.length
     ·have hx := List.getElem?_eq_getElem hlt
      have hfit := HB1.out.each ml[i] (List.getElem_mem hlt)
      have hrd : rd_T37 ml (i : Int) = ml[i] := by simp [rd_T37, List.getD, hx]
      obtain ⟨ad, e, h0, h1, h2⟩ := at_T37 HL.out.out.2.1 (i : Int) (by omega) (by omega)
      rw [hrd] at h0 h1 h2
      simp only [Int.toNat_natCast] at h0 h1 h2
      clear hrd hx
      have hml := HB1.out.small
      generalize ml[i] = y at h0 h1 h2 hfit
      have HF := am hfit
      clear hfit
      cases e
      have q0 : (0 ≤ (i : Int)) = True := eq_true (by omega)
      have q1 : ((i : Int) < (ml.length : Int)) = True := eq_true (by omega)
      have q2 : decide ((i : Int) < (ml.length : Int)) = true := decide_eq_true (by omega)
      go_wp2_with (first
       | ((with_reducible refine gate_dst (N := 25) rfl ?_); refine uX (N := 25) (cs := #[.int .i64 0, .int .i64 0, .int .i64 0]) (t := 37) ?_; intro g25 hg w18 hh hb; have hz25_0 := blk_cell hh 0; have hz25_1 := blk_cell hh 1; have hz25_2 := blk_cell hh 2; have hz25_3 := blk_frozen hh 0; have hz25_4 := blk_frozen hh 1; have hz25_5 := blk_frozen hh 2; have HG25 := am (Nat.le_of_eq hg.symm); have HB := am hb; have HH25 := am hh; clear hg hb hh)
       | ((with_reducible refine gate_store (t := 37) (p := 25) rfl ?_); refine store_event (t := 37) (p := 25) (v := ?vo_w19) (w1 := (((w18.setCell ⟨g25, 0, none⟩ (.int .i64 y.f0)).setCell ⟨g25, 1, none⟩ (.int .i64 y.f1)).setCell ⟨g25, 2, none⟩ (.int .i64 y.f2))) ?hg ?ho ?hn ?hr ?_; (case ho => rfl); (case hg => rfl); (case hn => rfl); (case hr => first | (go_simp; done) | (go_simp; rfl)); intro w19 ew_; obtain ⟨hb2, hh2⟩ := box3 (x := .int .i64 y.f0) (y := .int .i64 y.f1) (z := .int .i64 y.f2) HG25.out HH25.out HB.out; rw [← ew_] at hb2 hh2; have HL_ := am ((HL.out.below hb2).box hh2); clear HL; have HL := HL_; clear HL_; clear hb2 hh2 HB HH25 HG25 ew_ hz25_0 hz25_1 hz25_2 hz25_3 hz25_4 hz25_5; have hx5_0 := blk_cell HL.out.out.2.2.2.1 0; have hx5_1 := blk_cell HL.out.out.2.2.2.1 1; have hx25_0 := blk_cell HL.out.out.1 0; have hx25_1 := blk_cell HL.out.out.1 1; have hx25_2 := blk_cell HL.out.out.1 2)
       | fail)
      refine (impl_DoesFit.calls s1 s2 y.f0 y.f1 y.f2 ho true true _ HF.out).mono ?_
      rintro e w20 ⟨rfl, hb⟩
      have HL_ := am (HL.out.below hb)
      clear HL
      have HL := HL_
      clear HL_
      clear hb
      clear hx5_0 hx5_1 hx25_0 hx25_1 hx25_2
      clear h0 h1 h2 HF
      go_wp2_with fail
      go_roundg (ml.length - (i + 1))
      case measure => omega
      case rel => exact ⟨i + 1, by go_num, by omega, ⟨⟨HL.out.out.2.1, HL.out.out.2.2.1, HL.out.out.2.2.2.1, HL.out.out.2.2.2.2.1, HL.out.out.2.2.2.2.2.1, HL.out.out.2.2.2.2.2.2⟩⟩⟩
     ·have q2 : decide ((i : Int) < (ml.length : Int)) = false := decide_eq_false (by omega)
      have q1 : ((i : Int) < (ml.length : Int)) = False := eq_false (by omega)
      go_wp2_with fail
      go_meet
      exact ⟨⟨HL.out.out.2.2.2.1, HL.out.out.2.2.2.2.1, HL.out.out.2.2.2.2.2⟩⟩
 rename_i U00 U01 U02
 revert A0 c0 l0 A1 c1 l1 w k s1 s2 ho cl sd m1 m2 ml nl ok q1 q2 ql h1 h2 hl il one solved three r1 r2 rl x1 x2 x3 b1 b2 al bl four s3 s4 sl kk d1 d2 dl vl six t1 t2 e1 e2 e3 ex fits eight u1 u2 f1 f2 f3 isu hu30 hu33 hu37 HC0 HC1 HBIG HA HRB HCC HRD HE HRF HRG U00 w1 w2 g5 w3 w4 w5 Aml cml LEml g9 w6 w7 w8 Anl cnl LEnl g11 w9 w10 w11 HL U01 U02 wc u4 u13 u14 u15 u16 u17 u18 u19 u20 u21 u22 u23 u24 u25 u26 u27 u66 u67 u68 u69 u70 u71 u72 u73 u74 u75 u76 u77 u78 u79 u80 u81 u82 u83 u84 u85 u86 u87 u88 u89 u90 u91 u92 u93 u94 u95 u96 u97 u98 u99 u100 u101 u102 u103 u104 u105 u106 u107 u108 u109 u110 u111 u112 u113 u114 u115 u116 u117 u118 u119 u120 u121 u122 u123 u124 u125 u126 u127 u128 u129 u130 u131 u132 u133 u134 u135 u136 u137 u138 u139 u140 u141 u142 u143 u144 u145 u146 u147 u148 u149 u150 u151 u152 u153 u154 u155 u156 u157 u158 u159 u160 u161 u162 u163 u164 u165 u166 u167 u168 u169 u170 u171 u172 u173 u174 u175 u176 u177 u178 u179 u180 u181 u182 u183 u184 u185 u186 u187 u188 u189 u190 u191 u192 u193 u194 u195 u196 u197 u198 u199 u200 u201 u202 u203 u204 u205 u206 u207 u208 u209 u210 u211 u212 u213 u214 u215 u216 u217 u218 u219 u220 u221 u222 u223 u224 u225 u226 u227 u228 u229 u230 u231 u232 u233 u234 u235 u236 u237 u238 u239 u240 u241 u242 u243 u244 u245 u246 u247 u248 u249 u250 u251 u252 u253 u254 u255 u256 u257 u258 u259 u260 u261 u262 u263 u264 u265 u266 u267 u268 u269 u270 u271 u272 u273 u274 u275 u276 u277 u278 u279 u280 u281 u282 u283 u284 u285 u286 u287 u288 u289 u290 u291 u292 u293 u294 u295 u296 u297 u298 u299 u300 u301 u302 u303 u304 u305 u306 u307 u308 u309 u310 u311 u312 u313 u314 u315 u316 u317 u318 u319 u320 u321 u322 u323 u324 u325 u326 u327 u328 u329 u330 u331 u332 u333 u334 u335 u336 u337 u338 u339 u340 u341 u342 u343 u344 u345 u346 u347 u348 u349 u350 u351 u352 u353 u354 u355 u356 u357 u358 u359 u360 u361 u362 u363 u364 u365 u366 u367 u368 u369 u370 u371 u372 u373 u374 u375 u376 u377 u378 u379 u380 u381 u382 u383 u384 u385 u386 u387 u388 u389 u390 u391 u392 u393 u394 u395 u396 u397 u398 u399 u400 u401 u402 u403 u404 u405 u406 u407 u408 u409 u410 u411 u412 u413 u414 u415 u416 u417 u418 u419 u420 u421 u422 u423 u424 u425 u426 u427 u428 u429 u430 u431 u432 u433 u434 u435 u436 u437 u438 u439 u440 u441 u442 u443 hcut
 exact q_.out⟩
end Go.Proofs.Ytcloklakffgbmaa.G
end
section
namespace Go.Proofs.Ytcloklakffgbmaa.G
open Go.RowKit Go.Proofs.YtcloklakffgbmaaW.PrintWords Go.Proofs.YtcloklakffgbmaaW.PrintLast Go.Proofs.YtcloklakffgbmaaW.PrintMore
attribute [local go_sem] max2_int min2_int max_two min_two max_three min_three max_four min_four
attribute [local go_sem high] eqA37
set_option linter.unusedVariables false
set_option linter.unusedSimpArgs false
def hidden_2 : {Q : Prop // Aside0 Q → hidden_1.1} := ⟨_, fun q_ => by
 intro A0 c0 l0 A1 c1 l1 w k s1 s2 ho cl sd m1 m2 ml nl ok q1 q2 ql h1 h2 hl il one solved three r1 r2 rl x1 x2 x3 b1 b2 al bl four s3 s4 sl kk d1 d2 dl vl six t1 t2 e1 e2 e3 ex fits eight u1 u2 f1 f2 f3 isu hu30 hu33 hu37 HC0 HC1 HBIG HA HRB HCC HRD HE HRF HRG U00 w1 w2 g5 w3 w4 w5 Aml cml LEml g9 w6 w7 w8 Anl cnl LEnl g11 w9 w10 w11 HL U01 U02 wc u4 u13 u14 u15 u16 u17 u18 u19 u20 u21 u22 u23 u24 u25 u26 u27 u66 u67 u68 u69 u70 u71 u72 u73 u74 u75 u76 u77 u78 u79 u80 u81 u82 u83 u84 u85 u86 u87 u88 u89 u90 u91 u92 u93 u94 u95 u96 u97 u98 u99 u100 u101 u102 u103 u104 u105 u106 u107 u108 u109 u110 u111 u112 u113 u114 u115 u116 u117 u118 u119 u120 u121 u122 u123 u124 u125 u126 u127 u128 u129 u130 u131 u132 u133 u134 u135 u136 u137 u138 u139 u140 u141 u142 u143 u144 u145 u146 u147 u148 u149 u150 u151 u152 u153 u154 u155 u156 u157 u158 u159 u160 u161 u162 u163 u164 u165 u166 u167 u168 u169 u170 u171 u172 u173 u174 u175 u176 u177 u178 u179 u180 u181 u182 u183 u184 u185 u186 u187 u188 u189 u190 u191 u192 u193 u194 u195 u196 u197 u198 u199 u200 u201 u202 u203 u204 u205 u206 u207 u208 u209 u210 u211 u212 u213 u214 u215 u216 u217 u218 u219 u220 u221 u222 u223 u224 u225 u226 u227 u228 u229 u230 u231 u232 u233 u234 u235 u236 u237 u238 u239 u240 u241 u242 u243 u244 u245 u246 u247 u248 u249 u250 u251 u252 u253 u254 u255 u256 u257 u258 u259 u260 u261 u262 u263 u264 u265 u266 u267 u268 u269 u270 u271 u272 u273 u274 u275 u276 u277 u278 u279 u280 u281 u282 u283 u284 u285 u286 u287 u288 u289 u290 u291 u292 u293 u294 u295 u296 u297 u298 u299 u300 u301 u302 u303 u304 u305 u306 u307 u308 u309 u310 u311 u312 u313 u314 u315 u316 u317 u318 u319 u320 u321 u322 u323 u324 u325 u326 u327 u328 u329 u330 u331 u332 u333 u334 u335 u336 u337 u338 u339 u340 u341 u342 u343 u344 u345 u346 u347 u348 u349 u350 u351 u352 u353 u354 u355 u356 u357 u358 u359 u360 u361 u362 u363 u364 u365 u366 u367 u368 u369 u370 u371 u372 u373 u374 u375 u376 u377 u378 u379 u380 u381 u382 u383 u384 u385 u386 u387 u388 u389 u390 u391 u392 u393 u394 u395 u396 u397 u398 u399 u400 u401 u402 u403 u404 u405 u406 u407 u408 u409 u410 u411 u412 u413 u414 u415 u416 u417 u418 u419 u420 u421 u422 u423 u424 u425 u426 u427 u428 u429 u430 u431 u432 u433 u434 u435 u436 u437 u438 u439 u440 u441 u442 u443 hcut
 clear HL
 have HL := hcut
 clear hcut
 go_wp2_with fail
 refine (spec_DrawHarderPuzzle.calls k A1 c1 l1 q1 q2 ql _ HL.out.out.1 HC1.out HCC.out.draw).mono ?_
 rintro e w21 ⟨v, rfl, ho, hb⟩
 obtain ⟨Aql, cql, rfl⟩ := Kd.R_slice ho
 have LEql := am (Kd.R_reads' ho).2.1
 have HL_ := am ((HL.out.below hb).row (Kd.R_reads' ho).2.2)
 clear HL
 have HL := HL_
 clear HL_
 clear ho hb
 go_wp2_with (first
  | ((with_reducible refine gate_dst (N := 28) rfl ?_); refine uX (N := 28) (cs := #[.int .i64 0, .int .i64 0, .slice none 0 0]) (t := 33) ?_; intro g28 hg w22 hh hb; have hz28_0 := blk_cell hh 0; have hz28_1 := blk_cell hh 1; have hz28_2 := blk_cell hh 2; have hz28_3 := blk_frozen hh 0; have hz28_4 := blk_frozen hh 1; have hz28_5 := blk_frozen hh 2; have HG28 := am (Nat.le_of_eq hg.symm); have HB := am hb; have HH28 := am hh; clear hg hb hh)
  | ((with_reducible refine gate_store (t := 33) (p := 28) rfl ?_); refine store_event (t := 33) (p := 28) (v := ?vo_w23) (w1 := (((w22.setCell ⟨g28, 0, none⟩ (.int .i64 q1)).setCell ⟨g28, 1, none⟩ (.int .i64 q2)).setCell ⟨g28, 2, none⟩ (.slice Aql ql.length cql))) ?hg ?ho ?hn ?hr ?_; (case ho => rfl); (case hg => rfl); (case hn => rfl); (case hr => first | (go_simp; done) | (go_simp; rfl)); intro w23 ew_; obtain ⟨hb2, hh2⟩ := box3 (x := .int .i64 q1) (y := .int .i64 q2) (z := .slice Aql ql.length cql) HG28.out HH28.out HB.out; rw [← ew_] at hb2 hh2; have HL_ := am ((HL.out.below hb2).box hh2); clear HL; have HL := HL_; clear HL_; clear hb2 hh2 HB HH28 HG28 ew_ hz28_0 hz28_1 hz28_2 hz28_3 hz28_4 hz28_5; have hx28_0 := blk_cell HL.out.out.1 0; have hx28_1 := blk_cell HL.out.out.1 1; have hx28_2 := blk_cell HL.out.out.1 2)
  | fail)
 refine (impl_HarderPuzzle.calls k q1 q2 _ _ ql h1 h2 hl one _ HL.out.out.2.1 LEql.out HCC.out.impl).mono ?_
 rintro e w24 ⟨v, rfl, ho, hb⟩
 obtain ⟨Ahl, chl, rfl⟩ := Kd.R_slice ho
 have LEhl := am (Kd.R_reads' ho).2.1
 have HL_ := am ((HL.out.below hb).row (Kd.R_reads' ho).2.2)
 clear HL
 have HL := HL_
 clear HL_
 clear ho hb
 clear hx28_0 hx28_1 hx28_2
 go_wp2_with (first
  | ((with_reducible refine gate_dst (N := 29) rfl ?_); refine uX (N := 29) (cs := #[.int .i64 0, .int .i64 0, .slice none 0 0]) (t := 33) ?_; intro g29 hg w25 hh hb; have hz29_0 := blk_cell hh 0; have hz29_1 := blk_cell hh 1; have hz29_2 := blk_cell hh 2; have hz29_3 := blk_frozen hh 0; have hz29_4 := blk_frozen hh 1; have hz29_5 := blk_frozen hh 2; have HG29 := am (Nat.le_of_eq hg.symm); have HB := am hb; have HH29 := am hh; clear hg hb hh)
  | ((with_reducible refine gate_store (t := 33) (p := 29) rfl ?_); refine store_event (t := 33) (p := 29) (v := ?vo_w26) (w1 := (((w25.setCell ⟨g29, 0, none⟩ (.int .i64 h1)).setCell ⟨g29, 1, none⟩ (.int .i64 h2)).setCell ⟨g29, 2, none⟩ (.slice Ahl hl.length chl))) ?hg ?ho ?hn ?hr ?_; (case ho => rfl); (case hg => rfl); (case hn => rfl); (case hr => first | (go_simp; done) | (go_simp; rfl)); intro w26 ew_; obtain ⟨hb2, hh2⟩ := box3 (x := .int .i64 h1) (y := .int .i64 h2) (z := .slice Ahl hl.length chl) HG29.out HH29.out HB.out; rw [← ew_] at hb2 hh2; have HL_ := am ((HL.out.below hb2).box hh2); clear HL; have HL := HL_; clear HL_; clear hb2 hh2 HB HH29 HG29 ew_ hz29_0 hz29_1 hz29_2 hz29_3 hz29_4 hz29_5; have hx28_0 := blk_cell HL.out.out.2.2.1 0; have hx28_1 := blk_cell HL.out.out.2.2.1 1; have hx28_2 := blk_cell HL.out.out.2.2.1 2)
  | fail)
 refine (spec_HarderPuzzle.calls k q1 q2 _ _ ql h1 h2 il one _ HL.out.out.2.2.2.1 LEql.out HCC.out.spec).mono ?_
 rintro e w27 ⟨v, rfl, ho, hb⟩
 obtain ⟨Ail, cil, rfl⟩ := Kd.R_slice ho
 have LEil := am (Kd.R_reads' ho).2.1
 have HL_ := am ((HL.out.below hb).row (Kd.R_reads' ho).2.2)
 clear HL
 have HL := HL_
 clear HL_
 clear ho hb
 clear hx28_0 hx28_1 hx28_2
 go_wp2_with (first
  | ((with_reducible refine gate_dst (N := 31) rfl ?_); refine uX (N := 31) (cs := #[.int .i64 0, .int .i64 0, .slice none 0 0]) (t := 33) ?_; intro g31 hg w28 hh hb; have hz31_0 := blk_cell hh 0; have hz31_1 := blk_cell hh 1; have hz31_2 := blk_cell hh 2; have hz31_3 := blk_frozen hh 0; have hz31_4 := blk_frozen hh 1; have hz31_5 := blk_frozen hh 2; have HG31 := am (Nat.le_of_eq hg.symm); have HB := am hb; have HH31 := am hh; clear hg hb hh)
  | ((with_reducible refine gate_store (t := 33) (p := 31) rfl ?_); refine store_event (t := 33) (p := 31) (v := ?vo_w29) (w1 := (((w28.setCell ⟨g31, 0, none⟩ (.int .i64 h1)).setCell ⟨g31, 1, none⟩ (.int .i64 h2)).setCell ⟨g31, 2, none⟩ (.slice Ail il.length cil))) ?hg ?ho ?hn ?hr ?_; (case ho => rfl); (case hg => rfl); (case hn => rfl); (case hr => first | (go_simp; done) | (go_simp; rfl)); intro w29 ew_; obtain ⟨hb2, hh2⟩ := box3 (x := .int .i64 h1) (y := .int .i64 h2) (z := .slice Ail il.length cil) HG31.out HH31.out HB.out; rw [← ew_] at hb2 hh2; have HL_ := am ((HL.out.below hb2).box hh2); clear HL; have HL := HL_; clear HL_; clear hb2 hh2 HB HH31 HG31 ew_ hz31_0 hz31_1 hz31_2 hz31_3 hz31_4 hz31_5; have hx28_0 := blk_cell HL.out.out.2.2.2.2.1 0; have hx28_1 := blk_cell HL.out.out.2.2.2.2.1 1; have hx28_2 := blk_cell HL.out.out.2.2.2.2.1 2)
  | fail)
 refine (impl_IsSolved.calls q1 q2 _ _ ql solved three _ HL.out.out.2.2.2.2.2.1 LEql.out HCC.out.slv).mono ?_
 rintro e w30 ⟨rfl, hb⟩
 have HL_ := am (HL.out.below hb)
 clear HL
 have HL := HL_
 clear HL_
 clear hb
 clear hx28_0 hx28_1 hx28_2
 go_upto_region 29 with fail
 go_cut [30, 32, 34, 237] from 221 to 237 (fun s30 s32 s34 s237 wx => s30 = .bool one ∧ s32 = .bool one ∧ s34 = .bool three ∧ s237 = .bool false ∧ Aside0 (Held (fun W => W.heap[g29]? = some (.cells #[.int .i64 h1, .int .i64 h2, .slice Ahl hl.length chl] 33 (0, 0)) ∧ Kd.C k37 W Ahl hl.length hl ∧ W.heap[g28]? = some (.cells #[.int .i64 q1, .int .i64 q2, .slice Aql ql.length cql] 33 (0, 0)) ∧ Kd.C k37 W Aql ql.length ql ∧ Kd.C (Kd.int .u8) W A1 l1.length l1 ∧ Kd.C (Kd.int .u8) W A0 l0.length l0 ∧ Below w.heap.size w W) wx))
 case first =>
  have hx29_0 := blk_cell HL.out.out.2.2.1 0
  have hx29_1 := blk_cell HL.out.out.2.2.1 1
  have hx29_2 := blk_cell HL.out.out.2.2.1 2
  have hx31_0 := blk_cell HL.out.out.1 0
  have hx31_1 := blk_cell HL.out.out.1 1
  have hx31_2 := blk_cell HL.out.out.1 2
  go_wp2_with fail
  refine (laws_aPuzzle.calls k h1 h2 _ _ hl h1 h2 _ _ il true _ HL.out.out.2.2.2.1 LEhl.out HL.out.out.2.1 LEil.out HCC.out.eq).mono ?_
  rintro e w31 ⟨rfl, hb⟩
  have HL_ := am (HL.out.below hb)
  clear HL
  have HL := HL_
  clear HL_
  clear hb
  clear hx29_0 hx29_1 hx29_2 hx31_0 hx31_1 hx31_2
  have hone := HCC.out.one
  cases three
  ·simp only [Bool.false_and] at hone
   subst hone
   go_wp2_with fail
   go_meet
   exact ⟨rfl, rfl, rfl, rfl, ⟨⟨HL.out.out.2.2.1, HL.out.out.2.2.2.1, HL.out.out.2.2.2.2.1, HL.out.out.2.2.2.2.2.1, HL.out.out.2.2.2.2.2.2.1, HL.out.out.2.2.2.2.2.2.2.1, HL.out.out.2.2.2.2.2.2.2.2⟩⟩⟩
  ·simp only [Bool.true_and] at hone
   subst hone
   go_wp2_with fail
   go_meet
   exact ⟨rfl, rfl, rfl, rfl, ⟨⟨HL.out.out.2.2.1, HL.out.out.2.2.2.1, HL.out.out.2.2.2.2.1, HL.out.out.2.2.2.2.2.1, HL.out.out.2.2.2.2.2.2.1, HL.out.out.2.2.2.2.2.2.2.1, HL.out.out.2.2.2.2.2.2.2.2⟩⟩⟩
 obtain ⟨rfl, rfl, rfl, rfl, HL2⟩ := hcut
 clear HL
 have HL := HL2
 clear HL2
 go_upto_if 238 with fail
 go_cut [35, 36, 37, 38, 39, 40] (fun s35 s36 s37 s38 s39 s40 wx => Aside0 (Held (fun W => Kd.C (Kd.int .u8) W A1 l1.length l1 ∧ Kd.C (Kd.int .u8) W A0 l0.length l0 ∧ Below w.heap.size w W) wx))
 case first =>
  cases one
  ·go_wp2_with fail
   go_meet
   exact ⟨⟨HL.out.out.2.2.2.2.1, HL.out.out.2.2.2.2.2.1, HL.out.out.2.2.2.2.2.2⟩⟩
  ·
   obtain ⟨xs, ys, nd, rd⟩ := HRD.out rfl
   have HD1 := am rd
   clear rd
   have hx28_0 := blk_cell HL.out.out.2.2.1 0
   have hx28_1 := blk_cell HL.out.out.2.2.1 1
   have hx28_2 := blk_cell HL.out.out.2.2.1 2
   go_wp2_with fail
   refine (impl_Solutions.calls q1 q2 _ _ ql xs true _ HL.out.out.2.2.2.1 LEql.out HD1.out.sol).mono ?_
   rintro e w32 ⟨v, rfl, ho, hb⟩
   obtain ⟨Axs, cxs, rfl⟩ := Kd.R_slice ho
   have LExs := am (Kd.R_reads' ho).2.1
   have HL_ := am ((HL.out.below hb).row (Kd.R_reads' ho).2.2)
   clear HL
   have HL := HL_
   clear HL_
   clear ho hb
   clear hx28_0 hx28_1 hx28_2
   have hx29_0 := blk_cell HL.out.out.2.1 0
   have hx29_1 := blk_cell HL.out.out.2.1 1
   have hx29_2 := blk_cell HL.out.out.2.1 2
   go_wp2_with fail
   refine (impl_Solutions.calls h1 h2 _ _ hl ys true _ HL.out.out.2.2.1 LEhl.out HD1.out.solh).mono ?_
   rintro e w33 ⟨v, rfl, ho, hb⟩
   obtain ⟨Ays, cys, rfl⟩ := Kd.R_slice ho
   have LEys := am (Kd.R_reads' ho).2.1
   have HL_ := am ((HL.out.below hb).row (Kd.R_reads' ho).2.2)
   clear HL
   have HL := HL_
   clear HL_
   clear ho hb
   clear hx29_0 hx29_1 hx29_2
   have hx29_0 := blk_cell HL.out.out.2.2.1 0
   have hx29_1 := blk_cell HL.out.out.2.2.1 1
   have hx29_2 := blk_cell HL.out.out.2.2.1 2
   go_wp2_with fail
   refine (impl_NeedlessClues.calls k h1 h2 _ _ hl nd true _ HL.out.out.2.2.2.1 LEhl.out HD1.out.need).mono ?_
   rintro e w34 ⟨v, rfl, ho, hb⟩
   obtain ⟨And, cnd, rfl⟩ := Kd.R_slice ho
   have LEnd := am (Kd.R_reads' ho).2.1
   have HL_ := am ((HL.out.below hb).row (Kd.R_reads' ho).2.2)
   clear HL
   have HL := HL_
   clear HL_
   clear ho hb
   clear hx29_0 hx29_1 hx29_2
   go_wp2_with fail
   refine (laws_aSame.calls k _ _ xs _ _ ys true _ HL.out.out.2.2.1 LExs.out HL.out.out.2.1 LEys.out HD1.out.same).mono ?_
   rintro e w35 ⟨rfl, hd⟩
   have HL_ := am (HL.out.below hd.below)
   clear HL
   have HL := HL_
   clear HL_
   clear hd
   have hnd : (nd.length : Int) = 0 := by rw [HD1.out.none]; rfl
   have hle : decide ((ql.length : Int) < (hl.length : Int)) = false := decide_eq_false (by have := HD1.out.le; omega)
   have hle2 : ((ql.length : Int) < (hl.length : Int)) = False := eq_false (by have := HD1.out.le; omega)
   have hle3 : decide ((hl.length : Int) > (ql.length : Int)) = false := hle
   have hx28_0 := blk_cell HL.out.out.2.2.2.2.2.1 0
   have hx28_1 := blk_cell HL.out.out.2.2.2.2.2.1 1
   have hx28_2 := blk_cell HL.out.out.2.2.2.2.2.1 2
   have hx29_0 := blk_cell HL.out.out.2.2.2.1 0
   have hx29_1 := blk_cell HL.out.out.2.2.2.1 1
   have hx29_2 := blk_cell HL.out.out.2.2.2.1 2
   go_wp2_with fail
   go_meet
   exact ⟨⟨HL.out.out.2.2.2.2.2.2.2.1, HL.out.out.2.2.2.2.2.2.2.2.1, HL.out.out.2.2.2.2.2.2.2.2.2⟩⟩
 rename_i U6M U6N U6O U6P U6Q U6R U6S U6T U6U U6V U6W U6X U6Y U6Z U70 U71 U72 U73 U74 U75 U76 U77 U78 U79 U7a U7b U7c U7d U7e U7f U7g U7h U7i U7j U7k U7l U7m U7n U7o U7p U7q U7r U7s U7t U7u U7v U7w U7x U7y U7z U7A U7B U7C U7D U7E U7F U7G U7H U7I U7J U7K U7L U7M U7N U7O U7P U7Q U7R U7S U7T U7U U7V U7W U7X U7Y U7Z U80 U81 U82 U83 U84 U85 U86 U87 U88 U89 U8a U8b U8c U8d U8e U8f U8g U8h U8i U8j U8k U8l U8m U8n U8o U8p U8q U8r U8s U8t U8u U8v U8w U8x U8y U8z U8A U8B U8C U8D U8E U8F U8G U8H U8I U8J U8K U8L U8M U8N U8O U8P U8Q U8R U8S U8T U8U U8V U8W U8X U8Y U8Z U90 U91 U92 U93 U94 U95 U96 U97 U98 U99 U9a U9b U9c U9d U9e U9f U9g U9h U9i U9j U9k U9l U9m U9n U9o U9p U9q U9r U9s U9t U9u U9v U9w U9x U9y U9z U9A U9B U9C U9D U9E U9F U9G U9H U9I U9J U9K U9L U9M U9N U9O U9P U9Q U9R U9S U9T U9U U9V U9W U9X U9Y U9Z Ua0 Ua1 Ua2 Ua3 Ua4 Ua5 Ua6 Ua7 Ua8 Ua9 Uaa Uab Uac Uad Uae Uaf Uag Uah Uai Uaj Uak Ual Uam Uan Uao Uap Uaq Uar Uas Uat Uau Uav Uaw Uax Uay Uaz UaA UaB UaC UaD UaE UaF UaG UaH UaI UaJ UaK UaL UaM UaN UaO UaP UaQ UaR UaS UaT UaU UaV UaW UaX UaY UaZ Ub0 Ub1 Ub2 Ub3 Ub4 Ub5 Ub6 Ub7 Ub8 Ub9 Uba Ubb Ubc Ubd Ube Ubf Ubg Ubh Ubi Ubj Ubk Ubl Ubm Ubn Ubo Ubp Ubq Ubr Ubs Ubt Ubu Ubv Ubw Ubx Uby Ubz UbA UbB UbC UbD UbE UbF UbG UbH UbI UbJ UbK UbL UbM UbN UbO UbP UbQ UbR UbS UbT UbU UbV UbW UbX UbY UbZ Uc0 Uc1 Uc2 Uc3 Uc4 Uc5 Uc6 Uc7 Uc8 Uc9 Uca Ucb Ucc Ucd Uce Ucf Ucg Uch Uci Ucj Uck Ucl Ucm Ucn Uco Ucp Ucq Ucr Ucs Uct Ucu Ucv Ucw Ucx Ucy Ucz UcA UcB UcC UcD UcE UcF UcG UcH UcI UcJ UcK UcL UcM UcN UcO UcP UcQ UcR UcS UcT UcU UcV UcW UcX UcY UcZ Ud0 Ud1 Ud2 Ud3 Ud4 Ud5 Ud6 Ud7 Ud8 Ud9
 revert A0 c0 l0 A1 c1 l1 w k s1 s2 ho cl sd m1 m2 ml nl ok q1 q2 ql h1 h2 hl il one solved three r1 r2 rl x1 x2 x3 b1 b2 al bl four s3 s4 sl kk d1 d2 dl vl six t1 t2 e1 e2 e3 ex fits eight u1 u2 f1 f2 f3 isu hu30 hu33 hu37 HC0 HC1 HBIG HA HRB HCC HRD HE HRF HRG U00 w1 w2 g5 w3 w4 w5 Aml cml LEml g9 w6 w7 w8 Anl cnl LEnl g11 w9 w10 w11 U6M U6N u13 u14 u15 u16 u17 u18 u19 u20 u21 u22 u23 u24 u25 u26 u27 U6O U6P U6Q U6R U6S U6T U6U U6V U6W U6X U6Y U6Z U70 U71 U72 U73 U74 U75 U76 U77 U78 U79 U7a U7b U7c U7d U7e U7f U7g U7h U7i U7j U7k U7l U7m U7n U7o U7p U7q U7r U7s U7t U7u U7v U7w U7x U7y U7z U7A U7B U7C U7D U7E U7F U7G U7H U7I U7J U7K U7L U7M U7N U7O U7P U7Q U7R U7S U7T U7U U7V U7W U7X U7Y U7Z U80 U81 U82 U83 U84 U85 U86 U87 U88 U89 U8a U8b U8c U8d U8e U8f U8g U8h U8i U8j U8k U8l U8m U8n U8o U8p U8q U8r U8s U8t U8u U8v U8w U8x U8y U8z U8A U8B U8C U8D U8E U8F U8G U8H u184 u185 u186 U8I U8J U8K U8L U8M U8N U8O U8P U8Q U8R U8S U8T U8U U8V U8W U8X U8Y U8Z U90 U91 U92 U93 U94 U95 U96 U97 U98 U99 U9a U9b U9c U9d U9e U9f U9g U9h U9i U9j U9k U9l U9m U9n U9o U9p U9q U9r U9s U9t U9u U9v U9w U9x U9y U9z U9A U9B U9C U9D U9E U9F U9G U9H U9I U9J U9K U9L U9M U9N U9O U9P U9Q U9R U9S U9T U9U U9V U9W U9X U9Y U9Z Ua0 Ua1 Ua2 Ua3 Ua4 Ua5 Ua6 Ua7 Ua8 Ua9 Uaa Uab Uac Uad Uae Uaf Uag Uah Uai Uaj Uak Ual Uam Uan Uao Uap Uaq Uar Uas Uat Uau Uav Uaw Uax Uay Uaz UaA UaB UaC UaD UaE UaF UaG UaH UaI UaJ UaK UaL UaM UaN UaO UaP UaQ UaR UaS UaT UaU UaV UaW UaX UaY UaZ Ub0 Ub1 Ub2 Ub3 Ub4 Ub5 Ub6 Ub7 Ub8 Ub9 Uba Ubb Ubc Ubd Ube Ubf Ubg Ubh Ubi Ubj Ubk Ubl Ubm Ubn Ubo Ubp Ubq Ubr Ubs Ubt Ubu Ubv Ubw Ubx Uby Ubz UbA UbB UbC UbD UbE UbF UbG UbH UbI UbJ UbK UbL UbM UbN UbO UbP UbQ UbR UbS UbT UbU UbV UbW UbX UbY UbZ Uc0 Uc1 Uc2 Uc3 Uc4 Uc5 Uc6 Uc7 Uc8 Uc9 Uca Ucb Ucc Ucd Uce Ucf Ucg Uch Uci Ucj Uck Ucl Ucm Ucn Uco Ucp Ucq Ucr Ucs Uct Ucu Ucv Ucw Ucx Ucy Ucz UcA UcB UcC UcD UcE UcF UcG UcH UcI UcJ UcK UcL UcM UcN UcO UcP UcQ w21 Aql cql LEql g28 w22 w23 w24 Ahl chl LEhl g29 w25 w26 w27 Ail cil LEil g31 w28 w29 w30 UcR UcS UcT UcU UcV UcW UcX UcY UcZ Ud0 Ud1 Ud2 Ud3 Ud4 Ud5 Ud6 Ud7 HL Ud8 Ud9 wc u4 u35 u36 u37 u38 u39 u40 u66 u67 u68 u69 u70 u71 u72 u73 u74 u75 u76 u77 u78 u79 u80 u81 u82 u83 u84 u85 u86 u87 u88 u89 u90 u91 u92 u93 u94 u95 u96 u97 u98 u99 u100 u101 u102 u103 u104 u105 u106 u107 u108 u109 u110 u111 u112 u113 u114 u115 u116 u117 u118 u119 u120 u121 u122 u123 u124 u125 u126 u127 u128 u129 u130 u131 u132 u133 u134 u135 u136 u137 u138 u139 u140 u141 u142 u143 u144 u145 u146 u147 u148 u149 u150 u151 u152 u153 u154 u155 u156 u157 u158 u159 u160 u161 u162 u163 u164 u165 u166 u167 u168 u169 u170 u171 u172 u173 u174 u175 u176 u177 u178 u179 u180 u181 u182 u183 u187 u188 u189 u190 u191 u192 u193 u194 u195 u196 u197 u198 u199 u200 u201 u202 u203 u204 u205 u206 u207 u208 u209 u210 u211 u212 u213 u214 u215 u216 u217 u218 u219 u220 u221 u222 u223 u224 u225 u226 u227 u228 u229 u230 u231 u232 u233 u234 u235 u236 u237 u238 u239 u240 u241 u242 u243 u244 u245 u246 u247 u248 u249 u250 u251 u252 u253 u254 u255 u256 u257 u258 u259 u260 u261 u262 u263 u264 u265 u266 u267 u268 u269 u270 u271 u272 u273 u274 u275 u276 u277 u278 u279 u280 u281 u282 u283 u284 u285 u286 u287 u288 u289 u290 u291 u292 u293 u294 u295 u296 u297 u298 u299 u300 u301 u302 u303 u304 u305 u306 u307 u308 u309 u310 u311 u312 u313 u314 u315 u316 u317 u318 u319 u320 u321 u322 u323 u324 u325 u326 u327 u328 u329 u330 u331 u332 u333 u334 u335 u336 u337 u338 u339 u340 u341 u342 u343 u344 u345 u346 u347 u348 u349 u350 u351 u352 u353 u354 u355 u356 u357 u358 u359 u360 u361 u362 u363 u364 u365 u366 u367 u368 u369 u370 u371 u372 u373 u374 u375 u376 u377 u378 u379 u380 u381 u382 u383 u384 u385 u386 u387 u388 u389 u390 u391 u392 u393 u394 u395 u396 u397 u398 u399 u400 u401 u402 u403 u404 u405 u406 u407 u408 u409 u410 u411 u412 u413 u414 u415 u416 u417 u418 u419 u420 u421 u422 u423 u424 u425 u426 u427 u428 u429 u430 u431 u432 u433 u434 u435 u436 u437 u438 u439 u440 u441 u442 u443 hcut
 exact q_.out⟩
end Go.Proofs.Ytcloklakffgbmaa.G
end

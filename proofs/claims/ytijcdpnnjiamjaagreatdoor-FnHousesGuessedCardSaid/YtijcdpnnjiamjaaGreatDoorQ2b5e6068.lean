/- Texts of this seat's proofs: contracts of its functions and plain laws about them, with no condition beyond those that each theorem states. -/
import Derived.Test.YtijcdpnnjiamjaaGreatDoorQ15781164
import Derived.Test.YtijcdpnnjiamjaaGreatDoorQde898898
import Derived.Test.YtijcdpnnjiamjaaGreatDoorQ8a48917d
import Derived.Test.YtijcdpnnjiamjaaGreatDoorQd3e38972
set_option maxHeartbeats 8000000
set_option maxRecDepth 100000
section
namespace Go.Proofs.YtijcdpnnjiamjaaGreatDoor.G
open Go.RowKit Go.Proofs.YtijcdpnnjiamjaaGreatDoorW.PrintWords Go.Proofs.YtijcdpnnjiamjaaGreatDoorW.PrintLast Go.Proofs.YtijcdpnnjiamjaaGreatDoorW.PrintMore
attribute [local go_sem] max2_int min2_int max_two min_two max_three min_three max_four min_four
set_option linter.unusedVariables false
set_option linter.unusedSimpArgs false
mutual
def impl_ParsePuzzle.j1 : Nat → ByteArray → Int → Int → List (S46) → Option (Int × Int × (List (S46)) × Bool)
 | 0, _, _, _, _ => none
 | k + 1, x0, x110000, x110001, x110002 => (impl_IsPuzzle.f x110000 x110001 x110002).bind fun t124 => (if t124 = true then ((impl_puzzleText.f k x110000 x110001 x110002).bind fun t125 => (if t125.toList = x0.toList then (some (x110000, x110001, x110002, true)) else (some (0, 0, ([] : List (S46)), false)))) else (some (0, 0, ([] : List (S46)), false)))
def impl_ParsePuzzle.l0 : Nat → ByteArray → ByteArray → List ByteArray → Int → Int → Int → Int → List (S46) → Option (Int × Int × (List (S46)) × Bool)
 | 0, _, _, _, _, _, _, _, _ => none
 | k + 1, x0, x5, x31, x32, x33, x110000, x110001, x110002 => if x33 < x32 then (if 0 ≤ x33 then (if x33 < (x31.length : Int) then (if x5.toList = ([] : List UInt8) then (impl_ParsePuzzle.j1 k x0 x110000 x110001 x110002) else ((impl_readNumbers.f k (rdOf ByteArray.empty x31 x33) (⟨#[46]⟩ : ByteArray)).bind fun bt114 => (if bt114.2 = true then (if (bt114.1.length : Int) = 3 then (if 0 < (bt114.1.length : Int) then (if 1 < (bt114.1.length : Int) then (if 2 < (bt114.1.length : Int) then (if x110002.length < 5864062014805 then (impl_ParsePuzzle.l0 k x0 x5 x31 x32 (wrap64 (x33 + 1)) x110000 x110001 (x110002 ++ [(⟨rd bt114.1 0, rd bt114.1 1, rd bt114.1 2⟩ : S46)])) else (none)) else (none)) else (none)) else (none)) else (some (0, 0, ([] : List (S46)), false))) else (some (0, 0, ([] : List (S46)), false))))) else (none)) else (none)) else (impl_ParsePuzzle.j1 k x0 x110000 x110001 x110002)
end
def impl_ParsePuzzle.f (k : Nat) (a0 : ByteArray) : Option (Int × Int × (List (S46)) × Bool) := (strings_Cut.f a0 (⟨#[59]⟩ : ByteArray)).bind fun bt102 => ((impl_ParseStreet.f bt102.1).bind fun bt105 => (if bt105.2.2 = true then ((strings_Split.f bt102.2.1 (⟨#[44]⟩ : ByteArray)).bind fun t110 => (impl_ParsePuzzle.l0 k a0 bt102.2.1 t110 (t110.length : Int) 0 bt105.1 bt105.2.1 ([] : List (S46)))) else (some (0, 0, ([] : List (S46)), false))))
def impl_ParsePuzzle.T13 : Bool × List (List Nat × List Nat) := (true, [([], []), ([0], [0]), ([], []), ([2], [2]), ([3], [3]), ([], []), ([5], [5]), ([6], [6]), ([], []), ([8], [8]), ([9], [9]), ([4, 7, 10], [4, 7, 10]), ([11], [11]), ([1, 12], [1, 12]), ([0, 1, 2, 3, 4, 5, 6, 7, 8, 9, 10, 11, 12, 13], []), ([14, 13, 13, 0, 1, 2, 3, 4, 5, 6, 7, 8, 9, 10, 11, 12, 13], [13, 14])])
def impl_ParsePuzzle.B13 : List Nat := [0, 1, 0, 4, 12, 0, 32, 96, 0, 256, 768, 2044, 4092, 8191, 16383, 32767]
theorem impl_ParsePuzzle.tab13 : rtab .any (opsOf Tryz.f32 13) = impl_ParsePuzzle.T13 := by kernel_rfl
theorem impl_ParsePuzzle.bits13 : waitsOk impl_ParsePuzzle.T13.2 impl_ParsePuzzle.B13 = true := by kernel_rfl
theorem impl_ParsePuzzle.calls (k : Nat) (a0 : ByteArray) (r1 : Int) (r2 : Int) (r3 : List (S46)) (r4 : Bool) (w : World) (hT : Tb w) (h : impl_ParsePuzzle.f k a0 = some (r1, r2, r3, r4)) :
  Calls Tryz.prog 32 #[.string a0] w fun e w' => ∃ v2_ : Value, e = .returned (.tuple #[.agg #[.int .i64 r1, .int .i64 r2, v2_], .bool r4]) ∧ Kd.R k46 46 w' w.heap.size (fun _ => True) v2_ r3 ∧ Below w.heap.size w w' := by
 have hu28 := Tryz.underlying28
 have hu25 := Tryz.underlying25
 have hu46 := Tryz.underlying46
 have HT0 := am hT
 clear hT
 have HB := am (Below.refl w.heap.size w)
 have H := h
 clear h
 unfold impl_ParsePuzzle.f at H
 obtain ⟨⟨t102, t103, t104⟩, A20, H⟩ := bH H
 dsimp only at H
 have A2 := am A20
 clear A20
 obtain ⟨⟨t105, t106, t107⟩, A30, H⟩ := bH H
 dsimp only at H
 have A3 := am A30
 clear A30
 by_cases c4 : t107 = true
 ·subst c4
  rw [if_pos rfl] at H
  obtain ⟨t110, A50, H⟩ := bH H
  have A5 := am A50
  clear A50
  have HC6 := am H
  clear H
  go_enter Tryz.func32, Tryz.ntmps32
  go_upto_block 0 with (first | ((with_reducible refine gate_dst (N := 2) rfl ?_); (try (refine gate_guard (by rfl) ?_; dsimp only)); refine uX (N := 2) (cs := #[.int .i64 0, .int .i64 0, .slice none 0 0]) (t := 28) ?_; intro gb101 hg w7 hbox hb; have BK101 := am (hbox); have GW101 := uE hg; have GE101 := GW101; replace HB := uS hb; clear hb hbox hg) | ((with_reducible refine gate_callee (f := 54) rfl ?_); refine uGo (some 16) Tryz.func54 #[.string a0, .string (⟨#[59]⟩ : ByteArray)] ?_; (with_reducible refine (strings_Cut.calls a0 (⟨#[59]⟩ : ByteArray) t102 t103 t104 _ ?side1 A2.out).mono ?_); (case side1 => exact Tb.below HT0.out uW); rintro e w8 ⟨rfl, hb⟩; refine ⟨_, rfl, ?_⟩; replace BK101 := uB BK101 hb; replace HB := uS hb; (try clear hb)) | ((with_reducible refine gate_callee (f := 55) rfl ?_); refine uGo (some 22) Tryz.func55 #[.string t102] ?_; (with_reducible refine (impl_ParseStreet.calls t102 t105 t106 true _ ?side1 A3.out).mono ?_); (case side1 => exact Tb.below HT0.out uW); rintro e w9 ⟨rfl, hb⟩; refine ⟨_, rfl, ?_⟩; replace BK101 := uB BK101 hb; replace HB := uS hb; (try clear hb)) | ((with_reducible refine gate_dst (N := 7) rfl ?_); (try (refine gate_guard (by rfl) ?_; dsimp only)); refine uX (N := 7) (cs := #[.int .i64 0, .int .i64 0]) (t := 25) ?_; intro gb108 hg w10 hbox hb; have BK108 := am (hbox); have GW108 := uE hg; have GE108 := GW108; have NB101_108 := uL BK101 hg; have NB108_101 := uY NB101_108; replace BK101 := uB BK101 hb; replace HB := uS hb; clear hb hbox hg; have hnb11 := NB108_101.out; have hnc11 := NB101_108.out; obtain ⟨hcz12_0, hcz12_1, hfz12_0, hfz12_1⟩ := uZ2 BK108) | ((with_reducible refine gate_dst (N := 9) rfl ?_); (try (refine gate_guard (by rfl) ?_; dsimp only)); refine uX (N := 9) (cs := #[.int .i64 0, .int .i64 0, .slice none 0 0]) (t := 28) ?_; intro gb109 hg w13 hbox hb; have BK109 := am (hbox); have GW109 := uE hg; have GE109 := GW109; have NB101_109 := am ((by rw [hg]; exact Nat.ne_of_lt (blk_lt (g := gb101) (o := .cells #[.int .i64 0, .int .i64 0, .slice none 0 0] 28 (0, 0)) (by refine blk_far ?_ NB101_108.out _; refine blk_far ?_ NB101_108.out _; exact (uP BK101))) : gb101 ≠ gb109)); have NB109_101 := am ((by rw [hg]; exact Nat.ne_of_gt (blk_lt (g := gb101) (o := .cells #[.int .i64 0, .int .i64 0, .slice none 0 0] 28 (0, 0)) (by refine blk_far ?_ NB101_108.out _; refine blk_far ?_ NB101_108.out _; exact (uP BK101))) : gb109 ≠ gb101)); have NB108_109 := am ((by rw [hg]; exact Nat.ne_of_lt (blk_lt (g := gb108) (o := .cells #[.int .i64 t105, .int .i64 t106] 25 (0, 0)) (by refine blk_put (cs := #[.int .i64 t105, .int .i64 0]) ?_ 1 _ rfl; refine blk_put (cs := #[.int .i64 0, .int .i64 0]) ?_ 0 _ rfl; exact (uP BK108))) : gb108 ≠ gb109)); have NB109_108 := am ((by rw [hg]; exact Nat.ne_of_gt (blk_lt (g := gb108) (o := .cells #[.int .i64 t105, .int .i64 t106] 25 (0, 0)) (by refine blk_put (cs := #[.int .i64 t105, .int .i64 0]) ?_ 1 _ rfl; refine blk_put (cs := #[.int .i64 0, .int .i64 0]) ?_ 0 _ rfl; exact (uP BK108))) : gb109 ≠ gb108)); replace BK101 := am (blk_below (g := gb101) (o := .cells #[.int .i64 0, .int .i64 0, .slice none 0 0] 28 (0, 0)) (by refine blk_far ?_ NB101_108.out _; refine blk_far ?_ NB101_108.out _; exact (uP BK101)) hb); replace BK108 := am (blk_below (g := gb108) (o := .cells #[.int .i64 t105, .int .i64 t106] 25 (0, 0)) (by refine blk_put (cs := #[.int .i64 t105, .int .i64 0]) ?_ 1 _ rfl; refine blk_put (cs := #[.int .i64 0, .int .i64 0]) ?_ 0 _ rfl; exact (uP BK108)) hb); replace HB := uS hb; clear hb hbox hg; have hnb14 := NB109_101.out; have hnc14 := NB101_109.out; have hnb15 := NB109_108.out; have hnc15 := NB108_109.out; obtain ⟨hcz16_0, hcz16_1, hcz16_2, hfz16_0, hfz16_1, hfz16_2⟩ := uZ3 BK109) | ((with_reducible refine gate_callee (f := 56) rfl ?_); refine uGo (some 31) Tryz.func56 #[.string t103, .string (⟨#[44]⟩ : ByteArray)] ?_; (with_reducible refine (strings_Split.calls t103 (⟨#[44]⟩ : ByteArray) t110 _ ?side1 A5.out).mono ?_); (case side1 => exact Tb.below HT0.out uW); rintro e w17 ⟨v111, rfl, ho0, hb⟩; refine ⟨_, rfl, ?_⟩; have HO112 := am (Kd.R_lower ho0 (below_size uW)); replace BK101 := am (blk_below (g := gb101) (o := .cells #[.int .i64 0, .int .i64 0, .slice none 0 0] 28 (0, 0)) (by refine blk_far ?_ NB101_109.out _; refine blk_far ?_ NB101_109.out _; refine blk_far ?_ NB101_109.out _; exact (uP BK101)) hb); replace BK108 := am (blk_below (g := gb108) (o := .cells #[.int .i64 t105, .int .i64 t106] 25 (0, 0)) (by refine blk_far ?_ NB108_109.out _; refine blk_far ?_ NB108_109.out _; refine blk_far ?_ NB108_109.out _; exact (uP BK108)) hb); replace BK109 := am (blk_below (g := gb109) (o := .cells #[.int .i64 t105, .int .i64 t106, .slice none 0 0] 28 (0, 0)) (by refine blk_put (cs := #[.int .i64 t105, .int .i64 t106, .slice none 0 0]) ?_ 2 _ rfl; refine blk_put (cs := #[.int .i64 t105, .int .i64 0, .slice none 0 0]) ?_ 1 _ rfl; refine blk_put (cs := #[.int .i64 0, .int .i64 0, .slice none 0 0]) ?_ 0 _ rfl; exact (uP BK109)) hb); replace HB := uS hb; (try clear hb); (try clear ho0); obtain ⟨Ao18, co18, eo18⟩ := Kd.R_slice HO112.out; subst eo18))
  (skip)
  go_cut [] (fun wc => ∃ (kq : Nat) (x102000_5 : Int) (x102001_5 : Int) (x110002_5 : List (S46)) (u110002 : Value), Aside0 (impl_ParsePuzzle.j1 kq a0 t105 t106 x110002_5 = some (r1, r2, r3, r4)) ∧ Aside0 (kq ≤ k) ∧ Aside0 (Kd.R k46 46 wc w.heap.size (fun _ => True) u110002 x110002_5) ∧ Aside0 (wc.heap[gb101]? = some (.cells #[.int .i64 x102000_5, .int .i64 x102001_5, (.slice none 0 0)] 28 (0, 0))) ∧ Aside0 (wc.heap[gb108]? = some (.cells #[.int .i64 t105, .int .i64 t106] 25 (0, 0))) ∧ Aside0 (wc.heap[gb109]? = some (.cells #[.int .i64 t105, .int .i64 t106, u110002] 28 (0, 0))) ∧ Aside0 (Below w.heap.size w wc))
  case first =>
   have H := HC6.out
   clear HC6
   have H' := am H
   clear H
   go_wp2
   go_loopg [33] k (fun kq v33 w' => ∃ (x33_1 : Int) (x102000_1 : Int) (x102001_1 : Int) (x110002_1 : List (S46)) (u110002 : Value), v33 = .int .i64 x33_1 ∧ Aside0 (impl_ParsePuzzle.l0 kq a0 t103 t110 (t110.length : Int) x33_1 t105 t106 x110002_1 = some (r1, r2, r3, r4)) ∧ Aside0 (kq ≤ k) ∧ Aside0 (Kd.R Kd.string 9 w' w.heap.size (fun _ => True) (.slice Ao18 t110.length co18) t110) ∧ Aside0 (Kd.R k46 46 w' w.heap.size (fun _ => True) u110002 x110002_1) ∧ Aside0 (w'.heap[gb101]? = some (.cells #[.int .i64 x102000_1, .int .i64 x102001_1, (.slice none 0 0)] 28 (0, 0))) ∧ Aside0 (w'.heap[gb108]? = some (.cells #[.int .i64 t105, .int .i64 t106] 25 (0, 0))) ∧ Aside0 (w'.heap[gb109]? = some (.cells #[.int .i64 t105, .int .i64 t106, u110002] 28 (0, 0))) ∧ Aside0 (Below w.heap.size w w'))
   case atStart => exact ⟨(0), (0), (0), (([] : List (S46))), (.slice none 0 0), (by rfl), H', ⟨Nat.le_refl _⟩, ⟨by (with_reducible skip); exact HO112.out⟩, ⟨uN⟩, ⟨by (with_reducible skip); exact BK101.out⟩, ⟨by (with_reducible skip); exact BK108.out⟩, ⟨by (with_reducible skip); exact BK109.out⟩, ⟨by exact uW⟩⟩
   case round =>
    clear H'
    try clear hcz12_0
    try clear hcz12_1
    try clear hcz16_0
    try clear hcz16_1
    try clear hcz16_2
    try clear hfz12_0
    try clear hfz12_1
    try clear hfz16_0
    try clear hfz16_1
    try clear hfz16_2
    obtain ⟨x33_1, x102000_1, x102001_1, x110002_1, u110002, rfl, HA, HK1, HO_31, HO_110002, BK101, BK108, BK109, HB⟩ := hrel
    cases gk with
    | zero => exact absurd HA.out (by simp [impl_ParsePuzzle.l0])
    | succ k1 =>
     have H := HA.out
     clear HA
     simp only [impl_ParsePuzzle.l0] at H
     by_cases c19 : x33_1 < (t110.length : Int)
     ·rw [if_pos c19] at H
      have c19b0 : decide (x33_1 < (t110.length : Int)) = true := decide_eq_true c19
      clear c19
      (skip)
      by_cases c20 : 0 ≤ x33_1
      ·rw [if_pos c20] at H
       have c20b0 : decide (0 ≤ x33_1) = true := decide_eq_true c20
       clear c20
       by_cases c21 : x33_1 < (t110.length : Int)
       ·rw [if_pos c21] at H
        have c21b0 : decide (x33_1 < (t110.length : Int)) = true := decide_eq_true c21
        clear c21
        by_cases c22 : t103.toList = ([] : List UInt8)
        ·rw [if_pos c22] at H
         have c22b0 : (t103.toList == ([] : List UInt8)) = true := beq_iff_eq.mpr c22
         have c22b1 : (t103.toList != ([] : List UInt8)) = false := bne_eq_false_iff_eq.mpr c22
         clear c22
         have H' := am H
         clear H
         have p113 : 0 ≤ (x33_1 : Int) := of_decide_eq_true (by (with_reducible assumption))
         have q113 : x33_1 < (t110.length : Int) := of_decide_eq_true (by (with_reducible assumption))
         obtain ⟨ad113, e113, hx113_0⟩ := Kd.at_string (Kd.R_reads' HO_31.out).2.2 x33_1 p113 q113
         cases e113
         replace p113 := eq_true p113
         replace q113 := eq_true q113
         go_wp2
         go_meet
         case rel => exact ⟨_, (x102000_1), (x102001_1), (x110002_1), (u110002), H', ⟨by have := HK1.out; omega⟩, ⟨by (with_reducible skip); exact HO_110002.out⟩, ⟨by (with_reducible skip); exact BK101.out⟩, ⟨by (with_reducible skip); exact BK108.out⟩, ⟨by (with_reducible skip); exact BK109.out⟩, ⟨by exact uW⟩⟩
        ·rw [if_neg c22] at H
         have c22b0 : (t103.toList == ([] : List UInt8)) = false := beq_eq_false_iff_ne.mpr c22
         have c22b1 : (t103.toList != ([] : List UInt8)) = true := bne_iff_ne.mpr c22
         obtain ⟨⟨t114, t115⟩, A230, H⟩ := bH H
         dsimp only at H
         have A23 := am A230
         clear A230
         by_cases c24 : t115 = true
         ·subst c24
          rw [if_pos rfl] at H
          by_cases c25 : (t114.length : Int) = 3
          ·rw [if_pos c25] at H
           have c25b0 : ((t114.length : Int) == 3) = true := beq_iff_eq.mpr c25
           have c25b1 : ((t114.length : Int) != 3) = false := bne_eq_false_iff_eq.mpr c25
           clear c25
           by_cases c26 : 0 < (t114.length : Int)
           ·rw [if_pos c26] at H
            have c26b0 : decide (0 < (t114.length : Int)) = true := decide_eq_true c26
            have c26b1 : decide (0 < t114.length) = true := decide_eq_true (by omega)
            clear c26
            by_cases c27 : 1 < (t114.length : Int)
            ·rw [if_pos c27] at H
             have c27b0 : decide (1 < (t114.length : Int)) = true := decide_eq_true c27
             have c27b1 : decide (1 < t114.length) = true := decide_eq_true (by omega)
             clear c27
             by_cases c28 : 2 < (t114.length : Int)
             ·rw [if_pos c28] at H
              have c28b0 : decide (2 < (t114.length : Int)) = true := decide_eq_true c28
              have c28b1 : decide (2 < t114.length) = true := decide_eq_true (by omega)
              clear c28
              by_cases c29 : x110002_1.length < 5864062014805
              ·rw [if_pos c29] at H
               have LMc29 := am c29
               clear c29
               obtain ⟨y121, hy121⟩ : ∃ y_ : List (S46), y_ = (x110002_1 ++ [(⟨rd t114 0, rd t114 1, rd t114 2⟩ : S46)]) := ⟨_, rfl⟩
               replace H : (impl_ParsePuzzle.l0 k1 a0 t103 t110 (t110.length : Int) (wrap64 (x33_1 + 1)) t105 t106 y121) = some (r1, r2, r3, r4) := by (rw [hy121]; with_reducible exact H)
               have Ny121 := am hy121
               clear hy121
               have H' := am H
               clear H
               have p113 : 0 ≤ (x33_1 : Int) := of_decide_eq_true (by (with_reducible assumption))
               have q113 : x33_1 < (t110.length : Int) := of_decide_eq_true (by (with_reducible assumption))
               obtain ⟨ad113, e113, hx113_0⟩ := Kd.at_string (Kd.R_reads' HO_31.out).2.2 x33_1 p113 q113
               cases e113
               replace p113 := eq_true p113
               replace q113 := eq_true q113
               try go_wp2_with (((with_reducible refine gate_callee (f := 57) rfl ?_); refine uGo (some 41) Tryz.func57 #[.string (rdOf ByteArray.empty t110 x33_1), .string (⟨#[46]⟩ : ByteArray)] ?_; (with_reducible refine (impl_readNumbers.calls k1 (rdOf ByteArray.empty t110 x33_1) (⟨#[46]⟩ : ByteArray) t114 true _ ?side1 A23.out).mono ?_); (case side1 => exact Tb.below HT0.out uW); rintro e w30 ⟨v116, rfl, ho0, hb⟩; refine ⟨_, rfl, ?_⟩; have HO117 := am (Kd.R_lower ho0 (below_size uW)); replace HO_31 := am (Kd.R_below (uR HO_31) hb); replace HO_110002 := am (Kd.R_below (uR HO_110002) hb); replace BK101 := uB BK101 hb; replace BK108 := uB BK108 hb; replace BK109 := uB BK109 hb; replace HB := uS hb; (try clear hb); (try clear ho0); obtain ⟨Ao31, co31, eo31⟩ := Kd.R_slice HO117.out; subst eo31))
               replace HO_31 := am (Kd.R_drew HO_31.out)
               replace HO_110002 := am (Kd.R_drew HO_110002.out)
               replace HO117 := am (Kd.R_drew HO117.out)
               replace BK101 := am (blk_drew BK101.out)
               replace BK108 := am (blk_drew BK108.out)
               replace BK109 := am (blk_drew BK109.out)
               replace HB := am (below_drew1 HB.out)
               have p118 : 0 ≤ (0 : Int) := (by omega)
               have q118 : 0 < (t114.length : Int) := of_decide_eq_true (by (with_reducible assumption))
               obtain ⟨ad118, e118, hx118_0⟩ := Kd.at_int (Kd.R_reads' HO117.out).2.2 0 p118 q118
               cases e118
               have qi118 : (0 < t114.length) = True := eq_true (by omega)
               (try rw [show ((0 : Int)).toNat = 0 from rfl] at hx118_0)
               (try rw [Addr.add_zero'] at hx118_0)
               replace p118 := eq_true p118
               replace q118 := eq_true q118
               have p119 : 0 ≤ (1 : Int) := (by omega)
               have q119 : 1 < (t114.length : Int) := of_decide_eq_true (by (with_reducible assumption))
               obtain ⟨ad119, e119, hx119_0⟩ := Kd.at_int (Kd.R_reads' HO117.out).2.2 1 p119 q119
               obtain rfl : ad118 = ad119 := (by injection e119)
               (try simp only [show (1 : Int).toNat = 1 from rfl, Nat.reduceMul, Nat.reduceEqDiff, Go.Addr.add, ↓reduceIte] at hx119_0)
               have qi119 : (1 < t114.length) = True := eq_true (by omega)
               (skip)
               replace p119 := eq_true p119
               replace q119 := eq_true q119
               have p120 : 0 ≤ (2 : Int) := (by omega)
               have q120 : 2 < (t114.length : Int) := of_decide_eq_true (by (with_reducible assumption))
               obtain ⟨ad120, e120, hx120_0⟩ := Kd.at_int (Kd.R_reads' HO117.out).2.2 2 p120 q120
               obtain rfl : ad118 = ad120 := (by injection e120)
               (try simp only [show (2 : Int).toNat = 2 from rfl, Nat.reduceMul, Nat.reduceEqDiff, Go.Addr.add, ↓reduceIte] at hx120_0)
               have qi120 : (2 < t114.length) = True := eq_true (by omega)
               (skip)
               replace p120 := eq_true p120
               replace q120 := eq_true q120
               refine start_ (n := 16) (S := fun w' => w'.cell? ⟨gb109, 0, none⟩ = some (.int .i64 t105) ∧ w'.cell? ⟨gb109, 1, none⟩ = some (.int .i64 t106) ∧ w'.cell? ⟨gb109, 2, none⟩ = some (u110002) ∧ w'.cell? ad118 = some (.int .i64 (rd t114 0)) ∧ w'.cell? ⟨ad118.block, ad118.off + 1, none⟩ = some (.int .i64 (rd t114 1)) ∧ w'.cell? ⟨ad118.block, ad118.off + 2, none⟩ = some (.int .i64 (rd t114 2))) (ds := [13, 15]) #[false, false, false, false, false, false, false, false, false, false, false, false, false, false, false, false] (by kernel_rfl) rfl rfl ⟨uT BK109 0, uT BK109 1, uT BK109 2, hx118_0, hx119_0, hx120_0⟩ (fun hHeld => ?_); refine with_tabW impl_ParsePuzzle.tab13 impl_ParsePuzzle.bits13 (fun HT_ HW_ => ?_)
               generalize w30.drew = w32 at HO_31 HO_110002 HO117 BK101 BK108 BK109 HB hx118_0 hx119_0 hx120_0 hHeld ⊢
               refine uPu (i := 0) (N := some 52) #[true, false, false, false, false, false, false, false, false, false, false, false, false, false, false, false] ?_
               refine uPu (i := 2) (N := some 54) #[true, false, true, false, false, false, false, false, false, false, false, false, false, false, false, false] ?_
               refine uPu (i := 3) (N := some 55) #[true, false, true, true, false, false, false, false, false, false, false, false, false, false, false, false] ?_
               refine uPu (i := 5) (N := some 57) #[true, false, true, true, false, true, false, false, false, false, false, false, false, false, false, false] ?_
               refine uPu (i := 6) (N := some 58) #[true, false, true, true, false, true, true, false, false, false, false, false, false, false, false, false] ?_
               refine uPu (i := 8) (N := some 60) #[true, false, true, true, false, true, true, false, true, false, false, false, false, false, false, false] ?_
               refine uPu (i := 9) (N := some 61) #[true, false, true, true, false, true, true, false, true, true, false, false, false, false, false, false] ?_
               refine uTk (i := 1) (N := some 53) #[true, true, true, true, false, true, true, false, true, true, false, false, false, false, false, false] hHeld ?_
               refine uTk (i := 4) (N := some 56) #[true, true, true, true, true, true, true, false, true, true, false, false, false, false, false, false] hHeld ?_
               refine uTk (i := 7) (N := some 59) #[true, true, true, true, true, true, true, true, true, true, false, false, false, false, false, false] hHeld ?_
               refine uTk (i := 10) (N := some 62) #[true, true, true, true, true, true, true, true, true, true, true, false, false, false, false, false] hHeld ?_
               refine uPu (i := 11) (N := some 63) #[true, true, true, true, true, true, true, true, true, true, true, true, false, false, false, false] ?_
               refine uOn (i := 12) (N := some 64) #[true, true, true, true, true, true, true, true, true, true, true, true, true, false, false, false] (fun K hK => ?_)
               refine value_ (w1 := ?_) (v := ?_) (by rfl) rfl ?_ ?_
               rotate_left 2
               ·go_simp
                constructor
                ·rfl
                ·rfl
               refine hK.out _ _ ⟨(blk_cell (blk_alloc BK109.out _) 0).trans rfl, (blk_cell (blk_alloc BK109.out _) 1).trans rfl, (blk_cell (blk_alloc BK109.out _) 2).trans rfl, (World.cell?_alloc_lt _ _ _ (World.block_lt_of_cell? _ _ (hHeld.2.2.2.1))).trans (hHeld.2.2.2.1), (World.cell?_alloc_lt _ _ _ (World.block_lt_of_cell? _ _ (hHeld.2.2.2.2.1))).trans (hHeld.2.2.2.2.1), (World.cell?_alloc_lt _ _ _ (World.block_lt_of_cell? _ _ (hHeld.2.2.2.2.2))).trans (hHeld.2.2.2.2.2)⟩ (fun hHeld => ?_)
               clear hK K
               refine uNo (some 64) ?_
               refine last_ (i := 13) (N := some 65) #[true, true, true, true, true, true, true, true, true, true, true, true, true, true, false, false] rfl rfl (one_of HT_.out (by kernel_rfl)) (by decide) (fun K hK => ?_)
               refine Kd.R_append_step k46 (w0 := w) w.heap.size (by rfl) (.tmp 53) (.tmp 64) 26 46 (.agg #[(.int .i64 0), (.int .i64 0), (.int .i64 0)]) 24 rfl Tryz.underlying26 info46 rfl (by decide) (by omega) u110002 x110002_1 (⟨rd t114 0, rd t114 1, rd t114 2⟩ : S46) [.int .i64 (rd t114 0), .int .i64 (rd t114 1), .int .i64 (rd t114 2)] (fun _ => True) (fun _ => False) rfl rfl ?aP (fun _ hk => hk.elim) ?aF ?aO ?aB ?aS ?aL ?_
               (case aP => exact k46_mkM _ _ _ (⟨rd t114 0, rd t114 1, rd t114 2⟩ : S46))
               (case aB => exact uW)
               (case aF => exact (fun _ _ => trivial))
               (case aO => exact (uR HO_110002))
               (case aS => exact (below_size uW))
               (case aL => have := LMc29.out; omega)
               intro v122 w33 ho hb hg hat
               rw [← Ny121.out] at ho
               have HO123 := am (ho)
               replace HO_31 := am (Kd.R_over' (uR HO_31) (Kd.R_typed (uR HO_110002)) (by decide) hg)
               replace BK101 := am (blk_grown (uP BK101) hg (Kd.R_ne HO_110002.out BK101.out (by decide)))
               replace BK108 := am (blk_grown (uP BK108) hg (Kd.R_ne HO_110002.out BK108.out (by decide)))
               replace BK109 := am (blk_grown (uP BK109) hg (Kd.R_ne HO_110002.out BK109.out (by decide)))
               replace HO117 := am (Kd.R_over' (uR HO117) (Kd.R_typed (uR HO_110002)) (by decide) hg)
               replace HB := am (hb)
               clear HO_110002
               clear ho hb hg hat
               obtain ⟨Ao34, co34, eo34⟩ := Kd.R_slice HO123.out
               (subst eo34)
               refine hK.out _ _ ?_
               clear hK K
               refine uNo (some 65) ?_
               refine uPu (i := 14) (N := some 66) #[true, true, true, true, true, true, true, true, true, true, true, true, true, true, true, false] ?_
               refine last_ (i := 15) (N := none) #[true, true, true, true, true, true, true, true, true, true, true, true, true, true, true, true] rfl rfl (one_of HT_.out (by kernel_rfl)) (by decide) (fun K hK => ?_)
               have hs35 : w33.cell? ⟨gb109, 2, none⟩ = some (u110002) := uT BK109 2
               have hfs35 := blk_frozen BK109.out 2
               have hns35_0 := NB101_109.out
               have hns35_1 := NB108_109.out
               have hms35_0 := NB109_101.out
               have hms35_1 := NB109_108.out
               refine skip_ (w1 := ?_) (by rfl) rfl ?_ ?_
               rotate_left
               ·go_simp
                rfl
               refine hK.out _ _ ?_
               clear hK K
               refine done_ (done_of HT_.out (by kernel_rfl)) ?_
               try go_wp2
               go_roundg k1
               case measure => have := HK1.out; omega
               case rel => exact ⟨(wrap64 (x33_1 + 1)), (x102000_1), (x102001_1), (y121), (.slice Ao34 y121.length co34), (by rfl), H', ⟨by have := HK1.out; omega⟩, ⟨by (with_reducible skip); exact Kd.R_mono (Kd.R_far (p := ⟨gb109, 2, none⟩) (Kd.R_types HO_31.out BK109.out (by decide)) (fun _ hk => hk.2) (.slice Ao34 y121.length co34)) (fun _ hk => trivial)⟩, ⟨by (with_reducible skip); exact Kd.R_mono (Kd.R_far (p := ⟨gb109, 2, none⟩) (Kd.R_types HO123.out BK109.out (by decide)) (fun _ hk => hk.2) (.slice Ao34 y121.length co34)) (fun _ hk => trivial)⟩, ⟨by refine blk_far ?_ NB101_109.out _; exact (uP BK101)⟩, ⟨by refine blk_far ?_ NB108_109.out _; exact (uP BK108)⟩, ⟨by refine blk_put (cs := #[.int .i64 t105, .int .i64 t106, u110002]) ?_ 2 _ rfl; exact (uP BK109)⟩, ⟨by exact uW⟩⟩
              ·rw [if_neg c29] at H
               exact absurd H (by simp)
             ·rw [if_neg c28] at H
              exact absurd H (by simp)
            ·rw [if_neg c27] at H
             exact absurd H (by simp)
           ·rw [if_neg c26] at H
            exact absurd H (by simp)
          ·rw [if_neg c25] at H
           have c25b0 : ((t114.length : Int) == 3) = false := beq_eq_false_iff_ne.mpr c25
           have c25b1 : ((t114.length : Int) != 3) = true := bne_iff_ne.mpr c25
           simp only [Option.some.injEq, Prod.mk.injEq] at H
           obtain ⟨rfl, rfl, rfl, rfl⟩ := H
           have p113 : 0 ≤ (x33_1 : Int) := of_decide_eq_true (by (with_reducible assumption))
           have q113 : x33_1 < (t110.length : Int) := of_decide_eq_true (by (with_reducible assumption))
           obtain ⟨ad113, e113, hx113_0⟩ := Kd.at_string (Kd.R_reads' HO_31.out).2.2 x33_1 p113 q113
           cases e113
           replace p113 := eq_true p113
           replace q113 := eq_true q113
           go_wp2_with (((with_reducible refine gate_callee (f := 57) rfl ?_); refine uGo (some 41) Tryz.func57 #[.string (rdOf ByteArray.empty t110 x33_1), .string (⟨#[46]⟩ : ByteArray)] ?_; (with_reducible refine (impl_readNumbers.calls k1 (rdOf ByteArray.empty t110 x33_1) (⟨#[46]⟩ : ByteArray) t114 true _ ?side1 A23.out).mono ?_); (case side1 => exact Tb.below HT0.out uW); rintro e w36 ⟨v116, rfl, ho0, hb⟩; refine ⟨_, rfl, ?_⟩; have HO117 := am (Kd.R_lower ho0 (below_size uW)); replace HO_31 := am (Kd.R_below (uR HO_31) hb); replace HO_110002 := am (Kd.R_below (uR HO_110002) hb); replace BK101 := uB BK101 hb; replace BK108 := uB BK108 hb; replace BK109 := uB BK109 hb; replace HB := uS hb; (try clear hb); (try clear ho0); obtain ⟨Ao37, co37, eo37⟩ := Kd.R_slice HO117.out; subst eo37; have hnb38 := NB101_108.out; have hnc38 := NB108_101.out; have hnb39 := NB101_109.out; have hnc39 := NB109_101.out; obtain ⟨hcz40_0, hcz40_1, hcz40_2, hfz40_0, hfz40_1, hfz40_2⟩ := uZ3 BK101))
           refine bodyPost_ret (results_ct rfl _ _ gb101 28 #[.int .i64 0, .int .i64 0, .slice none 0 0] (0, 0) _ rfl (by refine blk_put (cs := #[.int .i64 0, .int .i64 0, .slice none 0 0]) ?_ 2 _ rfl; refine blk_put (cs := #[.int .i64 0, .int .i64 x102001_1, .slice none 0 0]) ?_ 1 _ rfl; refine blk_put (cs := #[.int .i64 x102000_1, .int .i64 x102001_1, .slice none 0 0]) ?_ 0 _ rfl; exact (uP BK101)) Tryz.underlying28 rfl (by kernel_rfl)) rfl ?_
           exact ⟨_, uA, uN, by exact uW⟩
         ·replace c24 := Bool.eq_false_iff.mpr c24
          subst c24
          rw [if_neg (show ¬ (false = true) by decide)] at H
          simp only [Option.some.injEq, Prod.mk.injEq] at H
          obtain ⟨rfl, rfl, rfl, rfl⟩ := H
          have p113 : 0 ≤ (x33_1 : Int) := of_decide_eq_true (by (with_reducible assumption))
          have q113 : x33_1 < (t110.length : Int) := of_decide_eq_true (by (with_reducible assumption))
          obtain ⟨ad113, e113, hx113_0⟩ := Kd.at_string (Kd.R_reads' HO_31.out).2.2 x33_1 p113 q113
          cases e113
          replace p113 := eq_true p113
          replace q113 := eq_true q113
          go_wp2_with (((with_reducible refine gate_callee (f := 57) rfl ?_); refine uGo (some 41) Tryz.func57 #[.string (rdOf ByteArray.empty t110 x33_1), .string (⟨#[46]⟩ : ByteArray)] ?_; (with_reducible refine (impl_readNumbers.calls k1 (rdOf ByteArray.empty t110 x33_1) (⟨#[46]⟩ : ByteArray) t114 false _ ?side1 A23.out).mono ?_); (case side1 => exact Tb.below HT0.out uW); rintro e w41 ⟨v116, rfl, ho0, hb⟩; refine ⟨_, rfl, ?_⟩; have HO117 := am (Kd.R_lower ho0 (below_size uW)); replace HO_31 := am (Kd.R_below (uR HO_31) hb); replace HO_110002 := am (Kd.R_below (uR HO_110002) hb); replace BK101 := uB BK101 hb; replace BK108 := uB BK108 hb; replace BK109 := uB BK109 hb; replace HB := uS hb; (try clear hb); (try clear ho0); have hnb42 := NB101_108.out; have hnc42 := NB108_101.out; have hnb43 := NB101_109.out; have hnc43 := NB109_101.out; obtain ⟨hcz44_0, hcz44_1, hcz44_2, hfz44_0, hfz44_1, hfz44_2⟩ := uZ3 BK101))
          refine bodyPost_ret (results_ct rfl _ _ gb101 28 #[.int .i64 0, .int .i64 0, .slice none 0 0] (0, 0) _ rfl (by refine blk_put (cs := #[.int .i64 0, .int .i64 0, .slice none 0 0]) ?_ 2 _ rfl; refine blk_put (cs := #[.int .i64 0, .int .i64 x102001_1, .slice none 0 0]) ?_ 1 _ rfl; refine blk_put (cs := #[.int .i64 x102000_1, .int .i64 x102001_1, .slice none 0 0]) ?_ 0 _ rfl; exact (uP BK101)) Tryz.underlying28 rfl (by kernel_rfl)) rfl ?_
          exact ⟨_, uA, uN, by exact uW⟩
       ·rw [if_neg c21] at H
        exact absurd H (by simp)
      ·rw [if_neg c20] at H
       exact absurd H (by simp)
     ·rw [if_neg c19] at H
      have c19b0 : decide (x33_1 < (t110.length : Int)) = false := decide_eq_false c19
      clear c19
      (skip)
      have H' := am H
      clear H
      go_wp2
      go_meet
      case rel => exact ⟨_, (x102000_1), (x102001_1), (x110002_1), (u110002), H', ⟨by have := HK1.out; omega⟩, ⟨by (with_reducible skip); exact HO_110002.out⟩, ⟨by (with_reducible skip); exact BK101.out⟩, ⟨by (with_reducible skip); exact BK108.out⟩, ⟨by (with_reducible skip); exact BK109.out⟩, ⟨by exact uW⟩⟩
  case rest =>
   clear HC6
   try clear hcz12_0
   try clear hcz12_1
   try clear hcz16_0
   try clear hcz16_1
   try clear hcz16_2
   try clear hfz12_0
   try clear hfz12_1
   try clear hfz16_0
   try clear hfz16_1
   try clear hfz16_2
   obtain ⟨kq, x102000_5, x102001_5, x110002_5, u110002, HA, HJ5, HO_110002, BK101, BK108, BK109, HB⟩ := hcut
   cases kq with
   | zero => exact absurd HA.out (by simp [impl_ParsePuzzle.j1])
   | succ kj5 =>
    have H := HA.out
    clear HA
    simp only [impl_ParsePuzzle.j1] at H
    obtain ⟨t124, A450, H⟩ := bH H
    have A45 := am A450
    clear A450
    by_cases c46 : t124 = true
    ·subst c46
     rw [if_pos rfl] at H
     obtain ⟨t125, A470, H⟩ := bH H
     have A47 := am A470
     clear A470
     by_cases c48 : t125.toList = a0.toList
     ·rw [if_pos c48] at H
      have c48b0 : (t125.toList == a0.toList) = true := beq_iff_eq.mpr c48
      have c48b1 : (t125.toList != a0.toList) = false := bne_eq_false_iff_eq.mpr c48
      clear c48
      simp only [Option.some.injEq, Prod.mk.injEq] at H
      obtain ⟨rfl, rfl, rfl, rfl⟩ := H
      have hnb49 := NB109_101.out
      have hnc49 := NB101_109.out
      have hnb50 := NB109_108.out
      have hnc50 := NB108_109.out
      obtain ⟨hcz51_0, hcz51_1, hcz51_2, hfz51_0, hfz51_1, hfz51_2⟩ := uZ3 BK109
      obtain ⟨Ao52, co52, eo52⟩ := Kd.R_slice HO_110002.out
      subst eo52
      go_wp2_with (first | ((with_reducible refine gate_callee (f := 25) rfl ?_); refine uGo (some 69) Tryz.func25 #[.agg #[.int .i64 t105, .int .i64 t106, .slice Ao52 x110002_5.length co52]] ?_; (with_reducible refine (impl_IsPuzzle.calls t105 t106 _ _ x110002_5 true _ ?side1 ?side2 A45.out).mono ?_); (case side1 => repeat (exact (Kd.R_reads' HO_110002.out).2.2)); (case side2 => exact (Kd.R_reads' HO_110002.out).2.1); rintro e w53 ⟨rfl, hb⟩; refine ⟨_, rfl, ?_⟩; replace HO_110002 := am (Kd.R_below (uR HO_110002) hb); replace BK101 := uB BK101 hb; replace BK108 := uB BK108 hb; replace BK109 := uB BK109 hb; replace HB := uS hb; (try clear hb); obtain ⟨hcz54_0, hcz54_1, hcz54_2, hfz54_0, hfz54_1, hfz54_2⟩ := uZ3 BK109) | (go_at_call 43; (with_reducible refine (impl_puzzleText.calls kj5 t105 t106 _ _ x110002_5 t125 _ ?side1 ?side2 ?side3 A47.out).mono ?_); (case side1 => repeat (exact (Kd.R_reads' HO_110002.out).2.2)); (case side2 => exact (Kd.R_reads' HO_110002.out).2.1); (case side3 => exact Tb.below HT0.out uW); rintro e w55 ⟨rfl, hb⟩; replace HO_110002 := am (Kd.R_below (uR HO_110002) hb); replace BK101 := uB BK101 hb; replace BK108 := uB BK108 hb; replace BK109 := uB BK109 hb; replace HB := uS hb; (try clear hb); obtain ⟨hcz56_0, hcz56_1, hcz56_2, hfz56_0, hfz56_1, hfz56_2⟩ := uZ3 BK109; have hnb57 := NB101_108.out; have hnc57 := NB108_101.out; obtain ⟨hcz58_0, hcz58_1, hcz58_2, hfz58_0, hfz58_1, hfz58_2⟩ := uZ3 BK101))
      refine bodyPost_ret (results_ct rfl _ _ gb101 28 #[.int .i64 t105, .int .i64 t106, .slice Ao52 x110002_5.length co52] (0, 0) _ rfl (by refine blk_put (cs := #[.int .i64 t105, .int .i64 t106, .slice none 0 0]) ?_ 2 _ rfl; refine blk_put (cs := #[.int .i64 t105, .int .i64 x102001_5, .slice none 0 0]) ?_ 1 _ rfl; refine blk_put (cs := #[.int .i64 x102000_5, .int .i64 x102001_5, .slice none 0 0]) ?_ 0 _ rfl; exact (uP BK101)) Tryz.underlying28 rfl (by kernel_rfl)) rfl ?_
      exact ⟨_, uA, by (with_reducible skip); exact Kd.R_mono (Kd.R_far (p := ⟨gb101, 2, none⟩) (Kd.R_far (p := ⟨gb101, 1, none⟩) (Kd.R_far (p := ⟨gb101, 0, none⟩) (Kd.R_types HO_110002.out BK101.out (by decide)) (fun _ hk => hk.2) (.int .i64 t105)) (fun _ hk => hk.2) (.int .i64 t106)) (fun _ hk => hk.2) (.slice Ao52 x110002_5.length co52)) (fun _ hk => trivial), by exact uW⟩
     ·rw [if_neg c48] at H
      have c48b0 : (t125.toList == a0.toList) = false := beq_eq_false_iff_ne.mpr c48
      have c48b1 : (t125.toList != a0.toList) = true := bne_iff_ne.mpr c48
      simp only [Option.some.injEq, Prod.mk.injEq] at H
      obtain ⟨rfl, rfl, rfl, rfl⟩ := H
      have hnb59 := NB109_101.out
      have hnc59 := NB101_109.out
      have hnb60 := NB109_108.out
      have hnc60 := NB108_109.out
      obtain ⟨hcz61_0, hcz61_1, hcz61_2, hfz61_0, hfz61_1, hfz61_2⟩ := uZ3 BK109
      obtain ⟨Ao62, co62, eo62⟩ := Kd.R_slice HO_110002.out
      subst eo62
      go_wp2_with (first | ((with_reducible refine gate_callee (f := 25) rfl ?_); refine uGo (some 69) Tryz.func25 #[.agg #[.int .i64 t105, .int .i64 t106, .slice Ao62 x110002_5.length co62]] ?_; (with_reducible refine (impl_IsPuzzle.calls t105 t106 _ _ x110002_5 true _ ?side1 ?side2 A45.out).mono ?_); (case side1 => repeat (exact (Kd.R_reads' HO_110002.out).2.2)); (case side2 => exact (Kd.R_reads' HO_110002.out).2.1); rintro e w63 ⟨rfl, hb⟩; refine ⟨_, rfl, ?_⟩; replace HO_110002 := am (Kd.R_below (uR HO_110002) hb); replace BK101 := uB BK101 hb; replace BK108 := uB BK108 hb; replace BK109 := uB BK109 hb; replace HB := uS hb; (try clear hb); obtain ⟨hcz64_0, hcz64_1, hcz64_2, hfz64_0, hfz64_1, hfz64_2⟩ := uZ3 BK109) | (go_at_call 43; (with_reducible refine (impl_puzzleText.calls kj5 t105 t106 _ _ x110002_5 t125 _ ?side1 ?side2 ?side3 A47.out).mono ?_); (case side1 => repeat (exact (Kd.R_reads' HO_110002.out).2.2)); (case side2 => exact (Kd.R_reads' HO_110002.out).2.1); (case side3 => exact Tb.below HT0.out uW); rintro e w65 ⟨rfl, hb⟩; replace HO_110002 := am (Kd.R_below (uR HO_110002) hb); replace BK101 := uB BK101 hb; replace BK108 := uB BK108 hb; replace BK109 := uB BK109 hb; replace HB := uS hb; (try clear hb); have hnb66 := NB101_108.out; have hnc66 := NB108_101.out; obtain ⟨hcz67_0, hcz67_1, hcz67_2, hfz67_0, hfz67_1, hfz67_2⟩ := uZ3 BK101))
      refine bodyPost_ret (results_ct rfl _ _ gb101 28 #[.int .i64 0, .int .i64 0, .slice none 0 0] (0, 0) _ rfl (by refine blk_put (cs := #[.int .i64 0, .int .i64 0, .slice none 0 0]) ?_ 2 _ rfl; refine blk_put (cs := #[.int .i64 0, .int .i64 x102001_5, .slice none 0 0]) ?_ 1 _ rfl; refine blk_put (cs := #[.int .i64 x102000_5, .int .i64 x102001_5, .slice none 0 0]) ?_ 0 _ rfl; exact (uP BK101)) Tryz.underlying28 rfl (by kernel_rfl)) rfl ?_
      exact ⟨_, uA, uN, by exact uW⟩
    ·replace c46 := Bool.eq_false_iff.mpr c46
     subst c46
     rw [if_neg (show ¬ (false = true) by decide)] at H
     simp only [Option.some.injEq, Prod.mk.injEq] at H
     obtain ⟨rfl, rfl, rfl, rfl⟩ := H
     have hnb68 := NB109_101.out
     have hnc68 := NB101_109.out
     have hnb69 := NB109_108.out
     have hnc69 := NB108_109.out
     obtain ⟨hcz70_0, hcz70_1, hcz70_2, hfz70_0, hfz70_1, hfz70_2⟩ := uZ3 BK109
     obtain ⟨Ao71, co71, eo71⟩ := Kd.R_slice HO_110002.out
     subst eo71
     go_wp2_with (((with_reducible refine gate_callee (f := 25) rfl ?_); refine uGo (some 69) Tryz.func25 #[.agg #[.int .i64 t105, .int .i64 t106, .slice Ao71 x110002_5.length co71]] ?_; (with_reducible refine (impl_IsPuzzle.calls t105 t106 _ _ x110002_5 false _ ?side1 ?side2 A45.out).mono ?_); (case side1 => repeat (exact (Kd.R_reads' HO_110002.out).2.2)); (case side2 => exact (Kd.R_reads' HO_110002.out).2.1); rintro e w72 ⟨rfl, hb⟩; refine ⟨_, rfl, ?_⟩; replace HO_110002 := am (Kd.R_below (uR HO_110002) hb); replace BK101 := uB BK101 hb; replace BK108 := uB BK108 hb; replace BK109 := uB BK109 hb; replace HB := uS hb; (try clear hb); have hnb73 := NB101_108.out; have hnc73 := NB108_101.out; obtain ⟨hcz74_0, hcz74_1, hcz74_2, hfz74_0, hfz74_1, hfz74_2⟩ := uZ3 BK101))
     refine bodyPost_ret (results_ct rfl _ _ gb101 28 #[.int .i64 0, .int .i64 0, .slice none 0 0] (0, 0) _ rfl (by refine blk_put (cs := #[.int .i64 0, .int .i64 0, .slice none 0 0]) ?_ 2 _ rfl; refine blk_put (cs := #[.int .i64 0, .int .i64 x102001_5, .slice none 0 0]) ?_ 1 _ rfl; refine blk_put (cs := #[.int .i64 x102000_5, .int .i64 x102001_5, .slice none 0 0]) ?_ 0 _ rfl; exact (uP BK101)) Tryz.underlying28 rfl (by kernel_rfl)) rfl ?_
     exact ⟨_, uA, uN, by exact uW⟩
 ·replace c4 := Bool.eq_false_iff.mpr c4
  subst c4
  rw [if_neg (show ¬ (false = true) by decide)] at H
  simp only [Option.some.injEq, Prod.mk.injEq] at H
  obtain ⟨rfl, rfl, rfl, rfl⟩ := H
  go_enter Tryz.func32, Tryz.ntmps32
  go_wp2_with (first | ((with_reducible refine gate_dst (N := 2) rfl ?_); (try (refine gate_guard (by rfl) ?_; dsimp only)); refine uX (N := 2) (cs := #[.int .i64 0, .int .i64 0, .slice none 0 0]) (t := 28) ?_; intro gb101 hg w75 hbox hb; have BK101 := am (hbox); have GW101 := uE hg; have GE101 := GW101; replace HB := uS hb; clear hb hbox hg) | ((with_reducible refine gate_callee (f := 54) rfl ?_); refine uGo (some 16) Tryz.func54 #[.string a0, .string (⟨#[59]⟩ : ByteArray)] ?_; (with_reducible refine (strings_Cut.calls a0 (⟨#[59]⟩ : ByteArray) t102 t103 t104 _ ?side1 A2.out).mono ?_); (case side1 => exact Tb.below HT0.out uW); rintro e w76 ⟨rfl, hb⟩; refine ⟨_, rfl, ?_⟩; replace BK101 := uB BK101 hb; replace HB := uS hb; (try clear hb)) | ((with_reducible refine gate_callee (f := 55) rfl ?_); refine uGo (some 22) Tryz.func55 #[.string t102] ?_; (with_reducible refine (impl_ParseStreet.calls t102 t105 t106 false _ ?side1 A3.out).mono ?_); (case side1 => exact Tb.below HT0.out uW); rintro e w77 ⟨rfl, hb⟩; refine ⟨_, rfl, ?_⟩; replace BK101 := uB BK101 hb; replace HB := uS hb; (try clear hb)) | ((with_reducible refine gate_dst (N := 7) rfl ?_); (try (refine gate_guard (by rfl) ?_; dsimp only)); refine uX (N := 7) (cs := #[.int .i64 0, .int .i64 0]) (t := 25) ?_; intro gb108 hg w78 hbox hb; have BK108 := am (hbox); have GW108 := uE hg; have GE108 := GW108; have NB101_108 := uL BK101 hg; have NB108_101 := uY NB101_108; replace BK101 := uB BK101 hb; replace HB := uS hb; clear hb hbox hg; have hnb79 := NB108_101.out; have hnc79 := NB101_108.out; obtain ⟨hcz80_0, hcz80_1, hfz80_0, hfz80_1⟩ := uZ2 BK108; obtain ⟨hcz81_0, hcz81_1, hcz81_2, hfz81_0, hfz81_1, hfz81_2⟩ := uZ3 BK101))
  refine bodyPost_ret (results_ct rfl _ _ gb101 28 #[.int .i64 0, .int .i64 0, .slice none 0 0] (0, 0) _ rfl (by refine blk_put (cs := #[.int .i64 0, .int .i64 0, .slice none 0 0]) ?_ 2 _ rfl; refine blk_put (cs := #[.int .i64 0, .int .i64 0, .slice none 0 0]) ?_ 1 _ rfl; refine blk_put (cs := #[.int .i64 0, .int .i64 0, .slice none 0 0]) ?_ 0 _ rfl; refine blk_far ?_ NB101_108.out _; refine blk_far ?_ NB101_108.out _; exact (uP BK101)) Tryz.underlying28 rfl (by kernel_rfl)) rfl ?_
  exact ⟨_, uA, uN, by exact uW⟩
def impl_LeftByClues.l0 : Nat → List Int → Int → Int → Int → Int → List (S46) → Option (List Int × Bool)
 | 0, _, _, _, _, _, _ => none
 | k + 1, x4, x12, x13, x102000, x102001, x102002 => if x13 < x12 then (if 0 ≤ x13 then (if x13 ≤ (x102002.length : Int) then ((impl_solutions.f x102000 x102001 (x102002.take (x13 : Int).toNat)).bind fun t107 => (if x4.length < 17592186044416 then (impl_LeftByClues.l0 k (x4 ++ [(t107.length : Int)]) x12 (wrap64 (x13 + 1)) x102000 x102001 x102002) else (none))) else (none)) else (none)) else (some (x4, true))
def impl_LeftByClues.f (k : Nat) (a0_0 : Int) (a0_1 : Int) (l0_2 : List (S46)) : Option (List Int × Bool) := (impl_IsPuzzle.f a0_0 a0_1 l0_2).bind fun t102 => (if t102 = true then (impl_LeftByClues.l0 k ([] : List Int) (wrap64 ((l0_2.length : Int) + 1)) 0 a0_0 a0_1 l0_2) else (some (([] : List Int), false)))
def impl_LeftByClues.T7 : Bool × List (List Nat × List Nat) := (true, [([], []), ([], []), ([1], [1]), ([], []), ([3], [3]), ([], []), ([4, 5], [4, 5]), ([2, 6], [2, 6]), ([7], [7]), ([8], [8]), ([0, 9, 7], [0, 9]), ([10, 10, 0, 1, 2, 3, 4, 5, 6, 7, 8, 9, 10], [0, 10])])
def impl_LeftByClues.B7 : List Nat := [0, 0, 2, 0, 8, 0, 56, 126, 254, 510, 1023, 2047]
theorem impl_LeftByClues.tab7 : rtab .any (opsOf Tryz.f18 7) = impl_LeftByClues.T7 := by kernel_rfl
theorem impl_LeftByClues.bits7 : waitsOk impl_LeftByClues.T7.2 impl_LeftByClues.B7 = true := by kernel_rfl
theorem impl_LeftByClues.calls (k : Nat) (a0_0 : Int) (a0_1 : Int) (A0_2 : Option Addr) (c0_2 : Nat) (l0_2 : List (S46)) (r1 : List Int) (r2 : Bool) (w : World) (hr0_2 : Kd.C k46 w A0_2 l0_2.length l0_2) (hc0_2 : l0_2.length ≤ c0_2) (h : impl_LeftByClues.f k a0_0 a0_1 l0_2 = some (r1, r2)) :
  Calls Tryz.prog 18 #[.agg #[.int .i64 a0_0, .int .i64 a0_1, .slice A0_2 l0_2.length c0_2]] w fun e w' => ∃ v0_ : Value, e = .returned (.tuple #[v0_, .bool r2]) ∧ Kd.R (Kd.int .i64) 3 w' w.heap.size (fun _ => True) v0_ r1 ∧ Below w.heap.size w w' := by
 have hu28 := Tryz.underlying28
 have hu25 := Tryz.underlying25
 have HR0_2 := am hr0_2
 have HC0_2 := am hc0_2
 clear hr0_2 hc0_2
 have HB := am (Below.refl w.heap.size w)
 have H := h
 clear h
 unfold impl_LeftByClues.f at H
 obtain ⟨t102, A20, H⟩ := bH H
 have A2 := am A20
 clear A20
 by_cases c3 : t102 = true
 ·subst c3
  rw [if_pos rfl] at H
  have H' := am H
  clear H
  go_enter Tryz.func18, Tryz.ntmps18
  go_wp2_with (first | ((with_reducible refine gate_dst (N := 1) rfl ?_); refine uX (N := 1) (cs := #[.int .i64 a0_0, .int .i64 a0_1, .slice A0_2 l0_2.length c0_2]) (t := 28) ?_; intro gb101 hg w4 hbox hb; have BK101 := am (hbox); have GW101 := uE hg; have GE101 := GW101; replace HB := uS hb; clear hb hbox hg; obtain ⟨hcz5_0, hcz5_1, hcz5_2, hfz5_0, hfz5_1, hfz5_2⟩ := uZ3 BK101) | ((with_reducible refine gate_callee (f := 25) rfl ?_); refine uGo (some 7) Tryz.func25 #[.agg #[.int .i64 a0_0, .int .i64 a0_1, .slice A0_2 l0_2.length c0_2]] ?_; (with_reducible refine (impl_IsPuzzle.calls a0_0 a0_1 _ _ l0_2 true _ ?side1 ?side2 A2.out).mono ?_); (case side1 => repeat (exact (Kd.C_below HR0_2.out HB.out))); (case side2 => exact HC0_2.out); rintro e w6 ⟨rfl, hb⟩; refine ⟨_, rfl, ?_⟩; replace BK101 := uB BK101 hb; replace HB := uS hb; (try clear hb); obtain ⟨hcz7_0, hcz7_1, hcz7_2, hfz7_0, hfz7_1, hfz7_2⟩ := uZ3 BK101))
  go_loopg [4, 13] k (fun kq v4 v13 w' => ∃ (x4_1 : List Int) (x13_1 : Int), v13 = .int .i64 x13_1 ∧ Aside0 (impl_LeftByClues.l0 kq x4_1 (wrap64 ((l0_2.length : Int) + 1)) x13_1 a0_0 a0_1 l0_2 = some (r1, r2)) ∧ Aside0 (kq ≤ k) ∧ Aside0 (Kd.R (Kd.int .i64) 3 w' w.heap.size (fun _ => True) v4 x4_1) ∧ Aside0 (w'.heap[gb101]? = some (.cells #[.int .i64 a0_0, .int .i64 a0_1, (.slice A0_2 l0_2.length c0_2)] 28 (0, 0))) ∧ Aside0 (Below w.heap.size w w'))
  case atStart => exact ⟨(([] : List Int)), (0), (by rfl), H', ⟨Nat.le_refl _⟩, ⟨uN⟩, ⟨by (with_reducible skip); exact BK101.out⟩, ⟨by exact uW⟩⟩
  case round =>
   clear H'
   try clear hcz5_0
   try clear hcz5_1
   try clear hcz5_2
   try clear hcz7_0
   try clear hcz7_1
   try clear hcz7_2
   try clear hfz5_0
   try clear hfz5_1
   try clear hfz5_2
   try clear hfz7_0
   try clear hfz7_1
   try clear hfz7_2
   obtain ⟨x4_1, x13_1, rfl, HA, HK1, HO_4, BK101, HB⟩ := hrel
   cases gk with
   | zero => exact absurd HA.out (by simp [impl_LeftByClues.l0])
   | succ k1 =>
    have H := HA.out
    clear HA
    simp only [impl_LeftByClues.l0] at H
    by_cases c8 : x13_1 < (wrap64 ((l0_2.length : Int) + 1))
    ·rw [if_pos c8] at H
     have c8b0 : decide (x13_1 < (wrap64 ((l0_2.length : Int) + 1))) = true := decide_eq_true c8
     clear c8
     by_cases c9 : 0 ≤ x13_1
     ·rw [if_pos c9] at H
      have c9b0 := eq_true c9
      have c9b1 : decide (0 ≤ x13_1) = true := decide_eq_true c9
      clear c9
      by_cases c10 : x13_1 ≤ (l0_2.length : Int)
      ·rw [if_pos c10] at H
       have c10b0 := eq_true c10
       have c10b1 : decide (x13_1 ≤ (l0_2.length : Int)) = true := decide_eq_true c10
       clear c10
       obtain ⟨y103, hy103⟩ : ∃ y_ : List (S46), y_ = (l0_2.take (x13_1 : Int).toNat) := ⟨_, rfl⟩
       replace H : ((impl_solutions.f a0_0 a0_1 y103).bind fun t107 => (if x4_1.length < 17592186044416 then (impl_LeftByClues.l0 k1 (x4_1 ++ [(t107.length : Int)]) (wrap64 ((l0_2.length : Int) + 1)) (wrap64 (x13_1 + 1)) a0_0 a0_1 l0_2) else (none))) = some (r1, r2) := by (rw [hy103]; with_reducible exact H)
       have Ny103 := am hy103
       clear hy103
       obtain ⟨t107, A110, H⟩ := bH H
       have A11 := am A110
       clear A110
       by_cases c12 : x4_1.length < 17592186044416
       ·rw [if_pos c12] at H
        have LMc12 := am c12
        clear c12
        obtain ⟨y110, hy110⟩ : ∃ y_ : List Int, y_ = (x4_1 ++ [(t107.length : Int)]) := ⟨_, rfl⟩
        replace H : (impl_LeftByClues.l0 k1 y110 (wrap64 ((l0_2.length : Int) + 1)) (wrap64 (x13_1 + 1)) a0_0 a0_1 l0_2) = some (r1, r2) := by (rw [hy110]; with_reducible exact H)
        have Ny110 := am hy110
        clear hy110
        have H' := am H
        clear H
        try go_wp2
        replace HO_4 := am (Kd.R_drew HO_4.out)
        replace BK101 := am (blk_drew BK101.out)
        replace HB := am (below_drew1 HB.out)
        have q14 : (x13_1 : Int) ≤ ((l0_2.length : Int) : Int) := of_decide_eq_true (by (with_reducible assumption))
        obtain ⟨i014, hi014, _, hsz14, _⟩ := info_parts info46
        have hroom14 : l0_2.length ≤ c0_2 := HC0_2.out
        have hC14 : Kd.C k46 _ A0_2 l0_2.length l0_2 := HR0_2.out
        have hcut14 := cut_to (P := Tryz.prog) 26 46 .i64 Tryz.underlying26 hi014 A0_2 l0_2.length c0_2 x13_1 (of_decide_eq_true (by (with_reducible assumption))) q14 hroom14
        have hr14 := Kd.C_take (m := (x13_1 : Int).toNat) hC14 (by omega)
        have hy14 : y103.length = (x13_1 : Int).toNat := (by rw [Ny103.out, List.length_take]; omega)
        rw [← Ny103.out] at hr14
        rw [← hy14] at hcut14
        have HR106 := am hr14
        have HC106 := am (show y103.length ≤ c0_2 from by omega)
        clear hr14 hC14 hroom14 hi014 hsz14
        have KY14 := am hy14
        clear hy14
        replace q14 := eq_true q14
        refine start_ (n := 12) (S := fun w' => w'.cell? ⟨gb101, 0, none⟩ = some (.int .i64 a0_0) ∧ w'.cell? ⟨gb101, 1, none⟩ = some (.int .i64 a0_1) ∧ w'.cell? ⟨gb101, 2, none⟩ = some (.slice A0_2 l0_2.length c0_2)) (ds := []) #[false, false, false, false, false, false, false, false, false, false, false, false] (by kernel_rfl) rfl rfl ⟨uT BK101 0, uT BK101 1, uT BK101 2⟩ (fun hHeld => ?_); refine with_tabW impl_LeftByClues.tab7 impl_LeftByClues.bits7 (fun HT_ HW_ => ?_)
        generalize wr.drew = w13 at HO_4 BK101 HB HR106 hHeld ⊢
        refine uPu (i := 0) (N := some 16) #[true, false, false, false, false, false, false, false, false, false, false, false] ?_
        refine uPu (i := 1) (N := some 17) #[true, true, false, false, false, false, false, false, false, false, false, false] ?_
        refine uPu (i := 3) (N := some 19) #[true, true, false, true, false, false, false, false, false, false, false, false] ?_
        refine uPu (i := 5) (N := some 21) #[true, true, false, true, false, true, false, false, false, false, false, false] ?_
        refine uTk (i := 2) (N := some 18) #[true, true, true, true, false, true, false, false, false, false, false, false] hHeld ?_
        refine uTk (i := 4) (N := some 20) #[true, true, true, true, true, true, false, false, false, false, false, false] hHeld ?_
        refine uPu (i := 6) (N := some 22) #[true, true, true, true, true, true, true, false, false, false, false, false] ?_
        refine uOn (i := 7) (N := some 23) #[true, true, true, true, true, true, true, true, false, false, false, false] (fun K hK => ?_)
        refine uGs Tryz.func37 #[.agg #[.int .i64 a0_0, .int .i64 a0_1], .slice A0_2 y103.length c0_2] ?_
        with_reducible refine (impl_solutions.calls a0_0 a0_1 _ _ y103 t107 _ ?side1 ?side2 A11.out).mono ?_
        (case side1 => repeat (exact (Kd.C_below HR106.out HB.out)))
        (case side2 => exact HC106.out)
        rintro e w15 ⟨v108, rfl, ho0, hb⟩
        refine ⟨_, rfl, ?_⟩
        have HO109 := am (Kd.R_lower (Kd.R_new' ho0 (Kd.R_lt (uR HO_4))) (below_size uW))
        replace HO_4 := am (Kd.R_elder' (uR HO_4) (Kd.R_base ho0) hb)
        replace BK101 := uB BK101 hb
        replace HB := uS hb
        (try clear hb)
        (skip)
        (skip)
        (skip)
        (try clear ho0)
        obtain ⟨Ao16, co16, eo16⟩ := Kd.R_slice HO109.out
        (subst eo16)
        refine hK.out _ _ ⟨uT BK101 0, uT BK101 1, uT BK101 2⟩ (fun hHeld => ?_)
        clear hK K
        refine uNo (some 23) ?_
        refine uPu (i := 8) (N := some 24) #[true, true, true, true, true, true, true, true, true, false, false, false] ?_
        refine uOn (i := 9) (N := some 25) #[true, true, true, true, true, true, true, true, true, true, false, false] (fun K hK => ?_)
        refine value_ (w1 := ?_) (v := ?_) (by rfl) rfl ?_ ?_
        rotate_left 2
        ·go_simp
         constructor
         ·rfl
         ·rfl
        refine hK.out _ _ ⟨(blk_cell (blk_alloc BK101.out _) 0).trans rfl, (blk_cell (blk_alloc BK101.out _) 1).trans rfl, (blk_cell (blk_alloc BK101.out _) 2).trans rfl⟩ (fun hHeld => ?_)
        clear hK K
        refine uNo (some 25) ?_
        refine uOn (i := 10) (N := some 26) #[true, true, true, true, true, true, true, true, true, true, true, false] (fun K hK => ?_)
        refine Kd.R_append_step (Kd.int .i64) (w0 := w) w.heap.size (by rfl) (.tmp 16) (.tmp 25) 30 3 (.int .i64 0) 8 rfl Tryz.underlying30 info3 rfl (by decide) (by omega) u4 x4_1 (t107.length : Int) [.int .i64 (t107.length : Int)] (fun k_ => some k_ ≠ (.slice Ao16 t107.length co16 : Value).ownBlock) (fun _ => False) rfl rfl ?aP (fun _ hk => hk.elim) ?aF ?aO ?aB ?aS ?aL ?_
        (case aP => exact rfl)
        (case aB => exact uW)
        (case aF => exact (fun k_ hk => Kd.fresh' (Kd.R_lt (uR HO109)) k_ hk))
        (case aO => exact (by (with_reducible skip); exact Kd.R_mono HO_4.out (fun _ hk => hk.2)))
        (case aS => exact (below_size uW))
        (case aL => have := LMc12.out; omega)
        intro v111 w17 ho hb hg hat
        rw [← Ny110.out] at ho
        have HO112 := am (ho)
        replace BK101 := am (blk_grown (uP BK101) hg (Kd.R_ne HO_4.out BK101.out (by decide)))
        replace HO109 := am (Kd.R_after (ok := (fun _ => True)) (uR HO109) hg hat)
        replace HB := am (hb)
        clear HO_4
        clear ho hb hg hat
        refine hK.out _ _ ⟨uT BK101 0, uT BK101 1, uT BK101 2⟩ (fun hHeld => ?_)
        clear hK K
        refine uNo (some 26) ?_
        refine uPu (i := 11) (N := some 4) #[true, true, true, true, true, true, true, true, true, true, true, true] ?_
        refine done_ (done_of HT_.out (by kernel_rfl)) ?_
        try go_wp2
        go_roundg k1
        case measure => have := HK1.out; omega
        case rel => exact ⟨(y110), (wrap64 (x13_1 + 1)), (by rfl), H', ⟨by have := HK1.out; omega⟩, ⟨by (with_reducible skip); exact Kd.R_mono HO112.out (fun _ hk => trivial)⟩, ⟨by (with_reducible skip); exact BK101.out⟩, ⟨by exact uW⟩⟩
       ·rw [if_neg c12] at H
        exact absurd H (by simp)
      ·rw [if_neg c10] at H
       exact absurd H (by simp)
     ·rw [if_neg c9] at H
      exact absurd H (by simp)
    ·rw [if_neg c8] at H
     have c8b0 : decide (x13_1 < (wrap64 ((l0_2.length : Int) + 1))) = false := decide_eq_false c8
     clear c8
     simp only [Option.some.injEq, Prod.mk.injEq] at H
     obtain ⟨rfl, rfl⟩ := H
     go_wp2
     go_ret2
     exact ⟨_, uA, by (with_reducible skip); exact HO_4.out, by exact uW⟩
 ·replace c3 := Bool.eq_false_iff.mpr c3
  subst c3
  rw [if_neg (show ¬ (false = true) by decide)] at H
  simp only [Option.some.injEq, Prod.mk.injEq] at H
  obtain ⟨rfl, rfl⟩ := H
  go_enter Tryz.func18, Tryz.ntmps18
  go_wp2_with (first | ((with_reducible refine gate_dst (N := 1) rfl ?_); refine uX (N := 1) (cs := #[.int .i64 a0_0, .int .i64 a0_1, .slice A0_2 l0_2.length c0_2]) (t := 28) ?_; intro gb101 hg w18 hbox hb; have BK101 := am (hbox); have GW101 := uE hg; have GE101 := GW101; replace HB := uS hb; clear hb hbox hg; obtain ⟨hcz19_0, hcz19_1, hcz19_2, hfz19_0, hfz19_1, hfz19_2⟩ := uZ3 BK101) | ((with_reducible refine gate_callee (f := 25) rfl ?_); refine uGo (some 7) Tryz.func25 #[.agg #[.int .i64 a0_0, .int .i64 a0_1, .slice A0_2 l0_2.length c0_2]] ?_; (with_reducible refine (impl_IsPuzzle.calls a0_0 a0_1 _ _ l0_2 false _ ?side1 ?side2 A2.out).mono ?_); (case side1 => repeat (exact (Kd.C_below HR0_2.out HB.out))); (case side2 => exact HC0_2.out); rintro e w20 ⟨rfl, hb⟩; refine ⟨_, rfl, ?_⟩; replace BK101 := uB BK101 hb; replace HB := uS hb; (try clear hb)))
  go_ret2
  exact ⟨_, uA, uN, by exact uW⟩
section
attribute [local go_sem high] eqA25 eqA46
mutual
def laws_aPuzzle.j0 : Nat → Bool → Int → Int → List (S46) → Int → Int → List (S46) → Option (Bool)
 | 0, _, _, _, _, _, _, _ => none
 | k + 1, x19, x102000, x102001, x102002, x103000, x103001, x103002 => if x19 = true then (some false) else (laws_aPuzzle.l0 k (x102002.length : Int) 0 x102000 x102001 x102002 x103000 x103001 x103002)
def laws_aPuzzle.l0 : Nat → Int → Int → Int → Int → List (S46) → Int → Int → List (S46) → Option (Bool)
 | 0, _, _, _, _, _, _, _, _ => none
 | k + 1, x22, x23, x102000, x102001, x102002, x103000, x103001, x103002 => if x23 < x22 then (if 0 ≤ x23 then (if x23 < (x102002.length : Int) then (if x23 < (x103002.length : Int) then (if (!(((rd_T46 x102002 x23).f0) == ((rd_T46 x103002 x23).f0)) || (!(((rd_T46 x102002 x23).f1) == ((rd_T46 x103002 x23).f1)) || (!(((rd_T46 x102002 x23).f2) == ((rd_T46 x103002 x23).f2))))) = true then (some false) else (laws_aPuzzle.l0 k x22 (wrap64 (x23 + 1)) x102000 x102001 x102002 x103000 x103001 x103002)) else (none)) else (none)) else (none)) else (some true)
end
def laws_aPuzzle.f (k : Nat) (a0_0 : Int) (a0_1 : Int) (l0_2 : List (S46)) (a1_0 : Int) (a1_1 : Int) (l1_2 : List (S46)) : Option (Bool) := if (!(a0_0 == a1_0) || (!(a0_1 == a1_1))) = true then (laws_aPuzzle.j0 k true a0_0 a0_1 l0_2 a1_0 a1_1 l1_2) else (laws_aPuzzle.j0 k ((l0_2.length : Int) != (l1_2.length : Int)) a0_0 a0_1 l0_2 a1_0 a1_1 l1_2)
theorem laws_aPuzzle.calls (k : Nat) (a0_0 : Int) (a0_1 : Int) (A0_2 : Option Addr) (c0_2 : Nat) (l0_2 : List (S46)) (a1_0 : Int) (a1_1 : Int) (A1_2 : Option Addr) (c1_2 : Nat) (l1_2 : List (S46)) (r : Bool) (w : World) (hr0_2 : Kd.C k46 w A0_2 l0_2.length l0_2) (hc0_2 : l0_2.length ≤ c0_2) (hr1_2 : Kd.C k46 w A1_2 l1_2.length l1_2) (hc1_2 : l1_2.length ≤ c1_2) (h : laws_aPuzzle.f k a0_0 a0_1 l0_2 a1_0 a1_1 l1_2 = some r) :
  Calls Tryz.prog 33 #[.agg #[.int .i64 a0_0, .int .i64 a0_1, .slice A0_2 l0_2.length c0_2], .agg #[.int .i64 a1_0, .int .i64 a1_1, .slice A1_2 l1_2.length c1_2]] w fun e w' => e = .returned (.bool r) ∧ Below w.heap.size w w' := by
 have hu28 := Tryz.underlying28
 have hu25 := Tryz.underlying25
 have hu46 := Tryz.underlying46
 have HR0_2 := am hr0_2
 have HC0_2 := am hc0_2
 clear hr0_2 hc0_2
 have HR1_2 := am hr1_2
 have HC1_2 := am hc1_2
 clear hr1_2 hc1_2
 have HB := am (Below.refl w.heap.size w)
 have H := h
 clear h
 unfold laws_aPuzzle.f at H
 have HC3 := am H
 clear H
 go_enter Tryz.func33, Tryz.ntmps33
 go_upto_region 1 with (first | ((with_reducible refine gate_dst (N := 2) rfl ?_); (try (refine gate_guard (by rfl) ?_; dsimp only)); refine uX (N := 2) (cs := #[.int .i64 a0_0, .int .i64 a0_1, .slice A0_2 l0_2.length c0_2]) (t := 28) ?_; intro gb101 hg w4 hbox hb; have BK101 := am (hbox); have GW101 := uE hg; have GE101 := GW101; replace HB := uS hb; clear hb hbox hg) | ((with_reducible refine gate_dst (N := 3) rfl ?_); (try (refine gate_guard (by rfl) ?_; dsimp only)); refine uX (N := 3) (cs := #[.int .i64 a1_0, .int .i64 a1_1, .slice A1_2 l1_2.length c1_2]) (t := 28) ?_; intro gb102 hg w5 hbox hb; have BK102 := am (hbox); have GW102 := uE hg; have GE102 := GW102; have NB101_102 := uL BK101 hg; have NB102_101 := uY NB101_102; replace BK101 := uB BK101 hb; replace HB := uS hb; clear hb hbox hg))
 (skip)
 go_cut [19] (fun v19 wc => ∃ (kq : Nat) (x19_2 : Bool), v19 = .bool x19_2 ∧ Aside0 (laws_aPuzzle.j0 kq x19_2 a0_0 a0_1 l0_2 a1_0 a1_1 l1_2 = some r) ∧ Aside0 (kq ≤ k) ∧ Aside0 (wc.heap[gb101]? = some (.cells #[.int .i64 a0_0, .int .i64 a0_1, (.slice A0_2 l0_2.length c0_2)] 28 (0, 0))) ∧ Aside0 (wc.heap[gb102]? = some (.cells #[.int .i64 a1_0, .int .i64 a1_1, (.slice A1_2 l1_2.length c1_2)] 28 (0, 0))) ∧ Aside0 (Below w.heap.size w wc))
 case first =>
  have H := HC3.out
  clear HC3
  by_cases c6 : (!(a0_0 == a1_0) || (!(a0_1 == a1_1))) = true
  ·rw [if_pos c6] at H
   have c6b0 : (!(a0_0 == a1_0) || (!(a0_1 == a1_1))) = true := c6
   clear c6
   (skip)
   have H' := am H
   clear H
   have hnb7 := NB101_102.out
   have hnc7 := NB102_101.out
   obtain ⟨hcz8_0, hcz8_1, hcz8_2, hfz8_0, hfz8_1, hfz8_2⟩ := uZ3 BK101
   obtain ⟨hcz9_0, hcz9_1, hcz9_2, hfz9_0, hfz9_1, hfz9_2⟩ := uZ3 BK102
   go_wp2
   go_meet
   case rel => exact ⟨_, (true), (by rfl), H', ⟨by omega⟩, ⟨by (with_reducible skip); exact BK101.out⟩, ⟨by (with_reducible skip); exact BK102.out⟩, ⟨by exact uW⟩⟩
  ·rw [if_neg c6] at H
   have c6b0 : (!(a0_0 == a1_0) || (!(a0_1 == a1_1))) = false := by simpa using c6
   clear c6
   (skip)
   have H' := am H
   clear H
   have hnb10 := NB101_102.out
   have hnc10 := NB102_101.out
   obtain ⟨hcz11_0, hcz11_1, hcz11_2, hfz11_0, hfz11_1, hfz11_2⟩ := uZ3 BK101
   obtain ⟨hcz12_0, hcz12_1, hcz12_2, hfz12_0, hfz12_1, hfz12_2⟩ := uZ3 BK102
   go_wp2
   go_meet
   case rel => exact ⟨_, (((l0_2.length : Int) != (l1_2.length : Int))), (by rfl), H', ⟨by omega⟩, ⟨by (with_reducible skip); exact BK101.out⟩, ⟨by (with_reducible skip); exact BK102.out⟩, ⟨by exact uW⟩⟩
 case rest =>
  clear HC3
  obtain ⟨kq, x19_2, rfl, HA, HJ2, BK101, BK102, HB⟩ := hcut
  cases kq with
  | zero => exact absurd HA.out (by simp [laws_aPuzzle.j0])
  | succ kj2 =>
   have H := HA.out
   clear HA
   simp only [laws_aPuzzle.j0] at H
   by_cases c13 : x19_2 = true
   ·subst c13
    rw [if_pos rfl] at H
    obtain rfl := Option.some.inj H
    go_wp2
    go_ret
    exact ⟨uA, by exact uW⟩
   ·replace c13 := Bool.eq_false_iff.mpr c13
    subst c13
    rw [if_neg (show ¬ (false = true) by decide)] at H
    have H' := am H
    clear H
    have hnb14 := NB101_102.out
    have hnc14 := NB102_101.out
    obtain ⟨hcz15_0, hcz15_1, hcz15_2, hfz15_0, hfz15_1, hfz15_2⟩ := uZ3 BK101
    go_wp2
    go_loopg [23] kj2 (fun kq v23 w' => ∃ (x23_2 : Int), v23 = .int .i64 x23_2 ∧ Aside0 (laws_aPuzzle.l0 kq (l0_2.length : Int) x23_2 a0_0 a0_1 l0_2 a1_0 a1_1 l1_2 = some r) ∧ Aside0 (kq ≤ kj2) ∧ Aside0 (w'.heap[gb101]? = some (.cells #[.int .i64 a0_0, .int .i64 a0_1, (.slice A0_2 l0_2.length c0_2)] 28 (0, 0))) ∧ Aside0 (w'.heap[gb102]? = some (.cells #[.int .i64 a1_0, .int .i64 a1_1, (.slice A1_2 l1_2.length c1_2)] 28 (0, 0))) ∧ Aside0 (Below w.heap.size w w'))
    case atStart => exact ⟨(0), (by rfl), H', ⟨Nat.le_refl _⟩, ⟨by (with_reducible skip); exact BK101.out⟩, ⟨by (with_reducible skip); exact BK102.out⟩, ⟨by exact uW⟩⟩
    case round =>
     clear H'
     try clear hcz15_0
     try clear hcz15_1
     try clear hcz15_2
     try clear hfz15_0
     try clear hfz15_1
     try clear hfz15_2
     obtain ⟨x23_2, rfl, HA, HK2, BK101, BK102, HB⟩ := hrel
     cases gk with
     | zero => exact absurd HA.out (by simp [laws_aPuzzle.l0])
     | succ k2 =>
      have H := HA.out
      clear HA
      simp only [laws_aPuzzle.l0] at H
      by_cases c16 : x23_2 < (l0_2.length : Int)
      ·rw [if_pos c16] at H
       have c16b0 : decide (x23_2 < (l0_2.length : Int)) = true := decide_eq_true c16
       clear c16
       by_cases c17 : 0 ≤ x23_2
       ·rw [if_pos c17] at H
        have c17b0 : decide (0 ≤ x23_2) = true := decide_eq_true c17
        clear c17
        by_cases c18 : x23_2 < (l0_2.length : Int)
        ·rw [if_pos c18] at H
         have c18b0 : decide (x23_2 < (l0_2.length : Int)) = true := decide_eq_true c18
         clear c18
         by_cases c19 : x23_2 < (l1_2.length : Int)
         ·rw [if_pos c19] at H
          have c19b0 : decide (x23_2 < (l1_2.length : Int)) = true := decide_eq_true c19
          clear c19
          by_cases c20 : (!(((rd_T46 l0_2 x23_2).f0) == ((rd_T46 l1_2 x23_2).f0)) || (!(((rd_T46 l0_2 x23_2).f1) == ((rd_T46 l1_2 x23_2).f1)) || (!(((rd_T46 l0_2 x23_2).f2) == ((rd_T46 l1_2 x23_2).f2))))) = true
          ·rw [if_pos c20] at H
           have c20b0 : (!(((rd_T46 l0_2 x23_2).f0) == ((rd_T46 l1_2 x23_2).f0)) || (!(((rd_T46 l0_2 x23_2).f1) == ((rd_T46 l1_2 x23_2).f1)) || (!(((rd_T46 l0_2 x23_2).f2) == ((rd_T46 l1_2 x23_2).f2))))) = true := c20
           clear c20
           obtain rfl := Option.some.inj H
           have hnb21 := NB101_102.out
           have hnc21 := NB102_101.out
           obtain ⟨hcz22_0, hcz22_1, hcz22_2, hfz22_0, hfz22_1, hfz22_2⟩ := uZ3 BK101
           have p103 : 0 ≤ (x23_2 : Int) := of_decide_eq_true (by (with_reducible assumption))
           have q103 : x23_2 < (l0_2.length : Int) := of_decide_eq_true (by (with_reducible assumption))
           obtain ⟨ad103, e103, hx103_0, hx103_1, hx103_2⟩ := at_T46 HR0_2.out x23_2 p103 q103
           cases e103
           try replace hx103_0 := (HB.out.cell (World.block_lt_of_cell? w _ hx103_0)).trans hx103_0
           try replace hx103_1 := (HB.out.cell (World.block_lt_of_cell? w _ hx103_1)).trans hx103_1
           try replace hx103_2 := (HB.out.cell (World.block_lt_of_cell? w _ hx103_2)).trans hx103_2
           replace p103 := eq_true p103
           replace q103 := eq_true q103
           obtain ⟨hcz23_0, hcz23_1, hcz23_2, hfz23_0, hfz23_1, hfz23_2⟩ := uZ3 BK102
           have p104 : 0 ≤ (x23_2 : Int) := of_decide_eq_true (by (with_reducible assumption))
           have q104 : x23_2 < (l1_2.length : Int) := of_decide_eq_true (by (with_reducible assumption))
           obtain ⟨ad104, e104, hx104_0, hx104_1, hx104_2⟩ := at_T46 HR1_2.out x23_2 p104 q104
           cases e104
           try replace hx104_0 := (HB.out.cell (World.block_lt_of_cell? w _ hx104_0)).trans hx104_0
           try replace hx104_1 := (HB.out.cell (World.block_lt_of_cell? w _ hx104_1)).trans hx104_1
           try replace hx104_2 := (HB.out.cell (World.block_lt_of_cell? w _ hx104_2)).trans hx104_2
           replace p104 := eq_true p104
           replace q104 := eq_true q104
           go_wp2
           repeat (go_quiet (fail); try go_wp2)
           go_ret
           exact ⟨uA, by exact uW⟩
          ·rw [if_neg c20] at H
           have c20b0 : (!(((rd_T46 l0_2 x23_2).f0) == ((rd_T46 l1_2 x23_2).f0)) || (!(((rd_T46 l0_2 x23_2).f1) == ((rd_T46 l1_2 x23_2).f1)) || (!(((rd_T46 l0_2 x23_2).f2) == ((rd_T46 l1_2 x23_2).f2))))) = false := by simpa using c20
           clear c20
           have H' := am H
           clear H
           have hnb24 := NB101_102.out
           have hnc24 := NB102_101.out
           obtain ⟨hcz25_0, hcz25_1, hcz25_2, hfz25_0, hfz25_1, hfz25_2⟩ := uZ3 BK101
           have p103 : 0 ≤ (x23_2 : Int) := of_decide_eq_true (by (with_reducible assumption))
           have q103 : x23_2 < (l0_2.length : Int) := of_decide_eq_true (by (with_reducible assumption))
           obtain ⟨ad103, e103, hx103_0, hx103_1, hx103_2⟩ := at_T46 HR0_2.out x23_2 p103 q103
           cases e103
           try replace hx103_0 := (HB.out.cell (World.block_lt_of_cell? w _ hx103_0)).trans hx103_0
           try replace hx103_1 := (HB.out.cell (World.block_lt_of_cell? w _ hx103_1)).trans hx103_1
           try replace hx103_2 := (HB.out.cell (World.block_lt_of_cell? w _ hx103_2)).trans hx103_2
           replace p103 := eq_true p103
           replace q103 := eq_true q103
           obtain ⟨hcz26_0, hcz26_1, hcz26_2, hfz26_0, hfz26_1, hfz26_2⟩ := uZ3 BK102
           have p104 : 0 ≤ (x23_2 : Int) := of_decide_eq_true (by (with_reducible assumption))
           have q104 : x23_2 < (l1_2.length : Int) := of_decide_eq_true (by (with_reducible assumption))
           obtain ⟨ad104, e104, hx104_0, hx104_1, hx104_2⟩ := at_T46 HR1_2.out x23_2 p104 q104
           cases e104
           try replace hx104_0 := (HB.out.cell (World.block_lt_of_cell? w _ hx104_0)).trans hx104_0
           try replace hx104_1 := (HB.out.cell (World.block_lt_of_cell? w _ hx104_1)).trans hx104_1
           try replace hx104_2 := (HB.out.cell (World.block_lt_of_cell? w _ hx104_2)).trans hx104_2
           replace p104 := eq_true p104
           replace q104 := eq_true q104
           go_wp2
           repeat (go_quiet (fail); try go_wp2)
           go_roundg k2
           case measure => have := HJ2.out; have := HK2.out; omega
           case rel => exact ⟨(wrap64 (x23_2 + 1)), (by rfl), H', ⟨by have := HJ2.out; have := HK2.out; omega⟩, ⟨by (with_reducible repeat (refine bN ?_ _)); exact BK101.out⟩, ⟨by (with_reducible repeat (refine bN ?_ _)); exact BK102.out⟩, ⟨by exact uW⟩⟩
         ·rw [if_neg c19] at H
          exact absurd H (by simp)
        ·rw [if_neg c18] at H
         exact absurd H (by simp)
       ·rw [if_neg c17] at H
        exact absurd H (by simp)
      ·rw [if_neg c16] at H
       have c16b0 : decide (x23_2 < (l0_2.length : Int)) = false := decide_eq_false c16
       clear c16
       obtain rfl := Option.some.inj H
       go_wp2
       go_ret
       exact ⟨uA, by exact uW⟩
end
def spec_LeftByClues.l0 : Nat → List Int → Int → Int → Int → List (S46) → Option (List Int × Bool)
 | 0, _, _, _, _, _ => none
 | k + 1, x4, x5, x102000, x102001, x102002 => if x5 ≤ (x102002.length : Int) then (if 0 ≤ x5 then ((spec_pzAll.f k x102000 x102001 (x102002.take (x5 : Int).toNat)).bind fun t107 => (if x4.length < 17592186044416 then (spec_LeftByClues.l0 k (x4 ++ [(t107.length : Int)]) (wrap64 (x5 + 1)) x102000 x102001 x102002) else (none))) else (none)) else (some (x4, true))
def spec_LeftByClues.f (k : Nat) (a0_0 : Int) (a0_1 : Int) (l0_2 : List (S46)) : Option (List Int × Bool) := (spec_pzGood.f k a0_0 a0_1 l0_2).bind fun t102 => (if t102 = true then (spec_LeftByClues.l0 k ([] : List Int) 0 a0_0 a0_1 l0_2) else (some (([] : List Int), false)))
def spec_LeftByClues.T7 : Bool × List (List Nat × List Nat) := (true, [([], []), ([], []), ([1], [1]), ([], []), ([3], [3]), ([], []), ([4, 5], [4, 5]), ([2, 6], [2, 6]), ([7], [7]), ([8], [8]), ([0, 9, 7], [0, 9]), ([10, 10, 0, 1, 2, 3, 4, 5, 6, 7, 8, 9, 10], [0, 10])])
def spec_LeftByClues.B7 : List Nat := [0, 0, 2, 0, 8, 0, 56, 126, 254, 510, 1023, 2047]
theorem spec_LeftByClues.tab7 : rtab .any (opsOf Tryz.f19 7) = spec_LeftByClues.T7 := by kernel_rfl
theorem spec_LeftByClues.bits7 : waitsOk spec_LeftByClues.T7.2 spec_LeftByClues.B7 = true := by kernel_rfl
theorem spec_LeftByClues.calls (k : Nat) (a0_0 : Int) (a0_1 : Int) (A0_2 : Option Addr) (c0_2 : Nat) (l0_2 : List (S46)) (r1 : List Int) (r2 : Bool) (w : World) (hr0_2 : Kd.C k46 w A0_2 l0_2.length l0_2) (hc0_2 : l0_2.length ≤ c0_2) (h : spec_LeftByClues.f k a0_0 a0_1 l0_2 = some (r1, r2)) :
  Calls Tryz.prog 19 #[.agg #[.int .i64 a0_0, .int .i64 a0_1, .slice A0_2 l0_2.length c0_2]] w fun e w' => ∃ v0_ : Value, e = .returned (.tuple #[v0_, .bool r2]) ∧ Kd.R (Kd.int .i64) 3 w' w.heap.size (fun _ => True) v0_ r1 ∧ Below w.heap.size w w' := by
 have hu28 := Tryz.underlying28
 have hu25 := Tryz.underlying25
 have HR0_2 := am hr0_2
 have HC0_2 := am hc0_2
 clear hr0_2 hc0_2
 have HB := am (Below.refl w.heap.size w)
 have H := h
 clear h
 unfold spec_LeftByClues.f at H
 obtain ⟨t102, A20, H⟩ := bH H
 have A2 := am A20
 clear A20
 by_cases c3 : t102 = true
 ·subst c3
  rw [if_pos rfl] at H
  have H' := am H
  clear H
  go_enter Tryz.func19, Tryz.ntmps19
  go_wp2_with (first | ((with_reducible refine gate_dst (N := 1) rfl ?_); refine uX (N := 1) (cs := #[.int .i64 a0_0, .int .i64 a0_1, .slice A0_2 l0_2.length c0_2]) (t := 28) ?_; intro gb101 hg w4 hbox hb; have BK101 := am (hbox); have GW101 := uE hg; have GE101 := GW101; replace HB := uS hb; clear hb hbox hg; obtain ⟨hcz5_0, hcz5_1, hcz5_2, hfz5_0, hfz5_1, hfz5_2⟩ := uZ3 BK101) | ((with_reducible refine gate_callee (f := 38) rfl ?_); refine uGo (some 7) Tryz.func38 #[.agg #[.int .i64 a0_0, .int .i64 a0_1, .slice A0_2 l0_2.length c0_2]] ?_; (with_reducible refine (spec_pzGood.calls k a0_0 a0_1 _ _ l0_2 true _ ?side1 ?side2 A2.out).mono ?_); (case side1 => repeat (exact (Kd.C_below HR0_2.out HB.out))); (case side2 => exact HC0_2.out); rintro e w6 ⟨rfl, hb⟩; refine ⟨_, rfl, ?_⟩; replace BK101 := uB BK101 hb; replace HB := uS hb; (try clear hb)))
  go_loopg [4, 5] k (fun kq v4 v5 w' => ∃ (x4_1 : List Int) (x5_1 : Int), v5 = .int .i64 x5_1 ∧ Aside0 (spec_LeftByClues.l0 kq x4_1 x5_1 a0_0 a0_1 l0_2 = some (r1, r2)) ∧ Aside0 (kq ≤ k) ∧ Aside0 (Kd.R (Kd.int .i64) 3 w' w.heap.size (fun _ => True) v4 x4_1) ∧ Aside0 (w'.heap[gb101]? = some (.cells #[.int .i64 a0_0, .int .i64 a0_1, (.slice A0_2 l0_2.length c0_2)] 28 (0, 0))) ∧ Aside0 (Below w.heap.size w w'))
  case atStart => exact ⟨(([] : List Int)), (0), (by rfl), H', ⟨Nat.le_refl _⟩, ⟨uN⟩, ⟨by (with_reducible skip); exact BK101.out⟩, ⟨by exact uW⟩⟩
  case round =>
   clear H'
   try clear hcz5_0
   try clear hcz5_1
   try clear hcz5_2
   try clear hfz5_0
   try clear hfz5_1
   try clear hfz5_2
   obtain ⟨x4_1, x5_1, rfl, HA, HK1, HO_4, BK101, HB⟩ := hrel
   cases gk with
   | zero => exact absurd HA.out (by simp [spec_LeftByClues.l0])
   | succ k1 =>
    have H := HA.out
    clear HA
    simp only [spec_LeftByClues.l0] at H
    by_cases c7 : x5_1 ≤ (l0_2.length : Int)
    ·rw [if_pos c7] at H
     have c7b0 : decide (x5_1 ≤ (l0_2.length : Int)) = true := decide_eq_true c7
     clear c7
     by_cases c8 : 0 ≤ x5_1
     ·rw [if_pos c8] at H
      have c8b0 := eq_true c8
      have c8b1 : decide (0 ≤ x5_1) = true := decide_eq_true c8
      clear c8
      have c9b0 := eq_true (of_decide_eq_true (by (with_reducible assumption)) : x5_1 ≤ (l0_2.length : Int))
      obtain ⟨y103, hy103⟩ : ∃ y_ : List (S46), y_ = (l0_2.take (x5_1 : Int).toNat) := ⟨_, rfl⟩
      replace H : ((spec_pzAll.f k1 a0_0 a0_1 y103).bind fun t107 => (if x4_1.length < 17592186044416 then (spec_LeftByClues.l0 k1 (x4_1 ++ [(t107.length : Int)]) (wrap64 (x5_1 + 1)) a0_0 a0_1 l0_2) else (none))) = some (r1, r2) := by (rw [hy103]; with_reducible exact H)
      have Ny103 := am hy103
      clear hy103
      obtain ⟨t107, A100, H⟩ := bH H
      have A10 := am A100
      clear A100
      by_cases c11 : x4_1.length < 17592186044416
      ·rw [if_pos c11] at H
       have LMc11 := am c11
       clear c11
       obtain ⟨y110, hy110⟩ : ∃ y_ : List Int, y_ = (x4_1 ++ [(t107.length : Int)]) := ⟨_, rfl⟩
       replace H : (spec_LeftByClues.l0 k1 y110 (wrap64 (x5_1 + 1)) a0_0 a0_1 l0_2) = some (r1, r2) := by (rw [hy110]; with_reducible exact H)
       have Ny110 := am hy110
       clear hy110
       have H' := am H
       clear H
       obtain ⟨hcz12_0, hcz12_1, hcz12_2, hfz12_0, hfz12_1, hfz12_2⟩ := uZ3 BK101
       try go_wp2
       replace HO_4 := am (Kd.R_drew HO_4.out)
       replace BK101 := am (blk_drew BK101.out)
       replace HB := am (below_drew1 HB.out)
       have q14 : (x5_1 : Int) ≤ ((l0_2.length : Int) : Int) := of_decide_eq_true (by (with_reducible assumption))
       obtain ⟨i014, hi014, _, hsz14, _⟩ := info_parts info46
       have hroom14 : l0_2.length ≤ c0_2 := HC0_2.out
       have hC14 : Kd.C k46 _ A0_2 l0_2.length l0_2 := HR0_2.out
       have hcut14 := cut_to (P := Tryz.prog) 26 46 .i64 Tryz.underlying26 hi014 A0_2 l0_2.length c0_2 x5_1 (of_decide_eq_true (by (with_reducible assumption))) q14 hroom14
       have hr14 := Kd.C_take (m := (x5_1 : Int).toNat) hC14 (by omega)
       have hy14 : y103.length = (x5_1 : Int).toNat := (by rw [Ny103.out, List.length_take]; omega)
       rw [← Ny103.out] at hr14
       rw [← hy14] at hcut14
       have HR106 := am hr14
       have HC106 := am (show y103.length ≤ c0_2 from by omega)
       clear hr14 hC14 hroom14 hi014 hsz14
       have KY14 := am hy14
       clear hy14
       replace q14 := eq_true q14
       refine start_ (n := 12) (S := fun w' => w'.cell? ⟨gb101, 0, none⟩ = some (.int .i64 a0_0) ∧ w'.cell? ⟨gb101, 1, none⟩ = some (.int .i64 a0_1) ∧ w'.cell? ⟨gb101, 2, none⟩ = some (.slice A0_2 l0_2.length c0_2)) (ds := []) #[false, false, false, false, false, false, false, false, false, false, false, false] (by kernel_rfl) rfl rfl ⟨uT BK101 0, uT BK101 1, uT BK101 2⟩ (fun hHeld => ?_); refine with_tabW spec_LeftByClues.tab7 spec_LeftByClues.bits7 (fun HT_ HW_ => ?_)
       generalize wr.drew = w13 at HO_4 BK101 HB HR106 hHeld ⊢
       refine uPu (i := 0) (N := some 16) #[true, false, false, false, false, false, false, false, false, false, false, false] ?_
       refine uPu (i := 1) (N := some 17) #[true, true, false, false, false, false, false, false, false, false, false, false] ?_
       refine uPu (i := 3) (N := some 19) #[true, true, false, true, false, false, false, false, false, false, false, false] ?_
       refine uPu (i := 5) (N := some 21) #[true, true, false, true, false, true, false, false, false, false, false, false] ?_
       refine uTk (i := 2) (N := some 18) #[true, true, true, true, false, true, false, false, false, false, false, false] hHeld ?_
       refine uTk (i := 4) (N := some 20) #[true, true, true, true, true, true, false, false, false, false, false, false] hHeld ?_
       refine uPu (i := 6) (N := some 22) #[true, true, true, true, true, true, true, false, false, false, false, false] ?_
       refine uOn (i := 7) (N := some 23) #[true, true, true, true, true, true, true, true, false, false, false, false] (fun K hK => ?_)
       refine uGs Tryz.func39 #[.agg #[.int .i64 a0_0, .int .i64 a0_1], .slice A0_2 y103.length c0_2] ?_
       with_reducible refine (spec_pzAll.calls k1 a0_0 a0_1 _ _ y103 t107 _ ?side1 ?side2 A10.out).mono ?_
       (case side1 => repeat (exact (Kd.C_below HR106.out HB.out)))
       (case side2 => exact HC106.out)
       rintro e w15 ⟨v108, rfl, ho0, hb⟩
       refine ⟨_, rfl, ?_⟩
       have HO109 := am (Kd.R_lower (Kd.R_new' ho0 (Kd.R_lt (uR HO_4))) (below_size uW))
       replace HO_4 := am (Kd.R_elder' (uR HO_4) (Kd.R_base ho0) hb)
       replace BK101 := uB BK101 hb
       replace HB := uS hb
       (try clear hb)
       (skip)
       (skip)
       (skip)
       (try clear ho0)
       obtain ⟨Ao16, co16, eo16⟩ := Kd.R_slice HO109.out
       (subst eo16)
       refine hK.out _ _ ⟨uT BK101 0, uT BK101 1, uT BK101 2⟩ (fun hHeld => ?_)
       clear hK K
       refine uNo (some 23) ?_
       refine uPu (i := 8) (N := some 24) #[true, true, true, true, true, true, true, true, true, false, false, false] ?_
       refine uOn (i := 9) (N := some 25) #[true, true, true, true, true, true, true, true, true, true, false, false] (fun K hK => ?_)
       refine value_ (w1 := ?_) (v := ?_) (by rfl) rfl ?_ ?_
       rotate_left 2
       ·go_simp
        constructor
        ·rfl
        ·rfl
       refine hK.out _ _ ⟨(blk_cell (blk_alloc BK101.out _) 0).trans rfl, (blk_cell (blk_alloc BK101.out _) 1).trans rfl, (blk_cell (blk_alloc BK101.out _) 2).trans rfl⟩ (fun hHeld => ?_)
       clear hK K
       refine uNo (some 25) ?_
       refine uOn (i := 10) (N := some 26) #[true, true, true, true, true, true, true, true, true, true, true, false] (fun K hK => ?_)
       refine Kd.R_append_step (Kd.int .i64) (w0 := w) w.heap.size (by rfl) (.tmp 16) (.tmp 25) 30 3 (.int .i64 0) 8 rfl Tryz.underlying30 info3 rfl (by decide) (by omega) u4 x4_1 (t107.length : Int) [.int .i64 (t107.length : Int)] (fun k_ => some k_ ≠ (.slice Ao16 t107.length co16 : Value).ownBlock) (fun _ => False) rfl rfl ?aP (fun _ hk => hk.elim) ?aF ?aO ?aB ?aS ?aL ?_
       (case aP => exact rfl)
       (case aB => exact uW)
       (case aF => exact (fun k_ hk => Kd.fresh' (Kd.R_lt (uR HO109)) k_ hk))
       (case aO => exact (by (with_reducible skip); exact Kd.R_mono HO_4.out (fun _ hk => hk.2)))
       (case aS => exact (below_size uW))
       (case aL => have := LMc11.out; omega)
       intro v111 w17 ho hb hg hat
       rw [← Ny110.out] at ho
       have HO112 := am (ho)
       replace BK101 := am (blk_grown (uP BK101) hg (Kd.R_ne HO_4.out BK101.out (by decide)))
       replace HO109 := am (Kd.R_after (ok := (fun _ => True)) (uR HO109) hg hat)
       replace HB := am (hb)
       clear HO_4
       clear ho hb hg hat
       refine hK.out _ _ ⟨uT BK101 0, uT BK101 1, uT BK101 2⟩ (fun hHeld => ?_)
       clear hK K
       refine uNo (some 26) ?_
       refine uPu (i := 11) (N := some 4) #[true, true, true, true, true, true, true, true, true, true, true, true] ?_
       refine done_ (done_of HT_.out (by kernel_rfl)) ?_
       try go_wp2
       go_roundg k1
       case measure => have := HK1.out; omega
       case rel => exact ⟨(y110), (wrap64 (x5_1 + 1)), (by rfl), H', ⟨by have := HK1.out; omega⟩, ⟨by (with_reducible skip); exact Kd.R_mono HO112.out (fun _ hk => trivial)⟩, ⟨by (with_reducible skip); exact BK101.out⟩, ⟨by exact uW⟩⟩
      ·rw [if_neg c11] at H
       exact absurd H (by simp)
     ·rw [if_neg c8] at H
      exact absurd H (by simp)
    ·rw [if_neg c7] at H
     have c7b0 : decide (x5_1 ≤ (l0_2.length : Int)) = false := decide_eq_false c7
     clear c7
     simp only [Option.some.injEq, Prod.mk.injEq] at H
     obtain ⟨rfl, rfl⟩ := H
     obtain ⟨hcz18_0, hcz18_1, hcz18_2, hfz18_0, hfz18_1, hfz18_2⟩ := uZ3 BK101
     go_wp2
     go_ret2
     exact ⟨_, uA, by (with_reducible skip); exact HO_4.out, by exact uW⟩
 ·replace c3 := Bool.eq_false_iff.mpr c3
  subst c3
  rw [if_neg (show ¬ (false = true) by decide)] at H
  simp only [Option.some.injEq, Prod.mk.injEq] at H
  obtain ⟨rfl, rfl⟩ := H
  go_enter Tryz.func19, Tryz.ntmps19
  go_wp2_with (first | ((with_reducible refine gate_dst (N := 1) rfl ?_); refine uX (N := 1) (cs := #[.int .i64 a0_0, .int .i64 a0_1, .slice A0_2 l0_2.length c0_2]) (t := 28) ?_; intro gb101 hg w19 hbox hb; have BK101 := am (hbox); have GW101 := uE hg; have GE101 := GW101; replace HB := uS hb; clear hb hbox hg; obtain ⟨hcz20_0, hcz20_1, hcz20_2, hfz20_0, hfz20_1, hfz20_2⟩ := uZ3 BK101) | ((with_reducible refine gate_callee (f := 38) rfl ?_); refine uGo (some 7) Tryz.func38 #[.agg #[.int .i64 a0_0, .int .i64 a0_1, .slice A0_2 l0_2.length c0_2]] ?_; (with_reducible refine (spec_pzGood.calls k a0_0 a0_1 _ _ l0_2 false _ ?side1 ?side2 A2.out).mono ?_); (case side1 => repeat (exact (Kd.C_below HR0_2.out HB.out))); (case side2 => exact HC0_2.out); rintro e w21 ⟨rfl, hb⟩; refine ⟨_, rfl, ?_⟩; replace BK101 := uB BK101 hb; replace HB := uS hb; (try clear hb)))
  go_ret2
  exact ⟨_, uA, uN, by exact uW⟩
mutual
def spec_BestClue.j0 : Nat → Bool → Int → Int → List (S46) → Option (Int × Bool)
 | 0, _, _, _, _ => none
 | k + 1, x16, x102000, x102001, x102002 => if x16 = true then (some (0, false)) else (spec_BestClue.l0 k 0 0 (x102002.length : Int) 0 x102000 x102001 x102002)
def spec_BestClue.l0 : Nat → Int → Int → Int → Int → Int → Int → List (S46) → Option (Int × Bool)
 | 0, _, _, _, _, _, _, _ => none
 | k + 1, x4, x5, x19, x20, x102000, x102001, x102002 => if x20 < x19 then (if 0 ≤ x20 then (if x20 ≤ (wrap64 (x20 + 1)) then (if (wrap64 (x20 + 1)) ≤ (x102002.length : Int) then ((spec_pzAll.f k x102000 x102001 ((x102002.take ((wrap64 (x20 + 1)) : Int).toNat).drop (x20 : Int).toNat)).bind fun t107 => (if x20 = 0 then (spec_BestClue.l0 k x20 (t107.length : Int) x19 (wrap64 (x20 + 1)) x102000 x102001 x102002) else (if (t107.length : Int) < x5 then (spec_BestClue.l0 k x20 (t107.length : Int) x19 (wrap64 (x20 + 1)) x102000 x102001 x102002) else (spec_BestClue.l0 k x4 x5 x19 (wrap64 (x20 + 1)) x102000 x102001 x102002)))) else (none)) else (none)) else (none)) else (some (x4, true))
end
def spec_BestClue.f (k : Nat) (a0_0 : Int) (a0_1 : Int) (l0_2 : List (S46)) : Option (Int × Bool) := (spec_pzGood.f k a0_0 a0_1 l0_2).bind fun t102 => (if t102 = true then (spec_BestClue.j0 k ((l0_2.length : Int) == 0) a0_0 a0_1 l0_2) else (spec_BestClue.j0 k true a0_0 a0_1 l0_2))
def spec_BestClue.T7 : Bool × List (List Nat × List Nat) := (true, [([], []), ([0], [0]), ([], []), ([2], [2]), ([], []), ([], []), ([5], [5]), ([3, 4, 6], [3, 4, 6]), ([1, 7], [1, 7]), ([8], [8]), ([9, 8, 0, 1, 2, 3, 4, 5, 6, 7, 8, 9], [9])])
def spec_BestClue.B7 : List Nat := [0, 1, 0, 4, 0, 0, 32, 124, 255, 511, 1023]
theorem spec_BestClue.tab7 : rtab .any (opsOf Tryz.f21 7) = spec_BestClue.T7 := by kernel_rfl
theorem spec_BestClue.bits7 : waitsOk spec_BestClue.T7.2 spec_BestClue.B7 = true := by kernel_rfl
theorem spec_BestClue.calls (k : Nat) (a0_0 : Int) (a0_1 : Int) (A0_2 : Option Addr) (c0_2 : Nat) (l0_2 : List (S46)) (r1 : Int) (r2 : Bool) (w : World) (hr0_2 : Kd.C k46 w A0_2 l0_2.length l0_2) (hc0_2 : l0_2.length ≤ c0_2) (h : spec_BestClue.f k a0_0 a0_1 l0_2 = some (r1, r2)) :
  Calls Tryz.prog 21 #[.agg #[.int .i64 a0_0, .int .i64 a0_1, .slice A0_2 l0_2.length c0_2]] w fun e w' => e = .returned (.tuple #[.int .i64 r1, .bool r2]) ∧ Below w.heap.size w w' := by
 have hu28 := Tryz.underlying28
 have hu25 := Tryz.underlying25
 have HR0_2 := am hr0_2
 have HC0_2 := am hc0_2
 clear hr0_2 hc0_2
 have HB := am (Below.refl w.heap.size w)
 have H := h
 clear h
 unfold spec_BestClue.f at H
 have HC2 := am H
 clear H
 go_enter Tryz.func21, Tryz.ntmps21
 go_upto_region 1 with (((with_reducible refine gate_dst (N := 1) rfl ?_); (try (refine gate_guard (by rfl) ?_; dsimp only)); refine uX (N := 1) (cs := #[.int .i64 a0_0, .int .i64 a0_1, .slice A0_2 l0_2.length c0_2]) (t := 28) ?_; intro gb101 hg w3 hbox hb; have BK101 := am (hbox); have GW101 := uE hg; have GE101 := GW101; replace HB := uS hb; clear hb hbox hg))
 (skip)
 go_cut [16] (fun v16 wc => ∃ (kq : Nat) (x16_1 : Bool), v16 = .bool x16_1 ∧ Aside0 (spec_BestClue.j0 kq x16_1 a0_0 a0_1 l0_2 = some (r1, r2)) ∧ Aside0 (kq ≤ k) ∧ Aside0 (wc.heap[gb101]? = some (.cells #[.int .i64 a0_0, .int .i64 a0_1, (.slice A0_2 l0_2.length c0_2)] 28 (0, 0))) ∧ Aside0 (Below w.heap.size w wc))
 case first =>
  have H := HC2.out
  clear HC2
  obtain ⟨t102, A40, H⟩ := bH H
  have A4 := am A40
  clear A40
  by_cases c5 : t102 = true
  ·subst c5
   rw [if_pos rfl] at H
   have H' := am H
   clear H
   obtain ⟨hcz6_0, hcz6_1, hcz6_2, hfz6_0, hfz6_1, hfz6_2⟩ := uZ3 BK101
   go_wp2_with (((with_reducible refine gate_callee (f := 38) rfl ?_); refine uGo (some 9) Tryz.func38 #[.agg #[.int .i64 a0_0, .int .i64 a0_1, .slice A0_2 l0_2.length c0_2]] ?_; (with_reducible refine (spec_pzGood.calls k a0_0 a0_1 _ _ l0_2 true _ ?side1 ?side2 A4.out).mono ?_); (case side1 => repeat (exact (Kd.C_below HR0_2.out HB.out))); (case side2 => exact HC0_2.out); rintro e w7 ⟨rfl, hb⟩; refine ⟨_, rfl, ?_⟩; replace BK101 := uB BK101 hb; replace HB := uS hb; (try clear hb); obtain ⟨hcz8_0, hcz8_1, hcz8_2, hfz8_0, hfz8_1, hfz8_2⟩ := uZ3 BK101))
   go_meet
   case rel => exact ⟨_, (((l0_2.length : Int) == 0)), (by rfl), H', ⟨by omega⟩, ⟨by (with_reducible skip); exact BK101.out⟩, ⟨by exact uW⟩⟩
  ·replace c5 := Bool.eq_false_iff.mpr c5
   subst c5
   rw [if_neg (show ¬ (false = true) by decide)] at H
   have H' := am H
   clear H
   obtain ⟨hcz9_0, hcz9_1, hcz9_2, hfz9_0, hfz9_1, hfz9_2⟩ := uZ3 BK101
   go_wp2_with (((with_reducible refine gate_callee (f := 38) rfl ?_); refine uGo (some 9) Tryz.func38 #[.agg #[.int .i64 a0_0, .int .i64 a0_1, .slice A0_2 l0_2.length c0_2]] ?_; (with_reducible refine (spec_pzGood.calls k a0_0 a0_1 _ _ l0_2 false _ ?side1 ?side2 A4.out).mono ?_); (case side1 => repeat (exact (Kd.C_below HR0_2.out HB.out))); (case side2 => exact HC0_2.out); rintro e w10 ⟨rfl, hb⟩; refine ⟨_, rfl, ?_⟩; replace BK101 := uB BK101 hb; replace HB := uS hb; (try clear hb)))
   go_meet
   case rel => exact ⟨_, (true), (by rfl), H', ⟨by omega⟩, ⟨by (with_reducible skip); exact BK101.out⟩, ⟨by exact uW⟩⟩
 case rest =>
  clear HC2
  obtain ⟨kq, x16_1, rfl, HA, HJ1, BK101, HB⟩ := hcut
  cases kq with
  | zero => exact absurd HA.out (by simp [spec_BestClue.j0])
  | succ kj1 =>
   have H := HA.out
   clear HA
   simp only [spec_BestClue.j0] at H
   by_cases c11 : x16_1 = true
   ·subst c11
    rw [if_pos rfl] at H
    simp only [Option.some.injEq, Prod.mk.injEq] at H
    obtain ⟨rfl, rfl⟩ := H
    go_wp2
    go_ret2
    exact ⟨uA, by exact uW⟩
   ·replace c11 := Bool.eq_false_iff.mpr c11
    subst c11
    rw [if_neg (show ¬ (false = true) by decide)] at H
    have H' := am H
    clear H
    obtain ⟨hcz12_0, hcz12_1, hcz12_2, hfz12_0, hfz12_1, hfz12_2⟩ := uZ3 BK101
    go_wp2
    go_loopg [4, 5, 20] kj1 (fun kq v4 v5 v20 w' => ∃ (x4_2 : Int) (x5_2 : Int) (x20_2 : Int), v4 = .int .i64 x4_2 ∧ v5 = .int .i64 x5_2 ∧ v20 = .int .i64 x20_2 ∧ Aside0 (spec_BestClue.l0 kq x4_2 x5_2 (l0_2.length : Int) x20_2 a0_0 a0_1 l0_2 = some (r1, r2)) ∧ Aside0 (kq ≤ kj1) ∧ Aside0 (w'.heap[gb101]? = some (.cells #[.int .i64 a0_0, .int .i64 a0_1, (.slice A0_2 l0_2.length c0_2)] 28 (0, 0))) ∧ Aside0 (Below w.heap.size w w'))
    case atStart => exact ⟨(0), (0), (0), (by rfl), (by rfl), (by rfl), H', ⟨Nat.le_refl _⟩, ⟨by (with_reducible skip); exact BK101.out⟩, ⟨by exact uW⟩⟩
    case round =>
     clear H'
     try clear hcz12_0
     try clear hcz12_1
     try clear hcz12_2
     try clear hfz12_0
     try clear hfz12_1
     try clear hfz12_2
     obtain ⟨x4_2, x5_2, x20_2, rfl, rfl, rfl, HA, HK2, BK101, HB⟩ := hrel
     cases gk with
     | zero => exact absurd HA.out (by simp [spec_BestClue.l0])
     | succ k2 =>
      have H := HA.out
      clear HA
      simp only [spec_BestClue.l0] at H
      by_cases c13 : x20_2 < (l0_2.length : Int)
      ·rw [if_pos c13] at H
       have c13b0 : decide (x20_2 < (l0_2.length : Int)) = true := decide_eq_true c13
       clear c13
       by_cases c14 : 0 ≤ x20_2
       ·rw [if_pos c14] at H
        have c14b0 := eq_true c14
        have c14b1 : decide (0 ≤ x20_2) = true := decide_eq_true c14
        clear c14
        by_cases c15 : x20_2 ≤ (wrap64 (x20_2 + 1))
        ·rw [if_pos c15] at H
         have c15b0 := eq_true c15
         have c15b1 : decide (x20_2 ≤ (wrap64 (x20_2 + 1))) = true := decide_eq_true c15
         by_cases c16 : (wrap64 (x20_2 + 1)) ≤ (l0_2.length : Int)
         ·rw [if_pos c16] at H
          have c16b0 := eq_true c16
          have c16b1 : decide ((wrap64 (x20_2 + 1)) ≤ (l0_2.length : Int)) = true := decide_eq_true c16
          obtain ⟨y103, hy103⟩ : ∃ y_ : List (S46), y_ = ((l0_2.take ((wrap64 (x20_2 + 1)) : Int).toNat).drop (x20_2 : Int).toNat) := ⟨_, rfl⟩
          replace H : ((spec_pzAll.f k2 a0_0 a0_1 y103).bind fun t107 => (if x20_2 = 0 then (spec_BestClue.l0 k2 x20_2 (t107.length : Int) (l0_2.length : Int) (wrap64 (x20_2 + 1)) a0_0 a0_1 l0_2) else (if (t107.length : Int) < x5_2 then (spec_BestClue.l0 k2 x20_2 (t107.length : Int) (l0_2.length : Int) (wrap64 (x20_2 + 1)) a0_0 a0_1 l0_2) else (spec_BestClue.l0 k2 x4_2 x5_2 (l0_2.length : Int) (wrap64 (x20_2 + 1)) a0_0 a0_1 l0_2)))) = some (r1, r2) := by (rw [hy103]; with_reducible exact H)
          have Ny103 := am hy103
          clear hy103
          obtain ⟨t107, A170, H⟩ := bH H
          have A17 := am A170
          clear A170
          by_cases c18 : x20_2 = 0
          ·rw [if_pos c18] at H
           have c18b0 : (x20_2 == 0) = true := beq_iff_eq.mpr c18
           have c18b1 : (x20_2 != 0) = false := bne_eq_false_iff_eq.mpr c18
           clear c18
           have H' := am H
           clear H
           try go_wp2
           replace BK101 := am (blk_drew BK101.out)
           replace HB := am (below_drew1 HB.out)
           have q20 : ((wrap64 (x20_2 + 1)) : Int) ≤ ((l0_2.length : Int) : Int) := of_decide_eq_true (by (with_reducible assumption))
           obtain ⟨i020, hi020, _, hsz20, _⟩ := info_parts info46
           have hroom20 : l0_2.length ≤ c0_2 := HC0_2.out
           have hC20 : Kd.C k46 _ A0_2 l0_2.length l0_2 := HR0_2.out
           have ql20 : (x20_2 : Int) ≤ ((wrap64 (x20_2 + 1)) : Int) := of_decide_eq_true (by (with_reducible assumption))
           have q020 : (0 : Int) ≤ (x20_2 : Int) := of_decide_eq_true (by (with_reducible assumption))
           have hcut20 := cut_mid (P := Tryz.prog) 26 46 .i64 .i64 Tryz.underlying26 hi020 3 hsz20 A0_2 l0_2.length c0_2 x20_2 (wrap64 (x20_2 + 1)) q020 ql20 q20 hroom20
           have hr20 := Kd.C_mid (lo := (x20_2 : Int).toNat) (hi := ((wrap64 (x20_2 + 1)) : Int).toNat) (c := c0_2) hC20 (by omega) (by omega) hroom20
           obtain ⟨A20, hA20⟩ : ∃ A1, A1 = (if c0_2 = (x20_2 : Int).toNat then A0_2 else (A0_2 : Option Addr).map (·.add ((x20_2 : Int).toNat * 3))) := ⟨_, rfl⟩
           obtain ⟨c20, hc20⟩ : ∃ c1, c1 = c0_2 - (x20_2 : Int).toNat := ⟨_, rfl⟩
           have hy20 : y103.length = ((wrap64 (x20_2 + 1)) : Int).toNat - (x20_2 : Int).toNat := (by rw [Ny103.out, List.length_drop, List.length_take] <;> omega)
           rw [show ((l0_2).take ((wrap64 (x20_2 + 1)) : Int).toNat).drop (x20_2 : Int).toNat = y103 from Ny103.out.symm] at hr20
           replace hr20 : Kd.C k46 _ A20 y103.length y103 := (by rw [hA20]; exact hr20)
           rw [← hy20, ← hA20, ← hc20] at hcut20
           have HR106 := am hr20
           have HC106 := am (show y103.length ≤ c20 from by rw [hy20, hc20]; exact Nat.sub_le_sub_right (Nat.le_trans (by omega) hroom20) _)
           clear hr20 hC20 hroom20 hi020 hsz20 hc20
           have KY20 := am hy20
           have KA20 := am hA20
           clear hy20 hA20
           replace q20 := eq_true q20
           refine start_ (n := 11) (S := fun w' => w'.cell? ⟨gb101, 0, none⟩ = some (.int .i64 a0_0) ∧ w'.cell? ⟨gb101, 1, none⟩ = some (.int .i64 a0_1) ∧ w'.cell? ⟨gb101, 2, none⟩ = some (.slice A0_2 l0_2.length c0_2)) (ds := []) #[false, false, false, false, false, false, false, false, false, false, false] (by kernel_rfl) rfl rfl ⟨uT BK101 0, uT BK101 1, uT BK101 2⟩ (fun hHeld => ?_); refine with_tabW spec_BestClue.tab7 spec_BestClue.bits7 (fun HT_ HW_ => ?_)
           generalize wr.drew = w19 at BK101 HB HR106 hHeld ⊢
           refine uPu (i := 0) (N := some 23) #[true, false, false, false, false, false, false, false, false, false, false] ?_
           refine uPu (i := 2) (N := some 25) #[true, false, true, false, false, false, false, false, false, false, false] ?_
           refine uPu (i := 4) (N := some 27) #[true, false, true, false, true, false, false, false, false, false, false] ?_
           refine uPu (i := 5) (N := some 28) #[true, false, true, false, true, true, false, false, false, false, false] ?_
           refine uPu (i := 6) (N := some 29) #[true, false, true, false, true, true, true, false, false, false, false] ?_
           refine uTk (i := 1) (N := some 24) #[true, true, true, false, true, true, true, false, false, false, false] hHeld ?_
           refine uTk (i := 3) (N := some 26) #[true, true, true, true, true, true, true, false, false, false, false] hHeld ?_
           refine uPu (i := 7) (N := some 30) #[true, true, true, true, true, true, true, true, false, false, false] ?_
           refine uOn (i := 8) (N := some 31) #[true, true, true, true, true, true, true, true, true, false, false] (fun K hK => ?_)
           refine uGs Tryz.func39 #[.agg #[.int .i64 a0_0, .int .i64 a0_1], .slice A20 y103.length c20] ?_
           with_reducible refine (spec_pzAll.calls k2 a0_0 a0_1 _ _ y103 t107 _ ?side1 ?side2 A17.out).mono ?_
           (case side1 => repeat (exact (Kd.C_below HR106.out HB.out)))
           (case side2 => exact HC106.out)
           rintro e w21 ⟨v108, rfl, ho0, hb⟩
           refine ⟨_, rfl, ?_⟩
           have HO109 := am (Kd.R_lower ho0 (below_size uW))
           replace BK101 := uB BK101 hb
           replace HB := uS hb
           (try clear hb)
           (skip)
           (skip)
           (skip)
           (try clear ho0)
           obtain ⟨Ao22, co22, eo22⟩ := Kd.R_slice HO109.out
           (subst eo22)
           refine hK.out _ _ ⟨uT BK101 0, uT BK101 1, uT BK101 2⟩ (fun hHeld => ?_)
           clear hK K
           refine uNo (some 31) ?_
           refine uPu (i := 9) (N := some 32) #[true, true, true, true, true, true, true, true, true, true, false] ?_
           refine uPu (i := 10) (N := some 7) #[true, true, true, true, true, true, true, true, true, true, true] ?_
           refine done_ (done_of HT_.out (by kernel_rfl)) ?_
           try go_wp2
           go_roundg k2
           case measure => have := HJ1.out; have := HK2.out; omega
           case rel => exact ⟨(x20_2), ((t107.length : Int)), (wrap64 (x20_2 + 1)), (by rfl), (by rfl), (by rfl), H', ⟨by have := HJ1.out; have := HK2.out; omega⟩, ⟨by (with_reducible skip); exact BK101.out⟩, ⟨by exact uW⟩⟩
          ·rw [if_neg c18] at H
           have c18b0 : (x20_2 == 0) = false := beq_eq_false_iff_ne.mpr c18
           have c18b1 : (x20_2 != 0) = true := bne_iff_ne.mpr c18
           by_cases c23 : (t107.length : Int) < x5_2
           ·rw [if_pos c23] at H
            have c23b0 : decide ((t107.length : Int) < x5_2) = true := decide_eq_true c23
            clear c23
            have H' := am H
            clear H
            try go_wp2
            replace BK101 := am (blk_drew BK101.out)
            replace HB := am (below_drew1 HB.out)
            have q25 : ((wrap64 (x20_2 + 1)) : Int) ≤ ((l0_2.length : Int) : Int) := of_decide_eq_true (by (with_reducible assumption))
            obtain ⟨i025, hi025, _, hsz25, _⟩ := info_parts info46
            have hroom25 : l0_2.length ≤ c0_2 := HC0_2.out
            have hC25 : Kd.C k46 _ A0_2 l0_2.length l0_2 := HR0_2.out
            have ql25 : (x20_2 : Int) ≤ ((wrap64 (x20_2 + 1)) : Int) := of_decide_eq_true (by (with_reducible assumption))
            have q025 : (0 : Int) ≤ (x20_2 : Int) := of_decide_eq_true (by (with_reducible assumption))
            have hcut25 := cut_mid (P := Tryz.prog) 26 46 .i64 .i64 Tryz.underlying26 hi025 3 hsz25 A0_2 l0_2.length c0_2 x20_2 (wrap64 (x20_2 + 1)) q025 ql25 q25 hroom25
            have hr25 := Kd.C_mid (lo := (x20_2 : Int).toNat) (hi := ((wrap64 (x20_2 + 1)) : Int).toNat) (c := c0_2) hC25 (by omega) (by omega) hroom25
            obtain ⟨A25, hA25⟩ : ∃ A1, A1 = (if c0_2 = (x20_2 : Int).toNat then A0_2 else (A0_2 : Option Addr).map (·.add ((x20_2 : Int).toNat * 3))) := ⟨_, rfl⟩
            obtain ⟨c25, hc25⟩ : ∃ c1, c1 = c0_2 - (x20_2 : Int).toNat := ⟨_, rfl⟩
            have hy25 : y103.length = ((wrap64 (x20_2 + 1)) : Int).toNat - (x20_2 : Int).toNat := (by rw [Ny103.out, List.length_drop, List.length_take] <;> omega)
            rw [show ((l0_2).take ((wrap64 (x20_2 + 1)) : Int).toNat).drop (x20_2 : Int).toNat = y103 from Ny103.out.symm] at hr25
            replace hr25 : Kd.C k46 _ A25 y103.length y103 := (by rw [hA25]; exact hr25)
            rw [← hy25, ← hA25, ← hc25] at hcut25
            have HR106 := am hr25
            have HC106 := am (show y103.length ≤ c25 from by rw [hy25, hc25]; exact Nat.sub_le_sub_right (Nat.le_trans (by omega) hroom25) _)
            clear hr25 hC25 hroom25 hi025 hsz25 hc25
            have KY25 := am hy25
            have KA25 := am hA25
            clear hy25 hA25
            replace q25 := eq_true q25
            refine start_ (n := 11) (S := fun w' => w'.cell? ⟨gb101, 0, none⟩ = some (.int .i64 a0_0) ∧ w'.cell? ⟨gb101, 1, none⟩ = some (.int .i64 a0_1) ∧ w'.cell? ⟨gb101, 2, none⟩ = some (.slice A0_2 l0_2.length c0_2)) (ds := []) #[false, false, false, false, false, false, false, false, false, false, false] (by kernel_rfl) rfl rfl ⟨uT BK101 0, uT BK101 1, uT BK101 2⟩ (fun hHeld => ?_); refine with_tabW spec_BestClue.tab7 spec_BestClue.bits7 (fun HT_ HW_ => ?_)
            generalize wr.drew = w24 at BK101 HB HR106 hHeld ⊢
            refine uPu (i := 0) (N := some 23) #[true, false, false, false, false, false, false, false, false, false, false] ?_
            refine uPu (i := 2) (N := some 25) #[true, false, true, false, false, false, false, false, false, false, false] ?_
            refine uPu (i := 4) (N := some 27) #[true, false, true, false, true, false, false, false, false, false, false] ?_
            refine uPu (i := 5) (N := some 28) #[true, false, true, false, true, true, false, false, false, false, false] ?_
            refine uPu (i := 6) (N := some 29) #[true, false, true, false, true, true, true, false, false, false, false] ?_
            refine uTk (i := 1) (N := some 24) #[true, true, true, false, true, true, true, false, false, false, false] hHeld ?_
            refine uTk (i := 3) (N := some 26) #[true, true, true, true, true, true, true, false, false, false, false] hHeld ?_
            refine uPu (i := 7) (N := some 30) #[true, true, true, true, true, true, true, true, false, false, false] ?_
            refine uOn (i := 8) (N := some 31) #[true, true, true, true, true, true, true, true, true, false, false] (fun K hK => ?_)
            refine uGs Tryz.func39 #[.agg #[.int .i64 a0_0, .int .i64 a0_1], .slice A25 y103.length c25] ?_
            with_reducible refine (spec_pzAll.calls k2 a0_0 a0_1 _ _ y103 t107 _ ?side1 ?side2 A17.out).mono ?_
            (case side1 => repeat (exact (Kd.C_below HR106.out HB.out)))
            (case side2 => exact HC106.out)
            rintro e w26 ⟨v108, rfl, ho0, hb⟩
            refine ⟨_, rfl, ?_⟩
            have HO109 := am (Kd.R_lower ho0 (below_size uW))
            replace BK101 := uB BK101 hb
            replace HB := uS hb
            (try clear hb)
            (skip)
            (skip)
            (skip)
            (try clear ho0)
            obtain ⟨Ao27, co27, eo27⟩ := Kd.R_slice HO109.out
            (subst eo27)
            refine hK.out _ _ ⟨uT BK101 0, uT BK101 1, uT BK101 2⟩ (fun hHeld => ?_)
            clear hK K
            refine uNo (some 31) ?_
            refine uPu (i := 9) (N := some 32) #[true, true, true, true, true, true, true, true, true, true, false] ?_
            refine uPu (i := 10) (N := some 7) #[true, true, true, true, true, true, true, true, true, true, true] ?_
            refine done_ (done_of HT_.out (by kernel_rfl)) ?_
            try go_wp2
            go_roundg k2
            case measure => have := HJ1.out; have := HK2.out; omega
            case rel => exact ⟨(x20_2), ((t107.length : Int)), (wrap64 (x20_2 + 1)), (by rfl), (by rfl), (by rfl), H', ⟨by have := HJ1.out; have := HK2.out; omega⟩, ⟨by (with_reducible skip); exact BK101.out⟩, ⟨by exact uW⟩⟩
           ·rw [if_neg c23] at H
            have c23b0 : decide ((t107.length : Int) < x5_2) = false := decide_eq_false c23
            clear c23
            have H' := am H
            clear H
            try go_wp2
            replace BK101 := am (blk_drew BK101.out)
            replace HB := am (below_drew1 HB.out)
            have q29 : ((wrap64 (x20_2 + 1)) : Int) ≤ ((l0_2.length : Int) : Int) := of_decide_eq_true (by (with_reducible assumption))
            obtain ⟨i029, hi029, _, hsz29, _⟩ := info_parts info46
            have hroom29 : l0_2.length ≤ c0_2 := HC0_2.out
            have hC29 : Kd.C k46 _ A0_2 l0_2.length l0_2 := HR0_2.out
            have ql29 : (x20_2 : Int) ≤ ((wrap64 (x20_2 + 1)) : Int) := of_decide_eq_true (by (with_reducible assumption))
            have q029 : (0 : Int) ≤ (x20_2 : Int) := of_decide_eq_true (by (with_reducible assumption))
            have hcut29 := cut_mid (P := Tryz.prog) 26 46 .i64 .i64 Tryz.underlying26 hi029 3 hsz29 A0_2 l0_2.length c0_2 x20_2 (wrap64 (x20_2 + 1)) q029 ql29 q29 hroom29
            have hr29 := Kd.C_mid (lo := (x20_2 : Int).toNat) (hi := ((wrap64 (x20_2 + 1)) : Int).toNat) (c := c0_2) hC29 (by omega) (by omega) hroom29
            obtain ⟨A29, hA29⟩ : ∃ A1, A1 = (if c0_2 = (x20_2 : Int).toNat then A0_2 else (A0_2 : Option Addr).map (·.add ((x20_2 : Int).toNat * 3))) := ⟨_, rfl⟩
            obtain ⟨c29, hc29⟩ : ∃ c1, c1 = c0_2 - (x20_2 : Int).toNat := ⟨_, rfl⟩
            have hy29 : y103.length = ((wrap64 (x20_2 + 1)) : Int).toNat - (x20_2 : Int).toNat := (by rw [Ny103.out, List.length_drop, List.length_take] <;> omega)
            rw [show ((l0_2).take ((wrap64 (x20_2 + 1)) : Int).toNat).drop (x20_2 : Int).toNat = y103 from Ny103.out.symm] at hr29
            replace hr29 : Kd.C k46 _ A29 y103.length y103 := (by rw [hA29]; exact hr29)
            rw [← hy29, ← hA29, ← hc29] at hcut29
            have HR106 := am hr29
            have HC106 := am (show y103.length ≤ c29 from by rw [hy29, hc29]; exact Nat.sub_le_sub_right (Nat.le_trans (by omega) hroom29) _)
            clear hr29 hC29 hroom29 hi029 hsz29 hc29
            have KY29 := am hy29
            have KA29 := am hA29
            clear hy29 hA29
            replace q29 := eq_true q29
            refine start_ (n := 11) (S := fun w' => w'.cell? ⟨gb101, 0, none⟩ = some (.int .i64 a0_0) ∧ w'.cell? ⟨gb101, 1, none⟩ = some (.int .i64 a0_1) ∧ w'.cell? ⟨gb101, 2, none⟩ = some (.slice A0_2 l0_2.length c0_2)) (ds := []) #[false, false, false, false, false, false, false, false, false, false, false] (by kernel_rfl) rfl rfl ⟨uT BK101 0, uT BK101 1, uT BK101 2⟩ (fun hHeld => ?_); refine with_tabW spec_BestClue.tab7 spec_BestClue.bits7 (fun HT_ HW_ => ?_)
            generalize wr.drew = w28 at BK101 HB HR106 hHeld ⊢
            refine uPu (i := 0) (N := some 23) #[true, false, false, false, false, false, false, false, false, false, false] ?_
            refine uPu (i := 2) (N := some 25) #[true, false, true, false, false, false, false, false, false, false, false] ?_
            refine uPu (i := 4) (N := some 27) #[true, false, true, false, true, false, false, false, false, false, false] ?_
            refine uPu (i := 5) (N := some 28) #[true, false, true, false, true, true, false, false, false, false, false] ?_
            refine uPu (i := 6) (N := some 29) #[true, false, true, false, true, true, true, false, false, false, false] ?_
            refine uTk (i := 1) (N := some 24) #[true, true, true, false, true, true, true, false, false, false, false] hHeld ?_
            refine uTk (i := 3) (N := some 26) #[true, true, true, true, true, true, true, false, false, false, false] hHeld ?_
            refine uPu (i := 7) (N := some 30) #[true, true, true, true, true, true, true, true, false, false, false] ?_
            refine uOn (i := 8) (N := some 31) #[true, true, true, true, true, true, true, true, true, false, false] (fun K hK => ?_)
            refine uGs Tryz.func39 #[.agg #[.int .i64 a0_0, .int .i64 a0_1], .slice A29 y103.length c29] ?_
            with_reducible refine (spec_pzAll.calls k2 a0_0 a0_1 _ _ y103 t107 _ ?side1 ?side2 A17.out).mono ?_
            (case side1 => repeat (exact (Kd.C_below HR106.out HB.out)))
            (case side2 => exact HC106.out)
            rintro e w30 ⟨v108, rfl, ho0, hb⟩
            refine ⟨_, rfl, ?_⟩
            have HO109 := am (Kd.R_lower ho0 (below_size uW))
            replace BK101 := uB BK101 hb
            replace HB := uS hb
            (try clear hb)
            (skip)
            (skip)
            (skip)
            (try clear ho0)
            obtain ⟨Ao31, co31, eo31⟩ := Kd.R_slice HO109.out
            (subst eo31)
            refine hK.out _ _ ⟨uT BK101 0, uT BK101 1, uT BK101 2⟩ (fun hHeld => ?_)
            clear hK K
            refine uNo (some 31) ?_
            refine uPu (i := 9) (N := some 32) #[true, true, true, true, true, true, true, true, true, true, false] ?_
            refine uPu (i := 10) (N := some 7) #[true, true, true, true, true, true, true, true, true, true, true] ?_
            refine done_ (done_of HT_.out (by kernel_rfl)) ?_
            try go_wp2
            go_roundg k2
            case measure => have := HJ1.out; have := HK2.out; omega
            case rel => exact ⟨(x4_2), (x5_2), (wrap64 (x20_2 + 1)), (by rfl), (by rfl), (by rfl), H', ⟨by have := HJ1.out; have := HK2.out; omega⟩, ⟨by (with_reducible skip); exact BK101.out⟩, ⟨by exact uW⟩⟩
         ·rw [if_neg c16] at H
          exact absurd H (by simp)
        ·rw [if_neg c15] at H
         exact absurd H (by simp)
       ·rw [if_neg c14] at H
        exact absurd H (by simp)
      ·rw [if_neg c13] at H
       have c13b0 : decide (x20_2 < (l0_2.length : Int)) = false := decide_eq_false c13
       clear c13
       simp only [Option.some.injEq, Prod.mk.injEq] at H
       obtain ⟨rfl, rfl⟩ := H
       go_wp2
       go_ret2
       exact ⟨uA, by exact uW⟩
mutual
def spec_l1Cur_spoilt.l0 : Nat → ByteArray → ByteArray → Int → List Int → Int → Int → Option (ByteArray × Int × Int)
 | 0, _, _, _, _, _, _ => none
 | k + 1, x1, x2, x7, x1000, x1001, x1002 => if x7 > 0 then (spec_l1Cur_spoilt.j1 k x1 x2 x7 (decide ((x1.size : Int) > 0)) x1000 x1001 x1002) else (spec_l1Cur_spoilt.j1 k x1 x2 x7 false x1000 x1001 x1002)
def spec_l1Cur_spoilt.j1 : Nat → ByteArray → ByteArray → Int → Bool → List Int → Int → Int → Option (ByteArray × Int × Int)
 | 0, _, _, _, _, _, _, _ => none
 | k + 1, x1, x2, x7, x19, x1000, x1001, x1002 => if x19 = true then ((spec_l1Cur_pick.f x1000 x1001 x1002 (x1.size : Int)).bind fun bt104 => ((spec_l1Cur_pick.f x1000 bt104.2.1 bt104.2.2 (x2.size : Int)).bind fun bt107 => (if 0 ≤ bt107.1 then (if bt107.1 < (x2.size : Int) then ((some (([bt x2 bt107.1] : List Int) : List Int)).bind fun y110 => ((spec_l1Cur_pick.f x1000 bt107.2.1 bt107.2.2 3).bind fun bt113 => (if bt113.1 = 0 then (if 0 ≤ bt104.1 then (if bt104.1 ≤ (x1.size : Int) then (if (x1.extract 0 (bt104.1 : Int).toNat).size + (strOfNums y110).size ≤ 9223372036854775807 then (if ((x1.extract 0 (bt104.1 : Int).toNat) ++ (strOfNums y110)).size + (x1.extract (bt104.1 : Int).toNat x1.size).size ≤ 9223372036854775807 then (spec_l1Cur_spoilt.l0 k (((x1.extract 0 (bt104.1 : Int).toNat) ++ (strOfNums y110)) ++ (x1.extract (bt104.1 : Int).toNat x1.size)) x2 (wrap64 (x7 - 1)) x1000 bt113.2.1 bt113.2.2) else (none)) else (none)) else (none)) else (none)) else (if bt113.1 = 1 then (if 0 ≤ bt104.1 then (if bt104.1 ≤ (x1.size : Int) then (if (x1.extract 0 (bt104.1 : Int).toNat).size + (strOfNums y110).size ≤ 9223372036854775807 then (if 0 ≤ (wrap64 (bt104.1 + 1)) then (if (wrap64 (bt104.1 + 1)) ≤ (x1.size : Int) then (if ((x1.extract 0 (bt104.1 : Int).toNat) ++ (strOfNums y110)).size + (x1.extract ((wrap64 (bt104.1 + 1)) : Int).toNat x1.size).size ≤ 9223372036854775807 then (spec_l1Cur_spoilt.l0 k (((x1.extract 0 (bt104.1 : Int).toNat) ++ (strOfNums y110)) ++ (x1.extract ((wrap64 (bt104.1 + 1)) : Int).toNat x1.size)) x2 (wrap64 (x7 - 1)) x1000 bt113.2.1 bt113.2.2) else (none)) else (none)) else (none)) else (none)) else (none)) else (none)) else (if 0 ≤ bt104.1 then (if bt104.1 ≤ (x1.size : Int) then (if 0 ≤ (wrap64 (bt104.1 + 1)) then (if (wrap64 (bt104.1 + 1)) ≤ (x1.size : Int) then (if (x1.extract 0 (bt104.1 : Int).toNat).size + (x1.extract ((wrap64 (bt104.1 + 1)) : Int).toNat x1.size).size ≤ 9223372036854775807 then (spec_l1Cur_spoilt.l0 k ((x1.extract 0 (bt104.1 : Int).toNat) ++ (x1.extract ((wrap64 (bt104.1 + 1)) : Int).toNat x1.size)) x2 (wrap64 (x7 - 1)) x1000 bt113.2.1 bt113.2.2) else (none)) else (none)) else (none)) else (none)) else (none)))))) else (none)) else (none)))) else (some (x1, x1001, x1002))
end
def spec_l1Cur_spoilt.f (k : Nat) (s0_0 : List Int) (s0_1 : Int) (s0_2 : Int) (a1 : ByteArray) (a2 : ByteArray) : Option (ByteArray × Int × Int) := (spec_l1Cur_pick.f s0_0 s0_1 s0_2 2).bind fun bt101 => (spec_l1Cur_spoilt.l0 k a1 a2 (wrap64 (1 + bt101.1)) s0_0 bt101.2.1 bt101.2.2)
theorem spec_l1Cur_spoilt.calls (k : Nat) (g : Nat) (s0_0 : List Int) (s0_1 : Int) (s0_2 : Int) (a1 : ByteArray) (a2 : ByteArray) (r1 : ByteArray) (r2 : Int) (r3 : Int) (w0 w : World) (hI : IsS75 w0 w g s0_0 s0_1 s0_2) (hB : Below w0.heap.size w0 w) (h : spec_l1Cur_spoilt.f k s0_0 s0_1 s0_2 a1 a2 = some (r1, r2, r3)) :
  Calls Tryz.prog 60 #[.pointer (some ⟨g, 0, none⟩), .string a1, .string a2] w fun e w' => e = .returned (.string r1) ∧ IsS75 w0 w' g s0_0 r2 r3 ∧ Below w0.heap.size w0 w' ∧ KeepBut w w' g none := by
 have HI0 := am hI
 have HK := am (KeepBut.refl w g none)
 have HL := am hB.size
 clear hI
 have HW0 := am hB.size
 have HB := am hB
 clear hB
 have H := h
 clear h
 unfold spec_l1Cur_spoilt.f at H
 obtain ⟨⟨t101, t102, t103⟩, A40, H⟩ := bH H
 dsimp only at H
 have A4 := am A40
 clear A40
 have H' := am H
 clear H
 go_enter Tryz.func60, Tryz.ntmps60
 go_wp2_with ((go_at_call 83; (with_reducible refine (spec_l1Cur_pick.calls g s0_0 s0_1 s0_2 2 t101 t102 t103 w0 _ ?side1 ?side2 A4.out).mono ?_); (case side1 => exact uI); (case side2 => exact uW); rintro e w5 ⟨rfl, hi, hb, hk⟩; replace HK := am (KeepBut.trans uV hk (.inl rfl)); replace HB := am (hb); replace HI0 := am (hi); (try clear hb); (try clear hk); (try clear hi)))
 go_loopg [1, 7] k (fun kq v1 v7 w' => ∃ (x1_1 : ByteArray) (x7_1 : Int) (x1001_1 : Int) (x1002_1 : Int), v1 = .string x1_1 ∧ v7 = .int .i64 x7_1 ∧ Aside0 (spec_l1Cur_spoilt.l0 kq x1_1 a2 x7_1 s0_0 x1001_1 x1002_1 = some (r1, r2, r3)) ∧ Aside0 (kq ≤ k) ∧ Aside0 (IsS75 w0 w' g s0_0 x1001_1 x1002_1) ∧ Aside0 (KeepBut w w' g none) ∧ Aside0 (Below w0.heap.size w0 w'))
 case atStart => exact ⟨(a1), (wrap64 (1 + t101)), (t102), (t103), (by rfl), (by rfl), H', ⟨Nat.le_refl _⟩, ⟨by exact uI⟩, ⟨by exact uV⟩, ⟨by exact uW⟩⟩
 case round =>
  clear H'
  obtain ⟨x1_1, x7_1, x1001_1, x1002_1, rfl, rfl, HA, HK1, HI0, HK, HB⟩ := hrel
  cases gk with
  | zero => exact absurd HA.out (by simp [spec_l1Cur_spoilt.l0])
  | succ k1 =>
   have H := HA.out
   clear HA
   simp only [spec_l1Cur_spoilt.l0] at H
   have HC6 := am H
   clear H
   go_upto_region 2 with (fail)
   go_cut [19] (fun v19 wc => ∃ (kq : Nat) (x19_5 : Bool), v19 = .bool x19_5 ∧ Aside0 (spec_l1Cur_spoilt.j1 kq x1_1 a2 x7_1 x19_5 s0_0 x1001_1 x1002_1 = some (r1, r2, r3)) ∧ Aside0 (kq ≤ k1) ∧ Aside0 (IsS75 w0 wc g s0_0 x1001_1 x1002_1) ∧ Aside0 (KeepBut w wc g none) ∧ Aside0 (Below w0.heap.size w0 wc))
   case first =>
    have H := HC6.out
    clear HC6
    by_cases c7 : x7_1 > 0
    ·rw [if_pos c7] at H
     have c7b0 : decide (0 < x7_1) = true := decide_eq_true c7
     clear c7
     (skip)
     have H' := am H
     clear H
     go_wp2
     go_meet
     case rel => exact ⟨_, (decide ((x1_1.size : Int) > 0)), (by (simp; done)), H', ⟨by have := HK1.out; omega⟩, ⟨by exact uI⟩, ⟨by exact uV⟩, ⟨by exact uW⟩⟩
    ·rw [if_neg c7] at H
     have c7b0 : decide (0 < x7_1) = false := decide_eq_false c7
     clear c7
     (skip)
     have H' := am H
     clear H
     go_wp2
     go_meet
     case rel => exact ⟨_, (false), (by rfl), H', ⟨by have := HK1.out; omega⟩, ⟨by exact uI⟩, ⟨by exact uV⟩, ⟨by exact uW⟩⟩
   case rest =>
    clear HC6
    obtain ⟨kq, x19_5, rfl, HA, HJ5, HI0, HK, HB⟩ := hcut
    cases kq with
    | zero => exact absurd HA.out (by simp [spec_l1Cur_spoilt.j1])
    | succ kj5 =>
     have H := HA.out
     clear HA
     simp only [spec_l1Cur_spoilt.j1] at H
     by_cases c8 : x19_5 = true
     ·subst c8
      rw [if_pos rfl] at H
      obtain ⟨⟨t104, t105, t106⟩, A90, H⟩ := bH H
      dsimp only at H
      have A9 := am A90
      clear A90
      obtain ⟨⟨t107, t108, t109⟩, A100, H⟩ := bH H
      dsimp only at H
      have A10 := am A100
      clear A100
      by_cases c11 : 0 ≤ t107
      ·rw [if_pos c11] at H
       have c11b0 : decide (0 ≤ t107) = true := decide_eq_true c11
       clear c11
       by_cases c12 : t107 < (a2.size : Int)
       ·rw [if_pos c12] at H
        have c12b0 : decide (t107 < (a2.size : Int)) = true := decide_eq_true c12
        clear c12
        obtain ⟨y110, hy110⟩ : ∃ y_ : List Int, y_ = (([bt a2 t107] : List Int)) := ⟨_, rfl⟩
        replace H : ((spec_l1Cur_pick.f s0_0 t108 t109 3).bind fun bt113 => (if bt113.1 = 0 then (if 0 ≤ t104 then (if t104 ≤ (x1_1.size : Int) then (if (x1_1.extract 0 (t104 : Int).toNat).size + (strOfNums y110).size ≤ 9223372036854775807 then (if ((x1_1.extract 0 (t104 : Int).toNat) ++ (strOfNums y110)).size + (x1_1.extract (t104 : Int).toNat x1_1.size).size ≤ 9223372036854775807 then (spec_l1Cur_spoilt.l0 kj5 (((x1_1.extract 0 (t104 : Int).toNat) ++ (strOfNums y110)) ++ (x1_1.extract (t104 : Int).toNat x1_1.size)) a2 (wrap64 (x7_1 - 1)) s0_0 bt113.2.1 bt113.2.2) else (none)) else (none)) else (none)) else (none)) else (if bt113.1 = 1 then (if 0 ≤ t104 then (if t104 ≤ (x1_1.size : Int) then (if (x1_1.extract 0 (t104 : Int).toNat).size + (strOfNums y110).size ≤ 9223372036854775807 then (if 0 ≤ (wrap64 (t104 + 1)) then (if (wrap64 (t104 + 1)) ≤ (x1_1.size : Int) then (if ((x1_1.extract 0 (t104 : Int).toNat) ++ (strOfNums y110)).size + (x1_1.extract ((wrap64 (t104 + 1)) : Int).toNat x1_1.size).size ≤ 9223372036854775807 then (spec_l1Cur_spoilt.l0 kj5 (((x1_1.extract 0 (t104 : Int).toNat) ++ (strOfNums y110)) ++ (x1_1.extract ((wrap64 (t104 + 1)) : Int).toNat x1_1.size)) a2 (wrap64 (x7_1 - 1)) s0_0 bt113.2.1 bt113.2.2) else (none)) else (none)) else (none)) else (none)) else (none)) else (none)) else (if 0 ≤ t104 then (if t104 ≤ (x1_1.size : Int) then (if 0 ≤ (wrap64 (t104 + 1)) then (if (wrap64 (t104 + 1)) ≤ (x1_1.size : Int) then (if (x1_1.extract 0 (t104 : Int).toNat).size + (x1_1.extract ((wrap64 (t104 + 1)) : Int).toNat x1_1.size).size ≤ 9223372036854775807 then (spec_l1Cur_spoilt.l0 kj5 ((x1_1.extract 0 (t104 : Int).toNat) ++ (x1_1.extract ((wrap64 (t104 + 1)) : Int).toNat x1_1.size)) a2 (wrap64 (x7_1 - 1)) s0_0 bt113.2.1 bt113.2.2) else (none)) else (none)) else (none)) else (none)) else (none))))) = some (r1, r2, r3) := by (have H2_ := (Option.bind_some _ _).symm.trans H; rw [hy110]; with_reducible exact H2_)
        have Ny110 := am hy110
        clear hy110
        obtain ⟨⟨t113, t114, t115⟩, A140, H⟩ := bH H
        dsimp only at H
        have A14 := am A140
        clear A140
        by_cases c15 : t113 = 0
        ·rw [if_pos c15] at H
         have c15b0 : (t113 == 0) = true := beq_iff_eq.mpr c15
         have c15b1 : (t113 != 0) = false := bne_eq_false_iff_eq.mpr c15
         clear c15
         by_cases c16 : 0 ≤ t104
         ·rw [if_pos c16] at H
          have c16b0 := eq_true c16
          have c16b1 : decide (0 ≤ t104) = true := decide_eq_true c16
          clear c16
          by_cases c17 : t104 ≤ (x1_1.size : Int)
          ·rw [if_pos c17] at H
           have c17b0 := eq_true c17
           have c17b1 : decide (t104 ≤ (x1_1.size : Int)) = true := decide_eq_true c17
           clear c17
           by_cases c18 : (x1_1.extract 0 (t104 : Int).toNat).size + (strOfNums y110).size ≤ 9223372036854775807
           ·rw [if_pos c18] at H
            have c18b0 := eq_true c18
            have c18b1 : decide ((x1_1.extract 0 (t104 : Int).toNat).size + (strOfNums y110).size ≤ 9223372036854775807) = true := decide_eq_true c18
            try have c18b2 : (9223372036854775807 < (x1_1.extract 0 (t104 : Int).toNat).size + (strOfNums y110).size) = False := eq_false (Nat.not_lt.2 c18)
            have c19b0 := eq_true (of_decide_eq_true (by (with_reducible assumption)) : 0 ≤ t104)
            have c20b0 := eq_true (of_decide_eq_true (by (with_reducible assumption)) : t104 ≤ (x1_1.size : Int))
            by_cases c21 : ((x1_1.extract 0 (t104 : Int).toNat) ++ (strOfNums y110)).size + (x1_1.extract (t104 : Int).toNat x1_1.size).size ≤ 9223372036854775807
            ·rw [if_pos c21] at H
             have c21b0 := eq_true c21
             have c21b1 : decide (((x1_1.extract 0 (t104 : Int).toNat) ++ (strOfNums y110)).size + (x1_1.extract (t104 : Int).toNat x1_1.size).size ≤ 9223372036854775807) = true := decide_eq_true c21
             try have c21b2 : (9223372036854775807 < ((x1_1.extract 0 (t104 : Int).toNat) ++ (strOfNums y110)).size + (x1_1.extract (t104 : Int).toNat x1_1.size).size) = False := eq_false (Nat.not_lt.2 c21)
             have H' := am H
             clear H
             go_wp2_with (first | (go_at_call 83; (with_reducible refine (spec_l1Cur_pick.calls g s0_0 x1001_1 x1002_1 (x1_1.size : Int) t104 t105 t106 w0 _ ?side1 ?side2 A9.out).mono ?_); (case side1 => exact uI); (case side2 => exact uW); rintro e w22 ⟨rfl, hi, hb, hk⟩; replace HK := am (KeepBut.trans uV hk (.inl rfl)); replace HB := am (hb); replace HI0 := am (hi); (try clear hb); (try clear hk); (try clear hi)) | (go_at_call 83; (with_reducible refine (spec_l1Cur_pick.calls g s0_0 t105 t106 (a2.size : Int) t107 t108 t109 w0 _ ?side1 ?side2 A10.out).mono ?_); (case side1 => exact uI); (case side2 => exact uW); rintro e w23 ⟨rfl, hi, hb, hk⟩; replace HK := am (KeepBut.trans uV hk (.inl rfl)); replace HB := am (hb); replace HI0 := am (hi); (try clear hb); (try clear hk); (try clear hi); have p13 : 0 ≤ (t107 : Int) := of_decide_eq_true (by (with_reducible assumption)); have q13 : t107 < (a2.size : Int) := of_decide_eq_true (by (with_reducible assumption)); have hx13 := bt_at a2 t107; replace p13 := eq_true p13; replace q13 := eq_true q13) | ((with_reducible refine gate_dst (N := 32) rfl ?_); (try (refine gate_guard (by rfl) ?_; dsimp only)); refine Kd.R_lit (Kd.int .u8) _ 5 ?hg (N := 32) ?hd (xs := ([bt a2 t107] : List Int)) (inner := [.int .u8 (bt a2 t107)]) (ok := fun _ => True) (okp := fun _ => True) ?hr ?hp (fun _ hk => hk) trivial (Below.refl _ _) (Nat.le_refl _) (by simp) ?_; (case hd => rfl); (case hg => rfl); (case hr => (go_simp; done)); (case hp => exact (Reps.one (show Kd.M (Kd.int .u8) _ _ _ (bt a2 t107) [.int .u8 (bt a2 t107)] from rfl) (Reps.none _ _))); intro v111 w24 ho25 hb hg_ hnew_; clear hg_ hnew_; (rw [← Ny110.out] at ho25); have HO112 := am (Kd.R_lower ho25 (keep_size (w := w) (g := g) (row := none) uV)); replace HI0 := am (IsS75.below uI hb); replace HK := am (KeepBut.trans uV (KeepBut.of_below hb g none) (.inl rfl)); replace HB := uS hb; clear hb ho25; have hcv26 := own_string (P := Tryz.prog) Tryz.underlying22 Tryz.underlying5 Tryz.underlying9 (Kd.own_of_R HO112.out)) | (go_at_call 83; (with_reducible refine (spec_l1Cur_pick.calls g s0_0 t108 t109 3 t113 t114 t115 w0 _ ?side1 ?side2 A14.out).mono ?_); (case side1 => exact uI); (case side2 => exact uW); rintro e w27 ⟨rfl, hi, hb, hk⟩; replace HO112 := am (Kd.R_mono (Kd.R_keep (IsS75.apart (show IsS75 w0 _ g s0_0 t108 t109 from by exact uI) (uR HO112) (by decide)) hk (fun _ h => h.2)) (fun _ h => h.1)); replace HK := am (KeepBut.trans uV hk (.inl rfl)); replace HB := am (hb); replace HI0 := am (hi); (try clear hb); (try clear hk); (try clear hi)))
             repeat (go_quiet (fail); try go_wp2_with (fail))
             go_roundg kj5
             case measure => have := HK1.out; have := HJ5.out; omega
             case rel => exact ⟨(((x1_1.extract 0 (t104 : Int).toNat) ++ (strOfNums y110)) ++ (x1_1.extract (t104 : Int).toNat x1_1.size)), (wrap64 (x7_1 - 1)), (t114), (t115), (by rfl), (by rfl), H', ⟨by have := HK1.out; have := HJ5.out; omega⟩, ⟨by exact uI⟩, ⟨by exact uV⟩, ⟨by exact uW⟩⟩
            ·rw [if_neg c21] at H
             exact absurd H (by simp)
           ·rw [if_neg c18] at H
            exact absurd H (by simp)
          ·rw [if_neg c17] at H
           exact absurd H (by simp)
         ·rw [if_neg c16] at H
          exact absurd H (by simp)
        ·rw [if_neg c15] at H
         have c15b0 : (t113 == 0) = false := beq_eq_false_iff_ne.mpr c15
         have c15b1 : (t113 != 0) = true := bne_iff_ne.mpr c15
         by_cases c28 : t113 = 1
         ·rw [if_pos c28] at H
          have c28b0 : (t113 == 1) = true := beq_iff_eq.mpr c28
          have c28b1 : (t113 != 1) = false := bne_eq_false_iff_eq.mpr c28
          clear c28
          by_cases c29 : 0 ≤ t104
          ·rw [if_pos c29] at H
           have c29b0 := eq_true c29
           have c29b1 : decide (0 ≤ t104) = true := decide_eq_true c29
           clear c29
           by_cases c30 : t104 ≤ (x1_1.size : Int)
           ·rw [if_pos c30] at H
            have c30b0 := eq_true c30
            have c30b1 : decide (t104 ≤ (x1_1.size : Int)) = true := decide_eq_true c30
            clear c30
            by_cases c31 : (x1_1.extract 0 (t104 : Int).toNat).size + (strOfNums y110).size ≤ 9223372036854775807
            ·rw [if_pos c31] at H
             have c31b0 := eq_true c31
             have c31b1 : decide ((x1_1.extract 0 (t104 : Int).toNat).size + (strOfNums y110).size ≤ 9223372036854775807) = true := decide_eq_true c31
             try have c31b2 : (9223372036854775807 < (x1_1.extract 0 (t104 : Int).toNat).size + (strOfNums y110).size) = False := eq_false (Nat.not_lt.2 c31)
             obtain ⟨ji32, hji32⟩ : ∃ j_ : Int, (wrap64 (t104 + 1)) = j_ := ⟨_, rfl⟩
             replace H : (if 0 ≤ (ji32) then (if (ji32) ≤ (x1_1.size : Int) then (if ((x1_1.extract 0 (t104 : Int).toNat) ++ (strOfNums y110)).size + (x1_1.extract ((ji32) : Int).toNat x1_1.size).size ≤ 9223372036854775807 then (spec_l1Cur_spoilt.l0 kj5 (((x1_1.extract 0 (t104 : Int).toNat) ++ (strOfNums y110)) ++ (x1_1.extract ((ji32) : Int).toNat x1_1.size)) a2 (wrap64 (x7_1 - 1)) s0_0 t114 t115) else (none)) else (none)) else (none)) = some (r1, r2, r3) := by (rw [hji32] at H; exact H)
             (skip)
             (skip)
             (skip)
             have hji32w : (IntKind.i64.wrap (t104 + 1)) = ji32 := (i64_w _).trans hji32
             by_cases c33 : 0 ≤ (ji32)
             ·rw [if_pos c33] at H
              have c33b0 := eq_true c33
              have c33b1 : decide (0 ≤ (ji32)) = true := decide_eq_true c33
              clear c33
              by_cases c34 : (ji32) ≤ (x1_1.size : Int)
              ·rw [if_pos c34] at H
               have c34b0 := eq_true c34
               have c34b1 : decide ((ji32) ≤ (x1_1.size : Int)) = true := decide_eq_true c34
               clear c34
               by_cases c35 : ((x1_1.extract 0 (t104 : Int).toNat) ++ (strOfNums y110)).size + (x1_1.extract ((ji32) : Int).toNat x1_1.size).size ≤ 9223372036854775807
               ·rw [if_pos c35] at H
                have c35b0 := eq_true c35
                have c35b1 : decide (((x1_1.extract 0 (t104 : Int).toNat) ++ (strOfNums y110)).size + (x1_1.extract ((ji32) : Int).toNat x1_1.size).size ≤ 9223372036854775807) = true := decide_eq_true c35
                try have c35b2 : (9223372036854775807 < ((x1_1.extract 0 (t104 : Int).toNat) ++ (strOfNums y110)).size + (x1_1.extract ((ji32) : Int).toNat x1_1.size).size) = False := eq_false (Nat.not_lt.2 c35)
                have H' := am H
                clear H
                go_wp2_with (first | (go_at_call 83; (with_reducible refine (spec_l1Cur_pick.calls g s0_0 x1001_1 x1002_1 (x1_1.size : Int) t104 t105 t106 w0 _ ?side1 ?side2 A9.out).mono ?_); (case side1 => exact uI); (case side2 => exact uW); rintro e w36 ⟨rfl, hi, hb, hk⟩; replace HK := am (KeepBut.trans uV hk (.inl rfl)); replace HB := am (hb); replace HI0 := am (hi); (try clear hb); (try clear hk); (try clear hi)) | (go_at_call 83; (with_reducible refine (spec_l1Cur_pick.calls g s0_0 t105 t106 (a2.size : Int) t107 t108 t109 w0 _ ?side1 ?side2 A10.out).mono ?_); (case side1 => exact uI); (case side2 => exact uW); rintro e w37 ⟨rfl, hi, hb, hk⟩; replace HK := am (KeepBut.trans uV hk (.inl rfl)); replace HB := am (hb); replace HI0 := am (hi); (try clear hb); (try clear hk); (try clear hi); have p13 : 0 ≤ (t107 : Int) := of_decide_eq_true (by (with_reducible assumption)); have q13 : t107 < (a2.size : Int) := of_decide_eq_true (by (with_reducible assumption)); have hx13 := bt_at a2 t107; replace p13 := eq_true p13; replace q13 := eq_true q13) | ((with_reducible refine gate_dst (N := 32) rfl ?_); (try (refine gate_guard (by rfl) ?_; dsimp only)); refine Kd.R_lit (Kd.int .u8) _ 5 ?hg (N := 32) ?hd (xs := ([bt a2 t107] : List Int)) (inner := [.int .u8 (bt a2 t107)]) (ok := fun _ => True) (okp := fun _ => True) ?hr ?hp (fun _ hk => hk) trivial (Below.refl _ _) (Nat.le_refl _) (by simp) ?_; (case hd => rfl); (case hg => rfl); (case hr => (go_simp; done)); (case hp => exact (Reps.one (show Kd.M (Kd.int .u8) _ _ _ (bt a2 t107) [.int .u8 (bt a2 t107)] from rfl) (Reps.none _ _))); intro v111 w38 ho39 hb hg_ hnew_; clear hg_ hnew_; (rw [← Ny110.out] at ho39); have HO112 := am (Kd.R_lower ho39 (keep_size (w := w) (g := g) (row := none) uV)); replace HI0 := am (IsS75.below uI hb); replace HK := am (KeepBut.trans uV (KeepBut.of_below hb g none) (.inl rfl)); replace HB := uS hb; clear hb ho39; have hcv40 := own_string (P := Tryz.prog) Tryz.underlying22 Tryz.underlying5 Tryz.underlying9 (Kd.own_of_R HO112.out)) | (go_at_call 83; (with_reducible refine (spec_l1Cur_pick.calls g s0_0 t108 t109 3 t113 t114 t115 w0 _ ?side1 ?side2 A14.out).mono ?_); (case side1 => exact uI); (case side2 => exact uW); rintro e w41 ⟨rfl, hi, hb, hk⟩; replace HO112 := am (Kd.R_mono (Kd.R_keep (IsS75.apart (show IsS75 w0 _ g s0_0 t108 t109 from by exact uI) (uR HO112) (by decide)) hk (fun _ h => h.2)) (fun _ h => h.1)); replace HK := am (KeepBut.trans uV hk (.inl rfl)); replace HB := am (hb); replace HI0 := am (hi); (try clear hb); (try clear hk); (try clear hi)))
                repeat (go_quiet (fail); try go_wp2_with (fail))
                go_roundg kj5
                case measure => have := HK1.out; have := HJ5.out; omega
                case rel => exact ⟨(((x1_1.extract 0 (t104 : Int).toNat) ++ (strOfNums y110)) ++ (x1_1.extract ((ji32) : Int).toNat x1_1.size)), (wrap64 (x7_1 - 1)), (t114), (t115), (by rfl), (by rfl), H', ⟨by have := HK1.out; have := HJ5.out; omega⟩, ⟨by exact uI⟩, ⟨by exact uV⟩, ⟨by exact uW⟩⟩
               ·rw [if_neg c35] at H
                exact absurd H (by simp)
              ·rw [if_neg c34] at H
               exact absurd H (by simp)
             ·rw [if_neg c33] at H
              exact absurd H (by simp)
            ·rw [if_neg c31] at H
             exact absurd H (by simp)
           ·rw [if_neg c30] at H
            exact absurd H (by simp)
          ·rw [if_neg c29] at H
           exact absurd H (by simp)
         ·rw [if_neg c28] at H
          have c28b0 : (t113 == 1) = false := beq_eq_false_iff_ne.mpr c28
          have c28b1 : (t113 != 1) = true := bne_iff_ne.mpr c28
          by_cases c42 : 0 ≤ t104
          ·rw [if_pos c42] at H
           have c42b0 := eq_true c42
           have c42b1 : decide (0 ≤ t104) = true := decide_eq_true c42
           clear c42
           by_cases c43 : t104 ≤ (x1_1.size : Int)
           ·rw [if_pos c43] at H
            have c43b0 := eq_true c43
            have c43b1 : decide (t104 ≤ (x1_1.size : Int)) = true := decide_eq_true c43
            clear c43
            obtain ⟨ji44, hji44⟩ : ∃ j_ : Int, (wrap64 (t104 + 1)) = j_ := ⟨_, rfl⟩
            replace H : (if 0 ≤ (ji44) then (if (ji44) ≤ (x1_1.size : Int) then (if (x1_1.extract 0 (t104 : Int).toNat).size + (x1_1.extract ((ji44) : Int).toNat x1_1.size).size ≤ 9223372036854775807 then (spec_l1Cur_spoilt.l0 kj5 ((x1_1.extract 0 (t104 : Int).toNat) ++ (x1_1.extract ((ji44) : Int).toNat x1_1.size)) a2 (wrap64 (x7_1 - 1)) s0_0 t114 t115) else (none)) else (none)) else (none)) = some (r1, r2, r3) := by (rw [hji44] at H; exact H)
            (skip)
            (skip)
            (skip)
            have hji44w : (IntKind.i64.wrap (t104 + 1)) = ji44 := (i64_w _).trans hji44
            by_cases c45 : 0 ≤ (ji44)
            ·rw [if_pos c45] at H
             have c45b0 := eq_true c45
             have c45b1 : decide (0 ≤ (ji44)) = true := decide_eq_true c45
             clear c45
             by_cases c46 : (ji44) ≤ (x1_1.size : Int)
             ·rw [if_pos c46] at H
              have c46b0 := eq_true c46
              have c46b1 : decide ((ji44) ≤ (x1_1.size : Int)) = true := decide_eq_true c46
              clear c46
              by_cases c47 : (x1_1.extract 0 (t104 : Int).toNat).size + (x1_1.extract ((ji44) : Int).toNat x1_1.size).size ≤ 9223372036854775807
              ·rw [if_pos c47] at H
               have c47b0 := eq_true c47
               have c47b1 : decide ((x1_1.extract 0 (t104 : Int).toNat).size + (x1_1.extract ((ji44) : Int).toNat x1_1.size).size ≤ 9223372036854775807) = true := decide_eq_true c47
               try have c47b2 : (9223372036854775807 < (x1_1.extract 0 (t104 : Int).toNat).size + (x1_1.extract ((ji44) : Int).toNat x1_1.size).size) = False := eq_false (Nat.not_lt.2 c47)
               have H' := am H
               clear H
               go_wp2_with (first | (go_at_call 83; (with_reducible refine (spec_l1Cur_pick.calls g s0_0 x1001_1 x1002_1 (x1_1.size : Int) t104 t105 t106 w0 _ ?side1 ?side2 A9.out).mono ?_); (case side1 => exact uI); (case side2 => exact uW); rintro e w48 ⟨rfl, hi, hb, hk⟩; replace HK := am (KeepBut.trans uV hk (.inl rfl)); replace HB := am (hb); replace HI0 := am (hi); (try clear hb); (try clear hk); (try clear hi)) | (go_at_call 83; (with_reducible refine (spec_l1Cur_pick.calls g s0_0 t105 t106 (a2.size : Int) t107 t108 t109 w0 _ ?side1 ?side2 A10.out).mono ?_); (case side1 => exact uI); (case side2 => exact uW); rintro e w49 ⟨rfl, hi, hb, hk⟩; replace HK := am (KeepBut.trans uV hk (.inl rfl)); replace HB := am (hb); replace HI0 := am (hi); (try clear hb); (try clear hk); (try clear hi); have p13 : 0 ≤ (t107 : Int) := of_decide_eq_true (by (with_reducible assumption)); have q13 : t107 < (a2.size : Int) := of_decide_eq_true (by (with_reducible assumption)); have hx13 := bt_at a2 t107; replace p13 := eq_true p13; replace q13 := eq_true q13) | ((with_reducible refine gate_dst (N := 32) rfl ?_); (try (refine gate_guard (by rfl) ?_; dsimp only)); refine Kd.R_lit (Kd.int .u8) _ 5 ?hg (N := 32) ?hd (xs := ([bt a2 t107] : List Int)) (inner := [.int .u8 (bt a2 t107)]) (ok := fun _ => True) (okp := fun _ => True) ?hr ?hp (fun _ hk => hk) trivial (Below.refl _ _) (Nat.le_refl _) (by simp) ?_; (case hd => rfl); (case hg => rfl); (case hr => (go_simp; done)); (case hp => exact (Reps.one (show Kd.M (Kd.int .u8) _ _ _ (bt a2 t107) [.int .u8 (bt a2 t107)] from rfl) (Reps.none _ _))); intro v111 w50 ho51 hb hg_ hnew_; clear hg_ hnew_; (rw [← Ny110.out] at ho51); have HO112 := am (Kd.R_lower ho51 (keep_size (w := w) (g := g) (row := none) uV)); replace HI0 := am (IsS75.below uI hb); replace HK := am (KeepBut.trans uV (KeepBut.of_below hb g none) (.inl rfl)); replace HB := uS hb; clear hb ho51; have hcv52 := own_string (P := Tryz.prog) Tryz.underlying22 Tryz.underlying5 Tryz.underlying9 (Kd.own_of_R HO112.out)) | (go_at_call 83; (with_reducible refine (spec_l1Cur_pick.calls g s0_0 t108 t109 3 t113 t114 t115 w0 _ ?side1 ?side2 A14.out).mono ?_); (case side1 => exact uI); (case side2 => exact uW); rintro e w53 ⟨rfl, hi, hb, hk⟩; replace HO112 := am (Kd.R_mono (Kd.R_keep (IsS75.apart (show IsS75 w0 _ g s0_0 t108 t109 from by exact uI) (uR HO112) (by decide)) hk (fun _ h => h.2)) (fun _ h => h.1)); replace HK := am (KeepBut.trans uV hk (.inl rfl)); replace HB := am (hb); replace HI0 := am (hi); (try clear hb); (try clear hk); (try clear hi)))
               repeat (go_quiet (fail); try go_wp2_with (fail))
               go_roundg kj5
               case measure => have := HK1.out; have := HJ5.out; omega
               case rel => exact ⟨((x1_1.extract 0 (t104 : Int).toNat) ++ (x1_1.extract ((ji44) : Int).toNat x1_1.size)), (wrap64 (x7_1 - 1)), (t114), (t115), (by rfl), (by rfl), H', ⟨by have := HK1.out; have := HJ5.out; omega⟩, ⟨by exact uI⟩, ⟨by exact uV⟩, ⟨by exact uW⟩⟩
              ·rw [if_neg c47] at H
               exact absurd H (by simp)
             ·rw [if_neg c46] at H
              exact absurd H (by simp)
            ·rw [if_neg c45] at H
             exact absurd H (by simp)
           ·rw [if_neg c43] at H
            exact absurd H (by simp)
          ·rw [if_neg c42] at H
           exact absurd H (by simp)
       ·rw [if_neg c12] at H
        exact absurd H (by simp)
      ·rw [if_neg c11] at H
       exact absurd H (by simp)
     ·replace c8 := Bool.eq_false_iff.mpr c8
      subst c8
      rw [if_neg (show ¬ (false = true) by decide)] at H
      simp only [Option.some.injEq, Prod.mk.injEq] at H
      obtain ⟨rfl, rfl, rfl⟩ := H
      go_wp2
      go_ret
      exact ⟨uA, by exact uI, by exact uW, by exact uV⟩
def spec_DrawParsePuzzle.f (k : Nat) (l0 : List Int) : Option (ByteArray) := (spec_l1Cur_surePuzzle.f k l0 0 0 4).bind fun bt102 => ((spec_pzText.f k bt102.1 bt102.2.1 bt102.2.2.1).bind fun t109 => ((spec_l1Cur_one.f l0 bt102.2.2.2.1 bt102.2.2.2.2 3).bind fun bt110 => (if bt110.1 = true then ((spec_l1Cur_spoilt.f k l0 bt110.2.1 bt110.2.2 t109 (⟨#[48, 49, 50, 51, 52, 53, 54, 46, 44, 59, 111, 117]⟩ : ByteArray)).bind fun bt113 => (some bt113.1)) else (some t109))))
theorem spec_DrawParsePuzzle.calls (k : Nat) (A0 : Option Addr) (c0 : Nat) (l0 : List Int) (r : ByteArray) (w : World) (hr0 : Kd.C (Kd.int .u8) w A0 l0.length l0) (hc0 : l0.length ≤ c0) (h : spec_DrawParsePuzzle.f k l0 = some r) :
  Calls Tryz.prog 34 #[.slice A0 l0.length c0] w fun e w' => e = .returned (.string r) ∧ Below w.heap.size w w' := by
 have hu75 := Tryz.underlying75
 have HR0 := am hr0
 have HC0 := am hc0
 clear hr0 hc0
 have HB := am (Below.refl w.heap.size w)
 have H := h
 clear h
 unfold spec_DrawParsePuzzle.f at H
 obtain ⟨⟨t102, t103, t104, t107, t108⟩, A20, H⟩ := bH H
 dsimp only at H
 have A2 := am A20
 clear A20
 obtain ⟨t109, A30, H⟩ := bH H
 have A3 := am A30
 clear A30
 obtain ⟨⟨t110, t111, t112⟩, A40, H⟩ := bH H
 dsimp only at H
 have A4 := am A40
 clear A40
 by_cases c5 : t110 = true
 ·subst c5
  rw [if_pos rfl] at H
  obtain ⟨⟨t113, t114, t115⟩, A60, H⟩ := bH H
  dsimp only at H
  have A6 := am A60
  clear A60
  obtain rfl := Option.some.inj H
  go_enter Tryz.func34, Tryz.ntmps34
  go_wp2_with (first | ((with_reducible refine gate_dst (N := 7) rfl ?_); refine uX (N := 7) (cs := #[.slice A0 l0.length c0, .int .i64 0, .int .u64 0]) (t := 75) ?_; intro gb101 hg w7 hbox hb; have BK101 := am (hbox); have GW101 := uE hg; have GE101 := GW101; replace HB := uS hb; clear hb hbox hg) | ((with_reducible refine gate_callee (f := 58) rfl ?_); refine uGo (some 9) Tryz.func58 #[.pointer (some ⟨gb101, 0, none⟩), .int .i64 4] ?_; (with_reducible refine (spec_l1Cur_surePuzzle.calls k gb101 l0 0 0 4 t102 t103 t104 t107 t108 w _ ?side1 ?side2 A2.out).mono ?_); (case side1 => exact ⟨_, _, by (with_reducible skip); exact BK101.out, GE101.out, HR0.out⟩); (case side2 => exact uW); rintro e w8 ⟨v105, rfl, ho0, hi, hb, hk⟩; refine ⟨_, rfl, ?_⟩; have HO106 := am (Kd.R_lower ho0 (below_size uW)); have HI101 := am (hi); replace HB := am (hb); clear BK101; (try clear hb); (try clear hk); (try clear hi); (try clear ho0); obtain ⟨Ao9, co9, eo9⟩ := Kd.R_slice HO106.out; subst eo9) | ((with_reducible refine gate_callee (f := 44) rfl ?_); refine uGo (some 10) Tryz.func44 #[.agg #[.int .i64 t102, .int .i64 t103, .slice Ao9 t104.length co9]] ?_; (with_reducible refine (spec_pzText.calls k t102 t103 _ _ t104 t109 _ ?side1 ?side2 A3.out).mono ?_); (case side1 => repeat (exact (Kd.R_reads' HO106.out).2.2)); (case side2 => exact (Kd.R_reads' HO106.out).2.1); rintro e w10 ⟨rfl, hb⟩; refine ⟨_, rfl, ?_⟩; replace HO106 := am (Kd.R_below (uR HO106) hb); replace HI101 := am (IsS75.below uI hb); replace HB := uS hb; (try clear hb)) | ((with_reducible refine gate_callee (f := 59) rfl ?_); refine uGo (some 12) Tryz.func59 #[.pointer (some ⟨gb101, 0, none⟩), .int .i64 3] ?_; (with_reducible refine (spec_l1Cur_one.calls gb101 l0 t107 t108 3 true t111 t112 w _ ?side1 ?side2 A4.out).mono ?_); (case side1 => exact uI); (case side2 => exact uW); rintro e w11 ⟨rfl, hi, hb, hk⟩; refine ⟨_, rfl, ?_⟩; replace HO106 := am (Kd.R_mono (Kd.R_keep (IsS75.apart (show IsS75 w _ gb101 l0 t107 t108 from by exact uI) (uR HO106) (by decide)) hk (fun _ h => h.2)) (fun _ h => h.1)); replace HB := am (hb); replace HI101 := am (hi); (try clear hb); (try clear hk); (try clear hi)) | ((with_reducible refine gate_callee (f := 60) rfl ?_); refine uGo (some 15) Tryz.func60 #[.pointer (some ⟨gb101, 0, none⟩), .string t109, .string (⟨#[48, 49, 50, 51, 52, 53, 54, 46, 44, 59, 111, 117]⟩ : ByteArray)] ?_; (with_reducible refine (spec_l1Cur_spoilt.calls k gb101 l0 t111 t112 t109 (⟨#[48, 49, 50, 51, 52, 53, 54, 46, 44, 59, 111, 117]⟩ : ByteArray) t113 t114 t115 w _ ?side1 ?side2 A6.out).mono ?_); (case side1 => exact uI); (case side2 => exact uW); rintro e w12 ⟨rfl, hi, hb, hk⟩; refine ⟨_, rfl, ?_⟩; replace HO106 := am (Kd.R_mono (Kd.R_keep (IsS75.apart (show IsS75 w _ gb101 l0 t111 t112 from by exact uI) (uR HO106) (by decide)) hk (fun _ h => h.2)) (fun _ h => h.1)); replace HB := am (hb); replace HI101 := am (hi); (try clear hb); (try clear hk); (try clear hi)))
  go_ret
  exact ⟨uA, by exact uW⟩
 ·replace c5 := Bool.eq_false_iff.mpr c5
  subst c5
  rw [if_neg (show ¬ (false = true) by decide)] at H
  obtain rfl := Option.some.inj H
  go_enter Tryz.func34, Tryz.ntmps34
  go_wp2_with (first | ((with_reducible refine gate_dst (N := 7) rfl ?_); refine uX (N := 7) (cs := #[.slice A0 l0.length c0, .int .i64 0, .int .u64 0]) (t := 75) ?_; intro gb101 hg w13 hbox hb; have BK101 := am (hbox); have GW101 := uE hg; have GE101 := GW101; replace HB := uS hb; clear hb hbox hg) | ((with_reducible refine gate_callee (f := 58) rfl ?_); refine uGo (some 9) Tryz.func58 #[.pointer (some ⟨gb101, 0, none⟩), .int .i64 4] ?_; (with_reducible refine (spec_l1Cur_surePuzzle.calls k gb101 l0 0 0 4 t102 t103 t104 t107 t108 w _ ?side1 ?side2 A2.out).mono ?_); (case side1 => exact ⟨_, _, by (with_reducible skip); exact BK101.out, GE101.out, HR0.out⟩); (case side2 => exact uW); rintro e w14 ⟨v105, rfl, ho0, hi, hb, hk⟩; refine ⟨_, rfl, ?_⟩; have HO106 := am (Kd.R_lower ho0 (below_size uW)); have HI101 := am (hi); replace HB := am (hb); clear BK101; (try clear hb); (try clear hk); (try clear hi); (try clear ho0); obtain ⟨Ao15, co15, eo15⟩ := Kd.R_slice HO106.out; subst eo15) | ((with_reducible refine gate_callee (f := 44) rfl ?_); refine uGo (some 10) Tryz.func44 #[.agg #[.int .i64 t102, .int .i64 t103, .slice Ao15 t104.length co15]] ?_; (with_reducible refine (spec_pzText.calls k t102 t103 _ _ t104 t109 _ ?side1 ?side2 A3.out).mono ?_); (case side1 => repeat (exact (Kd.R_reads' HO106.out).2.2)); (case side2 => exact (Kd.R_reads' HO106.out).2.1); rintro e w16 ⟨rfl, hb⟩; refine ⟨_, rfl, ?_⟩; replace HO106 := am (Kd.R_below (uR HO106) hb); replace HI101 := am (IsS75.below uI hb); replace HB := uS hb; (try clear hb)) | ((with_reducible refine gate_callee (f := 59) rfl ?_); refine uGo (some 12) Tryz.func59 #[.pointer (some ⟨gb101, 0, none⟩), .int .i64 3] ?_; (with_reducible refine (spec_l1Cur_one.calls gb101 l0 t107 t108 3 false t111 t112 w _ ?side1 ?side2 A4.out).mono ?_); (case side1 => exact uI); (case side2 => exact uW); rintro e w17 ⟨rfl, hi, hb, hk⟩; refine ⟨_, rfl, ?_⟩; replace HO106 := am (Kd.R_mono (Kd.R_keep (IsS75.apart (show IsS75 w _ gb101 l0 t107 t108 from by exact uI) (uR HO106) (by decide)) hk (fun _ h => h.2)) (fun _ h => h.1)); replace HB := am (hb); replace HI101 := am (hi); (try clear hb); (try clear hk); (try clear hi)))
  go_ret
  exact ⟨uA, by exact uW⟩
mutual
def impl_BestClue.j0 : Nat → Bool → Int → Int → List (S46) → Option (Int × Bool)
 | 0, _, _, _, _ => none
 | k + 1, x16, x102000, x102001, x102002 => if x16 = true then (some (0, false)) else (impl_BestClue.l0 k (-1) 0 (x102002.length : Int) 0 x102000 x102001 x102002)
def impl_BestClue.l0 : Nat → Int → Int → Int → Int → Int → Int → List (S46) → Option (Int × Bool)
 | 0, _, _, _, _, _, _, _ => none
 | k + 1, x4, x5, x19, x20, x102000, x102001, x102002 => if x20 < x19 then (if 0 ≤ x20 then (if x20 ≤ (wrap64 (x20 + 1)) then (if (wrap64 (x20 + 1)) ≤ (x102002.length : Int) then ((impl_solutions.f x102000 x102001 ((x102002.take ((wrap64 (x20 + 1)) : Int).toNat).drop (x20 : Int).toNat)).bind fun t107 => (if x4 < 0 then (impl_BestClue.l0 k x20 (t107.length : Int) x19 (wrap64 (x20 + 1)) x102000 x102001 x102002) else (if (t107.length : Int) < x5 then (impl_BestClue.l0 k x20 (t107.length : Int) x19 (wrap64 (x20 + 1)) x102000 x102001 x102002) else (impl_BestClue.l0 k x4 x5 x19 (wrap64 (x20 + 1)) x102000 x102001 x102002)))) else (none)) else (none)) else (none)) else (some (x4, true))
end
def impl_BestClue.f (k : Nat) (a0_0 : Int) (a0_1 : Int) (l0_2 : List (S46)) : Option (Int × Bool) := (impl_IsPuzzle.f a0_0 a0_1 l0_2).bind fun t102 => (if t102 = true then (impl_BestClue.j0 k ((l0_2.length : Int) == 0) a0_0 a0_1 l0_2) else (impl_BestClue.j0 k true a0_0 a0_1 l0_2))
def impl_BestClue.T7 : Bool × List (List Nat × List Nat) := (true, [([], []), ([0], [0]), ([], []), ([2], [2]), ([], []), ([], []), ([5], [5]), ([3, 4, 6], [3, 4, 6]), ([1, 7], [1, 7]), ([8], [8]), ([9, 8, 0, 1, 2, 3, 4, 5, 6, 7, 8, 9], [9])])
def impl_BestClue.B7 : List Nat := [0, 1, 0, 4, 0, 0, 32, 124, 255, 511, 1023]
theorem impl_BestClue.tab7 : rtab .any (opsOf Tryz.f20 7) = impl_BestClue.T7 := by kernel_rfl
theorem impl_BestClue.bits7 : waitsOk impl_BestClue.T7.2 impl_BestClue.B7 = true := by kernel_rfl
theorem impl_BestClue.calls (k : Nat) (a0_0 : Int) (a0_1 : Int) (A0_2 : Option Addr) (c0_2 : Nat) (l0_2 : List (S46)) (r1 : Int) (r2 : Bool) (w : World) (hr0_2 : Kd.C k46 w A0_2 l0_2.length l0_2) (hc0_2 : l0_2.length ≤ c0_2) (h : impl_BestClue.f k a0_0 a0_1 l0_2 = some (r1, r2)) :
  Calls Tryz.prog 20 #[.agg #[.int .i64 a0_0, .int .i64 a0_1, .slice A0_2 l0_2.length c0_2]] w fun e w' => e = .returned (.tuple #[.int .i64 r1, .bool r2]) ∧ Below w.heap.size w w' := by
 have hu28 := Tryz.underlying28
 have hu25 := Tryz.underlying25
 have HR0_2 := am hr0_2
 have HC0_2 := am hc0_2
 clear hr0_2 hc0_2
 have HB := am (Below.refl w.heap.size w)
 have H := h
 clear h
 unfold impl_BestClue.f at H
 have HC2 := am H
 clear H
 go_enter Tryz.func20, Tryz.ntmps20
 go_upto_region 1 with (((with_reducible refine gate_dst (N := 1) rfl ?_); (try (refine gate_guard (by rfl) ?_; dsimp only)); refine uX (N := 1) (cs := #[.int .i64 a0_0, .int .i64 a0_1, .slice A0_2 l0_2.length c0_2]) (t := 28) ?_; intro gb101 hg w3 hbox hb; have BK101 := am (hbox); have GW101 := uE hg; have GE101 := GW101; replace HB := uS hb; clear hb hbox hg))
 (skip)
 go_cut [16] (fun v16 wc => ∃ (kq : Nat) (x16_1 : Bool), v16 = .bool x16_1 ∧ Aside0 (impl_BestClue.j0 kq x16_1 a0_0 a0_1 l0_2 = some (r1, r2)) ∧ Aside0 (kq ≤ k) ∧ Aside0 (wc.heap[gb101]? = some (.cells #[.int .i64 a0_0, .int .i64 a0_1, (.slice A0_2 l0_2.length c0_2)] 28 (0, 0))) ∧ Aside0 (Below w.heap.size w wc))
 case first =>
  have H := HC2.out
  clear HC2
  obtain ⟨t102, A40, H⟩ := bH H
  have A4 := am A40
  clear A40
  by_cases c5 : t102 = true
  ·subst c5
   rw [if_pos rfl] at H
   have H' := am H
   clear H
   obtain ⟨hcz6_0, hcz6_1, hcz6_2, hfz6_0, hfz6_1, hfz6_2⟩ := uZ3 BK101
   go_wp2_with (((with_reducible refine gate_callee (f := 25) rfl ?_); refine uGo (some 9) Tryz.func25 #[.agg #[.int .i64 a0_0, .int .i64 a0_1, .slice A0_2 l0_2.length c0_2]] ?_; (with_reducible refine (impl_IsPuzzle.calls a0_0 a0_1 _ _ l0_2 true _ ?side1 ?side2 A4.out).mono ?_); (case side1 => repeat (exact (Kd.C_below HR0_2.out HB.out))); (case side2 => exact HC0_2.out); rintro e w7 ⟨rfl, hb⟩; refine ⟨_, rfl, ?_⟩; replace BK101 := uB BK101 hb; replace HB := uS hb; (try clear hb); obtain ⟨hcz8_0, hcz8_1, hcz8_2, hfz8_0, hfz8_1, hfz8_2⟩ := uZ3 BK101))
   go_meet
   case rel => exact ⟨_, (((l0_2.length : Int) == 0)), (by rfl), H', ⟨by omega⟩, ⟨by (with_reducible skip); exact BK101.out⟩, ⟨by exact uW⟩⟩
  ·replace c5 := Bool.eq_false_iff.mpr c5
   subst c5
   rw [if_neg (show ¬ (false = true) by decide)] at H
   have H' := am H
   clear H
   obtain ⟨hcz9_0, hcz9_1, hcz9_2, hfz9_0, hfz9_1, hfz9_2⟩ := uZ3 BK101
   go_wp2_with (((with_reducible refine gate_callee (f := 25) rfl ?_); refine uGo (some 9) Tryz.func25 #[.agg #[.int .i64 a0_0, .int .i64 a0_1, .slice A0_2 l0_2.length c0_2]] ?_; (with_reducible refine (impl_IsPuzzle.calls a0_0 a0_1 _ _ l0_2 false _ ?side1 ?side2 A4.out).mono ?_); (case side1 => repeat (exact (Kd.C_below HR0_2.out HB.out))); (case side2 => exact HC0_2.out); rintro e w10 ⟨rfl, hb⟩; refine ⟨_, rfl, ?_⟩; replace BK101 := uB BK101 hb; replace HB := uS hb; (try clear hb)))
   go_meet
   case rel => exact ⟨_, (true), (by rfl), H', ⟨by omega⟩, ⟨by (with_reducible skip); exact BK101.out⟩, ⟨by exact uW⟩⟩
 case rest =>
  clear HC2
  obtain ⟨kq, x16_1, rfl, HA, HJ1, BK101, HB⟩ := hcut
  cases kq with
  | zero => exact absurd HA.out (by simp [impl_BestClue.j0])
  | succ kj1 =>
   have H := HA.out
   clear HA
   simp only [impl_BestClue.j0] at H
   by_cases c11 : x16_1 = true
   ·subst c11
    rw [if_pos rfl] at H
    simp only [Option.some.injEq, Prod.mk.injEq] at H
    obtain ⟨rfl, rfl⟩ := H
    go_wp2
    go_ret2
    exact ⟨uA, by exact uW⟩
   ·replace c11 := Bool.eq_false_iff.mpr c11
    subst c11
    rw [if_neg (show ¬ (false = true) by decide)] at H
    have H' := am H
    clear H
    obtain ⟨hcz12_0, hcz12_1, hcz12_2, hfz12_0, hfz12_1, hfz12_2⟩ := uZ3 BK101
    go_wp2
    go_loopg [4, 5, 20] kj1 (fun kq v4 v5 v20 w' => ∃ (x4_2 : Int) (x5_2 : Int) (x20_2 : Int), v4 = .int .i64 x4_2 ∧ v5 = .int .i64 x5_2 ∧ v20 = .int .i64 x20_2 ∧ Aside0 (impl_BestClue.l0 kq x4_2 x5_2 (l0_2.length : Int) x20_2 a0_0 a0_1 l0_2 = some (r1, r2)) ∧ Aside0 (kq ≤ kj1) ∧ Aside0 (w'.heap[gb101]? = some (.cells #[.int .i64 a0_0, .int .i64 a0_1, (.slice A0_2 l0_2.length c0_2)] 28 (0, 0))) ∧ Aside0 (Below w.heap.size w w'))
    case atStart => exact ⟨((-1)), (0), (0), (by rfl), (by rfl), (by rfl), H', ⟨Nat.le_refl _⟩, ⟨by (with_reducible skip); exact BK101.out⟩, ⟨by exact uW⟩⟩
    case round =>
     clear H'
     try clear hcz12_0
     try clear hcz12_1
     try clear hcz12_2
     try clear hfz12_0
     try clear hfz12_1
     try clear hfz12_2
     obtain ⟨x4_2, x5_2, x20_2, rfl, rfl, rfl, HA, HK2, BK101, HB⟩ := hrel
     cases gk with
     | zero => exact absurd HA.out (by simp [impl_BestClue.l0])
     | succ k2 =>
      have H := HA.out
      clear HA
      simp only [impl_BestClue.l0] at H
      by_cases c13 : x20_2 < (l0_2.length : Int)
      ·rw [if_pos c13] at H
       have c13b0 : decide (x20_2 < (l0_2.length : Int)) = true := decide_eq_true c13
       clear c13
       by_cases c14 : 0 ≤ x20_2
       ·rw [if_pos c14] at H
        have c14b0 := eq_true c14
        have c14b1 : decide (0 ≤ x20_2) = true := decide_eq_true c14
        clear c14
        by_cases c15 : x20_2 ≤ (wrap64 (x20_2 + 1))
        ·rw [if_pos c15] at H
         have c15b0 := eq_true c15
         have c15b1 : decide (x20_2 ≤ (wrap64 (x20_2 + 1))) = true := decide_eq_true c15
         by_cases c16 : (wrap64 (x20_2 + 1)) ≤ (l0_2.length : Int)
         ·rw [if_pos c16] at H
          have c16b0 := eq_true c16
          have c16b1 : decide ((wrap64 (x20_2 + 1)) ≤ (l0_2.length : Int)) = true := decide_eq_true c16
          obtain ⟨y103, hy103⟩ : ∃ y_ : List (S46), y_ = ((l0_2.take ((wrap64 (x20_2 + 1)) : Int).toNat).drop (x20_2 : Int).toNat) := ⟨_, rfl⟩
          replace H : ((impl_solutions.f a0_0 a0_1 y103).bind fun t107 => (if x4_2 < 0 then (impl_BestClue.l0 k2 x20_2 (t107.length : Int) (l0_2.length : Int) (wrap64 (x20_2 + 1)) a0_0 a0_1 l0_2) else (if (t107.length : Int) < x5_2 then (impl_BestClue.l0 k2 x20_2 (t107.length : Int) (l0_2.length : Int) (wrap64 (x20_2 + 1)) a0_0 a0_1 l0_2) else (impl_BestClue.l0 k2 x4_2 x5_2 (l0_2.length : Int) (wrap64 (x20_2 + 1)) a0_0 a0_1 l0_2)))) = some (r1, r2) := by (rw [hy103]; with_reducible exact H)
          have Ny103 := am hy103
          clear hy103
          obtain ⟨t107, A170, H⟩ := bH H
          have A17 := am A170
          clear A170
          by_cases c18 : x4_2 < 0
          ·rw [if_pos c18] at H
           have c18b0 : decide (x4_2 < 0) = true := decide_eq_true c18
           clear c18
           have H' := am H
           clear H
           try go_wp2
           replace BK101 := am (blk_drew BK101.out)
           replace HB := am (below_drew1 HB.out)
           have q20 : ((wrap64 (x20_2 + 1)) : Int) ≤ ((l0_2.length : Int) : Int) := of_decide_eq_true (by (with_reducible assumption))
           obtain ⟨i020, hi020, _, hsz20, _⟩ := info_parts info46
           have hroom20 : l0_2.length ≤ c0_2 := HC0_2.out
           have hC20 : Kd.C k46 _ A0_2 l0_2.length l0_2 := HR0_2.out
           have ql20 : (x20_2 : Int) ≤ ((wrap64 (x20_2 + 1)) : Int) := of_decide_eq_true (by (with_reducible assumption))
           have q020 : (0 : Int) ≤ (x20_2 : Int) := of_decide_eq_true (by (with_reducible assumption))
           have hcut20 := cut_mid (P := Tryz.prog) 26 46 .i64 .i64 Tryz.underlying26 hi020 3 hsz20 A0_2 l0_2.length c0_2 x20_2 (wrap64 (x20_2 + 1)) q020 ql20 q20 hroom20
           have hr20 := Kd.C_mid (lo := (x20_2 : Int).toNat) (hi := ((wrap64 (x20_2 + 1)) : Int).toNat) (c := c0_2) hC20 (by omega) (by omega) hroom20
           obtain ⟨A20, hA20⟩ : ∃ A1, A1 = (if c0_2 = (x20_2 : Int).toNat then A0_2 else (A0_2 : Option Addr).map (·.add ((x20_2 : Int).toNat * 3))) := ⟨_, rfl⟩
           obtain ⟨c20, hc20⟩ : ∃ c1, c1 = c0_2 - (x20_2 : Int).toNat := ⟨_, rfl⟩
           have hy20 : y103.length = ((wrap64 (x20_2 + 1)) : Int).toNat - (x20_2 : Int).toNat := (by rw [Ny103.out, List.length_drop, List.length_take] <;> omega)
           rw [show ((l0_2).take ((wrap64 (x20_2 + 1)) : Int).toNat).drop (x20_2 : Int).toNat = y103 from Ny103.out.symm] at hr20
           replace hr20 : Kd.C k46 _ A20 y103.length y103 := (by rw [hA20]; exact hr20)
           rw [← hy20, ← hA20, ← hc20] at hcut20
           have HR106 := am hr20
           have HC106 := am (show y103.length ≤ c20 from by rw [hy20, hc20]; exact Nat.sub_le_sub_right (Nat.le_trans (by omega) hroom20) _)
           clear hr20 hC20 hroom20 hi020 hsz20 hc20
           have KY20 := am hy20
           have KA20 := am hA20
           clear hy20 hA20
           replace q20 := eq_true q20
           refine start_ (n := 11) (S := fun w' => w'.cell? ⟨gb101, 0, none⟩ = some (.int .i64 a0_0) ∧ w'.cell? ⟨gb101, 1, none⟩ = some (.int .i64 a0_1) ∧ w'.cell? ⟨gb101, 2, none⟩ = some (.slice A0_2 l0_2.length c0_2)) (ds := []) #[false, false, false, false, false, false, false, false, false, false, false] (by kernel_rfl) rfl rfl ⟨uT BK101 0, uT BK101 1, uT BK101 2⟩ (fun hHeld => ?_); refine with_tabW impl_BestClue.tab7 impl_BestClue.bits7 (fun HT_ HW_ => ?_)
           generalize wr.drew = w19 at BK101 HB HR106 hHeld ⊢
           refine uPu (i := 0) (N := some 23) #[true, false, false, false, false, false, false, false, false, false, false] ?_
           refine uPu (i := 2) (N := some 25) #[true, false, true, false, false, false, false, false, false, false, false] ?_
           refine uPu (i := 4) (N := some 27) #[true, false, true, false, true, false, false, false, false, false, false] ?_
           refine uPu (i := 5) (N := some 28) #[true, false, true, false, true, true, false, false, false, false, false] ?_
           refine uPu (i := 6) (N := some 29) #[true, false, true, false, true, true, true, false, false, false, false] ?_
           refine uTk (i := 1) (N := some 24) #[true, true, true, false, true, true, true, false, false, false, false] hHeld ?_
           refine uTk (i := 3) (N := some 26) #[true, true, true, true, true, true, true, false, false, false, false] hHeld ?_
           refine uPu (i := 7) (N := some 30) #[true, true, true, true, true, true, true, true, false, false, false] ?_
           refine uOn (i := 8) (N := some 31) #[true, true, true, true, true, true, true, true, true, false, false] (fun K hK => ?_)
           refine uGs Tryz.func37 #[.agg #[.int .i64 a0_0, .int .i64 a0_1], .slice A20 y103.length c20] ?_
           with_reducible refine (impl_solutions.calls a0_0 a0_1 _ _ y103 t107 _ ?side1 ?side2 A17.out).mono ?_
           (case side1 => repeat (exact (Kd.C_below HR106.out HB.out)))
           (case side2 => exact HC106.out)
           rintro e w21 ⟨v108, rfl, ho0, hb⟩
           refine ⟨_, rfl, ?_⟩
           have HO109 := am (Kd.R_lower ho0 (below_size uW))
           replace BK101 := uB BK101 hb
           replace HB := uS hb
           (try clear hb)
           (skip)
           (skip)
           (skip)
           (try clear ho0)
           obtain ⟨Ao22, co22, eo22⟩ := Kd.R_slice HO109.out
           (subst eo22)
           refine hK.out _ _ ⟨uT BK101 0, uT BK101 1, uT BK101 2⟩ (fun hHeld => ?_)
           clear hK K
           refine uNo (some 31) ?_
           refine uPu (i := 9) (N := some 32) #[true, true, true, true, true, true, true, true, true, true, false] ?_
           refine uPu (i := 10) (N := some 7) #[true, true, true, true, true, true, true, true, true, true, true] ?_
           refine done_ (done_of HT_.out (by kernel_rfl)) ?_
           try go_wp2
           go_roundg k2
           case measure => have := HJ1.out; have := HK2.out; omega
           case rel => exact ⟨(x20_2), ((t107.length : Int)), (wrap64 (x20_2 + 1)), (by rfl), (by rfl), (by rfl), H', ⟨by have := HJ1.out; have := HK2.out; omega⟩, ⟨by (with_reducible skip); exact BK101.out⟩, ⟨by exact uW⟩⟩
          ·rw [if_neg c18] at H
           have c18b0 : decide (x4_2 < 0) = false := decide_eq_false c18
           clear c18
           by_cases c23 : (t107.length : Int) < x5_2
           ·rw [if_pos c23] at H
            have c23b0 : decide ((t107.length : Int) < x5_2) = true := decide_eq_true c23
            clear c23
            have H' := am H
            clear H
            try go_wp2
            replace BK101 := am (blk_drew BK101.out)
            replace HB := am (below_drew1 HB.out)
            have q25 : ((wrap64 (x20_2 + 1)) : Int) ≤ ((l0_2.length : Int) : Int) := of_decide_eq_true (by (with_reducible assumption))
            obtain ⟨i025, hi025, _, hsz25, _⟩ := info_parts info46
            have hroom25 : l0_2.length ≤ c0_2 := HC0_2.out
            have hC25 : Kd.C k46 _ A0_2 l0_2.length l0_2 := HR0_2.out
            have ql25 : (x20_2 : Int) ≤ ((wrap64 (x20_2 + 1)) : Int) := of_decide_eq_true (by (with_reducible assumption))
            have q025 : (0 : Int) ≤ (x20_2 : Int) := of_decide_eq_true (by (with_reducible assumption))
            have hcut25 := cut_mid (P := Tryz.prog) 26 46 .i64 .i64 Tryz.underlying26 hi025 3 hsz25 A0_2 l0_2.length c0_2 x20_2 (wrap64 (x20_2 + 1)) q025 ql25 q25 hroom25
            have hr25 := Kd.C_mid (lo := (x20_2 : Int).toNat) (hi := ((wrap64 (x20_2 + 1)) : Int).toNat) (c := c0_2) hC25 (by omega) (by omega) hroom25
            obtain ⟨A25, hA25⟩ : ∃ A1, A1 = (if c0_2 = (x20_2 : Int).toNat then A0_2 else (A0_2 : Option Addr).map (·.add ((x20_2 : Int).toNat * 3))) := ⟨_, rfl⟩
            obtain ⟨c25, hc25⟩ : ∃ c1, c1 = c0_2 - (x20_2 : Int).toNat := ⟨_, rfl⟩
            have hy25 : y103.length = ((wrap64 (x20_2 + 1)) : Int).toNat - (x20_2 : Int).toNat := (by rw [Ny103.out, List.length_drop, List.length_take] <;> omega)
            rw [show ((l0_2).take ((wrap64 (x20_2 + 1)) : Int).toNat).drop (x20_2 : Int).toNat = y103 from Ny103.out.symm] at hr25
            replace hr25 : Kd.C k46 _ A25 y103.length y103 := (by rw [hA25]; exact hr25)
            rw [← hy25, ← hA25, ← hc25] at hcut25
            have HR106 := am hr25
            have HC106 := am (show y103.length ≤ c25 from by rw [hy25, hc25]; exact Nat.sub_le_sub_right (Nat.le_trans (by omega) hroom25) _)
            clear hr25 hC25 hroom25 hi025 hsz25 hc25
            have KY25 := am hy25
            have KA25 := am hA25
            clear hy25 hA25
            replace q25 := eq_true q25
            refine start_ (n := 11) (S := fun w' => w'.cell? ⟨gb101, 0, none⟩ = some (.int .i64 a0_0) ∧ w'.cell? ⟨gb101, 1, none⟩ = some (.int .i64 a0_1) ∧ w'.cell? ⟨gb101, 2, none⟩ = some (.slice A0_2 l0_2.length c0_2)) (ds := []) #[false, false, false, false, false, false, false, false, false, false, false] (by kernel_rfl) rfl rfl ⟨uT BK101 0, uT BK101 1, uT BK101 2⟩ (fun hHeld => ?_); refine with_tabW impl_BestClue.tab7 impl_BestClue.bits7 (fun HT_ HW_ => ?_)
            generalize wr.drew = w24 at BK101 HB HR106 hHeld ⊢
            refine uPu (i := 0) (N := some 23) #[true, false, false, false, false, false, false, false, false, false, false] ?_
            refine uPu (i := 2) (N := some 25) #[true, false, true, false, false, false, false, false, false, false, false] ?_
            refine uPu (i := 4) (N := some 27) #[true, false, true, false, true, false, false, false, false, false, false] ?_
            refine uPu (i := 5) (N := some 28) #[true, false, true, false, true, true, false, false, false, false, false] ?_
            refine uPu (i := 6) (N := some 29) #[true, false, true, false, true, true, true, false, false, false, false] ?_
            refine uTk (i := 1) (N := some 24) #[true, true, true, false, true, true, true, false, false, false, false] hHeld ?_
            refine uTk (i := 3) (N := some 26) #[true, true, true, true, true, true, true, false, false, false, false] hHeld ?_
            refine uPu (i := 7) (N := some 30) #[true, true, true, true, true, true, true, true, false, false, false] ?_
            refine uOn (i := 8) (N := some 31) #[true, true, true, true, true, true, true, true, true, false, false] (fun K hK => ?_)
            refine uGs Tryz.func37 #[.agg #[.int .i64 a0_0, .int .i64 a0_1], .slice A25 y103.length c25] ?_
            with_reducible refine (impl_solutions.calls a0_0 a0_1 _ _ y103 t107 _ ?side1 ?side2 A17.out).mono ?_
            (case side1 => repeat (exact (Kd.C_below HR106.out HB.out)))
            (case side2 => exact HC106.out)
            rintro e w26 ⟨v108, rfl, ho0, hb⟩
            refine ⟨_, rfl, ?_⟩
            have HO109 := am (Kd.R_lower ho0 (below_size uW))
            replace BK101 := uB BK101 hb
            replace HB := uS hb
            (try clear hb)
            (skip)
            (skip)
            (skip)
            (try clear ho0)
            obtain ⟨Ao27, co27, eo27⟩ := Kd.R_slice HO109.out
            (subst eo27)
            refine hK.out _ _ ⟨uT BK101 0, uT BK101 1, uT BK101 2⟩ (fun hHeld => ?_)
            clear hK K
            refine uNo (some 31) ?_
            refine uPu (i := 9) (N := some 32) #[true, true, true, true, true, true, true, true, true, true, false] ?_
            refine uPu (i := 10) (N := some 7) #[true, true, true, true, true, true, true, true, true, true, true] ?_
            refine done_ (done_of HT_.out (by kernel_rfl)) ?_
            try go_wp2
            go_roundg k2
            case measure => have := HJ1.out; have := HK2.out; omega
            case rel => exact ⟨(x20_2), ((t107.length : Int)), (wrap64 (x20_2 + 1)), (by rfl), (by rfl), (by rfl), H', ⟨by have := HJ1.out; have := HK2.out; omega⟩, ⟨by (with_reducible skip); exact BK101.out⟩, ⟨by exact uW⟩⟩
           ·rw [if_neg c23] at H
            have c23b0 : decide ((t107.length : Int) < x5_2) = false := decide_eq_false c23
            clear c23
            have H' := am H
            clear H
            try go_wp2
            replace BK101 := am (blk_drew BK101.out)
            replace HB := am (below_drew1 HB.out)
            have q29 : ((wrap64 (x20_2 + 1)) : Int) ≤ ((l0_2.length : Int) : Int) := of_decide_eq_true (by (with_reducible assumption))
            obtain ⟨i029, hi029, _, hsz29, _⟩ := info_parts info46
            have hroom29 : l0_2.length ≤ c0_2 := HC0_2.out
            have hC29 : Kd.C k46 _ A0_2 l0_2.length l0_2 := HR0_2.out
            have ql29 : (x20_2 : Int) ≤ ((wrap64 (x20_2 + 1)) : Int) := of_decide_eq_true (by (with_reducible assumption))
            have q029 : (0 : Int) ≤ (x20_2 : Int) := of_decide_eq_true (by (with_reducible assumption))
            have hcut29 := cut_mid (P := Tryz.prog) 26 46 .i64 .i64 Tryz.underlying26 hi029 3 hsz29 A0_2 l0_2.length c0_2 x20_2 (wrap64 (x20_2 + 1)) q029 ql29 q29 hroom29
            have hr29 := Kd.C_mid (lo := (x20_2 : Int).toNat) (hi := ((wrap64 (x20_2 + 1)) : Int).toNat) (c := c0_2) hC29 (by omega) (by omega) hroom29
            obtain ⟨A29, hA29⟩ : ∃ A1, A1 = (if c0_2 = (x20_2 : Int).toNat then A0_2 else (A0_2 : Option Addr).map (·.add ((x20_2 : Int).toNat * 3))) := ⟨_, rfl⟩
            obtain ⟨c29, hc29⟩ : ∃ c1, c1 = c0_2 - (x20_2 : Int).toNat := ⟨_, rfl⟩
            have hy29 : y103.length = ((wrap64 (x20_2 + 1)) : Int).toNat - (x20_2 : Int).toNat := (by rw [Ny103.out, List.length_drop, List.length_take] <;> omega)
            rw [show ((l0_2).take ((wrap64 (x20_2 + 1)) : Int).toNat).drop (x20_2 : Int).toNat = y103 from Ny103.out.symm] at hr29
            replace hr29 : Kd.C k46 _ A29 y103.length y103 := (by rw [hA29]; exact hr29)
            rw [← hy29, ← hA29, ← hc29] at hcut29
            have HR106 := am hr29
            have HC106 := am (show y103.length ≤ c29 from by rw [hy29, hc29]; exact Nat.sub_le_sub_right (Nat.le_trans (by omega) hroom29) _)
            clear hr29 hC29 hroom29 hi029 hsz29 hc29
            have KY29 := am hy29
            have KA29 := am hA29
            clear hy29 hA29
            replace q29 := eq_true q29
            refine start_ (n := 11) (S := fun w' => w'.cell? ⟨gb101, 0, none⟩ = some (.int .i64 a0_0) ∧ w'.cell? ⟨gb101, 1, none⟩ = some (.int .i64 a0_1) ∧ w'.cell? ⟨gb101, 2, none⟩ = some (.slice A0_2 l0_2.length c0_2)) (ds := []) #[false, false, false, false, false, false, false, false, false, false, false] (by kernel_rfl) rfl rfl ⟨uT BK101 0, uT BK101 1, uT BK101 2⟩ (fun hHeld => ?_); refine with_tabW impl_BestClue.tab7 impl_BestClue.bits7 (fun HT_ HW_ => ?_)
            generalize wr.drew = w28 at BK101 HB HR106 hHeld ⊢
            refine uPu (i := 0) (N := some 23) #[true, false, false, false, false, false, false, false, false, false, false] ?_
            refine uPu (i := 2) (N := some 25) #[true, false, true, false, false, false, false, false, false, false, false] ?_
            refine uPu (i := 4) (N := some 27) #[true, false, true, false, true, false, false, false, false, false, false] ?_
            refine uPu (i := 5) (N := some 28) #[true, false, true, false, true, true, false, false, false, false, false] ?_
            refine uPu (i := 6) (N := some 29) #[true, false, true, false, true, true, true, false, false, false, false] ?_
            refine uTk (i := 1) (N := some 24) #[true, true, true, false, true, true, true, false, false, false, false] hHeld ?_
            refine uTk (i := 3) (N := some 26) #[true, true, true, true, true, true, true, false, false, false, false] hHeld ?_
            refine uPu (i := 7) (N := some 30) #[true, true, true, true, true, true, true, true, false, false, false] ?_
            refine uOn (i := 8) (N := some 31) #[true, true, true, true, true, true, true, true, true, false, false] (fun K hK => ?_)
            refine uGs Tryz.func37 #[.agg #[.int .i64 a0_0, .int .i64 a0_1], .slice A29 y103.length c29] ?_
            with_reducible refine (impl_solutions.calls a0_0 a0_1 _ _ y103 t107 _ ?side1 ?side2 A17.out).mono ?_
            (case side1 => repeat (exact (Kd.C_below HR106.out HB.out)))
            (case side2 => exact HC106.out)
            rintro e w30 ⟨v108, rfl, ho0, hb⟩
            refine ⟨_, rfl, ?_⟩
            have HO109 := am (Kd.R_lower ho0 (below_size uW))
            replace BK101 := uB BK101 hb
            replace HB := uS hb
            (try clear hb)
            (skip)
            (skip)
            (skip)
            (try clear ho0)
            obtain ⟨Ao31, co31, eo31⟩ := Kd.R_slice HO109.out
            (subst eo31)
            refine hK.out _ _ ⟨uT BK101 0, uT BK101 1, uT BK101 2⟩ (fun hHeld => ?_)
            clear hK K
            refine uNo (some 31) ?_
            refine uPu (i := 9) (N := some 32) #[true, true, true, true, true, true, true, true, true, true, false] ?_
            refine uPu (i := 10) (N := some 7) #[true, true, true, true, true, true, true, true, true, true, true] ?_
            refine done_ (done_of HT_.out (by kernel_rfl)) ?_
            try go_wp2
            go_roundg k2
            case measure => have := HJ1.out; have := HK2.out; omega
            case rel => exact ⟨(x4_2), (x5_2), (wrap64 (x20_2 + 1)), (by rfl), (by rfl), (by rfl), H', ⟨by have := HJ1.out; have := HK2.out; omega⟩, ⟨by (with_reducible skip); exact BK101.out⟩, ⟨by exact uW⟩⟩
         ·rw [if_neg c16] at H
          exact absurd H (by simp)
        ·rw [if_neg c15] at H
         exact absurd H (by simp)
       ·rw [if_neg c14] at H
        exact absurd H (by simp)
      ·rw [if_neg c13] at H
       have c13b0 : decide (x20_2 < (l0_2.length : Int)) = false := decide_eq_false c13
       clear c13
       simp only [Option.some.injEq, Prod.mk.injEq] at H
       obtain ⟨rfl, rfl⟩ := H
       go_wp2
       go_ret2
       exact ⟨uA, by exact uW⟩
section
structure Held (p : World → Prop) (W : World) : Prop where mk :: (out : p W)
class Stay (p : World → Prop) : Prop where step : ∀ {W W' : World}, p W → Below W.heap.size W W' → p W'
instance stay_C {α : Type} {d : Kd α} {A : Option Addr} {n : Nat} {xs : List α} : Stay (fun W => Kd.C d W A n xs) := ⟨fun h hb => Kd.C_below h hb⟩
instance stay_box {g : Nat} {o : Obj} : Stay (fun W => W.heap[g]? = some o) := ⟨fun h hb => blk_below h hb⟩
instance stay_cell {a : Addr} {v : Value} : Stay (fun W => W.cell? a = some v) := ⟨fun h hb => (hb.cell (World.block_lt_of_cell? _ _ h)).trans h⟩
instance stay_held {p : World → Prop} [hp : Stay p] : Stay (fun W => Held p W) := ⟨fun h hb => ⟨hp.step h.out hb⟩⟩
instance stay_old {w : World} : Stay (fun W => Below w.heap.size w W) := ⟨fun h hb => below_step h hb⟩
instance stay_and {p q : World → Prop} [hp : Stay p] [hq : Stay q] : Stay (fun W => p W ∧ q W) := ⟨fun h hb => ⟨hp.step h.1 hb, hq.step h.2 hb⟩⟩
theorem Held.below {p : World → Prop} {W W' : World} (h : Held p W) [hp : Stay p] (hb : Below W.heap.size W W') : Held p W' := ⟨hp.step h.out hb⟩
theorem Held.push {p q : World → Prop} {W : World} (h : Held p W) (hq : q W) : Held (fun W => q W ∧ p W) W := ⟨hq, h.out⟩
theorem Held.box {p : World → Prop} {W : World} {g : Nat} {o : Obj} (h : Held p W) (hh : W.heap[g]? = some o) : Held (fun W => W.heap[g]? = some o ∧ p W) W := ⟨hh, h.out⟩
theorem Held.row {α : Type} {d : Kd α} {A : Option Addr} {n : Nat} {xs : List α} {p : World → Prop} {W : World} (h : Held p W) (hh : Kd.C d W A n xs) : Held (fun W => Kd.C d W A n xs ∧ p W) W := ⟨hh, h.out⟩
theorem box3 {W w : World} {g : Nat} {t : TypeId} {a b c x y z : Value} (hg : W.heap.size ≤ g) (hh : w.heap[g]? = some (.cells #[a, b, c] t (0, 0))) (hb : Below W.heap.size W w) :
  Below W.heap.size W (((w.setCell ⟨g, 0, none⟩ x).setCell ⟨g, 1, none⟩ y).setCell ⟨g, 2, none⟩ z) ∧ (((w.setCell ⟨g, 0, none⟩ x).setCell ⟨g, 1, none⟩ y).setCell ⟨g, 2, none⟩ z).heap[g]? = some (.cells #[x, y, z] t (0, 0)) :=
 ⟨below_set (below_set (below_set hb hg) hg) hg, blk_set (blk_set (blk_set hh 0 x) 1 y) 2 z⟩
theorem wr64 {x : Int} (h0 : -9223372036854775808 ≤ x) (h1 : x ≤ 9223372036854775807) : wrap64 x = x := by unfold wrap64; omega
theorem ba_beq (text : ByteArray) : (text == text) = true := by
 cases text
 show ByteArray.beq _ _ = true
 simp [ByteArray.beq]
theorem ba_bne (text : ByteArray) : (text != text) = false := by
 rw [bne, ba_beq]
 rfl
instance stay_tb : Stay (fun W => Tb W) := ⟨fun h hb => h.below hb⟩
def hgT22 : Bool × List (List Nat × List Nat) := (true, [([], []), ([], []), ([0, 1], [0, 1]), ([2], [2]), ([3], [3]), ([3], [3]), ([4, 5, 3, 3], [3, 4, 5]), ([6, 3], [3, 6]), ([3, 7], [3, 7]), ([8, 6], [8]), ([9], [9]), ([9], [9]), ([10, 11, 9], [9, 10, 11]), ([9, 12], [9, 12]), ([13, 9], [13]), ([14], [14]), ([14], [14]), ([15, 16, 14], [14, 15, 16]), ([14, 17], [14, 17]), ([18, 14], [18]), ([19], [19]), ([19], [19]), ([20, 21, 19], [19, 20, 21]), ([19, 22], [19, 22]), ([23, 19], [23]), ([24], [24]), ([24], [24]), ([25, 26, 24], [24, 25, 26]), ([24, 27], [24, 27]), ([28, 24], [28]), ([29], [29]), ([29], [29]), ([30, 31, 29], [29, 30, 31]), ([29, 32], [29, 32]), ([33, 29], [33]), ([34], [34]), ([34], [34]), ([35, 36, 34], [34, 35, 36]), ([34, 37], [34, 37]), ([38, 34], [38]), ([39], [39]), ([39], [39]), ([40, 41, 39], [39, 40, 41]), ([39, 42], [39, 42]), ([43, 39], [43]), ([44], [44]), ([44], [44]), ([45, 46, 44], [44, 45, 46]), ([44, 47], [44, 47]), ([48, 44], [48]), ([49], [49]), ([49], [49]), ([50, 51, 49], [49, 50, 51]), ([49, 52], [49, 52]), ([53, 49], [53]), ([54], [54]), ([54], [54]), ([55, 56, 54], [54, 55, 56]), ([54, 57], [54, 57]), ([58, 54], [58]), ([59], [59]), ([59], [59]), ([60, 61, 59, 59], [59, 60, 61]), ([62, 59], [59, 62]), ([59, 63], [59, 63]), ([64, 62], [64]), ([65], [65]), ([65], [65]), ([66, 67, 65], [65, 66, 67]), ([65, 68], [65, 68]), ([69, 65], [69]), ([70], [70]), ([70], [70]), ([71, 72, 70, 70], [70, 71, 72]), ([73, 70], [70, 73]), ([70, 74], [70, 74]), ([75, 73], [75]), ([76], [76]), ([76], [76]), ([77, 78, 76], [76, 77, 78]), ([76, 79], [76, 79]), ([80, 76], [80]), ([81], [81]), ([81], [81]), ([82, 83, 81], [81, 82, 83]), ([81, 84], [81, 84]), ([85, 81], [85]), ([86], [86]), ([86], [86]), ([87, 88, 86], [86, 87, 88]), ([86, 89], [86, 89]), ([90, 86], [90]), ([91], [91]), ([91], [91]), ([92, 93, 91], [91, 92, 93]), ([91, 94], [91, 94]), ([95, 91], [95]), ([96], [96]), ([96], [96]), ([98, 96, 96], [96, 98]), ([97, 99, 96], [96, 97, 99]), ([96, 100], [96, 100]), ([101, 99], [101]), ([102], [102]), ([103, 102, 102], [102, 103]), ([102], [102]), ([105, 104, 102], [102, 105]), ([104, 106, 102], [102, 104, 106]), ([102, 107], [102, 107]), ([108, 106], [108]), ([109], [109]), ([109], [109]), ([110, 111, 109], [109, 110, 111]), ([109, 112], [109, 112]), ([113, 109], [113]), ([114], [114]), ([114], [114]), ([116, 114, 114], [114, 116]), ([117], [117]), ([118, 117], [117, 118]), ([117, 119, 114], [114, 117, 119]), ([115, 120, 114], [114, 115, 120]), ([114, 121], [114, 121]), ([122, 117], [122]), ([123], [123]), ([123], [123]), ([124, 125, 123], [123, 124, 125]), ([123, 126], [123, 126]), ([127, 123], [127]), ([128], [128]), ([128], [128]), ([129, 130, 128], [128, 129, 130]), ([128, 131], [128, 131]), ([132, 128], [132]), ([133], [133]), ([133], [133]), ([134, 135, 133], [133, 134, 135]), ([133, 136], [133, 136]), ([137, 133], [137]), ([138], [138]), ([138], [138]), ([139, 140, 138], [138, 139, 140]), ([138, 141], [138, 141]), ([142, 138], [142]), ([143], [143]), ([143], [143]), ([145, 143, 143], [143, 145]), ([146], [146]), ([147, 146], [146, 147]), ([148, 146], [146, 148]), ([149, 146], [146, 149]), ([146, 150, 143], [143, 146, 150]), ([144, 151, 143], [143, 144, 151]), ([143, 152], [143, 152]), ([153, 146], [153]), ([154], [154]), ([154], [154]), ([155, 156, 154], [154, 155, 156]), ([154, 157], [154, 157])])
def hgT46 : Bool × List (List Nat × List Nat) := (true, [([], []), ([0], [0]), ([1], [1]), ([2], [2]), ([3, 2], [2, 3]), ([2, 4], [2, 4]), ([5, 2], [5]), ([6], [6]), ([6], [6]), ([7, 8, 6, 6], [6, 7, 8]), ([6], [6]), ([6], [6]), ([10, 11, 6], [6, 10, 11]), ([9, 12, 6], [6, 9, 12]), ([6, 13], [6, 13]), ([14, 9], [14]), ([15], [15]), ([15], [15]), ([17, 15], [15, 17]), ([16, 18, 15], [15, 16, 18]), ([19, 15], [15, 19]), ([15], [15]), ([15], [15]), ([21, 22, 15], [15, 21, 22]), ([23, 15], [15, 23]), ([20, 24, 15], [15, 20, 24]), ([15, 25], [15, 25]), ([26, 15], [26]), ([27], [27]), ([28, 27], [27, 28]), ([27, 29], [27, 29]), ([30, 27], [30]), ([31], [31]), ([31], [31]), ([33, 31], [31, 33]), ([34, 31], [31, 34]), ([32, 35, 31], [31, 32, 35]), ([31, 36], [31, 36])])
def mk (n m : Nat) : Array Bool := (List.replicate m true ++ List.replicate (n - m) false).toArray
def mk2 (n m j : Nat) : Array Bool := ((List.replicate m true ++ List.replicate (n - m) false).set j true).toArray
structure VL (P : Program) (ops : Array Oper) (Q : Exit → Act → World → Prop) (l : List Oper) (a : Act) (w : World) : Prop where
 out : wpList P ops Q l a w
section
variable {P : Program} {ops : Array Oper} {Q : Exit → Act → World → Prop} {rest : List Oper} {w : World}
theorem vLr {id : Nat} {l : List Oper} {a : Act} (h : VL P l.toArray Q l a w) : (Code.region id l.toArray false).wp P Q a w := wp_region_lit h.out
theorem vLt {v : Value} {a a' : Act} {d : Option Tmp} {op : Op} {ty : TypeId} {pos : String} {af : Array Edge} {g : Option (Nat × Bool)} (h : VL P ops Q rest a' w) (hw : Region.wanted ⟨d, op, ty, pos, af, g⟩ (yielded ops a.tmps) = true := by kernel_rfl)
  (hy : (execOp a.eval ⟨d, op, ty, pos, af, g⟩).run P w = .ok (.value v) w := by go_simp; all_goals (try (with_reducible rfl))) (ha : a.put d v = a' := by (try simp only [Act.put, List.setIfInBounds_toArray, List.set_cons_zero, List.set_cons_succ]); rfl) : VL P ops Q (⟨d, op, ty, pos, af, g⟩ :: rest) a w := by
 subst ha
 refine ⟨wpList_step fun K hK => ?_⟩
 rw [if_pos hw]
 unfold Oper.wp
 rw [hy]
 exact hK _ _ h.out
theorem vLs {a a' : Act} {d : Option Tmp} {op : Op} {ty : TypeId} {pos : String} {af : Array Edge} {g : Option (Nat × Bool)} (h : VL P ops Q rest a' w) (hw : Region.wanted ⟨d, op, ty, pos, af, g⟩ (yielded ops a.tmps) = false := by kernel_rfl)
  (ha : a.put d undef = a' := by (try simp only [Act.put, List.setIfInBounds_toArray, List.set_cons_zero, List.set_cons_succ]); rfl) : VL P ops Q (⟨d, op, ty, pos, af, g⟩ :: rest) a w := by
 subst ha
 refine ⟨wpList_step fun K hK => ?_⟩
 rw [if_neg (by rw [hw]; exact Bool.false_ne_true)]
 exact hK _ _ h.out
theorem vLc {a : Act} {d : Option Tmp} {op : Op} {ty : TypeId} {pos : String} {af : Array Edge} {g : Option (Nat × Bool)} (h : ∀ K : Act → World → Prop, Aside0 (∀ a w, VL P ops Q rest a w → K a w) → Oper.wp P ⟨d, op, ty, pos, af, g⟩ a w K Q) (hw : Region.wanted ⟨d, op, ty, pos, af, g⟩ (yielded ops a.tmps) = true := by kernel_rfl) : VL P ops Q (⟨d, op, ty, pos, af, g⟩ :: rest) a w := by
 refine ⟨wpList_step fun K hK => ?_⟩
 rw [if_pos hw]
 exact h K ⟨fun a w hh => hK a w hh.out⟩
theorem vLe {a : Act} (h : Q .normal a w) : VL P ops Q [] a w := ⟨h⟩
end
section
variable {P : Program} {ops : Array Oper} {Q : Exit → Act → World → Prop} {md : Region.Mode} {S : World → Prop} {T : Bool × List (List Nat × List Nat)} {fuel : Nat} {l : Array Bool} {w : World}
theorem vHtab {a : Act} (T : Bool × List (List Nat × List Nat)) (hT : rtab md ops = T) (h : Aside0 (rtab md ops = T) → wpAnyH P md ops Q S fuel l a w) : wpAnyH P md ops Q S fuel l a w := h ⟨hT⟩
theorem any_parts {i : Nat} {l' : Array Bool} (hT : rtab md ops = T) (hc : anyT T l.toList l'.toList i = true) : Region.noSelect ops = true ∧ Region.free md ops l i = true ∧ (Region.ready md ops l).contains i = true ∧ l.setIfInBounds i true = l' := by
 have h := any_of hT hc
 simp only [anyB, Bool.and_eq_true] at h
 exact ⟨h.1.1.1, h.1.1.2, h.1.2, eq_of_beq h.2⟩
theorem vHt {v : Value} {a a' : Act} {d : Option Tmp} {op : Op} {ty : TypeId} {pos : String} {af : Array Edge} {g : Option (Nat × Bool)} (i : Nat) (l' : Array Bool) (hS : S w) (h : wpAnyH P md ops Q S fuel l' a' w) (hi : ops[i]? = some ⟨d, op, ty, pos, af, g⟩ := by exact rfl) (hT : Aside0 (rtab md ops = T) := by assumption) (hc : anyT T l.toList l'.toList i = true := by kernel_rfl)
  (hQ : ∀ c a w, Q (.panic c) (a.put d v) w → Q (.panic c) a w := by exact fun _ _ _ h => h) (hw : Region.wanted ⟨d, op, ty, pos, af, g⟩ (yielded ops a.tmps) = true := by kernel_rfl) (hy : ∀ w', S w' → (execOp a.eval ⟨d, op, ty, pos, af, g⟩).run P w' = .ok (.value v) w' := by intro w' hSw; (try dsimp only at hSw); go_simp; all_goals (try (with_reducible rfl)))
  (ha : a.put d v = a' := by (try simp only [Act.put, List.setIfInBounds_toArray, List.set_cons_zero, List.set_cons_succ]); rfl) : wpAnyH P md ops Q S (fuel + 1) l a w := by
 obtain ⟨h1, h2, h3, rfl⟩ := any_parts hT.out hc
 subst ha
 exact wpAnyH_take hi h1 h2 h3 hQ (Or.inl ⟨hw, hy⟩) hS h
theorem vHs {a a' : Act} {d : Option Tmp} {op : Op} {ty : TypeId} {pos : String} {af : Array Edge} {g : Option (Nat × Bool)} (i : Nat) (l' : Array Bool) (hS : S w) (h : wpAnyH P md ops Q S fuel l' a' w) (hi : ops[i]? = some ⟨d, op, ty, pos, af, g⟩ := by exact rfl) (hT : Aside0 (rtab md ops = T) := by assumption) (hc : anyT T l.toList l'.toList i = true := by kernel_rfl)
  (hQ : ∀ c a w, Q (.panic c) (a.put d undef) w → Q (.panic c) a w := by exact fun _ _ _ h => h) (hw : Region.wanted ⟨d, op, ty, pos, af, g⟩ (yielded ops a.tmps) = false := by kernel_rfl)
  (ha : a.put d undef = a' := by (try simp only [Act.put, List.setIfInBounds_toArray, List.set_cons_zero, List.set_cons_succ]); rfl) : wpAnyH P md ops Q S (fuel + 1) l a w := by
 obtain ⟨h1, h2, h3, rfl⟩ := any_parts hT.out hc
 subst ha
 exact wpAnyH_take hi h1 h2 h3 hQ (Or.inr ⟨hw, rfl⟩) hS h
theorem vHc {a : Act} {d : Option Tmp} {op : Op} {ty : TypeId} {pos : String} {af : Array Edge} {g : Option (Nat × Bool)} (i : Nat) (l' : Array Bool) (h : ∀ K' : Act → World → Prop, Shut (∀ a w, S w → (S w → wpAnyH P md ops Q S fuel l' a w) → K' a w) → Oper.wp P ⟨d, op, ty, pos, af, g⟩ a w K' Q)
  (hi : ops[i]? = some ⟨d, op, ty, pos, af, g⟩ := by exact rfl) (hT : Aside0 (rtab md ops = T) := by assumption) (hc : (readyT T.2 l.toList == [i] && l.toList.set i true == l'.toList) = true := by kernel_rfl) (hw : Region.wanted ⟨d, op, ty, pos, af, g⟩ (yielded ops a.tmps) = true := by kernel_rfl) : wpAnyH P md ops Q S (fuel + 1) l a w := by
 have hb := one_of hT.out hc
 simp only [readyB, Bool.and_eq_true] at hb
 obtain rfl := eq_of_beq hb.2
 refine wpAnyH_ready (eq_of_beq hb.1) (by simp) (AllReadyH.cons hi (fun K hK => ?_) AllReadyH.nil)
 rw [if_pos hw]
 exact h K hK
theorem vHd {a : Act} (h : Q .normal a w) (hT : Aside0 (rtab md ops = T) := by assumption) (hc : (readyT T.2 l.toList == []) = true := by kernel_rfl) : wpAnyH P md ops Q S fuel l a w := wpAnyH_done (eq_of_beq (done_of hT.out hc)) h _
end
structure RunA (k : Nat) (l0 : List Int) (a b : Int) (pl : List S46) (xs : List Int) (ok : Bool) (cnt first low high : Int) (three solved : Bool) (nd lf : List Int) (best : Int) (thirteen : Bool) (text : ByteArray) : Prop where
 draw : spec_DrawSolutions.f k l0 = some (a, b, pl)
 i1 : impl_Solutions.f a b pl = some (xs, ok)
 s1 : spec_Solutions.f k a b pl = some (xs, ok)
 i2 : impl_CountSolutions.f a b pl = some (cnt, ok)
 s2 : spec_CountSolutions.f k a b pl = some (cnt, ok)
 i3 : impl_FirstSolution.f a b pl = some (first, three)
 s3 : spec_FirstSolution.f k a b pl = some (first, three)
 i4 : impl_RangeOfSolutions.f a b pl = some (low, high, three)
 s4 : spec_RangeOfSolutions.f k a b pl = some (low, high, three)
 i5 : impl_IsSolved.f a b pl = some (solved, ok)
 s5 : spec_IsSolved.f k a b pl = some (solved, ok)
 i6 : impl_NeedlessClues.f k a b pl = some (nd, ok)
 s6 : spec_NeedlessClues.f k a b pl = some (nd, ok)
 i7 : impl_LeftByClues.f k a b pl = some (lf, ok)
 s7 : spec_LeftByClues.f k a b pl = some (lf, ok)
 i8 : impl_BestClue.f k a b pl = some (best, thirteen)
 s8 : spec_BestClue.f k a b pl = some (best, thirteen)
 i9 : impl_PuzzleText.f k a b pl = some (text, ok)
 s9 : spec_PuzzleText.f k a b pl = some (text, ok)
 p1 : impl_IsPuzzle.f a b pl = some ok
 p2 : spec_IsPuzzle.f k a b pl = some ok
 e1 : laws_aSame.f k xs xs = some true
 e2 : laws_aSame.f k nd nd = some true
 e3 : laws_aSame.f k lf lf = some true
 t3 : three = (ok && decide (cnt > 0))
 t13 : thirteen = (ok && decide ((pl.length : Int) > 0))
structure Drop (k : Nat) (a b : Int) (pl : List S46) (nd lf : List Int) (cnt best : Int) (j : Nat) (d1 d2 : Int) (dl : List S46) (still v1 v2 : Int) : Prop where
 drop : impl_DropClue.f a b pl (j : Int) = some (d1, d2, dl, true)
 cnt1 : impl_CountSolutions.f d1 d2 dl = some (still, true)
 has : laws_aHas.f k nd (j : Int) = some (still == cnt)
 w1 : rd lf ((j : Int) + 1) = v1
 w2 : rd lf (j : Int) = v2
 le : v1 ≤ v2
 b0 : 0 ≤ best
 b1 : best < (pl.length : Int)
structure RunB (k : Nat) (a b : Int) (pl : List S46) (xs : List Int) (cnt first low high : Int) (three solved : Bool) (nd lf : List Int) (best : Int) (text : ByteArray) (hs : Int) : Prop where
 hof : impl_HousesOf.f a b = some (hs, true)
 len : (xs.length : Int) = cnt
 slv : solved = (cnt == 1)
 llen : (lf.length : Int) = (pl.length : Int) + 1
 small : pl.length ≤ 1000 ∧ cnt ≤ 1000 ∧ 0 ≤ cnt
 smallx : xs.length ≤ 1000
 lf0 : rd lf 0 = hs
 lfn : rd lf (pl.length : Int) = cnt
 ends : three = true → 0 < cnt ∧ rd xs 0 = first ∧ low = first ∧ rd xs (cnt - 1) = high
 rises : laws_aRises.f k xs = some true
 each : ∀ h ∈ xs, 1 ≤ h ∧ h ≤ hs ∧ ∀ y ∈ pl, impl_DoesFit.f a b y.f0 y.f1 y.f2 h = some (true, true)
 drop : ∀ j : Nat, j < pl.length → ∃ d1 d2 dl still v1 v2, Drop k a b pl nd lf cnt best j d1 d2 dl still v1 v2
 back : impl_ParsePuzzle.f k text = some (a, b, pl, true)
 same : laws_aPuzzle.f k a b pl a b pl = some true
structure RunC (k : Nat) (l1 : List Int) (s : ByteArray) (r1 r2 : Int) (rl : List S46) (sev : Bool) : Prop where
 draw : spec_DrawParsePuzzle.f k l1 = some s
 pi : impl_ParsePuzzle.f k s = some (r1, r2, rl, sev)
 ps : spec_ParsePuzzle.f k s = some (r1, r2, rl, sev)
 eq : laws_aPuzzle.f k r1 r2 rl r1 r2 rl = some true
 again : sev = true → impl_PuzzleText.f k r1 r2 rl = some (s, true)
end
def HgPure : Prop := ∀ (l0 l1 : List Int), l0.length ≤ maxLen → (∀ x ∈ l0, (Lit.int .u8 x).wf = true) → l1.length ≤ maxLen → (∀ x ∈ l1, (Lit.int .u8 x).wf = true) → laws_big.f l0 l1 = some true ∨ (laws_big.f l0 l1 = some false ∧ ∃ (k : Nat), ∃ (a b : Int), ∃ (pl : List S46), ∃ (xs : List Int), ∃ (ok : Bool), ∃ (cnt first low high : Int), ∃ (three solved : Bool), ∃ (nd lf : List Int), ∃ (best : Int), ∃ (thirteen : Bool), ∃ (text : ByteArray), (RunA k l0 a b pl xs ok cnt first low high three solved nd lf best thirteen text) ∧ ∃ (hs : Int), (ok = true → RunB k a b pl xs cnt first low high three solved nd lf best text hs) ∧ ∃ (s : ByteArray), ∃ (r1 r2 : Int), ∃ (rl : List S46), ∃ (sev : Bool), (RunC k l1 s r1 r2 rl sev))
def guessed_1 : {Q : Prop // Aside0 Q → ∀ (A0 : Option Addr) (c0 : Nat) (l0 : List Int) (A1 : Option Addr) (c1 : Nat) (l1 : List Int) (w : World) (hr0 : Kd.C (Kd.int .u8) w A0 l0.length l0) (hc0 : l0.length ≤ c0) (hr1 : Kd.C (Kd.int .u8) w A1 l1.length l1) (hc1 : l1.length ≤ c1) (hT : Tb w) (k : Nat) (a b : Int) (pl : List S46) (xs : List Int) (ok : Bool) (cnt first low high : Int) (three solved : Bool) (nd lf : List Int) (best : Int) (thirteen : Bool) (text : ByteArray) (big : laws_big.f l0 l1 = some false) (ra : RunA k l0 a b pl xs ok cnt first low high three solved nd lf best thirteen text) (hs : Int) (rb : ok = true → RunB k a b pl xs cnt first low high three solved nd lf best text hs) (s : ByteArray) (r1 r2 : Int) (rl : List S46) (sev : Bool) (rc : RunC k l1 s r1 r2 rl sev), Calls Tryz.prog 3 #[.slice A0 l0.length c0, .slice A1 l1.length c1] w fun e w' => e = .returned (.bool true) ∧ Below w.heap.size w w'} := ⟨_, fun q_ => by
 intro A0 c0 l0 A1 c1 l1 w hr0 hc0 hr1 hc1 hT k a b pl xs ok cnt first low high three solved nd lf best thirteen text big ra hs rb s r1 r2 rl sev rc
 have hu28 := Tryz.underlying28
 have hu46 := Tryz.underlying46
 have hu25 := Tryz.underlying25
 have HC0 := am hc0
 have HC1 := am hc1
 have HBIG := am big
 have HA := am ra
 have HL := am ((((Held.mk (p := fun W => Below w.heap.size w W) (Below.refl _ w)).push (q := fun W => Tb W) hT).push (q := fun W => Kd.C (Kd.int .u8) W A0 l0.length l0) hr0).push (q := fun W => Kd.C (Kd.int .u8) W A1 l1.length l1) hr1)
 clear hr0 hc0 hr1 hc1 big ra hT
 have HRB := am rb
 have HC := am rc
 clear rb rc
 go_enter Tryz.func3, Tryz.ntmps3
 go_wp2_with fail
 refine (laws_big.calls A0 c0 l0 A1 c1 l1 false _ HL.out.out.2.1 HC0.out HL.out.out.1 HC1.out HBIG.out).mono ?_
 rintro e w1 ⟨rfl, hd⟩
 have HL_ := am (HL.out.below hd.below)
 clear HL
 have HL := HL_
 clear HL_
 clear hd
 go_wp2_with fail
 refine (spec_DrawSolutions.calls k A0 c0 l0 a b pl _ HL.out.out.2.1 HC0.out HA.out.draw).mono ?_
 rintro e w2 ⟨v, rfl, ho, hb⟩
 obtain ⟨Apl, cpl, rfl⟩ := Kd.R_slice ho
 have LEpl := am (Kd.R_reads' ho).2.1
 have HL_ := am ((HL.out.below hb).row (Kd.R_reads' ho).2.2)
 clear HL
 have HL := HL_
 clear HL_
 clear ho hb
 go_wp2_with (first
  | ((with_reducible refine gate_dst (N := 5) rfl ?_); refine uX (N := 5) (cs := #[.int .i64 0, .int .i64 0, .slice none 0 0]) (t := 28) ?_; intro g5 hg w3 hh hb; have hz5_0 := blk_cell hh 0; have hz5_1 := blk_cell hh 1; have hz5_2 := blk_cell hh 2; have hz5_3 := blk_frozen hh 0; have hz5_4 := blk_frozen hh 1; have hz5_5 := blk_frozen hh 2; have HG5 := am (Nat.le_of_eq hg.symm); have HB := am hb; have HH5 := am hh; clear hg hb hh)
  | ((with_reducible refine gate_store (t := 28) (p := 5) rfl ?_); refine store_event (t := 28) (p := 5) (v := ?vo_w4) (w1 := (((w3.setCell ⟨g5, 0, none⟩ (.int .i64 a)).setCell ⟨g5, 1, none⟩ (.int .i64 b)).setCell ⟨g5, 2, none⟩ (.slice Apl pl.length cpl))) ?hg ?ho ?hn ?hr ?_; (case ho => rfl); (case hg => rfl); (case hn => rfl); (case hr => first | (go_simp; done) | (go_simp; rfl)); intro w4 ew_; obtain ⟨hb2, hh2⟩ := box3 (x := .int .i64 a) (y := .int .i64 b) (z := .slice Apl pl.length cpl) HG5.out HH5.out HB.out; rw [← ew_] at hb2 hh2; have HL_ := am ((HL.out.below hb2).box hh2); clear HL; have HL := HL_; clear HL_; clear hb2 hh2 HB HH5 HG5 ew_ hz5_0 hz5_1 hz5_2 hz5_3 hz5_4 hz5_5; have hx5_0 := blk_cell HL.out.out.1 0; have hx5_1 := blk_cell HL.out.out.1 1; have hx5_2 := blk_cell HL.out.out.1 2)
  | fail)
 refine (impl_Solutions.calls a b _ _ pl xs ok _ HL.out.out.2.1 LEpl.out HA.out.i1).mono ?_
 rintro e w5 ⟨v, rfl, ho, hb⟩
 obtain ⟨Axs, cxs, rfl⟩ := Kd.R_slice ho
 have LExs := am (Kd.R_reads' ho).2.1
 have HL_ := am ((HL.out.below hb).row (Kd.R_reads' ho).2.2)
 clear HL
 have HL := HL_
 clear HL_
 clear ho hb
 clear hx5_0 hx5_1 hx5_2
 have hx5_0 := blk_cell HL.out.out.2.1 0
 have hx5_1 := blk_cell HL.out.out.2.1 1
 have hx5_2 := blk_cell HL.out.out.2.1 2
 go_wp2_with fail
 refine (spec_Solutions.calls k a b _ _ pl xs ok _ HL.out.out.2.2.1 LEpl.out HA.out.s1).mono ?_
 rintro e w6 ⟨v, rfl, ho, hb⟩
 obtain ⟨Ays, cys, rfl⟩ := Kd.R_slice ho
 have LEys := am (Kd.R_reads' ho).2.1
 have HL_ := am ((HL.out.below hb).row (Kd.R_reads' ho).2.2)
 clear HL
 have HL := HL_
 clear HL_
 clear ho hb
 clear hx5_0 hx5_1 hx5_2
 have hx5_0 := blk_cell HL.out.out.2.2.1 0
 have hx5_1 := blk_cell HL.out.out.2.2.1 1
 have hx5_2 := blk_cell HL.out.out.2.2.1 2
 go_wp2_with fail
 refine (impl_CountSolutions.calls a b _ _ pl cnt ok _ HL.out.out.2.2.2.1 LEpl.out HA.out.i2).mono ?_
 rintro e w7 ⟨rfl, hb⟩
 have HL_ := am (HL.out.below hb)
 clear HL
 have HL := HL_
 clear HL_
 clear hb
 clear hx5_0 hx5_1 hx5_2
 have hx5_0 := blk_cell HL.out.out.2.2.1 0
 have hx5_1 := blk_cell HL.out.out.2.2.1 1
 have hx5_2 := blk_cell HL.out.out.2.2.1 2
 go_wp2_with fail
 refine (spec_CountSolutions.calls k a b _ _ pl cnt ok _ HL.out.out.2.2.2.1 LEpl.out HA.out.s2).mono ?_
 rintro e w8 ⟨rfl, hb⟩
 have HL_ := am (HL.out.below hb)
 clear HL
 have HL := HL_
 clear HL_
 clear hb
 clear hx5_0 hx5_1 hx5_2
 have hx5_0 := blk_cell HL.out.out.2.2.1 0
 have hx5_1 := blk_cell HL.out.out.2.2.1 1
 have hx5_2 := blk_cell HL.out.out.2.2.1 2
 go_wp2_with fail
 refine (impl_FirstSolution.calls a b _ _ pl first three _ HL.out.out.2.2.2.1 LEpl.out HA.out.i3).mono ?_
 rintro e w9 ⟨rfl, hb⟩
 have HL_ := am (HL.out.below hb)
 clear HL
 have HL := HL_
 clear HL_
 clear hb
 clear hx5_0 hx5_1 hx5_2
 have hx5_0 := blk_cell HL.out.out.2.2.1 0
 have hx5_1 := blk_cell HL.out.out.2.2.1 1
 have hx5_2 := blk_cell HL.out.out.2.2.1 2
 go_wp2_with fail
 refine (spec_FirstSolution.calls k a b _ _ pl first three _ HL.out.out.2.2.2.1 LEpl.out HA.out.s3).mono ?_
 rintro e w10 ⟨rfl, hb⟩
 have HL_ := am (HL.out.below hb)
 clear HL
 have HL := HL_
 clear HL_
 clear hb
 clear hx5_0 hx5_1 hx5_2
 have hx5_0 := blk_cell HL.out.out.2.2.1 0
 have hx5_1 := blk_cell HL.out.out.2.2.1 1
 have hx5_2 := blk_cell HL.out.out.2.2.1 2
 go_wp2_with fail
 refine (impl_RangeOfSolutions.calls a b _ _ pl low high three _ HL.out.out.2.2.2.1 LEpl.out HA.out.i4).mono ?_
 rintro e w11 ⟨rfl, hb⟩
 have HL_ := am (HL.out.below hb)
 clear HL
 have HL := HL_
 clear HL_
 clear hb
 clear hx5_0 hx5_1 hx5_2
 have hx5_0 := blk_cell HL.out.out.2.2.1 0
 have hx5_1 := blk_cell HL.out.out.2.2.1 1
 have hx5_2 := blk_cell HL.out.out.2.2.1 2
 go_wp2_with fail
 refine (spec_RangeOfSolutions.calls k a b _ _ pl low high three _ HL.out.out.2.2.2.1 LEpl.out HA.out.s4).mono ?_
 rintro e w12 ⟨rfl, hb⟩
 have HL_ := am (HL.out.below hb)
 clear HL
 have HL := HL_
 clear HL_
 clear hb
 clear hx5_0 hx5_1 hx5_2
 have hx5_0 := blk_cell HL.out.out.2.2.1 0
 have hx5_1 := blk_cell HL.out.out.2.2.1 1
 have hx5_2 := blk_cell HL.out.out.2.2.1 2
 go_wp2_with fail
 refine (impl_IsSolved.calls a b _ _ pl solved ok _ HL.out.out.2.2.2.1 LEpl.out HA.out.i5).mono ?_
 rintro e w13 ⟨rfl, hb⟩
 have HL_ := am (HL.out.below hb)
 clear HL
 have HL := HL_
 clear HL_
 clear hb
 clear hx5_0 hx5_1 hx5_2
 have hx5_0 := blk_cell HL.out.out.2.2.1 0
 have hx5_1 := blk_cell HL.out.out.2.2.1 1
 have hx5_2 := blk_cell HL.out.out.2.2.1 2
 go_wp2_with fail
 refine (spec_IsSolved.calls k a b _ _ pl solved ok _ HL.out.out.2.2.2.1 LEpl.out HA.out.s5).mono ?_
 rintro e w14 ⟨rfl, hb⟩
 have HL_ := am (HL.out.below hb)
 clear HL
 have HL := HL_
 clear HL_
 clear hb
 clear hx5_0 hx5_1 hx5_2
 rename_i U00 U01 U02 U03 U04
 revert A0 c0 l0 A1 c1 l1 w k a b pl xs ok cnt first low high three solved nd lf best thirteen text hs s r1 r2 rl sev hu28 hu46 hu25 HC0 HC1 HBIG HA HRB HC U00 w1 w2 Apl cpl LEpl g5 w3 w4 w5 Axs cxs LExs w6 Ays cys LEys w7 w8 w9 w10 w11 w12 w13 U01 U02 U03 U04 w14 HL
 exact q_.out⟩
def guessed_2 : {Q : Prop // Aside0 Q → guessed_1.1} := ⟨_, fun q_ => by
 intro A0 c0 l0 A1 c1 l1 w k a b pl xs ok cnt first low high three solved nd lf best thirteen text hs s r1 r2 rl sev hu28 hu46 hu25 HC0 HC1 HBIG HA HRB HC U00 w1 w2 Apl cpl LEpl g5 w3 w4 w5 Axs cxs LExs w6 Ays cys LEys w7 w8 w9 w10 w11 w12 w13 U01 U02 U03 U04 w14 HL
 have hx5_0 := blk_cell HL.out.out.2.2.1 0
 have hx5_1 := blk_cell HL.out.out.2.2.1 1
 have hx5_2 := blk_cell HL.out.out.2.2.1 2
 go_wp2_with fail
 refine (impl_NeedlessClues.calls k a b _ _ pl nd ok _ HL.out.out.2.2.2.1 LEpl.out HA.out.i6).mono ?_
 rintro e w15 ⟨v, rfl, ho, hb⟩
 obtain ⟨And, cnd, rfl⟩ := Kd.R_slice ho
 have LEnd := am (Kd.R_reads' ho).2.1
 have HL_ := am ((HL.out.below hb).row (Kd.R_reads' ho).2.2)
 clear HL
 have HL := HL_
 clear HL_
 clear ho hb
 clear hx5_0 hx5_1 hx5_2
 have hx5_0 := blk_cell HL.out.out.2.2.2.1 0
 have hx5_1 := blk_cell HL.out.out.2.2.2.1 1
 have hx5_2 := blk_cell HL.out.out.2.2.2.1 2
 go_wp2_with fail
 refine (spec_NeedlessClues.calls k a b _ _ pl nd ok _ HL.out.out.2.2.2.2.1 LEpl.out HA.out.s6).mono ?_
 rintro e w16 ⟨v, rfl, ho, hb⟩
 obtain ⟨Ane, cne, rfl⟩ := Kd.R_slice ho
 have LEne := am (Kd.R_reads' ho).2.1
 have HL_ := am ((HL.out.below hb).row (Kd.R_reads' ho).2.2)
 clear HL
 have HL := HL_
 clear HL_
 clear ho hb
 clear hx5_0 hx5_1 hx5_2
 have hx5_0 := blk_cell HL.out.out.2.2.2.2.1 0
 have hx5_1 := blk_cell HL.out.out.2.2.2.2.1 1
 have hx5_2 := blk_cell HL.out.out.2.2.2.2.1 2
 go_wp2_with fail
 refine (impl_LeftByClues.calls k a b _ _ pl lf ok _ HL.out.out.2.2.2.2.2.1 LEpl.out HA.out.i7).mono ?_
 rintro e w17 ⟨v, rfl, ho, hb⟩
 obtain ⟨Alf, clf, rfl⟩ := Kd.R_slice ho
 have LElf := am (Kd.R_reads' ho).2.1
 have HL_ := am ((HL.out.below hb).row (Kd.R_reads' ho).2.2)
 clear HL
 have HL := HL_
 clear HL_
 clear ho hb
 clear hx5_0 hx5_1 hx5_2
 have hx5_0 := blk_cell HL.out.out.2.2.2.2.2.1 0
 have hx5_1 := blk_cell HL.out.out.2.2.2.2.2.1 1
 have hx5_2 := blk_cell HL.out.out.2.2.2.2.2.1 2
 go_wp2_with fail
 refine (spec_LeftByClues.calls k a b _ _ pl lf ok _ HL.out.out.2.2.2.2.2.2.1 LEpl.out HA.out.s7).mono ?_
 rintro e w18 ⟨v, rfl, ho, hb⟩
 obtain ⟨Ale, cle, rfl⟩ := Kd.R_slice ho
 have LEle := am (Kd.R_reads' ho).2.1
 have HL_ := am ((HL.out.below hb).row (Kd.R_reads' ho).2.2)
 clear HL
 have HL := HL_
 clear HL_
 clear ho hb
 clear hx5_0 hx5_1 hx5_2
 have hx5_0 := blk_cell HL.out.out.2.2.2.2.2.2.1 0
 have hx5_1 := blk_cell HL.out.out.2.2.2.2.2.2.1 1
 have hx5_2 := blk_cell HL.out.out.2.2.2.2.2.2.1 2
 go_wp2_with fail
 refine (impl_BestClue.calls k a b _ _ pl best thirteen _ HL.out.out.2.2.2.2.2.2.2.1 LEpl.out HA.out.i8).mono ?_
 rintro e w19 ⟨rfl, hb⟩
 have HL_ := am (HL.out.below hb)
 clear HL
 have HL := HL_
 clear HL_
 clear hb
 clear hx5_0 hx5_1 hx5_2
 have hx5_0 := blk_cell HL.out.out.2.2.2.2.2.2.1 0
 have hx5_1 := blk_cell HL.out.out.2.2.2.2.2.2.1 1
 have hx5_2 := blk_cell HL.out.out.2.2.2.2.2.2.1 2
 go_wp2_with fail
 refine (spec_BestClue.calls k a b _ _ pl best thirteen _ HL.out.out.2.2.2.2.2.2.2.1 LEpl.out HA.out.s8).mono ?_
 rintro e w20 ⟨rfl, hb⟩
 have HL_ := am (HL.out.below hb)
 clear HL
 have HL := HL_
 clear HL_
 clear hb
 clear hx5_0 hx5_1 hx5_2
 have hx5_0 := blk_cell HL.out.out.2.2.2.2.2.2.1 0
 have hx5_1 := blk_cell HL.out.out.2.2.2.2.2.2.1 1
 have hx5_2 := blk_cell HL.out.out.2.2.2.2.2.2.1 2
 go_wp2_with fail
 refine (impl_PuzzleText.calls k a b _ _ pl text ok _ HL.out.out.2.2.2.2.2.2.2.1 LEpl.out HL.out.out.2.2.2.2.2.2.2.2.2.2.1 HA.out.i9).mono ?_
 rintro e w21 ⟨rfl, hb⟩
 have HL_ := am (HL.out.below hb)
 clear HL
 have HL := HL_
 clear HL_
 clear hb
 clear hx5_0 hx5_1 hx5_2
 have hx5_0 := blk_cell HL.out.out.2.2.2.2.2.2.1 0
 have hx5_1 := blk_cell HL.out.out.2.2.2.2.2.2.1 1
 have hx5_2 := blk_cell HL.out.out.2.2.2.2.2.2.1 2
 go_wp2_with fail
 refine (spec_PuzzleText.calls k a b _ _ pl text ok _ HL.out.out.2.2.2.2.2.2.2.1 LEpl.out HA.out.s9).mono ?_
 rintro e w22 ⟨rfl, hb⟩
 have HL_ := am (HL.out.below hb)
 clear HL
 have HL := HL_
 clear HL_
 clear hb
 clear hx5_0 hx5_1 hx5_2
 rename_i U6M U6N U6O U6P
 revert A0 c0 l0 A1 c1 l1 w k a b pl xs ok cnt first low high three solved nd lf best thirteen text hs s r1 r2 rl sev hu28 hu46 hu25 HC0 HC1 HBIG HA HRB HC U00 w1 w2 Apl cpl LEpl g5 w3 w4 w5 Axs cxs LExs w6 Ays cys LEys w7 w8 w9 w10 w11 w12 w13 w14 w15 And cnd LEnd w16 Ane cne LEne w17 Alf clf LElf w18 Ale cle LEle w19 w20 w21 U6M U6N U6O U6P w22 HL
 exact q_.out⟩
def guessed_3 : {Q : Prop × Prop × Prop // Aside0 (Q.1) → Aside0 (Q.2.1) → Aside0 (Q.2.2) → guessed_2.1} := ⟨(_, _, _), fun q0_ q1_ q2_ => by
 intro A0 c0 l0 A1 c1 l1 w k a b pl xs ok cnt first low high three solved nd lf best thirteen text hs s r1 r2 rl sev hu28 hu46 hu25 HC0 HC1 HBIG HA HRB HC U00 w1 w2 Apl cpl LEpl g5 w3 w4 w5 Axs cxs LExs w6 Ays cys LEys w7 w8 w9 w10 w11 w12 w13 w14 w15 And cnd LEnd w16 Ane cne LEne w17 Alf clf LElf w18 Ale cle LEle w19 w20 w21 U6M U6N U6O U6P w22 HL
 go_upto_region 22 with fail
 go_cut [321] from 163 to 321 (fun s321 wx => s321 = .bool false ∧ Aside0 (Held (fun W => Kd.C (Kd.int .i64) W Alf lf.length lf ∧ Kd.C (Kd.int .i64) W And nd.length nd ∧ Kd.C (Kd.int .i64) W Axs xs.length xs ∧ W.heap[g5]? = some (.cells #[.int .i64 a, .int .i64 b, .slice Apl pl.length cpl] 28 (0, 0)) ∧ Kd.C k46 W Apl pl.length pl ∧ Kd.C (Kd.int .u8) W A1 l1.length l1 ∧ Tb W ∧ Below w.heap.size w W) wx))
 case first =>
  have n0 : (ok != ok) = false := bne_self_eq_false _
  have n1 : (cnt != cnt) = false := bne_self_eq_false _
  have n2 : (first != first) = false := bne_self_eq_false _
  have n3 : (three != three) = false := bne_self_eq_false _
  have n4 : (low != low) = false := bne_self_eq_false _
  have n5 : (high != high) = false := bne_self_eq_false _
  have n6 : (solved != solved) = false := bne_self_eq_false _
  have n7 : (best != best) = false := bne_self_eq_false _
  have n8 : (thirteen != thirteen) = false := bne_self_eq_false _
  have n9 : (text != text) = false := ba_bne text
  have ht3 := am HA.out.t3
  have ht13 := am HA.out.t13
  cases ok
  ·
   rename_i u0_p2h0 u1_p2h0 u2_p2h0 u3_p2h0 u4_p2h0 u5_p2h0 u6_p2h0 u7_p2h0
   revert A0 c0 l0 A1 c1 l1 w k a b pl xs cnt first low high three solved nd lf best thirteen text hs s r1 r2 rl sev hu28 hu46 hu25 HC0 HC1 HBIG HC U00 w1 w2 Apl cpl LEpl g5 w3 w4 w5 Axs cxs LExs w6 Ays cys LEys w7 w8 w9 w10 w11 w12 w13 w14 w15 And cnd LEnd w16 Ane cne LEne w17 Alf clf LElf w18 Ale cle LEle w19 w20 w21 w22 HL u0_p2h0 u1_p2h0 u2_p2h0 u3_p2h0 u4_p2h0 u5_p2h0 u6_p2h0 n1 n2 n3 n4 n5 n6 n7 n8 n9 HA HRB u7_p2h0 n0 ht3 ht13
   exact q0_.out
  ·
   rename_i u0_p2h1 u1_p2h1 u2_p2h1 u3_p2h1 u4_p2h1 u5_p2h1 u6_p2h1 u7_p2h1
   revert A0 c0 l0 A1 c1 l1 w k a b pl xs cnt first low high three solved nd lf best thirteen text hs s r1 r2 rl sev hu28 hu46 hu25 HC0 HC1 HBIG HC U00 w1 w2 Apl cpl LEpl g5 w3 w4 w5 Axs cxs LExs w6 Ays cys LEys w7 w8 w9 w10 w11 w12 w13 w14 w15 And cnd LEnd w16 Ane cne LEne w17 Alf clf LElf w18 Ale cle LEle w19 w20 w21 w22 HL u0_p2h1 u1_p2h1 u2_p2h1 u3_p2h1 u4_p2h1 u5_p2h1 u6_p2h1 n1 n2 n3 n4 n5 n6 n7 n8 n9 HA HRB u7_p2h1 n0 ht3 ht13
   exact q1_.out
 obtain ⟨rfl, HL2⟩ := hcut
 clear HL
 have HL := HL2
 clear HL2
 rename_i Udy Udz UdA UdB
 revert A0 c0 l0 A1 c1 l1 w k a b pl xs ok cnt first low high three solved nd lf best thirteen text hs s r1 r2 rl sev hu28 hu46 hu25 HC0 HC1 HBIG HA HRB HC U00 w1 w2 Apl cpl LEpl g5 w3 w4 w5 Axs cxs LExs w6 Ays cys LEys w7 w8 w9 w10 w11 w12 w13 w14 w15 And cnd LEnd w16 Ane cne LEne w17 Alf clf LElf w18 Ale cle LEle w19 w20 w21 w22 Udy Udz UdA UdB wc u163 u164 u165 u166 u167 u168 u169 u170 u171 u172 u173 u174 u175 u176 u177 u178 u179 u180 u181 u182 u183 u184 u185 u186 u187 u188 u189 u190 u191 u192 u193 u194 u195 u196 u197 u198 u199 u200 u201 u202 u203 u204 u205 u206 u207 u208 u209 u210 u211 u212 u213 u214 u215 u216 u217 u218 u219 u220 u221 u222 u223 u224 u225 u226 u227 u228 u229 u230 u231 u232 u233 u234 u235 u236 u237 u238 u239 u240 u241 u242 u243 u244 u245 u246 u247 u248 u249 u250 u251 u252 u253 u254 u255 u256 u257 u258 u259 u260 u261 u262 u263 u264 u265 u266 u267 u268 u269 u270 u271 u272 u273 u274 u275 u276 u277 u278 u279 u280 u281 u282 u283 u284 u285 u286 u287 u288 u289 u290 u291 u292 u293 u294 u295 u296 u297 u298 u299 u300 u301 u302 u303 u304 u305 u306 u307 u308 u309 u310 u311 u312 u313 u314 u315 u316 u317 u318 u319 u320 HL
 exact q2_.out⟩
def guessed_3a : {Q : Prop // Aside0 Q → guessed_3.1.1} := ⟨_, fun q_ => by
 intro A0 c0 l0 A1 c1 l1 w k a b pl xs cnt first low high three solved nd lf best thirteen text hs s r1 r2 rl sev hu28 hu46 hu25 HC0 HC1 HBIG HC U00 w1 w2 Apl cpl LEpl g5 w3 w4 w5 Axs cxs LExs w6 Ays cys LEys w7 w8 w9 w10 w11 w12 w13 w14 w15 And cnd LEnd w16 Ane cne LEne w17 Alf clf LElf w18 Ale cle LEle w19 w20 w21 w22 HL u0_p2h0 u1_p2h0 u2_p2h0 u3_p2h0 u4_p2h0 u5_p2h0 u6_p2h0 n1 n2 n3 n4 n5 n6 n7 n8 n9 HA HRB u7_p2h0 n0 ht3 ht13
 obtain rfl : three = false := ht3.out
 obtain rfl : thirteen = false := ht13.out
 have HK_ := am (fun W W' => @Stay.step (fun W => W.cell? ⟨g5, 0, none⟩ = some (.int .i64 a) ∧ W.cell? ⟨g5, 1, none⟩ = some (.int .i64 b) ∧ W.cell? ⟨g5, 2, none⟩ = some (.slice Apl pl.length cpl) ∧ Held (fun W => Kd.C (Kd.int .i64) W Ale lf.length lf ∧ Kd.C (Kd.int .i64) W Alf lf.length lf ∧ Kd.C (Kd.int .i64) W Ane nd.length nd ∧ Kd.C (Kd.int .i64) W And nd.length nd ∧ Kd.C (Kd.int .i64) W Ays xs.length xs ∧ Kd.C (Kd.int .i64) W Axs xs.length xs ∧ W.heap[g5]? = some (.cells #[.int .i64 a, .int .i64 b, .slice Apl pl.length cpl] 28 (0, 0)) ∧ Kd.C k46 W Apl pl.length pl ∧ Kd.C (Kd.int .u8) W A1 l1.length l1 ∧ Kd.C (Kd.int .u8) W A0 l0.length l0 ∧ Tb W ∧ Below w.heap.size w W) W) inferInstance W W')
 have HG_ := am (fun W h => (HK_.out W W h (Below.refl _ _)).2.2.2)
 have HS := am (HK_.out _ _ ⟨blk_cell HL.out.out.2.2.2.2.2.2.1 0, blk_cell HL.out.out.2.2.2.2.2.2.1 1, blk_cell HL.out.out.2.2.2.2.2.2.1 2, HL.out⟩ (Below.refl _ _))
 clear HL
 refine wp_region_noPanic ?_
 refine wp_region_held_drew (S := fun W => W.cell? ⟨g5, 0, none⟩ = some (.int .i64 a) ∧ W.cell? ⟨g5, 1, none⟩ = some (.int .i64 b) ∧ W.cell? ⟨g5, 2, none⟩ = some (.slice Apl pl.length cpl) ∧ Held (fun W => Kd.C (Kd.int .i64) W Ale lf.length lf ∧ Kd.C (Kd.int .i64) W Alf lf.length lf ∧ Kd.C (Kd.int .i64) W Ane nd.length nd ∧ Kd.C (Kd.int .i64) W And nd.length nd ∧ Kd.C (Kd.int .i64) W Ays xs.length xs ∧ Kd.C (Kd.int .i64) W Axs xs.length xs ∧ W.heap[g5]? = some (.cells #[.int .i64 a, .int .i64 b, .slice Apl pl.length cpl] 28 (0, 0)) ∧ Kd.C k46 W Apl pl.length pl ∧ Kd.C (Kd.int .u8) W A1 l1.length l1 ∧ Kd.C (Kd.int .u8) W A0 l0.length l0 ∧ Tb W ∧ Below w.heap.size w W) W) (by kernel_rfl) (by with_reducible exact HK_.out _ _ HS.out ((Below.refl _ _).drew)) (fun hHeld => ?_)
 refine vHtab hgT22 (by kernel_rfl) (fun HT_ => ?_)
 refine vHt 0 (mk 159 1) hHeld ?_
 refine vHt 1 (mk 159 2) hHeld ?_
 refine vHt 2 (mk 159 3) hHeld ?_
 refine vHt 3 (mk 159 4) hHeld ?_
 refine vHt 4 (mk 159 5) hHeld ?_
 refine vHt 5 (mk 159 6) hHeld ?_
 refine vHc 6 (mk 159 7) (fun K hK => ?_)
 go_simp
 go_at_call 24
 with_reducible refine (laws_aSame.calls k _ _ xs _ _ xs true _ ?sa LExs.out ?sb LEys.out HA.out.e1).mono ?_
 case sa => exact (HG_.out _ (by with_reducible assumption)).out.2.2.2.2.2.1
 case sb => exact (HG_.out _ (by with_reducible assumption)).out.2.2.2.2.1
 rintro e w' ⟨rfl, hd⟩
 have hb := hd.below
 clear hd
 (try (go_wp2_with fail))
 refine hK.out _ _ ?hS (fun hHeld => ?_)
 case hS => with_reducible exact HK_.out _ _ (by assumption) (by assumption)
 clear hK K
 (try simp only [Act.put, List.setIfInBounds_toArray, List.set_cons_zero, List.set_cons_succ])
 refine vHt 7 (mk 159 8) hHeld ?_
 refine vHt 8 (mk 159 9) hHeld ?_
 refine vHt 9 (mk 159 10) hHeld ?_
 refine vHt 10 (mk 159 11) hHeld ?_
 refine vHt 11 (mk 159 12) hHeld ?_
 refine vHt 12 (mk 159 13) hHeld ?_
 refine vHt 13 (mk 159 14) hHeld ?_
 refine vHt 14 (mk 159 15) hHeld ?_
 refine vHt 15 (mk 159 16) hHeld ?_
 refine vHt 16 (mk 159 17) hHeld ?_
 refine vHt 17 (mk 159 18) hHeld ?_
 refine vHt 18 (mk 159 19) hHeld ?_
 refine vHt 19 (mk 159 20) hHeld ?_
 refine vHt 20 (mk 159 21) hHeld ?_
 refine vHt 21 (mk 159 22) hHeld ?_
 refine vHt 22 (mk 159 23) hHeld ?_
 refine vHt 23 (mk 159 24) hHeld ?_
 refine vHt 24 (mk 159 25) hHeld ?_
 refine vHt 25 (mk 159 26) hHeld ?_
 refine vHt 26 (mk 159 27) hHeld ?_
 refine vHt 27 (mk 159 28) hHeld ?_
 refine vHt 28 (mk 159 29) hHeld ?_
 refine vHt 29 (mk 159 30) hHeld ?_
 refine vHt 30 (mk 159 31) hHeld ?_
 refine vHt 31 (mk 159 32) hHeld ?_
 refine vHt 32 (mk 159 33) hHeld ?_
 refine vHt 33 (mk 159 34) hHeld ?_
 refine vHt 34 (mk 159 35) hHeld ?_
 refine vHt 35 (mk 159 36) hHeld ?_
 refine vHt 36 (mk 159 37) hHeld ?_
 refine vHt 37 (mk 159 38) hHeld ?_
 refine vHt 38 (mk 159 39) hHeld ?_
 refine vHt 39 (mk 159 40) hHeld ?_
 refine vHt 40 (mk 159 41) hHeld ?_
 refine vHt 41 (mk 159 42) hHeld ?_
 refine vHt 42 (mk 159 43) hHeld ?_
 refine vHt 43 (mk 159 44) hHeld ?_
 refine vHt 44 (mk 159 45) hHeld ?_
 rename_i u0_h3ah0
 revert A0 c0 l0 A1 c1 l1 w k a b pl xs cnt first low high solved nd lf best text hs s r1 r2 rl sev hu28 hu46 hu25 HC0 HC1 HBIG HC U00 w1 w2 Apl cpl LEpl g5 w3 w4 w5 Axs cxs LExs w6 Ays cys LEys w7 w8 w9 w10 w11 w12 w13 w14 w15 And cnd LEnd w16 Ane cne LEne w17 Alf clf LElf w18 Ale cle LEle w19 w20 w21 w22 u0_p2h0 u1_p2h0 u2_p2h0 u3_p2h0 u4_p2h0 u5_p2h0 u6_p2h0 n1 n2 n4 n5 n6 n7 n9 n0 n3 HRB ht3 n8 ht13 HA u7_p2h0 HK_ HG_ HS u0_h3ah0 HT_ w' hb hHeld
 exact q_.out
⟩
def guessed_3aa : {Q : Prop // Aside0 Q → guessed_3a.1} := ⟨_, fun q_ => by
 intro A0 c0 l0 A1 c1 l1 w k a b pl xs cnt first low high solved nd lf best text hs s r1 r2 rl sev hu28 hu46 hu25 HC0 HC1 HBIG HC U00 w1 w2 Apl cpl LEpl g5 w3 w4 w5 Axs cxs LExs w6 Ays cys LEys w7 w8 w9 w10 w11 w12 w13 w14 w15 And cnd LEnd w16 Ane cne LEne w17 Alf clf LElf w18 Ale cle LEle w19 w20 w21 w22 u0_p2h0 u1_p2h0 u2_p2h0 u3_p2h0 u4_p2h0 u5_p2h0 u6_p2h0 n1 n2 n4 n5 n6 n7 n9 n0 n3 HRB ht3 n8 ht13 HA u7_p2h0 HK_ HG_ HS u0_h3ah0 HT_ w' hb hHeld
 refine vHt 45 (mk 159 46) hHeld ?_
 refine vHt 46 (mk 159 47) hHeld ?_
 refine vHt 47 (mk 159 48) hHeld ?_
 refine vHt 48 (mk 159 49) hHeld ?_
 refine vHt 49 (mk 159 50) hHeld ?_
 refine vHt 50 (mk 159 51) hHeld ?_
 refine vHt 51 (mk 159 52) hHeld ?_
 refine vHt 52 (mk 159 53) hHeld ?_
 refine vHt 53 (mk 159 54) hHeld ?_
 refine vHt 54 (mk 159 55) hHeld ?_
 refine vHt 55 (mk 159 56) hHeld ?_
 refine vHt 56 (mk 159 57) hHeld ?_
 refine vHt 57 (mk 159 58) hHeld ?_
 refine vHt 58 (mk 159 59) hHeld ?_
 refine vHt 59 (mk 159 60) hHeld ?_
 refine vHt 60 (mk 159 61) hHeld ?_
 refine vHt 61 (mk 159 62) hHeld ?_
 refine vHc 62 (mk 159 63) (fun K hK => ?_)
 go_simp
 go_at_call 24
 with_reducible refine (laws_aSame.calls k _ _ nd _ _ nd true _ ?sa LEnd.out ?sb LEne.out HA.out.e2).mono ?_
 case sa => exact (HG_.out _ (by with_reducible assumption)).out.2.2.2.1
 case sb => exact (HG_.out _ (by with_reducible assumption)).out.2.2.1
 rintro e w' ⟨rfl, hd⟩
 have hb := hd.below
 clear hd
 (try (go_wp2_with fail))
 refine hK.out _ _ ?hS (fun hHeld => ?_)
 case hS => with_reducible exact HK_.out _ _ (by assumption) (by assumption)
 clear hK K
 (try simp only [Act.put, List.setIfInBounds_toArray, List.set_cons_zero, List.set_cons_succ])
 refine vHt 63 (mk 159 64) hHeld ?_
 refine vHt 64 (mk 159 65) hHeld ?_
 refine vHt 65 (mk 159 66) hHeld ?_
 refine vHt 66 (mk 159 67) hHeld ?_
 refine vHt 67 (mk 159 68) hHeld ?_
 refine vHt 68 (mk 159 69) hHeld ?_
 refine vHt 69 (mk 159 70) hHeld ?_
 refine vHt 70 (mk 159 71) hHeld ?_
 refine vHt 71 (mk 159 72) hHeld ?_
 refine vHt 72 (mk 159 73) hHeld ?_
 refine vHc 73 (mk 159 74) (fun K hK => ?_)
 go_simp
 go_at_call 24
 with_reducible refine (laws_aSame.calls k _ _ lf _ _ lf true _ ?sa LElf.out ?sb LEle.out HA.out.e3).mono ?_
 case sa => exact (HG_.out _ (by with_reducible assumption)).out.2.1
 case sb => exact (HG_.out _ (by with_reducible assumption)).out.1
 rintro e w' ⟨rfl, hd⟩
 have hb := hd.below
 clear hd
 (try (go_wp2_with fail))
 refine hK.out _ _ ?hS (fun hHeld => ?_)
 case hS => with_reducible exact HK_.out _ _ (by assumption) (by assumption)
 clear hK K
 (try simp only [Act.put, List.setIfInBounds_toArray, List.set_cons_zero, List.set_cons_succ])
 refine vHt 74 (mk 159 75) hHeld ?_
 refine vHt 75 (mk 159 76) hHeld ?_
 refine vHt 76 (mk 159 77) hHeld ?_
 refine vHt 77 (mk 159 78) hHeld ?_
 refine vHt 78 (mk 159 79) hHeld ?_
 refine vHt 79 (mk 159 80) hHeld ?_
 refine vHt 80 (mk 159 81) hHeld ?_
 refine vHt 81 (mk 159 82) hHeld ?_
 refine vHt 82 (mk 159 83) hHeld ?_
 refine vHt 83 (mk 159 84) hHeld ?_
 refine vHt 84 (mk 159 85) hHeld ?_
 refine vHt 85 (mk 159 86) hHeld ?_
 refine vHt 86 (mk 159 87) hHeld ?_
 refine vHt 87 (mk 159 88) hHeld ?_
 refine vHt 88 (mk 159 89) hHeld ?_
 refine vHt 89 (mk 159 90) hHeld ?_
 rename_i u0_h3aah0 u1_h3aah0 u2_h3aah0 u3_h3aah0 u4_h3aah0 u5_h3aah0
 revert A0 c0 l0 A1 c1 l1 w k a b pl xs cnt first low high solved nd lf best text hs s r1 r2 rl sev hu28 hu46 hu25 HC0 HC1 HBIG HC U00 w1 w2 Apl cpl LEpl g5 w3 w4 w5 Axs cxs LExs w6 Ays cys LEys w7 w8 w9 w10 w11 w12 w13 w14 w15 And cnd LEnd w16 Ane cne LEne w17 Alf clf LElf w18 Ale cle LEle w19 w20 w21 w22 u0_p2h0 u1_p2h0 u2_p2h0 u3_p2h0 u4_p2h0 u5_p2h0 u6_p2h0 n1 n2 n4 n5 n6 n7 n9 n0 n3 HRB ht3 n8 ht13 HA u7_p2h0 HK_ HG_ HS u0_h3ah0 HT_ u0_h3aah0 u1_h3aah0 u2_h3aah0 u3_h3aah0 u4_h3aah0 u5_h3aah0 w' hb hHeld
 exact q_.out
⟩
def guessed_3aaa : {Q : Prop // Aside0 Q → guessed_3aa.1} := ⟨_, fun q_ => by
 intro A0 c0 l0 A1 c1 l1 w k a b pl xs cnt first low high solved nd lf best text hs s r1 r2 rl sev hu28 hu46 hu25 HC0 HC1 HBIG HC U00 w1 w2 Apl cpl LEpl g5 w3 w4 w5 Axs cxs LExs w6 Ays cys LEys w7 w8 w9 w10 w11 w12 w13 w14 w15 And cnd LEnd w16 Ane cne LEne w17 Alf clf LElf w18 Ale cle LEle w19 w20 w21 w22 u0_p2h0 u1_p2h0 u2_p2h0 u3_p2h0 u4_p2h0 u5_p2h0 u6_p2h0 n1 n2 n4 n5 n6 n7 n9 n0 n3 HRB ht3 n8 ht13 HA u7_p2h0 HK_ HG_ HS u0_h3ah0 HT_ u0_h3aah0 u1_h3aah0 u2_h3aah0 u3_h3aah0 u4_h3aah0 u5_h3aah0 w' hb hHeld
 refine vHt 90 (mk 159 91) hHeld ?_
 refine vHt 91 (mk 159 92) hHeld ?_
 refine vHt 92 (mk 159 93) hHeld ?_
 refine vHt 93 (mk 159 94) hHeld ?_
 refine vHt 94 (mk 159 95) hHeld ?_
 refine vHt 95 (mk 159 96) hHeld ?_
 refine vHt 96 (mk 159 97) hHeld ?_
 refine vHt 97 (mk 159 98) hHeld ?_
 refine vHt 98 (mk 159 99) hHeld ?_
 refine vHc 99 (mk 159 100) (fun K hK => ?_)
 go_simp
 go_at_call 25
 with_reducible refine (impl_IsPuzzle.calls a b _ _ pl false _ ?sa LEpl.out HA.out.p1).mono ?_
 case sa => exact (HG_.out _ (by with_reducible assumption)).out.2.2.2.2.2.2.2.1
 rintro e w' ⟨rfl, hb⟩
 (try (go_wp2_with fail))
 refine hK.out _ _ ?hS (fun hHeld => ?_)
 case hS => with_reducible exact HK_.out _ _ (by assumption) (by assumption)
 clear hK K
 (try simp only [Act.put, List.setIfInBounds_toArray, List.set_cons_zero, List.set_cons_succ])
 refine vHt 100 (mk 159 101) hHeld ?_
 refine vHt 101 (mk 159 102) hHeld ?_
 refine vHt 102 (mk 159 103) hHeld ?_
 refine vHt 103 (mk 159 104) hHeld ?_
 refine vHt 105 (mk2 159 104 105) hHeld ?_
 refine vHc 104 (mk 159 106) (fun K hK => ?_)
 go_simp
 go_at_call 25
 with_reducible refine (impl_IsPuzzle.calls a b _ _ pl false _ ?sa LEpl.out HA.out.p1).mono ?_
 case sa => exact (HG_.out _ (by with_reducible assumption)).out.2.2.2.2.2.2.2.1
 rintro e w' ⟨rfl, hb⟩
 (try (go_wp2_with fail))
 refine hK.out _ _ ?hS (fun hHeld => ?_)
 case hS => with_reducible exact HK_.out _ _ (by assumption) (by assumption)
 clear hK K
 (try simp only [Act.put, List.setIfInBounds_toArray, List.set_cons_zero, List.set_cons_succ])
 refine vHc 106 (mk 159 107) (fun K hK => ?_)
 go_simp
 go_at_call 26
 with_reducible refine (spec_IsPuzzle.calls k a b _ _ pl false _ ?sa LEpl.out HA.out.p2).mono ?_
 case sa => exact (HG_.out _ (by with_reducible assumption)).out.2.2.2.2.2.2.2.1
 rintro e w' ⟨rfl, hb⟩
 (try (go_wp2_with fail))
 refine hK.out _ _ ?hS (fun hHeld => ?_)
 case hS => with_reducible exact HK_.out _ _ (by assumption) (by assumption)
 clear hK K
 (try simp only [Act.put, List.setIfInBounds_toArray, List.set_cons_zero, List.set_cons_succ])
 refine vHt 107 (mk 159 108) hHeld ?_
 refine vHt 108 (mk 159 109) hHeld ?_
 refine vHt 109 (mk 159 110) hHeld ?_
 refine vHt 110 (mk 159 111) hHeld ?_
 refine vHt 111 (mk 159 112) hHeld ?_
 refine vHt 112 (mk 159 113) hHeld ?_
 refine vHt 113 (mk 159 114) hHeld ?_
 refine vHt 114 (mk 159 115) hHeld ?_
 refine vHt 115 (mk 159 116) hHeld ?_
 refine vHt 116 (mk 159 117) hHeld ?_
 refine vHt 117 (mk 159 118) hHeld ?_
 refine vHs 118 (mk 159 119) hHeld ?_
 refine vHs 119 (mk 159 120) hHeld ?_
 refine vHt 120 (mk 159 121) hHeld ?_
 refine vHt 121 (mk 159 122) hHeld ?_
 refine vHt 122 (mk 159 123) hHeld ?_
 refine vHt 123 (mk 159 124) hHeld ?_
 refine vHt 124 (mk 159 125) hHeld ?_
 refine vHt 125 (mk 159 126) hHeld ?_
 refine vHt 126 (mk 159 127) hHeld ?_
 refine vHt 127 (mk 159 128) hHeld ?_
 refine vHt 128 (mk 159 129) hHeld ?_
 refine vHt 129 (mk 159 130) hHeld ?_
 rename_i u0_h3aaah0 u1_h3aaah0 u2_h3aaah0 u3_h3aaah0 u4_h3aaah0 u5_h3aaah0 u6_h3aaah0 u7_h3aaah0 u8_h3aaah0
 revert A0 c0 l0 A1 c1 l1 w k a b pl xs cnt first low high solved nd lf best text hs s r1 r2 rl sev hu28 hu46 hu25 HC0 HC1 HBIG HC U00 w1 w2 Apl cpl LEpl g5 w3 w4 w5 Axs cxs LExs w6 Ays cys LEys w7 w8 w9 w10 w11 w12 w13 w14 w15 And cnd LEnd w16 Ane cne LEne w17 Alf clf LElf w18 Ale cle LEle w19 w20 w21 w22 u0_p2h0 u1_p2h0 u2_p2h0 u3_p2h0 u4_p2h0 u5_p2h0 u6_p2h0 n1 n2 n4 n5 n6 n7 n9 n0 n3 HRB ht3 n8 ht13 HA u7_p2h0 HK_ HG_ HS u0_h3ah0 HT_ u0_h3aah0 u1_h3aah0 u2_h3aah0 u3_h3aah0 u4_h3aah0 u5_h3aah0 u0_h3aaah0 u1_h3aaah0 u2_h3aaah0 u3_h3aaah0 u4_h3aaah0 u5_h3aaah0 u6_h3aaah0 u7_h3aaah0 u8_h3aaah0 w' hb hHeld
 exact q_.out
⟩
theorem guessed_3aaaa : guessed_3aaa.1 := by
 intro A0 c0 l0 A1 c1 l1 w k a b pl xs cnt first low high solved nd lf best text hs s r1 r2 rl sev hu28 hu46 hu25 HC0 HC1 HBIG HC U00 w1 w2 Apl cpl LEpl g5 w3 w4 w5 Axs cxs LExs w6 Ays cys LEys w7 w8 w9 w10 w11 w12 w13 w14 w15 And cnd LEnd w16 Ane cne LEne w17 Alf clf LElf w18 Ale cle LEle w19 w20 w21 w22 u0_p2h0 u1_p2h0 u2_p2h0 u3_p2h0 u4_p2h0 u5_p2h0 u6_p2h0 n1 n2 n4 n5 n6 n7 n9 n0 n3 HRB ht3 n8 ht13 HA u7_p2h0 HK_ HG_ HS u0_h3ah0 HT_ u0_h3aah0 u1_h3aah0 u2_h3aah0 u3_h3aah0 u4_h3aah0 u5_h3aah0 u0_h3aaah0 u1_h3aaah0 u2_h3aaah0 u3_h3aaah0 u4_h3aaah0 u5_h3aaah0 u6_h3aaah0 u7_h3aaah0 u8_h3aaah0 w' hb hHeld
 refine vHt 130 (mk 159 131) hHeld ?_
 refine vHt 131 (mk 159 132) hHeld ?_
 refine vHt 132 (mk 159 133) hHeld ?_
 refine vHt 133 (mk 159 134) hHeld ?_
 refine vHt 134 (mk 159 135) hHeld ?_
 refine vHt 135 (mk 159 136) hHeld ?_
 refine vHt 136 (mk 159 137) hHeld ?_
 refine vHt 137 (mk 159 138) hHeld ?_
 refine vHt 138 (mk 159 139) hHeld ?_
 refine vHt 139 (mk 159 140) hHeld ?_
 refine vHt 140 (mk 159 141) hHeld ?_
 refine vHt 141 (mk 159 142) hHeld ?_
 refine vHt 142 (mk 159 143) hHeld ?_
 refine vHt 143 (mk 159 144) hHeld ?_
 refine vHt 144 (mk 159 145) hHeld ?_
 refine vHt 145 (mk 159 146) hHeld ?_
 refine vHt 146 (mk 159 147) hHeld ?_
 refine vHs 147 (mk 159 148) hHeld ?_
 refine vHs 148 (mk 159 149) hHeld ?_
 refine vHs 149 (mk 159 150) hHeld ?_
 refine vHs 150 (mk 159 151) hHeld ?_
 refine vHt 151 (mk 159 152) hHeld ?_
 refine vHt 152 (mk 159 153) hHeld ?_
 refine vHt 153 (mk 159 154) hHeld ?_
 refine vHt 154 (mk 159 155) hHeld ?_
 refine vHt 155 (mk 159 156) hHeld ?_
 refine vHt 156 (mk 159 157) hHeld ?_
 refine vHt 157 (mk 159 158) hHeld ?_
 refine vHt 158 (mk 159 159) hHeld ?_
 refine vHd ?_
 refine NoPanic.normal ?_
 go_wp2
 go_meet
 exact ⟨rfl, ⟨⟨(HG_.out _ (by with_reducible assumption)).out.2.1, (HG_.out _ (by with_reducible assumption)).out.2.2.2.1, (HG_.out _ (by with_reducible assumption)).out.2.2.2.2.2.1, (HG_.out _ (by with_reducible assumption)).out.2.2.2.2.2.2.1, (HG_.out _ (by with_reducible assumption)).out.2.2.2.2.2.2.2.1, (HG_.out _ (by with_reducible assumption)).out.2.2.2.2.2.2.2.2.1, (HG_.out _ (by with_reducible assumption)).out.2.2.2.2.2.2.2.2.2.2.1, (HG_.out _ (by with_reducible assumption)).out.2.2.2.2.2.2.2.2.2.2.2⟩⟩⟩
def guessed_3b : {Q : Prop // Aside0 Q → guessed_3.1.2.1} := ⟨_, fun q_ => by
 intro A0 c0 l0 A1 c1 l1 w k a b pl xs cnt first low high three solved nd lf best thirteen text hs s r1 r2 rl sev hu28 hu46 hu25 HC0 HC1 HBIG HC U00 w1 w2 Apl cpl LEpl g5 w3 w4 w5 Axs cxs LExs w6 Ays cys LEys w7 w8 w9 w10 w11 w12 w13 w14 w15 And cnd LEnd w16 Ane cne LEne w17 Alf clf LElf w18 Ale cle LEle w19 w20 w21 w22 HL u0_p2h1 u1_p2h1 u2_p2h1 u3_p2h1 u4_p2h1 u5_p2h1 u6_p2h1 n1 n2 n3 n4 n5 n6 n7 n8 n9 HA HRB u7_p2h1 n0 ht3 ht13
 have HK_ := am (fun W W' => @Stay.step (fun W => W.cell? ⟨g5, 0, none⟩ = some (.int .i64 a) ∧ W.cell? ⟨g5, 1, none⟩ = some (.int .i64 b) ∧ W.cell? ⟨g5, 2, none⟩ = some (.slice Apl pl.length cpl) ∧ Held (fun W => Kd.C (Kd.int .i64) W Ale lf.length lf ∧ Kd.C (Kd.int .i64) W Alf lf.length lf ∧ Kd.C (Kd.int .i64) W Ane nd.length nd ∧ Kd.C (Kd.int .i64) W And nd.length nd ∧ Kd.C (Kd.int .i64) W Ays xs.length xs ∧ Kd.C (Kd.int .i64) W Axs xs.length xs ∧ W.heap[g5]? = some (.cells #[.int .i64 a, .int .i64 b, .slice Apl pl.length cpl] 28 (0, 0)) ∧ Kd.C k46 W Apl pl.length pl ∧ Kd.C (Kd.int .u8) W A1 l1.length l1 ∧ Kd.C (Kd.int .u8) W A0 l0.length l0 ∧ Tb W ∧ Below w.heap.size w W) W) inferInstance W W')
 have HG_ := am (fun W h => (HK_.out W W h (Below.refl _ _)).2.2.2)
 have HS := am (HK_.out _ _ ⟨blk_cell HL.out.out.2.2.2.2.2.2.1 0, blk_cell HL.out.out.2.2.2.2.2.2.1 1, blk_cell HL.out.out.2.2.2.2.2.2.1 2, HL.out⟩ (Below.refl _ _))
 clear HL
 refine wp_region_noPanic ?_
 refine wp_region_held_drew (S := fun W => W.cell? ⟨g5, 0, none⟩ = some (.int .i64 a) ∧ W.cell? ⟨g5, 1, none⟩ = some (.int .i64 b) ∧ W.cell? ⟨g5, 2, none⟩ = some (.slice Apl pl.length cpl) ∧ Held (fun W => Kd.C (Kd.int .i64) W Ale lf.length lf ∧ Kd.C (Kd.int .i64) W Alf lf.length lf ∧ Kd.C (Kd.int .i64) W Ane nd.length nd ∧ Kd.C (Kd.int .i64) W And nd.length nd ∧ Kd.C (Kd.int .i64) W Ays xs.length xs ∧ Kd.C (Kd.int .i64) W Axs xs.length xs ∧ W.heap[g5]? = some (.cells #[.int .i64 a, .int .i64 b, .slice Apl pl.length cpl] 28 (0, 0)) ∧ Kd.C k46 W Apl pl.length pl ∧ Kd.C (Kd.int .u8) W A1 l1.length l1 ∧ Kd.C (Kd.int .u8) W A0 l0.length l0 ∧ Tb W ∧ Below w.heap.size w W) W) (by kernel_rfl) (by with_reducible exact HK_.out _ _ HS.out ((Below.refl _ _).drew)) (fun hHeld => ?_)
 refine vHtab hgT22 (by kernel_rfl) (fun HT_ => ?_)
 refine vHt 0 (mk 159 1) hHeld ?_
 refine vHt 1 (mk 159 2) hHeld ?_
 refine vHt 2 (mk 159 3) hHeld ?_
 refine vHt 3 (mk 159 4) hHeld ?_
 refine vHt 4 (mk 159 5) hHeld ?_
 refine vHt 5 (mk 159 6) hHeld ?_
 refine vHc 6 (mk 159 7) (fun K hK => ?_)
 go_simp
 go_at_call 24
 with_reducible refine (laws_aSame.calls k _ _ xs _ _ xs true _ ?sa LExs.out ?sb LEys.out HA.out.e1).mono ?_
 case sa => exact (HG_.out _ (by with_reducible assumption)).out.2.2.2.2.2.1
 case sb => exact (HG_.out _ (by with_reducible assumption)).out.2.2.2.2.1
 rintro e w' ⟨rfl, hd⟩
 have hb := hd.below
 clear hd
 (try (go_wp2_with fail))
 refine hK.out _ _ ?hS (fun hHeld => ?_)
 case hS => with_reducible exact HK_.out _ _ (by assumption) (by assumption)
 clear hK K
 (try simp only [Act.put, List.setIfInBounds_toArray, List.set_cons_zero, List.set_cons_succ])
 refine vHt 7 (mk 159 8) hHeld ?_
 refine vHt 8 (mk 159 9) hHeld ?_
 refine vHt 9 (mk 159 10) hHeld ?_
 refine vHt 10 (mk 159 11) hHeld ?_
 refine vHt 11 (mk 159 12) hHeld ?_
 refine vHt 12 (mk 159 13) hHeld ?_
 refine vHt 13 (mk 159 14) hHeld ?_
 refine vHt 14 (mk 159 15) hHeld ?_
 refine vHt 15 (mk 159 16) hHeld ?_
 refine vHt 16 (mk 159 17) hHeld ?_
 refine vHt 17 (mk 159 18) hHeld ?_
 refine vHt 18 (mk 159 19) hHeld ?_
 refine vHt 19 (mk 159 20) hHeld ?_
 refine vHt 20 (mk 159 21) hHeld ?_
 refine vHt 21 (mk 159 22) hHeld ?_
 refine vHt 22 (mk 159 23) hHeld ?_
 refine vHt 23 (mk 159 24) hHeld ?_
 refine vHt 24 (mk 159 25) hHeld ?_
 refine vHt 25 (mk 159 26) hHeld ?_
 refine vHt 26 (mk 159 27) hHeld ?_
 refine vHt 27 (mk 159 28) hHeld ?_
 refine vHt 28 (mk 159 29) hHeld ?_
 refine vHt 29 (mk 159 30) hHeld ?_
 refine vHt 30 (mk 159 31) hHeld ?_
 refine vHt 31 (mk 159 32) hHeld ?_
 refine vHt 32 (mk 159 33) hHeld ?_
 refine vHt 33 (mk 159 34) hHeld ?_
 refine vHt 34 (mk 159 35) hHeld ?_
 refine vHt 35 (mk 159 36) hHeld ?_
 refine vHt 36 (mk 159 37) hHeld ?_
 refine vHt 37 (mk 159 38) hHeld ?_
 refine vHt 38 (mk 159 39) hHeld ?_
 refine vHt 39 (mk 159 40) hHeld ?_
 refine vHt 40 (mk 159 41) hHeld ?_
 refine vHt 41 (mk 159 42) hHeld ?_
 refine vHt 42 (mk 159 43) hHeld ?_
 refine vHt 43 (mk 159 44) hHeld ?_
 refine vHt 44 (mk 159 45) hHeld ?_
 rename_i u0_h3bh0
 revert A0 c0 l0 A1 c1 l1 w k a b pl xs cnt first low high three solved nd lf best thirteen text hs s r1 r2 rl sev hu28 hu46 hu25 HC0 HC1 HBIG HC U00 w1 w2 Apl cpl LEpl g5 w3 w4 w5 Axs cxs LExs w6 Ays cys LEys w7 w8 w9 w10 w11 w12 w13 w14 w15 And cnd LEnd w16 Ane cne LEne w17 Alf clf LElf w18 Ale cle LEle w19 w20 w21 w22 u0_p2h1 u1_p2h1 u2_p2h1 u3_p2h1 u4_p2h1 u5_p2h1 u6_p2h1 n1 n2 n3 n4 n5 n6 n7 n8 n9 HA u7_p2h1 n0 ht3 ht13 HK_ HG_ HS u0_h3bh0 HT_ w' hb HRB hHeld
 exact q_.out
⟩
def guessed_3ba : {Q : Prop // Aside0 Q → guessed_3b.1} := ⟨_, fun q_ => by
 intro A0 c0 l0 A1 c1 l1 w k a b pl xs cnt first low high three solved nd lf best thirteen text hs s r1 r2 rl sev hu28 hu46 hu25 HC0 HC1 HBIG HC U00 w1 w2 Apl cpl LEpl g5 w3 w4 w5 Axs cxs LExs w6 Ays cys LEys w7 w8 w9 w10 w11 w12 w13 w14 w15 And cnd LEnd w16 Ane cne LEne w17 Alf clf LElf w18 Ale cle LEle w19 w20 w21 w22 u0_p2h1 u1_p2h1 u2_p2h1 u3_p2h1 u4_p2h1 u5_p2h1 u6_p2h1 n1 n2 n3 n4 n5 n6 n7 n8 n9 HA u7_p2h1 n0 ht3 ht13 HK_ HG_ HS u0_h3bh0 HT_ w' hb HRB hHeld
 refine vHt 45 (mk 159 46) hHeld ?_
 refine vHt 46 (mk 159 47) hHeld ?_
 refine vHt 47 (mk 159 48) hHeld ?_
 refine vHt 48 (mk 159 49) hHeld ?_
 refine vHt 49 (mk 159 50) hHeld ?_
 refine vHt 50 (mk 159 51) hHeld ?_
 refine vHt 51 (mk 159 52) hHeld ?_
 refine vHt 52 (mk 159 53) hHeld ?_
 refine vHt 53 (mk 159 54) hHeld ?_
 refine vHt 54 (mk 159 55) hHeld ?_
 refine vHt 55 (mk 159 56) hHeld ?_
 refine vHt 56 (mk 159 57) hHeld ?_
 refine vHt 57 (mk 159 58) hHeld ?_
 refine vHt 58 (mk 159 59) hHeld ?_
 refine vHt 59 (mk 159 60) hHeld ?_
 refine vHt 60 (mk 159 61) hHeld ?_
 refine vHt 61 (mk 159 62) hHeld ?_
 refine vHc 62 (mk 159 63) (fun K hK => ?_)
 go_simp
 go_at_call 24
 with_reducible refine (laws_aSame.calls k _ _ nd _ _ nd true _ ?sa LEnd.out ?sb LEne.out HA.out.e2).mono ?_
 case sa => exact (HG_.out _ (by with_reducible assumption)).out.2.2.2.1
 case sb => exact (HG_.out _ (by with_reducible assumption)).out.2.2.1
 rintro e w' ⟨rfl, hd⟩
 have hb := hd.below
 clear hd
 (try (go_wp2_with fail))
 refine hK.out _ _ ?hS (fun hHeld => ?_)
 case hS => with_reducible exact HK_.out _ _ (by assumption) (by assumption)
 clear hK K
 (try simp only [Act.put, List.setIfInBounds_toArray, List.set_cons_zero, List.set_cons_succ])
 refine vHt 63 (mk 159 64) hHeld ?_
 refine vHt 64 (mk 159 65) hHeld ?_
 refine vHt 65 (mk 159 66) hHeld ?_
 refine vHt 66 (mk 159 67) hHeld ?_
 refine vHt 67 (mk 159 68) hHeld ?_
 refine vHt 68 (mk 159 69) hHeld ?_
 refine vHt 69 (mk 159 70) hHeld ?_
 refine vHt 70 (mk 159 71) hHeld ?_
 refine vHt 71 (mk 159 72) hHeld ?_
 refine vHt 72 (mk 159 73) hHeld ?_
 refine vHc 73 (mk 159 74) (fun K hK => ?_)
 go_simp
 go_at_call 24
 with_reducible refine (laws_aSame.calls k _ _ lf _ _ lf true _ ?sa LElf.out ?sb LEle.out HA.out.e3).mono ?_
 case sa => exact (HG_.out _ (by with_reducible assumption)).out.2.1
 case sb => exact (HG_.out _ (by with_reducible assumption)).out.1
 rintro e w' ⟨rfl, hd⟩
 have hb := hd.below
 clear hd
 (try (go_wp2_with fail))
 refine hK.out _ _ ?hS (fun hHeld => ?_)
 case hS => with_reducible exact HK_.out _ _ (by assumption) (by assumption)
 clear hK K
 (try simp only [Act.put, List.setIfInBounds_toArray, List.set_cons_zero, List.set_cons_succ])
 refine vHt 74 (mk 159 75) hHeld ?_
 refine vHt 75 (mk 159 76) hHeld ?_
 refine vHt 76 (mk 159 77) hHeld ?_
 refine vHt 77 (mk 159 78) hHeld ?_
 refine vHt 78 (mk 159 79) hHeld ?_
 refine vHt 79 (mk 159 80) hHeld ?_
 refine vHt 80 (mk 159 81) hHeld ?_
 refine vHt 81 (mk 159 82) hHeld ?_
 refine vHt 82 (mk 159 83) hHeld ?_
 refine vHt 83 (mk 159 84) hHeld ?_
 refine vHt 84 (mk 159 85) hHeld ?_
 refine vHt 85 (mk 159 86) hHeld ?_
 refine vHt 86 (mk 159 87) hHeld ?_
 refine vHt 87 (mk 159 88) hHeld ?_
 refine vHt 88 (mk 159 89) hHeld ?_
 refine vHt 89 (mk 159 90) hHeld ?_
 rename_i u0_h3bah0 u1_h3bah0 u2_h3bah0 u3_h3bah0 u4_h3bah0 u5_h3bah0
 revert A0 c0 l0 A1 c1 l1 w k a b pl xs cnt first low high three solved nd lf best thirteen text hs s r1 r2 rl sev hu28 hu46 hu25 HC0 HC1 HBIG HC U00 w1 w2 Apl cpl LEpl g5 w3 w4 w5 Axs cxs LExs w6 Ays cys LEys w7 w8 w9 w10 w11 w12 w13 w14 w15 And cnd LEnd w16 Ane cne LEne w17 Alf clf LElf w18 Ale cle LEle w19 w20 w21 w22 u0_p2h1 u1_p2h1 u2_p2h1 u3_p2h1 u4_p2h1 u5_p2h1 u6_p2h1 n1 n2 n3 n4 n5 n6 n7 n8 n9 HA u7_p2h1 n0 ht3 ht13 HK_ HG_ HS u0_h3bh0 HT_ u0_h3bah0 u1_h3bah0 HRB u2_h3bah0 u3_h3bah0 u4_h3bah0 u5_h3bah0 w' hb hHeld
 exact q_.out
⟩
def guessed_3baa : {Q : Prop × Prop // Aside0 (Q.1) → Aside0 (Q.2) → guessed_3ba.1} := ⟨(_, _), fun q0_ q1_ => by
 intro A0 c0 l0 A1 c1 l1 w k a b pl xs cnt first low high three solved nd lf best thirteen text hs s r1 r2 rl sev hu28 hu46 hu25 HC0 HC1 HBIG HC U00 w1 w2 Apl cpl LEpl g5 w3 w4 w5 Axs cxs LExs w6 Ays cys LEys w7 w8 w9 w10 w11 w12 w13 w14 w15 And cnd LEnd w16 Ane cne LEne w17 Alf clf LElf w18 Ale cle LEle w19 w20 w21 w22 u0_p2h1 u1_p2h1 u2_p2h1 u3_p2h1 u4_p2h1 u5_p2h1 u6_p2h1 n1 n2 n3 n4 n5 n6 n7 n8 n9 HA u7_p2h1 n0 ht3 ht13 HK_ HG_ HS u0_h3bh0 HT_ u0_h3bah0 u1_h3bah0 HRB u2_h3bah0 u3_h3bah0 u4_h3bah0 u5_h3bah0 w' hb hHeld
 refine vHt 90 (mk 159 91) hHeld ?_
 refine vHt 91 (mk 159 92) hHeld ?_
 refine vHt 92 (mk 159 93) hHeld ?_
 refine vHt 93 (mk 159 94) hHeld ?_
 refine vHt 94 (mk 159 95) hHeld ?_
 refine vHt 95 (mk 159 96) hHeld ?_
 refine vHt 96 (mk 159 97) hHeld ?_
 refine vHt 97 (mk 159 98) hHeld ?_
 refine vHt 98 (mk 159 99) hHeld ?_
 refine vHc 99 (mk 159 100) (fun K hK => ?_)
 go_simp
 go_at_call 25
 with_reducible refine (impl_IsPuzzle.calls a b _ _ pl true _ ?sa LEpl.out HA.out.p1).mono ?_
 case sa => exact (HG_.out _ (by with_reducible assumption)).out.2.2.2.2.2.2.2.1
 rintro e w' ⟨rfl, hb⟩
 (try (go_wp2_with fail))
 refine hK.out _ _ ?hS (fun hHeld => ?_)
 case hS => with_reducible exact HK_.out _ _ (by assumption) (by assumption)
 clear hK K
 (try simp only [Act.put, List.setIfInBounds_toArray, List.set_cons_zero, List.set_cons_succ])
 refine vHt 100 (mk 159 101) hHeld ?_
 refine vHt 101 (mk 159 102) hHeld ?_
 refine vHt 102 (mk 159 103) hHeld ?_
 refine vHt 103 (mk 159 104) hHeld ?_
 refine vHt 105 (mk2 159 104 105) hHeld ?_
 refine vHc 104 (mk 159 106) (fun K hK => ?_)
 go_simp
 go_at_call 25
 with_reducible refine (impl_IsPuzzle.calls a b _ _ pl true _ ?sa LEpl.out HA.out.p1).mono ?_
 case sa => exact (HG_.out _ (by with_reducible assumption)).out.2.2.2.2.2.2.2.1
 rintro e w' ⟨rfl, hb⟩
 (try (go_wp2_with fail))
 refine hK.out _ _ ?hS (fun hHeld => ?_)
 case hS => with_reducible exact HK_.out _ _ (by assumption) (by assumption)
 clear hK K
 (try simp only [Act.put, List.setIfInBounds_toArray, List.set_cons_zero, List.set_cons_succ])
 refine vHc 106 (mk 159 107) (fun K hK => ?_)
 go_simp
 go_at_call 26
 with_reducible refine (spec_IsPuzzle.calls k a b _ _ pl true _ ?sa LEpl.out HA.out.p2).mono ?_
 case sa => exact (HG_.out _ (by with_reducible assumption)).out.2.2.2.2.2.2.2.1
 rintro e w' ⟨rfl, hb⟩
 (try (go_wp2_with fail))
 refine hK.out _ _ ?hS (fun hHeld => ?_)
 case hS => with_reducible exact HK_.out _ _ (by assumption) (by assumption)
 clear hK K
 (try simp only [Act.put, List.setIfInBounds_toArray, List.set_cons_zero, List.set_cons_succ])
 refine vHt 107 (mk 159 108) hHeld ?_
 refine vHt 108 (mk 159 109) hHeld ?_
 refine vHt 109 (mk 159 110) hHeld ?_
 refine vHt 110 (mk 159 111) hHeld ?_
 refine vHt 111 (mk 159 112) hHeld ?_
 refine vHt 112 (mk 159 113) hHeld ?_
 refine vHt 113 (mk 159 114) hHeld ?_
 refine vHt 114 (mk 159 115) hHeld ?_
 by_cases hc : cnt > 0
 ·
  obtain rfl : three = true := ht3.out.trans (decide_eq_true hc)
  have u1 : decide (cnt > 0) = true := decide_eq_true hc
  have u2 : decide (0 < cnt) = true := decide_eq_true hc
  have u3 : (0 < cnt) = True := eq_true hc
  clear hc
  rename_i u0_h3baah0 u1_h3baah0 u2_h3baah0 u3_h3baah0 u4_h3baah0 u5_h3baah0 u6_h3baah0 u7_h3baah0 u8_h3baah0
  revert A0 c0 l0 A1 c1 l1 w k a b pl xs cnt first low high solved nd lf best thirteen text hs s r1 r2 rl sev hu28 hu46 hu25 HC0 HC1 HBIG HC U00 w1 w2 Apl cpl LEpl g5 w3 w4 w5 Axs cxs LExs w6 Ays cys LEys w7 w8 w9 w10 w11 w12 w13 w14 w15 And cnd LEnd w16 Ane cne LEne w17 Alf clf LElf w18 Ale cle LEle w19 w20 w21 w22 u0_p2h1 u1_p2h1 u2_p2h1 u3_p2h1 u4_p2h1 u5_p2h1 u6_p2h1 n1 n2 n4 n5 n6 n7 n8 n9 n0 ht13 HK_ HG_ HS u0_h3bh0 HT_ u0_h3bah0 u1_h3bah0 u2_h3bah0 u3_h3bah0 u4_h3bah0 u5_h3bah0 u0_h3baah0 u1_h3baah0 u2_h3baah0 u3_h3baah0 u4_h3baah0 u5_h3baah0 u6_h3baah0 u7_h3baah0 u8_h3baah0 w' hb hHeld n3 HA u7_p2h1 ht3 HRB u1 u2 u3
  exact q0_.out
 ·
  obtain rfl : three = false := ht3.out.trans (decide_eq_false hc)
  have u1 : decide (cnt > 0) = false := decide_eq_false hc
  have u2 : decide (0 < cnt) = false := decide_eq_false hc
  have u3 : (0 < cnt) = False := eq_false hc
  clear hc
  rename_i u0_h3baah1 u1_h3baah1 u2_h3baah1 u3_h3baah1 u4_h3baah1 u5_h3baah1 u6_h3baah1 u7_h3baah1 u8_h3baah1
  revert A0 c0 l0 A1 c1 l1 w k a b pl xs cnt first low high solved nd lf best thirteen text hs s r1 r2 rl sev hu28 hu46 hu25 HC0 HC1 HBIG HC U00 w1 w2 Apl cpl LEpl g5 w3 w4 w5 Axs cxs LExs w6 Ays cys LEys w7 w8 w9 w10 w11 w12 w13 w14 w15 And cnd LEnd w16 Ane cne LEne w17 Alf clf LElf w18 Ale cle LEle w19 w20 w21 w22 u0_p2h1 u1_p2h1 u2_p2h1 u3_p2h1 u4_p2h1 u5_p2h1 u6_p2h1 n1 n2 n4 n5 n6 n7 n8 n9 n0 ht13 HK_ HG_ HS u0_h3bh0 HT_ u0_h3bah0 u1_h3bah0 u2_h3bah0 u3_h3bah0 u4_h3bah0 u5_h3bah0 u0_h3baah1 u1_h3baah1 u2_h3baah1 u3_h3baah1 u4_h3baah1 u5_h3baah1 u6_h3baah1 u7_h3baah1 u8_h3baah1 w' hb hHeld n3 HA u7_p2h1 ht3 HRB u1 u2 u3
  exact q1_.out
⟩
def guessed_3baaa : {Q : Prop × Prop // Aside0 (Q.1) → Aside0 (Q.2) → guessed_3baa.1.1} := ⟨(_, _), fun q0_ q1_ => by
 intro A0 c0 l0 A1 c1 l1 w k a b pl xs cnt first low high solved nd lf best thirteen text hs s r1 r2 rl sev hu28 hu46 hu25 HC0 HC1 HBIG HC U00 w1 w2 Apl cpl LEpl g5 w3 w4 w5 Axs cxs LExs w6 Ays cys LEys w7 w8 w9 w10 w11 w12 w13 w14 w15 And cnd LEnd w16 Ane cne LEne w17 Alf clf LElf w18 Ale cle LEle w19 w20 w21 w22 u0_p2h1 u1_p2h1 u2_p2h1 u3_p2h1 u4_p2h1 u5_p2h1 u6_p2h1 n1 n2 n4 n5 n6 n7 n8 n9 n0 ht13 HK_ HG_ HS u0_h3bh0 HT_ u0_h3bah0 u1_h3bah0 u2_h3bah0 u3_h3bah0 u4_h3bah0 u5_h3bah0 u0_h3baah0 u1_h3baah0 u2_h3baah0 u3_h3baah0 u4_h3baah0 u5_h3baah0 u6_h3baah0 u7_h3baah0 u8_h3baah0 w' hb hHeld n3 HA u7_p2h1 ht3 HRB u1 u2 u3
 refine vHt 115 (mk 159 116) hHeld ?_
 refine vHt 116 (mk 159 117) hHeld ?_
 refine vHt 117 (mk 159 118) hHeld ?_
 refine vHt 118 (mk 159 119) hHeld ?_
 refine vHt 119 (mk 159 120) hHeld ?_
 refine vHt 120 (mk 159 121) hHeld ?_
 refine vHt 121 (mk 159 122) hHeld ?_
 refine vHt 122 (mk 159 123) hHeld ?_
 refine vHt 123 (mk 159 124) hHeld ?_
 refine vHt 124 (mk 159 125) hHeld ?_
 refine vHt 125 (mk 159 126) hHeld ?_
 refine vHt 126 (mk 159 127) hHeld ?_
 refine vHt 127 (mk 159 128) hHeld ?_
 refine vHt 128 (mk 159 129) hHeld ?_
 refine vHt 129 (mk 159 130) hHeld ?_
 refine vHt 130 (mk 159 131) hHeld ?_
 refine vHt 131 (mk 159 132) hHeld ?_
 refine vHt 132 (mk 159 133) hHeld ?_
 refine vHt 133 (mk 159 134) hHeld ?_
 refine vHt 134 (mk 159 135) hHeld ?_
 refine vHt 135 (mk 159 136) hHeld ?_
 refine vHt 136 (mk 159 137) hHeld ?_
 refine vHt 137 (mk 159 138) hHeld ?_
 refine vHt 138 (mk 159 139) hHeld ?_
 refine vHt 139 (mk 159 140) hHeld ?_
 refine vHt 140 (mk 159 141) hHeld ?_
 refine vHt 141 (mk 159 142) hHeld ?_
 refine vHt 142 (mk 159 143) hHeld ?_
 refine vHt 143 (mk 159 144) hHeld ?_
 by_cases hd : (pl.length : Int) > 0
 ·
  obtain rfl : thirteen = true := ht13.out.trans (decide_eq_true hd)
  have u4 : decide ((pl.length : Int) > 0) = true := decide_eq_true hd
  have u5 : decide (0 < pl.length) = true := decide_eq_true (by omega)
  have u6 : (0 < pl.length) = True := eq_true (by omega)
  have u7 : (0 < (pl.length : Int)) = True := eq_true (by omega)
  have u8 : decide (0 < (pl.length : Int)) = true := decide_eq_true (by omega)
  clear hd
  revert A0 c0 l0 A1 c1 l1 w k a b pl xs cnt first low high solved nd lf best text hs s r1 r2 rl sev hu28 hu46 hu25 HC0 HC1 HBIG HC U00 w1 w2 Apl cpl LEpl g5 w3 w4 w5 Axs cxs LExs w6 Ays cys LEys w7 w8 w9 w10 w11 w12 w13 w14 w15 And cnd LEnd w16 Ane cne LEne w17 Alf clf LElf w18 Ale cle LEle w19 w20 w21 w22 u0_p2h1 u1_p2h1 u2_p2h1 u3_p2h1 u4_p2h1 u5_p2h1 u6_p2h1 n1 n2 n4 n5 n6 n7 n9 n0 HK_ HG_ HS u0_h3bh0 HT_ u0_h3bah0 u1_h3bah0 u2_h3bah0 u3_h3bah0 u4_h3bah0 u5_h3bah0 u0_h3baah0 u1_h3baah0 u2_h3baah0 u3_h3baah0 u4_h3baah0 u5_h3baah0 u6_h3baah0 u7_h3baah0 u8_h3baah0 w' hb hHeld n3 ht3 HRB u1 u2 u3 n8 ht13 HA u7_p2h1 u4 u5 u6 u7 u8
  exact q0_.out
 ·
  obtain rfl : thirteen = false := ht13.out.trans (decide_eq_false hd)
  have u4 : decide ((pl.length : Int) > 0) = false := decide_eq_false hd
  have u5 : decide (0 < pl.length) = false := decide_eq_false (by omega)
  have u6 : (0 < pl.length) = False := eq_false (by omega)
  have u7 : (0 < (pl.length : Int)) = False := eq_false (by omega)
  have u8 : decide (0 < (pl.length : Int)) = false := decide_eq_false (by omega)
  clear hd
  revert A0 c0 l0 A1 c1 l1 w k a b pl xs cnt first low high solved nd lf best text hs s r1 r2 rl sev hu28 hu46 hu25 HC0 HC1 HBIG HC U00 w1 w2 Apl cpl LEpl g5 w3 w4 w5 Axs cxs LExs w6 Ays cys LEys w7 w8 w9 w10 w11 w12 w13 w14 w15 And cnd LEnd w16 Ane cne LEne w17 Alf clf LElf w18 Ale cle LEle w19 w20 w21 w22 u0_p2h1 u1_p2h1 u2_p2h1 u3_p2h1 u4_p2h1 u5_p2h1 u6_p2h1 n1 n2 n4 n5 n6 n7 n9 n0 HK_ HG_ HS u0_h3bh0 HT_ u0_h3bah0 u1_h3bah0 u2_h3bah0 u3_h3bah0 u4_h3bah0 u5_h3bah0 u0_h3baah0 u1_h3baah0 u2_h3baah0 u3_h3baah0 u4_h3baah0 u5_h3baah0 u6_h3baah0 u7_h3baah0 u8_h3baah0 w' hb hHeld n3 ht3 HRB u1 u2 u3 n8 ht13 HA u7_p2h1 u4 u5 u6 u7 u8
  exact q1_.out
⟩
theorem guessed_3baaaa : guessed_3baaa.1.1 := by
 intro A0 c0 l0 A1 c1 l1 w k a b pl xs cnt first low high solved nd lf best text hs s r1 r2 rl sev hu28 hu46 hu25 HC0 HC1 HBIG HC U00 w1 w2 Apl cpl LEpl g5 w3 w4 w5 Axs cxs LExs w6 Ays cys LEys w7 w8 w9 w10 w11 w12 w13 w14 w15 And cnd LEnd w16 Ane cne LEne w17 Alf clf LElf w18 Ale cle LEle w19 w20 w21 w22 u0_p2h1 u1_p2h1 u2_p2h1 u3_p2h1 u4_p2h1 u5_p2h1 u6_p2h1 n1 n2 n4 n5 n6 n7 n9 n0 HK_ HG_ HS u0_h3bh0 HT_ u0_h3bah0 u1_h3bah0 u2_h3bah0 u3_h3bah0 u4_h3bah0 u5_h3bah0 u0_h3baah0 u1_h3baah0 u2_h3baah0 u3_h3baah0 u4_h3baah0 u5_h3baah0 u6_h3baah0 u7_h3baah0 u8_h3baah0 w' hb hHeld n3 ht3 HRB u1 u2 u3 n8 ht13 HA u7_p2h1 u4 u5 u6 u7 u8
 refine vHt 144 (mk 159 145) hHeld ?_
 refine vHt 145 (mk 159 146) hHeld ?_
 refine vHt 146 (mk 159 147) hHeld ?_
 refine vHt 147 (mk 159 148) hHeld ?_
 refine vHt 148 (mk 159 149) hHeld ?_
 refine vHt 149 (mk 159 150) hHeld ?_
 refine vHt 150 (mk 159 151) hHeld ?_
 refine vHt 151 (mk 159 152) hHeld ?_
 refine vHt 152 (mk 159 153) hHeld ?_
 refine vHt 153 (mk 159 154) hHeld ?_
 refine vHt 154 (mk 159 155) hHeld ?_
 refine vHt 155 (mk 159 156) hHeld ?_
 refine vHt 156 (mk 159 157) hHeld ?_
 refine vHt 157 (mk 159 158) hHeld ?_
 refine vHt 158 (mk 159 159) hHeld ?_
 refine vHd ?_
 refine NoPanic.normal ?_
 go_wp2
 go_meet
 exact ⟨rfl, ⟨⟨(HG_.out _ (by with_reducible assumption)).out.2.1, (HG_.out _ (by with_reducible assumption)).out.2.2.2.1, (HG_.out _ (by with_reducible assumption)).out.2.2.2.2.2.1, (HG_.out _ (by with_reducible assumption)).out.2.2.2.2.2.2.1, (HG_.out _ (by with_reducible assumption)).out.2.2.2.2.2.2.2.1, (HG_.out _ (by with_reducible assumption)).out.2.2.2.2.2.2.2.2.1, (HG_.out _ (by with_reducible assumption)).out.2.2.2.2.2.2.2.2.2.2.1, (HG_.out _ (by with_reducible assumption)).out.2.2.2.2.2.2.2.2.2.2.2⟩⟩⟩
theorem guessed_3baaab : guessed_3baaa.1.2 := by
 intro A0 c0 l0 A1 c1 l1 w k a b pl xs cnt first low high solved nd lf best text hs s r1 r2 rl sev hu28 hu46 hu25 HC0 HC1 HBIG HC U00 w1 w2 Apl cpl LEpl g5 w3 w4 w5 Axs cxs LExs w6 Ays cys LEys w7 w8 w9 w10 w11 w12 w13 w14 w15 And cnd LEnd w16 Ane cne LEne w17 Alf clf LElf w18 Ale cle LEle w19 w20 w21 w22 u0_p2h1 u1_p2h1 u2_p2h1 u3_p2h1 u4_p2h1 u5_p2h1 u6_p2h1 n1 n2 n4 n5 n6 n7 n9 n0 HK_ HG_ HS u0_h3bh0 HT_ u0_h3bah0 u1_h3bah0 u2_h3bah0 u3_h3bah0 u4_h3bah0 u5_h3bah0 u0_h3baah0 u1_h3baah0 u2_h3baah0 u3_h3baah0 u4_h3baah0 u5_h3baah0 u6_h3baah0 u7_h3baah0 u8_h3baah0 w' hb hHeld n3 ht3 HRB u1 u2 u3 n8 ht13 HA u7_p2h1 u4 u5 u6 u7 u8
 refine vHt 144 (mk 159 145) hHeld ?_
 refine vHt 145 (mk 159 146) hHeld ?_
 refine vHt 146 (mk 159 147) hHeld ?_
 refine vHt 147 (mk 159 148) hHeld ?_
 refine vHt 148 (mk 159 149) hHeld ?_
 refine vHt 149 (mk 159 150) hHeld ?_
 refine vHt 150 (mk 159 151) hHeld ?_
 refine vHt 151 (mk 159 152) hHeld ?_
 refine vHt 152 (mk 159 153) hHeld ?_
 refine vHt 153 (mk 159 154) hHeld ?_
 refine vHt 154 (mk 159 155) hHeld ?_
 refine vHt 155 (mk 159 156) hHeld ?_
 refine vHt 156 (mk 159 157) hHeld ?_
 refine vHt 157 (mk 159 158) hHeld ?_
 refine vHt 158 (mk 159 159) hHeld ?_
 refine vHd ?_
 refine NoPanic.normal ?_
 go_wp2
 go_meet
 exact ⟨rfl, ⟨⟨(HG_.out _ (by with_reducible assumption)).out.2.1, (HG_.out _ (by with_reducible assumption)).out.2.2.2.1, (HG_.out _ (by with_reducible assumption)).out.2.2.2.2.2.1, (HG_.out _ (by with_reducible assumption)).out.2.2.2.2.2.2.1, (HG_.out _ (by with_reducible assumption)).out.2.2.2.2.2.2.2.1, (HG_.out _ (by with_reducible assumption)).out.2.2.2.2.2.2.2.2.1, (HG_.out _ (by with_reducible assumption)).out.2.2.2.2.2.2.2.2.2.2.1, (HG_.out _ (by with_reducible assumption)).out.2.2.2.2.2.2.2.2.2.2.2⟩⟩⟩
def guessed_3baab : {Q : Prop × Prop // Aside0 (Q.1) → Aside0 (Q.2) → guessed_3baa.1.2} := ⟨(_, _), fun q0_ q1_ => by
 intro A0 c0 l0 A1 c1 l1 w k a b pl xs cnt first low high solved nd lf best thirteen text hs s r1 r2 rl sev hu28 hu46 hu25 HC0 HC1 HBIG HC U00 w1 w2 Apl cpl LEpl g5 w3 w4 w5 Axs cxs LExs w6 Ays cys LEys w7 w8 w9 w10 w11 w12 w13 w14 w15 And cnd LEnd w16 Ane cne LEne w17 Alf clf LElf w18 Ale cle LEle w19 w20 w21 w22 u0_p2h1 u1_p2h1 u2_p2h1 u3_p2h1 u4_p2h1 u5_p2h1 u6_p2h1 n1 n2 n4 n5 n6 n7 n8 n9 n0 ht13 HK_ HG_ HS u0_h3bh0 HT_ u0_h3bah0 u1_h3bah0 u2_h3bah0 u3_h3bah0 u4_h3bah0 u5_h3bah0 u0_h3baah1 u1_h3baah1 u2_h3baah1 u3_h3baah1 u4_h3baah1 u5_h3baah1 u6_h3baah1 u7_h3baah1 u8_h3baah1 w' hb hHeld n3 HA u7_p2h1 ht3 HRB u1 u2 u3
 refine vHt 115 (mk 159 116) hHeld ?_
 refine vHt 116 (mk 159 117) hHeld ?_
 refine vHt 117 (mk 159 118) hHeld ?_
 refine vHt 118 (mk 159 119) hHeld ?_
 refine vHt 119 (mk 159 120) hHeld ?_
 refine vHt 120 (mk 159 121) hHeld ?_
 refine vHt 121 (mk 159 122) hHeld ?_
 refine vHt 122 (mk 159 123) hHeld ?_
 refine vHt 123 (mk 159 124) hHeld ?_
 refine vHt 124 (mk 159 125) hHeld ?_
 refine vHt 125 (mk 159 126) hHeld ?_
 refine vHt 126 (mk 159 127) hHeld ?_
 refine vHt 127 (mk 159 128) hHeld ?_
 refine vHt 128 (mk 159 129) hHeld ?_
 refine vHt 129 (mk 159 130) hHeld ?_
 refine vHt 130 (mk 159 131) hHeld ?_
 refine vHt 131 (mk 159 132) hHeld ?_
 refine vHt 132 (mk 159 133) hHeld ?_
 refine vHt 133 (mk 159 134) hHeld ?_
 refine vHt 134 (mk 159 135) hHeld ?_
 refine vHt 135 (mk 159 136) hHeld ?_
 refine vHt 136 (mk 159 137) hHeld ?_
 refine vHt 137 (mk 159 138) hHeld ?_
 refine vHt 138 (mk 159 139) hHeld ?_
 refine vHt 139 (mk 159 140) hHeld ?_
 refine vHt 140 (mk 159 141) hHeld ?_
 refine vHt 141 (mk 159 142) hHeld ?_
 refine vHt 142 (mk 159 143) hHeld ?_
 refine vHt 143 (mk 159 144) hHeld ?_
 by_cases hd : (pl.length : Int) > 0
 ·
  obtain rfl : thirteen = true := ht13.out.trans (decide_eq_true hd)
  have u4 : decide ((pl.length : Int) > 0) = true := decide_eq_true hd
  have u5 : decide (0 < pl.length) = true := decide_eq_true (by omega)
  have u6 : (0 < pl.length) = True := eq_true (by omega)
  have u7 : (0 < (pl.length : Int)) = True := eq_true (by omega)
  have u8 : decide (0 < (pl.length : Int)) = true := decide_eq_true (by omega)
  clear hd
  revert A0 c0 l0 A1 c1 l1 w k a b pl xs cnt first low high solved nd lf best text hs s r1 r2 rl sev hu28 hu46 hu25 HC0 HC1 HBIG HC U00 w1 w2 Apl cpl LEpl g5 w3 w4 w5 Axs cxs LExs w6 Ays cys LEys w7 w8 w9 w10 w11 w12 w13 w14 w15 And cnd LEnd w16 Ane cne LEne w17 Alf clf LElf w18 Ale cle LEle w19 w20 w21 w22 u0_p2h1 u1_p2h1 u2_p2h1 u3_p2h1 u4_p2h1 u5_p2h1 u6_p2h1 n1 n2 n4 n5 n6 n7 n9 n0 HK_ HG_ HS u0_h3bh0 HT_ u0_h3bah0 u1_h3bah0 u2_h3bah0 u3_h3bah0 u4_h3bah0 u5_h3bah0 u0_h3baah1 u1_h3baah1 u2_h3baah1 u3_h3baah1 u4_h3baah1 u5_h3baah1 u6_h3baah1 u7_h3baah1 u8_h3baah1 w' hb hHeld n3 ht3 HRB u1 u2 u3 n8 ht13 HA u7_p2h1 u4 u5 u6 u7 u8
  exact q0_.out
 ·
  obtain rfl : thirteen = false := ht13.out.trans (decide_eq_false hd)
  have u4 : decide ((pl.length : Int) > 0) = false := decide_eq_false hd
  have u5 : decide (0 < pl.length) = false := decide_eq_false (by omega)
  have u6 : (0 < pl.length) = False := eq_false (by omega)
  have u7 : (0 < (pl.length : Int)) = False := eq_false (by omega)
  have u8 : decide (0 < (pl.length : Int)) = false := decide_eq_false (by omega)
  clear hd
  revert A0 c0 l0 A1 c1 l1 w k a b pl xs cnt first low high solved nd lf best text hs s r1 r2 rl sev hu28 hu46 hu25 HC0 HC1 HBIG HC U00 w1 w2 Apl cpl LEpl g5 w3 w4 w5 Axs cxs LExs w6 Ays cys LEys w7 w8 w9 w10 w11 w12 w13 w14 w15 And cnd LEnd w16 Ane cne LEne w17 Alf clf LElf w18 Ale cle LEle w19 w20 w21 w22 u0_p2h1 u1_p2h1 u2_p2h1 u3_p2h1 u4_p2h1 u5_p2h1 u6_p2h1 n1 n2 n4 n5 n6 n7 n9 n0 HK_ HG_ HS u0_h3bh0 HT_ u0_h3bah0 u1_h3bah0 u2_h3bah0 u3_h3bah0 u4_h3bah0 u5_h3bah0 u0_h3baah1 u1_h3baah1 u2_h3baah1 u3_h3baah1 u4_h3baah1 u5_h3baah1 u6_h3baah1 u7_h3baah1 u8_h3baah1 w' hb hHeld n3 ht3 HRB u1 u2 u3 n8 ht13 HA u7_p2h1 u4 u5 u6 u7 u8
  exact q1_.out
⟩
theorem guessed_3baaba : guessed_3baab.1.1 := by
 intro A0 c0 l0 A1 c1 l1 w k a b pl xs cnt first low high solved nd lf best text hs s r1 r2 rl sev hu28 hu46 hu25 HC0 HC1 HBIG HC U00 w1 w2 Apl cpl LEpl g5 w3 w4 w5 Axs cxs LExs w6 Ays cys LEys w7 w8 w9 w10 w11 w12 w13 w14 w15 And cnd LEnd w16 Ane cne LEne w17 Alf clf LElf w18 Ale cle LEle w19 w20 w21 w22 u0_p2h1 u1_p2h1 u2_p2h1 u3_p2h1 u4_p2h1 u5_p2h1 u6_p2h1 n1 n2 n4 n5 n6 n7 n9 n0 HK_ HG_ HS u0_h3bh0 HT_ u0_h3bah0 u1_h3bah0 u2_h3bah0 u3_h3bah0 u4_h3bah0 u5_h3bah0 u0_h3baah1 u1_h3baah1 u2_h3baah1 u3_h3baah1 u4_h3baah1 u5_h3baah1 u6_h3baah1 u7_h3baah1 u8_h3baah1 w' hb hHeld n3 ht3 HRB u1 u2 u3 n8 ht13 HA u7_p2h1 u4 u5 u6 u7 u8
 refine vHt 144 (mk 159 145) hHeld ?_
 refine vHt 145 (mk 159 146) hHeld ?_
 refine vHt 146 (mk 159 147) hHeld ?_
 refine vHt 147 (mk 159 148) hHeld ?_
 refine vHt 148 (mk 159 149) hHeld ?_
 refine vHt 149 (mk 159 150) hHeld ?_
 refine vHt 150 (mk 159 151) hHeld ?_
 refine vHt 151 (mk 159 152) hHeld ?_
 refine vHt 152 (mk 159 153) hHeld ?_
 refine vHt 153 (mk 159 154) hHeld ?_
 refine vHt 154 (mk 159 155) hHeld ?_
 refine vHt 155 (mk 159 156) hHeld ?_
 refine vHt 156 (mk 159 157) hHeld ?_
 refine vHt 157 (mk 159 158) hHeld ?_
 refine vHt 158 (mk 159 159) hHeld ?_
 refine vHd ?_
 refine NoPanic.normal ?_
 go_wp2
 go_meet
 exact ⟨rfl, ⟨⟨(HG_.out _ (by with_reducible assumption)).out.2.1, (HG_.out _ (by with_reducible assumption)).out.2.2.2.1, (HG_.out _ (by with_reducible assumption)).out.2.2.2.2.2.1, (HG_.out _ (by with_reducible assumption)).out.2.2.2.2.2.2.1, (HG_.out _ (by with_reducible assumption)).out.2.2.2.2.2.2.2.1, (HG_.out _ (by with_reducible assumption)).out.2.2.2.2.2.2.2.2.1, (HG_.out _ (by with_reducible assumption)).out.2.2.2.2.2.2.2.2.2.2.1, (HG_.out _ (by with_reducible assumption)).out.2.2.2.2.2.2.2.2.2.2.2⟩⟩⟩
end Go.Proofs.YtijcdpnnjiamjaaGreatDoor.G
end

/- Texts of this seat's proofs: contracts of its functions and plain laws about them, with no condition beyond those that each theorem states. -/
import Derived.Test.YtgdhbkoggfaioaaGreatDoorQe85c5c19
import Derived.Test.YtgdhbkoggfaioaaGreatDoorQbb626c0f
import Derived.WalkSpells
import Derived.Deep.RegionHeld3
import Derived.Shelf.Abstract
import Derived.Laws.EntriesVeiled
set_option maxHeartbeats 8000000
set_option maxRecDepth 100000
section
namespace Go.Proofs.YtgdhbkoggfaioaaGreatDoor.G
open Go.RowKit Go.Proofs.YtgdhbkoggfaioaaGreatDoorW.PrintWords Go.Proofs.YtgdhbkoggfaioaaGreatDoorW.PrintLast Go.Proofs.YtgdhbkoggfaioaaGreatDoorW.PrintMore
attribute [local go_sem] max2_int min2_int max_two min_two max_three min_three max_four min_four
set_option linter.unusedVariables false
set_option linter.unusedSimpArgs false
def impl_ParseParcels.l0 : Nat → List (S62) → List ByteArray → Int → Int → Option ((List (S62)) × Bool)
 | 0, _, _, _, _ => none
 | k + 1, x4, x10, x11, x12 => if x12 < x11 then (if 0 ≤ x12 then (if x12 < (x10.length : Int) then ((impl_readNumbers.f k (rdOf ByteArray.empty x10 x12) (⟨#[42]⟩ : ByteArray)).bind fun bt105 => (if bt105.2 = true then (if (bt105.1.length : Int) = 2 then (if 0 < (bt105.1.length : Int) then (if 1 < (bt105.1.length : Int) then (if x4.length < 8796093022208 then (impl_ParseParcels.l0 k (x4 ++ [(⟨rd bt105.1 0, rd bt105.1 1⟩ : S62)]) x10 x11 (wrap64 (x12 + 1))) else (none)) else (none)) else (none)) else (some (([] : List (S62)), false))) else (some (([] : List (S62)), false)))) else (none)) else (none)) else ((impl_AreParcels.f x4).bind fun t114 => (if t114 = true then (some (x4, true)) else (some (([] : List (S62)), false))))
def impl_ParseParcels.f (k : Nat) (a0 : ByteArray) : Option ((List (S62)) × Bool) := (strings_Split.f a0 (⟨#[44]⟩ : ByteArray)).bind fun t101 => (impl_ParseParcels.l0 k ([] : List (S62)) t101 (t101.length : Int) 0)
def impl_ParseParcels.T8 : Bool × List (List Nat × List Nat) := (true, [([], []), ([], []), ([1], [1]), ([2], [2]), ([], []), ([4], [4]), ([5], [5]), ([3, 6], [3, 6]), ([7], [7]), ([0, 8], [0, 8]), ([9, 9, 0, 1, 2, 3, 4, 5, 6, 7, 8, 9], [0, 9])])
def impl_ParseParcels.B8 : List Nat := [0, 0, 2, 6, 0, 16, 48, 126, 254, 511, 1023]
theorem impl_ParseParcels.tab8 : rtab .any (opsOf Tryz.f12 8) = impl_ParseParcels.T8 := by kernel_rfl
theorem impl_ParseParcels.bits8 : waitsOk impl_ParseParcels.T8.2 impl_ParseParcels.B8 = true := by kernel_rfl
theorem impl_ParseParcels.calls (k : Nat) (a0 : ByteArray) (r1 : List (S62)) (r2 : Bool) (w : World) (hT : Tb w) (h : impl_ParseParcels.f k a0 = some (r1, r2)) :
  Calls Tryz.prog 12 #[.string a0] w fun e w' => ∃ v0_ : Value, e = .returned (.tuple #[v0_, .bool r2]) ∧ Kd.R k62 62 w' w.heap.size (fun _ => True) v0_ r1 ∧ Below w.heap.size w w' := by
 have hu62 := Tryz.underlying62
 have HT0 := Aside0.mk hT
 clear hT
 have HB := Aside0.mk (Below.refl w.heap.size w)
 have H : ((strings_Split.f a0 (⟨#[44]⟩ : ByteArray)).bind fun t101 => (impl_ParseParcels.l0 k ([] : List (S62)) t101 (t101.length : Int) 0)) = some (r1, r2) := h
 clear h
 replace H := Option.bind_eq_some_iff.mp H
 obtain ⟨t101, A20, H⟩ := H
 replace H : (impl_ParseParcels.l0 k ([] : List (S62)) t101 (t101.length : Int) 0) = some (r1, r2) := H
 have A2 := Aside0.mk A20
 clear A20
 have H' := Aside0.mk H
 clear H
 go_enter Tryz.func12, Tryz.ntmps12
 go_wp2_with (first | ((with_reducible refine gate_callee (f := 48) rfl ?_); refine goesL_ (some 10) rfl rfl Tryz.func48 (by kernel_rfl) rfl #[.string a0, .string (⟨#[44]⟩ : ByteArray)] rfl (by (try simp only [List.map_toArray, List.map_cons, List.map_nil]); first | done | rfl | (simp only [List.length_drop, List.length_take]; rfl)) ?_; (with_reducible refine (strings_Split.calls a0 (⟨#[44]⟩ : ByteArray) t101 _ ?side1 A2.out).mono ?_); (case side1 => exact Tb.below HT0.out (by repeat (first | (with_reducible first | exact HB.out | apply below_alloc | apply pw_below_drewN | apply below_drew1) | exact HB.out))); rintro e w3 ⟨v102, rfl, ho0, hb⟩; refine ⟨_, rfl, ?_⟩; have n0_ := Aside0.mk (Kd.R_lower ho0 (below_size (by repeat (first | (with_reducible first | exact HB.out | apply below_alloc | apply pw_below_drewN | apply below_drew1) | exact HB.out)))); have n1_ := Aside0.mk (below_step (by repeat (first | (with_reducible first | exact HB.out | apply below_alloc | apply pw_below_drewN | apply below_drew1) | exact HB.out)) hb); clear HB; have HO103 := n0_; have HB := n1_; clear n0_ n1_; (try clear hb); (try clear hb2); (try clear hk); (try clear hi); (try clear ho0); obtain ⟨Ao4, co4, eo4⟩ := Kd.R_slice HO103.out; subst eo4))
 go_loopg [4, 12] k (fun kq v4 v12 w' => ∃ (x4_1 : List (S62)) (x12_1 : Int), v12 = .int .i64 x12_1 ∧ Aside0 (impl_ParseParcels.l0 kq x4_1 t101 (t101.length : Int) x12_1 = some (r1, r2)) ∧ Aside0 (kq ≤ k) ∧ Aside0 (Kd.R k62 62 w' w.heap.size (fun _ => True) v4 x4_1) ∧ Aside0 (Kd.R Kd.string 9 w' w.heap.size (fun _ => True) (.slice Ao4 t101.length co4) t101) ∧ Aside0 (Below w.heap.size w w'))
 case atStart => exact ⟨(([] : List (S62))), (0), (by first | rfl | (simp; done) | (simp [*]; done)), H', ⟨Nat.le_refl _⟩, ⟨by first | exact Kd.R_nil _ _ _ _ _ | exact Kd.N_nil _ _ _ _ _ | exact Kd.V_nil _ _ _ _ _ | exact Kd.Q_nil _ _ _ _ _ | exact Kd.S_nil _ _ _ _ _⟩, ⟨by (with_reducible repeat (first | apply Kd.R_alloc | apply Kd.R_drewN | apply Kd.R_drew)); exact HO103.out⟩, ⟨by repeat (first | (with_reducible first | exact HB.out | apply below_alloc | apply pw_below_drewN | apply below_drew1) | exact HB.out)⟩⟩
 case round =>
  clear H'
  try clear c1
  try clear p2
  try clear c4
  obtain ⟨x4_1, x12_1, rfl, HA, HK1, HO_4, HO_10, HB⟩ := hrel
  cases gk with
  | zero => exact absurd HA.out (by simp [impl_ParseParcels.l0])
  | succ k1 =>
   have H := HA.out
   clear HA
   simp only [impl_ParseParcels.l0] at H
   by_cases c5 : x12_1 < (t101.length : Int)
   ·rw [if_pos c5] at H
    have c5b0 : decide (x12_1 < (t101.length : Int)) = true := decide_eq_true c5
    clear c5
    by_cases c6 : 0 ≤ x12_1
    ·rw [if_pos c6] at H
     have c6b0 : decide (0 ≤ x12_1) = true := decide_eq_true c6
     clear c6
     by_cases c7 : x12_1 < (t101.length : Int)
     ·rw [if_pos c7] at H
      have c7b0 : decide (x12_1 < (t101.length : Int)) = true := decide_eq_true c7
      clear c7
      replace H := Option.bind_eq_some_iff.mp H
      obtain ⟨⟨t105, t106⟩, A80, H⟩ := H
      replace H : (if t106 = true then (if (t105.length : Int) = 2 then (if 0 < (t105.length : Int) then (if 1 < (t105.length : Int) then (if x4_1.length < 8796093022208 then (impl_ParseParcels.l0 k1 (x4_1 ++ [(⟨rd t105 0, rd t105 1⟩ : S62)]) t101 (t101.length : Int) (wrap64 (x12_1 + 1))) else (none)) else (none)) else (none)) else (some (([] : List (S62)), false))) else (some (([] : List (S62)), false))) = some (r1, r2) := H
      have A8 := Aside0.mk A80
      clear A80
      by_cases c9 : t106 = true
      ·subst c9
       have H1 : (if (t105.length : Int) = 2 then (if 0 < (t105.length : Int) then (if 1 < (t105.length : Int) then (if x4_1.length < 8796093022208 then (impl_ParseParcels.l0 k1 (x4_1 ++ [(⟨rd t105 0, rd t105 1⟩ : S62)]) t101 (t101.length : Int) (wrap64 (x12_1 + 1))) else (none)) else (none)) else (none)) else (some (([] : List (S62)), false))) = some (r1, r2) := by rw [if_pos rfl] at H; exact H
       clear H
       have H := H1
       clear H1
       by_cases c10 : (t105.length : Int) = 2
       ·rw [if_pos c10] at H
        have c10b0 : ((t105.length : Int) == 2) = true := beq_iff_eq.mpr c10
        have c10b1 : ((t105.length : Int) != 2) = false := bne_eq_false_iff_eq.mpr c10
        clear c10
        by_cases c11 : 0 < (t105.length : Int)
        ·rw [if_pos c11] at H
         have c11b0 : decide (0 < (t105.length : Int)) = true := decide_eq_true c11
         have c11b1 : decide (0 < t105.length) = true := decide_eq_true (by omega)
         clear c11
         by_cases c12 : 1 < (t105.length : Int)
         ·rw [if_pos c12] at H
          have c12b0 : decide (1 < (t105.length : Int)) = true := decide_eq_true c12
          have c12b1 : decide (1 < t105.length) = true := decide_eq_true (by omega)
          clear c12
          by_cases c13 : x4_1.length < 8796093022208
          ·rw [if_pos c13] at H
           have LMc13 := Aside0.mk c13
           clear c13
           obtain ⟨y111, hy111⟩ : ∃ y_ : List (S62), y_ = (x4_1 ++ [(⟨rd t105 0, rd t105 1⟩ : S62)]) := ⟨_, rfl⟩
           replace H : (impl_ParseParcels.l0 k1 y111 t101 (t101.length : Int) (wrap64 (x12_1 + 1))) = some (r1, r2) := by first | (rw [hy111]; with_reducible exact H) | (have H2_ := (Option.bind_some _ _).symm.trans H; rw [hy111]; with_reducible exact H2_) | (have H2_ := (Option.bind_some _ _).symm.trans H; with_reducible exact H2_) | with_reducible exact H | (rw [hy111]; exact H) | exact H
           have Ny111 := Aside0.mk hy111
           clear hy111
           have H' := Aside0.mk H
           clear H
           have p104 : 0 ≤ (x12_1 : Int) := of_decide_eq_true (by first | (with_reducible assumption) | assumption)
           have q104 : x12_1 < (t101.length : Int) := of_decide_eq_true (by first | (with_reducible assumption) | assumption)
           obtain ⟨ad104, e104, hx104_0⟩ := Kd.at_string (Kd.R_reads' HO_10.out).2.2 x12_1 p104 q104
           cases e104
           replace p104 := eq_true p104
           replace q104 := eq_true q104
           try go_wp2_with (first | ((with_reducible refine gate_callee (f := 49) rfl ?_); refine goesL_ (some 18) rfl rfl Tryz.func49 (by kernel_rfl) rfl #[.string (rdOf ByteArray.empty t101 x12_1), .string (⟨#[42]⟩ : ByteArray)] rfl (by (try simp only [List.map_toArray, List.map_cons, List.map_nil]); first | done | rfl | (simp only [List.length_drop, List.length_take]; rfl)) ?_; (with_reducible refine (impl_readNumbers.calls k1 (rdOf ByteArray.empty t101 x12_1) (⟨#[42]⟩ : ByteArray) t105 true _ ?side1 A8.out).mono ?_); (case side1 => exact Tb.below HT0.out (by repeat (first | (with_reducible first | exact HB.out | apply below_alloc | apply pw_below_drewN | apply below_drew1) | exact HB.out))); rintro e w14 ⟨v107, rfl, ho0, hb⟩; refine ⟨_, rfl, ?_⟩; have n0_ := Aside0.mk (Kd.R_below (by (with_reducible repeat (first | apply Kd.R_alloc | apply Kd.R_drewN | apply Kd.R_drew)); exact HO_4.out) hb); have n1_ := Aside0.mk (Kd.R_below (by (with_reducible repeat (first | apply Kd.R_alloc | apply Kd.R_drewN | apply Kd.R_drew)); exact HO_10.out) hb); have n2_ := Aside0.mk (Kd.R_lower ho0 (below_size (by repeat (first | (with_reducible first | exact HB.out | apply below_alloc | apply pw_below_drewN | apply below_drew1) | exact HB.out)))); have n3_ := Aside0.mk (below_step (by repeat (first | (with_reducible first | exact HB.out | apply below_alloc | apply pw_below_drewN | apply below_drew1) | exact HB.out)) hb); clear HO_4; clear HO_10; clear HB; have HO_4 := n0_; have HO_10 := n1_; have HO108 := n2_; have HB := n3_; clear n0_ n1_ n2_ n3_; (try clear hb); (try clear hb2); (try clear hk); (try clear hi); (try clear ho0); obtain ⟨Ao15, co15, eo15⟩ := Kd.R_slice HO108.out; subst eo15))
           have n0_ := Aside0.mk (Kd.R_drew HO_4.out)
           have n1_ := Aside0.mk (Kd.R_drew HO_10.out)
           have n2_ := Aside0.mk (Kd.R_drew HO108.out)
           have n3_ := Aside0.mk (below_drew1 HB.out)
           clear HO_4
           clear HO_10
           clear HO108
           clear HB
           have HO_4 := n0_
           have HO_10 := n1_
           have HO108 := n2_
           have HB := n3_
           clear n0_ n1_ n2_ n3_
           have p109 : 0 ≤ (0 : Int) := (by omega)
           have q109 : 0 < (t105.length : Int) := of_decide_eq_true (by first | (with_reducible assumption) | assumption)
           obtain ⟨ad109, e109, hx109_0⟩ := Kd.at_int (Kd.R_reads' HO108.out).2.2 0 p109 q109
           cases e109
           have qi109 : (0 < t105.length) = True := eq_true (by omega)
           (try rw [show ((0 : Int)).toNat = 0 from rfl] at hx109_0)
           (try rw [Addr.add_zero'] at hx109_0)
           replace p109 := eq_true p109
           replace q109 := eq_true q109
           have p110 : 0 ≤ (1 : Int) := (by omega)
           have q110 : 1 < (t105.length : Int) := of_decide_eq_true (by first | (with_reducible assumption) | assumption)
           obtain ⟨ad110, e110, hx110_0⟩ := Kd.at_int (Kd.R_reads' HO108.out).2.2 1 p110 q110
           obtain rfl : ad109 = ad110 := (by injection e110)
           (try simp only [show (1 : Int).toNat = 1 from rfl, Nat.reduceMul, Nat.reduceEqDiff, Go.Addr.add, ↓reduceIte] at hx110_0)
           have qi110 : (1 < t105.length) = True := eq_true (by omega)
           (try rw [show ((1 : Int)).toNat = 1 from rfl] at hx110_0)
           replace p110 := eq_true p110
           replace q110 := eq_true q110
           refine start_ (n := 11) (S := fun w' => w'.cell? ad109 = some (.int .i64 (rd t105 0)) ∧ w'.cell? ⟨ad109.block, ad109.off + 1, none⟩ = some (.int .i64 (rd t105 1))) (ds := [8, 9]) #[false, false, false, false, false, false, false, false, false, false, false] (by kernel_rfl) rfl rfl ⟨hx109_0, hx110_0⟩ (fun hHeld => ?_); refine with_tabW impl_ParseParcels.tab8 impl_ParseParcels.bits8 (fun HT_ HW_ => ?_)
           generalize w14.drew = w16 at HO_4 HO_10 HO108 HB hx109_0 hx110_0 hHeld ⊢
           refine pure_ (i := 0) (N := some 28) (v := ?_) (a' := ?_) #[true, false, false, false, false, false, false, false, false, false, false] rfl rfl (any_of HT_.out (by kernel_rfl)) (fun _ _ _ h => h) (Or.inl ⟨by rfl, ?_⟩) ?_ ?_
           rotate_left
           ·intro w'
            go_simp
            with_reducible rfl
           rotate_left
           ·simp only [Act.put, List.setIfInBounds_toArray, List.set_cons_zero, List.set_cons_succ, i64_w, i32_w]
            rfl
           refine pure_ (i := 1) (N := some 29) (v := ?_) (a' := ?_) #[true, true, false, false, false, false, false, false, false, false, false] rfl rfl (any_of HT_.out (by kernel_rfl)) (fun _ _ _ h => h) (Or.inl ⟨by rfl, ?_⟩) ?_ ?_
           rotate_left
           ·intro w'
            go_simp
            with_reducible rfl
           rotate_left
           ·simp only [Act.put, List.setIfInBounds_toArray, List.set_cons_zero, List.set_cons_succ, i64_w, i32_w]
            rfl
           refine pure_ (i := 2) (N := some 30) (v := ?_) (a' := ?_) #[true, true, true, false, false, false, false, false, false, false, false] rfl rfl (any_of HT_.out (by kernel_rfl)) (fun _ _ _ h => h) (Or.inl ⟨by rfl, ?_⟩) ?_ ?_
           rotate_left
           ·intro w'
            go_simp
            with_reducible rfl
           rotate_left
           ·simp only [Act.put, List.setIfInBounds_toArray, List.set_cons_zero, List.set_cons_succ, i64_w, i32_w]
            rfl
           refine pure_ (i := 4) (N := some 32) (v := ?_) (a' := ?_) #[true, true, true, false, true, false, false, false, false, false, false] rfl rfl (any_of HT_.out (by kernel_rfl)) (fun _ _ _ h => h) (Or.inl ⟨by rfl, ?_⟩) ?_ ?_
           rotate_left
           ·intro w'
            go_simp
            with_reducible rfl
           rotate_left
           ·simp only [Act.put, List.setIfInBounds_toArray, List.set_cons_zero, List.set_cons_succ, i64_w, i32_w]
            rfl
           refine pure_ (i := 5) (N := some 33) (v := ?_) (a' := ?_) #[true, true, true, false, true, true, false, false, false, false, false] rfl rfl (any_of HT_.out (by kernel_rfl)) (fun _ _ _ h => h) (Or.inl ⟨by rfl, ?_⟩) ?_ ?_
           rotate_left
           ·intro w'
            go_simp
            with_reducible rfl
           rotate_left
           ·simp only [Act.put, List.setIfInBounds_toArray, List.set_cons_zero, List.set_cons_succ, i64_w, i32_w]
            rfl
           refine take_ (i := 3) (N := some 31) (v := ?_) (a' := ?_) #[true, true, true, true, true, true, false, false, false, false, false] rfl rfl (take_ofW HT_.out HW_.out (by kernel_rfl)) (fun _ _ _ h => h) (Or.inl ⟨by rfl, ?_⟩) hHeld ?_ ?_
           rotate_left
           ·rintro w' ⟨s0, s1⟩
            go_simp
            with_reducible rfl
           rotate_left
           ·simp only [Act.put, List.setIfInBounds_toArray, List.set_cons_zero, List.set_cons_succ, i64_w, i32_w]
            rfl
           refine take_ (i := 6) (N := some 34) (v := ?_) (a' := ?_) #[true, true, true, true, true, true, true, false, false, false, false] rfl rfl (take_ofW HT_.out HW_.out (by kernel_rfl)) (fun _ _ _ h => h) (Or.inl ⟨by rfl, ?_⟩) hHeld ?_ ?_
           rotate_left
           ·rintro w' ⟨s0, s1⟩
            go_simp
            with_reducible rfl
           rotate_left
           ·simp only [Act.put, List.setIfInBounds_toArray, List.set_cons_zero, List.set_cons_succ, i64_w, i32_w]
            rfl
           refine pure_ (i := 7) (N := some 35) (v := ?_) (a' := ?_) #[true, true, true, true, true, true, true, true, false, false, false] rfl rfl (any_of HT_.out (by kernel_rfl)) (fun _ _ _ h => h) (Or.inl ⟨by rfl, ?_⟩) ?_ ?_
           rotate_left
           ·intro w'
            go_simp
            with_reducible rfl
           rotate_left
           ·simp only [Act.put, List.setIfInBounds_toArray, List.set_cons_zero, List.set_cons_succ, i64_w, i32_w]
            rfl
           refine last_ (i := 8) (N := some 36) #[true, true, true, true, true, true, true, true, true, false, false] rfl rfl (one_of HT_.out (by kernel_rfl)) (by decide) (fun K hK => ?_)
           refine value_ (w1 := ?_) (v := ?_) (by rfl) rfl ?_ ?_
           rotate_left 2
           ·go_simp
            constructor
            ·rfl
            ·rfl
           refine hK.out _ _ ?_
           clear hK K
           refine norm_ (a' := ?_) ?_ ?_
           rotate_left
           ·show Act.put _ (some 36) _ = _
            simp only [Act.put, List.setIfInBounds_toArray, List.set_cons_zero, List.set_cons_succ, i64_w, i32_w]
            rfl
           refine last_ (i := 9) (N := some 37) #[true, true, true, true, true, true, true, true, true, true, false] rfl rfl (one_of HT_.out (by kernel_rfl)) (by decide) (fun K hK => ?_)
           refine Kd.R_append_step k62 (w0 := w) w.heap.size (by rfl) (.tmp 28) (.tmp 36) 24 62 (.agg #[(.int .i64 0), (.int .i64 0)]) 16 rfl Tryz.underlying24 info62 rfl (by decide) (by omega) u4 x4_1 (⟨rd t105 0, rd t105 1⟩ : S62) [.int .i64 (rd t105 0), .int .i64 (rd t105 1)] (fun _ => True) (fun _ => False) rfl rfl ?aP (fun _ hk => hk.elim) ?aF ?aO ?aB ?aS ?aL ?_
           (case aP => exact k62_mkM _ _ _ (⟨rd t105 0, rd t105 1⟩ : S62))
           (case aB => exact (by repeat (first | (with_reducible first | exact HB.out | apply below_alloc | apply pw_below_drewN | apply below_drew1) | exact HB.out)))
           (case aF => exact (fun _ _ => trivial))
           (case aO => exact (by (with_reducible repeat (first | apply Kd.R_alloc | apply Kd.R_drewN | apply Kd.R_drew)); exact HO_4.out))
           (case aS => exact (below_size (by repeat (first | (with_reducible first | exact HB.out | apply below_alloc | apply pw_below_drewN | apply below_drew1) | exact HB.out))))
           (case aL => have := LMc13.out; omega)
           intro v112 w17 ho hb hg hat
           rw [← Ny111.out] at ho
           have n0_ := Aside0.mk (Kd.R_over' (by (with_reducible repeat (first | apply Kd.R_alloc | apply Kd.R_drewN | apply Kd.R_drew)); exact HO_10.out) (Kd.R_typed (by (with_reducible repeat (first | apply Kd.R_alloc | apply Kd.R_drewN | apply Kd.R_drew)); exact HO_4.out)) (by decide) hg)
           have n1_ := Aside0.mk (Kd.R_over' (by (with_reducible repeat (first | apply Kd.R_alloc | apply Kd.R_drewN | apply Kd.R_drew)); exact HO108.out) (Kd.R_typed (by (with_reducible repeat (first | apply Kd.R_alloc | apply Kd.R_drewN | apply Kd.R_drew)); exact HO_4.out)) (by decide) hg)
           have n2_ := Aside0.mk (hb)
           have n3_ := Aside0.mk (ho)
           clear HO_10
           clear HO108
           clear HB
           clear HO_4
           have HO_10 := n0_
           have HO108 := n1_
           have HB := n2_
           have HO113 := n3_
           clear n0_ n1_ n2_ n3_
           clear ho hb hg hat
           refine hK.out _ _ ?_
           clear hK K
           refine norm_ (a' := ?_) ?_ ?_
           rotate_left
           ·show Act.put _ (some 37) _ = _
            simp only [Act.put, List.setIfInBounds_toArray, List.set_cons_zero, List.set_cons_succ, i64_w, i32_w]
            rfl
           refine pure_ (i := 10) (N := some 4) (v := ?_) (a' := ?_) #[true, true, true, true, true, true, true, true, true, true, true] rfl rfl (any_of HT_.out (by kernel_rfl)) (fun _ _ _ h => h) (Or.inl ⟨by rfl, ?_⟩) ?_ ?_
           rotate_left
           ·intro w'
            go_simp
            with_reducible rfl
           rotate_left
           ·simp only [Act.put, List.setIfInBounds_toArray, List.set_cons_zero, List.set_cons_succ, i64_w, i32_w]
            rfl
           refine done_ (done_of HT_.out (by kernel_rfl)) ?_
           try go_wp2
           go_roundg k1
           case measure => have := HK1.out; omega
           case rel => exact ⟨(y111), (wrap64 (x12_1 + 1)), (by first | rfl | (simp; done) | (simp [*]; done)), H', ⟨by have := HK1.out; omega⟩, ⟨by (with_reducible repeat (first | apply Kd.R_alloc | apply Kd.R_drewN | apply Kd.R_drew)); exact HO113.out⟩, ⟨by (with_reducible repeat (first | apply Kd.R_alloc | apply Kd.R_drewN | apply Kd.R_drew)); exact HO_10.out⟩, ⟨by repeat (first | (with_reducible first | exact HB.out | apply below_alloc | apply pw_below_drewN | apply below_drew1) | exact HB.out)⟩⟩
          ·rw [if_neg c13] at H
           exact absurd H (by simp)
         ·rw [if_neg c12] at H
          exact absurd H (by simp)
        ·rw [if_neg c11] at H
         exact absurd H (by simp)
       ·rw [if_neg c10] at H
        have c10b0 : ((t105.length : Int) == 2) = false := beq_eq_false_iff_ne.mpr c10
        have c10b1 : ((t105.length : Int) != 2) = true := bne_iff_ne.mpr c10
        simp only [Option.some.injEq, Prod.mk.injEq] at H
        obtain ⟨rfl, rfl⟩ := H
        have p104 : 0 ≤ (x12_1 : Int) := of_decide_eq_true (by first | (with_reducible assumption) | assumption)
        have q104 : x12_1 < (t101.length : Int) := of_decide_eq_true (by first | (with_reducible assumption) | assumption)
        obtain ⟨ad104, e104, hx104_0⟩ := Kd.at_string (Kd.R_reads' HO_10.out).2.2 x12_1 p104 q104
        cases e104
        replace p104 := eq_true p104
        replace q104 := eq_true q104
        go_wp2_with (first | ((with_reducible refine gate_callee (f := 49) rfl ?_); refine goesL_ (some 18) rfl rfl Tryz.func49 (by kernel_rfl) rfl #[.string (rdOf ByteArray.empty t101 x12_1), .string (⟨#[42]⟩ : ByteArray)] rfl (by (try simp only [List.map_toArray, List.map_cons, List.map_nil]); first | done | rfl | (simp only [List.length_drop, List.length_take]; rfl)) ?_; (with_reducible refine (impl_readNumbers.calls k1 (rdOf ByteArray.empty t101 x12_1) (⟨#[42]⟩ : ByteArray) t105 true _ ?side1 A8.out).mono ?_); (case side1 => exact Tb.below HT0.out (by repeat (first | (with_reducible first | exact HB.out | apply below_alloc | apply pw_below_drewN | apply below_drew1) | exact HB.out))); rintro e w18 ⟨v107, rfl, ho0, hb⟩; refine ⟨_, rfl, ?_⟩; have n0_ := Aside0.mk (Kd.R_below (by (with_reducible repeat (first | apply Kd.R_alloc | apply Kd.R_drewN | apply Kd.R_drew)); exact HO_4.out) hb); have n1_ := Aside0.mk (Kd.R_below (by (with_reducible repeat (first | apply Kd.R_alloc | apply Kd.R_drewN | apply Kd.R_drew)); exact HO_10.out) hb); have n2_ := Aside0.mk (Kd.R_lower ho0 (below_size (by repeat (first | (with_reducible first | exact HB.out | apply below_alloc | apply pw_below_drewN | apply below_drew1) | exact HB.out)))); have n3_ := Aside0.mk (below_step (by repeat (first | (with_reducible first | exact HB.out | apply below_alloc | apply pw_below_drewN | apply below_drew1) | exact HB.out)) hb); clear HO_4; clear HO_10; clear HB; have HO_4 := n0_; have HO_10 := n1_; have HO108 := n2_; have HB := n3_; clear n0_ n1_ n2_ n3_; (try clear hb); (try clear hb2); (try clear hk); (try clear hi); (try clear ho0); obtain ⟨Ao19, co19, eo19⟩ := Kd.R_slice HO108.out; subst eo19))
        go_ret2
        exact ⟨_, by first | rfl | (simp [errW_none, errW_some] <;> rfl) | (simp [*, errW_none, errW_some] <;> rfl), by first | exact Kd.R_nil _ _ _ _ _ | exact Kd.N_nil _ _ _ _ _ | exact Kd.V_nil _ _ _ _ _ | exact Kd.Q_nil _ _ _ _ _ | exact Kd.S_nil _ _ _ _ _, by repeat (first | (with_reducible first | exact HB.out | apply below_alloc | apply pw_below_drewN | apply below_drew1) | exact HB.out)⟩
      ·replace c9 := Bool.eq_false_iff.mpr c9
       subst c9
       have H1 : (some (([] : List (S62)), false)) = some (r1, r2) := by rw [if_neg (show ¬ (false = true) by decide)] at H; exact H
       clear H
       have H := H1
       clear H1
       simp only [Option.some.injEq, Prod.mk.injEq] at H
       obtain ⟨rfl, rfl⟩ := H
       have p104 : 0 ≤ (x12_1 : Int) := of_decide_eq_true (by first | (with_reducible assumption) | assumption)
       have q104 : x12_1 < (t101.length : Int) := of_decide_eq_true (by first | (with_reducible assumption) | assumption)
       obtain ⟨ad104, e104, hx104_0⟩ := Kd.at_string (Kd.R_reads' HO_10.out).2.2 x12_1 p104 q104
       cases e104
       replace p104 := eq_true p104
       replace q104 := eq_true q104
       go_wp2_with (first | ((with_reducible refine gate_callee (f := 49) rfl ?_); refine goesL_ (some 18) rfl rfl Tryz.func49 (by kernel_rfl) rfl #[.string (rdOf ByteArray.empty t101 x12_1), .string (⟨#[42]⟩ : ByteArray)] rfl (by (try simp only [List.map_toArray, List.map_cons, List.map_nil]); first | done | rfl | (simp only [List.length_drop, List.length_take]; rfl)) ?_; (with_reducible refine (impl_readNumbers.calls k1 (rdOf ByteArray.empty t101 x12_1) (⟨#[42]⟩ : ByteArray) t105 false _ ?side1 A8.out).mono ?_); (case side1 => exact Tb.below HT0.out (by repeat (first | (with_reducible first | exact HB.out | apply below_alloc | apply pw_below_drewN | apply below_drew1) | exact HB.out))); rintro e w20 ⟨v107, rfl, ho0, hb⟩; refine ⟨_, rfl, ?_⟩; have n0_ := Aside0.mk (Kd.R_below (by (with_reducible repeat (first | apply Kd.R_alloc | apply Kd.R_drewN | apply Kd.R_drew)); exact HO_4.out) hb); have n1_ := Aside0.mk (Kd.R_below (by (with_reducible repeat (first | apply Kd.R_alloc | apply Kd.R_drewN | apply Kd.R_drew)); exact HO_10.out) hb); have n2_ := Aside0.mk (Kd.R_lower ho0 (below_size (by repeat (first | (with_reducible first | exact HB.out | apply below_alloc | apply pw_below_drewN | apply below_drew1) | exact HB.out)))); have n3_ := Aside0.mk (below_step (by repeat (first | (with_reducible first | exact HB.out | apply below_alloc | apply pw_below_drewN | apply below_drew1) | exact HB.out)) hb); clear HO_4; clear HO_10; clear HB; have HO_4 := n0_; have HO_10 := n1_; have HO108 := n2_; have HB := n3_; clear n0_ n1_ n2_ n3_; (try clear hb); (try clear hb2); (try clear hk); (try clear hi); (try clear ho0)))
       go_ret2
       exact ⟨_, by first | rfl | (simp [errW_none, errW_some] <;> rfl) | (simp [*, errW_none, errW_some] <;> rfl), by first | exact Kd.R_nil _ _ _ _ _ | exact Kd.N_nil _ _ _ _ _ | exact Kd.V_nil _ _ _ _ _ | exact Kd.Q_nil _ _ _ _ _ | exact Kd.S_nil _ _ _ _ _, by repeat (first | (with_reducible first | exact HB.out | apply below_alloc | apply pw_below_drewN | apply below_drew1) | exact HB.out)⟩
     ·rw [if_neg c7] at H
      exact absurd H (by simp)
    ·rw [if_neg c6] at H
     exact absurd H (by simp)
   ·rw [if_neg c5] at H
    have c5b0 : decide (x12_1 < (t101.length : Int)) = false := decide_eq_false c5
    clear c5
    replace H := Option.bind_eq_some_iff.mp H
    obtain ⟨t114, A210, H⟩ := H
    replace H : (if t114 = true then (some (x4_1, true)) else (some (([] : List (S62)), false))) = some (r1, r2) := H
    have A21 := Aside0.mk A210
    clear A210
    by_cases c22 : t114 = true
    ·subst c22
     have H1 : (some (x4_1, true)) = some (r1, r2) := by rw [if_pos rfl] at H; exact H
     clear H
     have H := H1
     clear H1
     simp only [Option.some.injEq, Prod.mk.injEq] at H
     obtain ⟨rfl, rfl⟩ := H
     obtain ⟨Ao23, co23, eo23⟩ := Kd.R_slice HO_4.out
     subst eo23
     go_wp2_with (first | ((with_reducible refine gate_callee (f := 10) rfl ?_); refine goesL_ (some 40) rfl rfl Tryz.func10 (by kernel_rfl) rfl #[.slice Ao23 x4_1.length co23] rfl (by (try simp only [List.map_toArray, List.map_cons, List.map_nil]); first | done | rfl | (simp only [List.length_drop, List.length_take]; rfl)) ?_; (with_reducible refine (impl_AreParcels.calls _ _ x4_1 true _ ?side1 ?side2 A21.out).mono ?_); (case side1 => repeat (first | exact (Kd.R_reads' HO_4.out).2.2 | (with_reducible refine Kd.C_alloc ?_ _) | (with_reducible refine Kd.C_drewN ?_ _) | (with_reducible refine Kd.C_drew ?_))); (case side2 => exact (Kd.R_reads' HO_4.out).2.1); rintro e w24 ⟨rfl, hb⟩; refine ⟨_, rfl, ?_⟩; have n0_ := Aside0.mk (Kd.R_below (by (with_reducible repeat (first | apply Kd.R_alloc | apply Kd.R_drewN | apply Kd.R_drew)); exact HO_4.out) hb); have n1_ := Aside0.mk (Kd.R_below (by (with_reducible repeat (first | apply Kd.R_alloc | apply Kd.R_drewN | apply Kd.R_drew)); exact HO_10.out) hb); have n2_ := Aside0.mk (below_step (by repeat (first | (with_reducible first | exact HB.out | apply below_alloc | apply pw_below_drewN | apply below_drew1) | exact HB.out)) hb); clear HO_4; clear HO_10; clear HB; have HO_4 := n0_; have HO_10 := n1_; have HB := n2_; clear n0_ n1_ n2_; (try clear hb); (try clear hb2); (try clear hk); (try clear hi)))
     go_ret2
     exact ⟨_, by first | rfl | (simp [errW_none, errW_some] <;> rfl) | (simp [*, errW_none, errW_some] <;> rfl), by (with_reducible repeat (first | apply Kd.R_alloc | apply Kd.R_drewN | apply Kd.R_drew)); exact HO_4.out, by repeat (first | (with_reducible first | exact HB.out | apply below_alloc | apply pw_below_drewN | apply below_drew1) | exact HB.out)⟩
    ·replace c22 := Bool.eq_false_iff.mpr c22
     subst c22
     have H1 : (some (([] : List (S62)), false)) = some (r1, r2) := by rw [if_neg (show ¬ (false = true) by decide)] at H; exact H
     clear H
     have H := H1
     clear H1
     simp only [Option.some.injEq, Prod.mk.injEq] at H
     obtain ⟨rfl, rfl⟩ := H
     obtain ⟨Ao25, co25, eo25⟩ := Kd.R_slice HO_4.out
     subst eo25
     go_wp2_with (first | ((with_reducible refine gate_callee (f := 10) rfl ?_); refine goesL_ (some 40) rfl rfl Tryz.func10 (by kernel_rfl) rfl #[.slice Ao25 x4_1.length co25] rfl (by (try simp only [List.map_toArray, List.map_cons, List.map_nil]); first | done | rfl | (simp only [List.length_drop, List.length_take]; rfl)) ?_; (with_reducible refine (impl_AreParcels.calls _ _ x4_1 false _ ?side1 ?side2 A21.out).mono ?_); (case side1 => repeat (first | exact (Kd.R_reads' HO_4.out).2.2 | (with_reducible refine Kd.C_alloc ?_ _) | (with_reducible refine Kd.C_drewN ?_ _) | (with_reducible refine Kd.C_drew ?_))); (case side2 => exact (Kd.R_reads' HO_4.out).2.1); rintro e w26 ⟨rfl, hb⟩; refine ⟨_, rfl, ?_⟩; have n0_ := Aside0.mk (Kd.R_below (by (with_reducible repeat (first | apply Kd.R_alloc | apply Kd.R_drewN | apply Kd.R_drew)); exact HO_4.out) hb); have n1_ := Aside0.mk (Kd.R_below (by (with_reducible repeat (first | apply Kd.R_alloc | apply Kd.R_drewN | apply Kd.R_drew)); exact HO_10.out) hb); have n2_ := Aside0.mk (below_step (by repeat (first | (with_reducible first | exact HB.out | apply below_alloc | apply pw_below_drewN | apply below_drew1) | exact HB.out)) hb); clear HO_4; clear HO_10; clear HB; have HO_4 := n0_; have HO_10 := n1_; have HB := n2_; clear n0_ n1_ n2_; (try clear hb); (try clear hb2); (try clear hk); (try clear hi)))
     go_ret2
     exact ⟨_, by first | rfl | (simp [errW_none, errW_some] <;> rfl) | (simp [*, errW_none, errW_some] <;> rfl), by first | exact Kd.R_nil _ _ _ _ _ | exact Kd.N_nil _ _ _ _ _ | exact Kd.V_nil _ _ _ _ _ | exact Kd.Q_nil _ _ _ _ _ | exact Kd.S_nil _ _ _ _ _, by repeat (first | (with_reducible first | exact HB.out | apply below_alloc | apply pw_below_drewN | apply below_drew1) | exact HB.out)⟩
def laws_aSame.l0 : Nat → List Int → List Int → Int → Int → Option (Bool)
 | 0, _, _, _, _ => none
 | k + 1, x0, x1, x12, x13 => if x13 < x12 then (if 0 ≤ x13 then (if x13 < (x0.length : Int) then (if x13 < (x1.length : Int) then (if (rd x0 x13) = (rd x1 x13) then (laws_aSame.l0 k x0 x1 x12 (wrap64 (x13 + 1))) else (some false)) else (none)) else (none)) else (none)) else (some true)
def laws_aSame.f (k : Nat) (l0 : List Int) (l1 : List Int) : Option (Bool) := if (l0.length : Int) = (l1.length : Int) then (laws_aSame.l0 k l0 l1 (l0.length : Int) 0) else (some false)
theorem laws_aSame.calls (k : Nat) (A0 : Option Addr) (c0 : Nat) (l0 : List Int) (A1 : Option Addr) (c1 : Nat) (l1 : List Int) (r : Bool) (w : World) (hr0 : Kd.C (Kd.int .i64) w A0 l0.length l0) (hc0 : l0.length ≤ c0) (hr1 : Kd.C (Kd.int .i64) w A1 l1.length l1) (hc1 : l1.length ≤ c1) (h : laws_aSame.f k l0 l1 = some r) :
  Calls Tryz.prog 24 #[.slice A0 l0.length c0, .slice A1 l1.length c1] w fun e w' => e = .returned (.bool r) ∧ Drawn0 w w' := by
 have HR0 := Aside0.mk hr0
 have HC0 := Aside0.mk hc0
 clear hr0 hc0
 have HR1 := Aside0.mk hr1
 have HC1 := Aside0.mk hc1
 clear hr1 hc1
 have H : (if (l0.length : Int) = (l1.length : Int) then (laws_aSame.l0 k l0 l1 (l0.length : Int) 0) else (some false)) = some r := h
 clear h
 by_cases c3 : (l0.length : Int) = (l1.length : Int)
 ·rw [if_pos c3] at H
  have c3b0 : ((l0.length : Int) == (l1.length : Int)) = true := beq_iff_eq.mpr c3
  have c3b1 : ((l0.length : Int) != (l1.length : Int)) = false := bne_eq_false_iff_eq.mpr c3
  have c3b2 : (l0.length == l1.length) = true := by first | simpa using c3 | (simp at c3 ⊢; omega)
  clear c3
  have H' := Aside0.mk H
  clear H
  go_enter Tryz.func24, Tryz.ntmps24
  go_wp2
  repeat (go_quiet (fail); try go_wp2)
  go_loopg [13] k (fun kq v13 w' => ∃ (x13_1 : Int), v13 = .int .i64 x13_1 ∧ Aside0 (laws_aSame.l0 kq l0 l1 (l0.length : Int) x13_1 = some r) ∧ Aside0 (kq ≤ k) ∧ Drawn0 w w')
  case atStart => exact ⟨(0), (by first | rfl | (simp; done) | (simp [*]; done)), H', ⟨Nat.le_refl _⟩, by repeat (first | exact Drawn0.refl _ | apply Drawn0.step)⟩
  case round =>
   clear H'
   try clear c1
   try clear c2
   try clear p2
   try clear c3
   try clear c3b0
   try clear c3b1
   try clear c3b2
   obtain ⟨x13_1, rfl, HA, HK1, ⟨m1, rfl⟩⟩ := hrel
   cases gk with
   | zero => exact absurd HA.out (by simp [laws_aSame.l0])
   | succ k1 =>
    have H := HA.out
    clear HA
    simp only [laws_aSame.l0] at H
    by_cases c4 : x13_1 < (l0.length : Int)
    ·rw [if_pos c4] at H
     have c4b0 : decide (x13_1 < (l0.length : Int)) = true := decide_eq_true c4
     clear c4
     by_cases c5 : 0 ≤ x13_1
     ·rw [if_pos c5] at H
      have c5b0 : decide (0 ≤ x13_1) = true := decide_eq_true c5
      clear c5
      by_cases c6 : x13_1 < (l0.length : Int)
      ·rw [if_pos c6] at H
       have c6b0 : decide (x13_1 < (l0.length : Int)) = true := decide_eq_true c6
       clear c6
       by_cases c7 : x13_1 < (l1.length : Int)
       ·rw [if_pos c7] at H
        have c7b0 : decide (x13_1 < (l1.length : Int)) = true := decide_eq_true c7
        clear c7
        by_cases c8 : (rd l0 x13_1) = (rd l1 x13_1)
        ·rw [if_pos c8] at H
         have c8b0 : ((rd l0 x13_1) == (rd l1 x13_1)) = true := beq_iff_eq.mpr c8
         have c8b1 : ((rd l0 x13_1) != (rd l1 x13_1)) = false := bne_eq_false_iff_eq.mpr c8
         clear c8
         have H' := Aside0.mk H
         clear H
         have p101 : 0 ≤ (x13_1 : Int) := of_decide_eq_true (by first | (with_reducible assumption) | assumption)
         have q101 : x13_1 < (l0.length : Int) := of_decide_eq_true (by first | (with_reducible assumption) | assumption)
         obtain ⟨ad101, e101, hx101_0⟩ := Kd.at_int HR0.out x13_1 p101 q101
         cases e101
         replace p101 := eq_true p101
         replace q101 := eq_true q101
         have p102 : 0 ≤ (x13_1 : Int) := of_decide_eq_true (by first | (with_reducible assumption) | assumption)
         have q102 : x13_1 < (l1.length : Int) := of_decide_eq_true (by first | (with_reducible assumption) | assumption)
         obtain ⟨ad102, e102, hx102_0⟩ := Kd.at_int HR1.out x13_1 p102 q102
         cases e102
         replace p102 := eq_true p102
         replace q102 := eq_true q102
         go_wp2
         repeat (go_quiet (fail); try go_wp2)
         go_roundg k1
         case measure => have := HK1.out; omega
         case rel => exact ⟨(wrap64 (x13_1 + 1)), (by first | rfl | (simp; done) | (simp [*]; done)), H', ⟨by have := HK1.out; omega⟩, by repeat (first | exact Drawn0.refl _ | apply Drawn0.step)⟩
        ·rw [if_neg c8] at H
         have c8b0 : ((rd l0 x13_1) == (rd l1 x13_1)) = false := beq_eq_false_iff_ne.mpr c8
         have c8b1 : ((rd l0 x13_1) != (rd l1 x13_1)) = true := bne_iff_ne.mpr c8
         obtain rfl := Option.some.inj H
         have p101 : 0 ≤ (x13_1 : Int) := of_decide_eq_true (by first | (with_reducible assumption) | assumption)
         have q101 : x13_1 < (l0.length : Int) := of_decide_eq_true (by first | (with_reducible assumption) | assumption)
         obtain ⟨ad101, e101, hx101_0⟩ := Kd.at_int HR0.out x13_1 p101 q101
         cases e101
         replace p101 := eq_true p101
         replace q101 := eq_true q101
         have p102 : 0 ≤ (x13_1 : Int) := of_decide_eq_true (by first | (with_reducible assumption) | assumption)
         have q102 : x13_1 < (l1.length : Int) := of_decide_eq_true (by first | (with_reducible assumption) | assumption)
         obtain ⟨ad102, e102, hx102_0⟩ := Kd.at_int HR1.out x13_1 p102 q102
         cases e102
         replace p102 := eq_true p102
         replace q102 := eq_true q102
         go_wp2
         repeat (go_quiet (fail); try go_wp2)
         go_ret
         exact ⟨by first | rfl | (simp; done) | (simp [*]; done), by repeat (first | exact Drawn0.refl _ | apply Drawn0.step)⟩
       ·rw [if_neg c7] at H
        exact absurd H (by simp)
      ·rw [if_neg c6] at H
       exact absurd H (by simp)
     ·rw [if_neg c5] at H
      exact absurd H (by simp)
    ·rw [if_neg c4] at H
     have c4b0 : decide (x13_1 < (l0.length : Int)) = false := decide_eq_false c4
     clear c4
     obtain rfl := Option.some.inj H
     go_wp2
     repeat (go_quiet (fail); try go_wp2)
     go_ret
     exact ⟨by first | rfl | (simp; done) | (simp [*]; done), by repeat (first | exact Drawn0.refl _ | apply Drawn0.step)⟩
 ·rw [if_neg c3] at H
  have c3b0 : ((l0.length : Int) == (l1.length : Int)) = false := beq_eq_false_iff_ne.mpr c3
  have c3b1 : ((l0.length : Int) != (l1.length : Int)) = true := bne_iff_ne.mpr c3
  have c3b2 : (l0.length == l1.length) = false := by first | simpa using c3 | (simp at c3 ⊢; omega)
  obtain rfl := Option.some.inj H
  go_enter Tryz.func24, Tryz.ntmps24
  go_wp2
  repeat (go_quiet (fail); try go_wp2)
  go_ret
  exact ⟨by first | rfl | (simp; done) | (simp [*]; done), by repeat (first | exact Drawn0.refl _ | apply Drawn0.step)⟩
def laws_aSum.l0 : Nat → Int → List Int → Int → Int → Option (Int)
 | 0, _, _, _, _ => none
 | k + 1, x3, x6, x7, x8 => if x8 < x7 then (if 0 ≤ x8 then (if x8 < (x6.length : Int) then (laws_aSum.l0 k (wrap64 (x3 + (rd x6 x8))) x6 x7 (wrap64 (x8 + 1))) else (none)) else (none)) else (some x3)
def laws_aSum.f (k : Nat) (l0 : List Int) : Option (Int) := laws_aSum.l0 k 0 l0 (l0.length : Int) 0
theorem laws_aSum.calls (k : Nat) (A0 : Option Addr) (c0 : Nat) (l0 : List Int) (r : Int) (w : World) (hr0 : Kd.C (Kd.int .i64) w A0 l0.length l0) (hc0 : l0.length ≤ c0) (h : laws_aSum.f k l0 = some r) :
  Calls Tryz.prog 25 #[.slice A0 l0.length c0] w fun e w' => e = .returned (.int .i64 r) ∧ Drawn0 w w' := by
 have HR0 := Aside0.mk hr0
 have HC0 := Aside0.mk hc0
 clear hr0 hc0
 have H : (laws_aSum.l0 k 0 l0 (l0.length : Int) 0) = some r := h
 clear h
 have H' := Aside0.mk H
 clear H
 go_enter Tryz.func25, Tryz.ntmps25
 go_wp2
 go_loopg [3, 8] k (fun kq v3 v8 w' => ∃ (x3_1 : Int) (x8_1 : Int), v3 = .int .i64 x3_1 ∧ v8 = .int .i64 x8_1 ∧ Aside0 (laws_aSum.l0 kq x3_1 l0 (l0.length : Int) x8_1 = some r) ∧ Aside0 (kq ≤ k) ∧ Drawn0 w w')
 case atStart => exact ⟨(0), (0), (by first | rfl | (simp; done) | (simp [*]; done)), (by first | rfl | (simp; done) | (simp [*]; done)), H', ⟨Nat.le_refl _⟩, by repeat (first | exact Drawn0.refl _ | apply Drawn0.step)⟩
 case round =>
  clear H'
  obtain ⟨x3_1, x8_1, rfl, rfl, HA, HK1, ⟨m1, rfl⟩⟩ := hrel
  cases gk with
  | zero => exact absurd HA.out (by simp [laws_aSum.l0])
  | succ k1 =>
   have H := HA.out
   clear HA
   simp only [laws_aSum.l0] at H
   by_cases c2 : x8_1 < (l0.length : Int)
   ·rw [if_pos c2] at H
    have c2b0 : decide (x8_1 < (l0.length : Int)) = true := decide_eq_true c2
    clear c2
    by_cases c3 : 0 ≤ x8_1
    ·rw [if_pos c3] at H
     have c3b0 : decide (0 ≤ x8_1) = true := decide_eq_true c3
     clear c3
     by_cases c4 : x8_1 < (l0.length : Int)
     ·rw [if_pos c4] at H
      have c4b0 : decide (x8_1 < (l0.length : Int)) = true := decide_eq_true c4
      clear c4
      have H' := Aside0.mk H
      clear H
      have p101 : 0 ≤ (x8_1 : Int) := of_decide_eq_true (by first | (with_reducible assumption) | assumption)
      have q101 : x8_1 < (l0.length : Int) := of_decide_eq_true (by first | (with_reducible assumption) | assumption)
      obtain ⟨ad101, e101, hx101_0⟩ := Kd.at_int HR0.out x8_1 p101 q101
      cases e101
      replace p101 := eq_true p101
      replace q101 := eq_true q101
      go_wp2
      go_roundg k1
      case measure => have := HK1.out; omega
      case rel => exact ⟨(wrap64 (x3_1 + (rd l0 x8_1))), (wrap64 (x8_1 + 1)), (by first | rfl | (simp; done) | (simp [*]; done)), (by first | rfl | (simp; done) | (simp [*]; done)), H', ⟨by have := HK1.out; omega⟩, by repeat (first | exact Drawn0.refl _ | apply Drawn0.step)⟩
     ·rw [if_neg c4] at H
      exact absurd H (by simp)
    ·rw [if_neg c3] at H
     exact absurd H (by simp)
   ·rw [if_neg c2] at H
    have c2b0 : decide (x8_1 < (l0.length : Int)) = false := decide_eq_false c2
    clear c2
    obtain rfl := Option.some.inj H
    go_wp2
    go_ret
    exact ⟨by first | rfl | (simp; done) | (simp [*]; done), by repeat (first | exact Drawn0.refl _ | apply Drawn0.step)⟩
def slices_Clone_int_int_N.f (l0 : List Int) : Option (List Int) := some ([] : List Int)
theorem slices_Clone_int_int_N.calls (c0 : Nat) (l0 : List Int) (r : List Int) (w : World) (hr0 : Kd.C (Kd.int .i64) w (none : Option Addr) l0.length l0) (hc0 : l0.length ≤ c0) (h : slices_Clone_int_int_N.f l0 = some r) :
  Calls Tryz.prog 66 #[.slice (none : Option Addr) l0.length c0] w fun e w' => ∃ v0_ : Value, e = .returned (v0_) ∧ Kd.R (Kd.int .i64) 3 w' w.heap.size (fun _ => True) v0_ r ∧ Below w.heap.size w w' := by
 have hnil := fun (w : World) => Lib.run_eql_slice_nil (P := Tryz.prog) w 35 3 (none : Option Addr) l0.length c0 0 0 Tryz.underlying35
 have HR0 := Aside0.mk hr0
 have HC0 := Aside0.mk hc0
 clear hr0 hc0
 have HB := Aside0.mk (Below.refl w.heap.size w)
 have H : (some ([] : List Int)) = some r := h
 clear h
 obtain rfl := Option.some.inj H
 go_enter Tryz.func66, Tryz.ntmps66
 go_wp2
 go_ret
 exact ⟨_, by first | rfl | (simp [errW_none, errW_some] <;> rfl) | (simp [*, errW_none, errW_some] <;> rfl), by first | exact Kd.R_nil _ _ _ _ _ | exact Kd.N_nil _ _ _ _ _ | exact Kd.V_nil _ _ _ _ _ | exact Kd.Q_nil _ _ _ _ _ | exact Kd.S_nil _ _ _ _ _, by repeat (first | (with_reducible first | exact HB.out | apply below_alloc | apply pw_below_drewN | apply below_drew1) | exact HB.out)⟩
def slices_Clone_int_int_S.f (l0 : List Int) : Option (List Int) := (some (([] : List Int) : List Int)).bind fun y101 => (if y101.length + l0.length < 17592186044416 then (some (y101 ++ l0)) else (none))
theorem slices_Clone_int_int_S.calls (ad0 : Addr) (c0 : Nat) (l0 : List Int) (r : List Int) (w : World) (hr0 : Kd.C (Kd.int .i64) w (some ad0) l0.length l0) (hc0 : l0.length ≤ c0) (h : slices_Clone_int_int_S.f l0 = some r) :
  Calls Tryz.prog 66 #[.slice (some ad0) l0.length c0] w fun e w' => ∃ v0_ : Value, e = .returned (v0_) ∧ Kd.R (Kd.int .i64) 3 w' w.heap.size (fun _ => True) v0_ r ∧ Below w.heap.size w w' := by
 have hnil := fun (w : World) => Lib.run_eql_slice_nil (P := Tryz.prog) w 35 3 (some ad0) l0.length c0 0 0 Tryz.underlying35
 have HR0 := Aside0.mk hr0
 have HC0 := Aside0.mk hc0
 clear hr0 hc0
 have HB := Aside0.mk (Below.refl w.heap.size w)
 have H : ((some (([] : List Int) : List Int)).bind fun y101 => (if y101.length + l0.length < 17592186044416 then (some (y101 ++ l0)) else (none))) = some r := h
 clear h
 obtain ⟨y101, hy101⟩ : ∃ y_ : List Int, y_ = (([] : List Int)) := ⟨_, rfl⟩
 replace H : (if y101.length + l0.length < 17592186044416 then (some (y101 ++ l0)) else (none)) = some r := by first | (rw [hy101]; with_reducible exact H) | (have H2_ := (Option.bind_some _ _).symm.trans H; rw [hy101]; with_reducible exact H2_) | (have H2_ := (Option.bind_some _ _).symm.trans H; with_reducible exact H2_) | with_reducible exact H | (rw [hy101]; exact H) | exact H
 have Ny101 := Aside0.mk hy101
 clear hy101
 by_cases c2 : y101.length + l0.length < 17592186044416
 ·rw [if_pos c2] at H
  have LMc2 := Aside0.mk c2
  clear c2
  obtain ⟨y104, hy104⟩ : ∃ y_ : List Int, y_ = (y101 ++ l0) := ⟨_, rfl⟩
  replace H : (some y104) = some r := by first | (rw [hy104]; with_reducible exact H) | (have H2_ := (Option.bind_some _ _).symm.trans H; rw [hy104]; with_reducible exact H2_) | (have H2_ := (Option.bind_some _ _).symm.trans H; with_reducible exact H2_) | with_reducible exact H | (rw [hy104]; exact H) | exact H
  have Ny104 := Aside0.mk hy104
  clear hy104
  obtain rfl := Option.some.inj H
  go_enter Tryz.func66, Tryz.ntmps66
  go_wp2_with (first | ((with_reducible refine gate_dst (N := 5) rfl ?_); refine Kd.R_lit (Kd.int .i64) _ 3 ?hg (N := 5) ?hd (xs := ([] : List Int)) (inner := []) (ok := fun _ => True) (okp := fun _ => True) ?hr ?hp (fun _ hk => hk) trivial (Below.refl _ _) (Nat.le_refl _) (by simp) ?_; (case hd => rfl); (case hg => rfl); (case hr => first | (go_simp; done) | (go_simp; rfl)); (case hp => exact (Reps.none _ _)); intro v102 w3 ho4 hb hg_ hnew_; clear hg_ hnew_; (first | rw [← Ny101.out] at ho4 | (simp only [Int.reduceToNat] at ho4; rw [← Ny101.out] at ho4)); have n0_ := Aside0.mk (Kd.R_lower ho4 (below_size (by repeat (first | (with_reducible first | exact HB.out | apply below_alloc | apply pw_below_drewN | apply below_drew1) | exact HB.out)))); have n1_ := Aside0.mk (below_step (by repeat (first | (with_reducible first | exact HB.out | apply below_alloc | apply pw_below_drewN | apply below_drew1) | exact HB.out)) hb); clear HB; have HO103 := n0_; have HB := n1_; clear n0_ n1_; clear hb ho4) | ((with_reducible refine gate_builtin (b := .append) (xs := #[.tmp 5, .tmp 6]) rfl ?_); at_builtin; refine Kd.R_append_rows (Kd.int .i64) (w0 := w) w.heap.size rfl (.tmp 5) (.tmp 6) 35 3 (.int .i64 0) 8 rfl Tryz.underlying35 info3 rfl (by decide) (by omega) v102 y101 l0 _ _ _ (fun _ => True) (fun _ => False) rfl rfl ?aO ?aR (fun _ _ h => h) (fun _ h => h.elim) ?aF ?aB ?aS ?aL ?_; (case aR => repeat (first | exact (Kd.C_below HR0.out HB.out) | (with_reducible refine Kd.C_alloc ?_ _) | (with_reducible refine Kd.C_drewN ?_ _) | (with_reducible refine Kd.C_drew ?_))); (case aB => exact (by repeat (first | (with_reducible first | exact HB.out | apply below_alloc | apply pw_below_drewN | apply below_drew1) | exact HB.out))); (case aF => exact (fun _ _ => trivial)); (case aO => exact (by (with_reducible repeat (first | apply Kd.R_alloc | apply Kd.R_drewN | apply Kd.R_drew)); exact HO103.out)); (case aS => exact (below_size (by repeat (first | (with_reducible first | exact HB.out | apply below_alloc | apply pw_below_drewN | apply below_drew1) | exact HB.out)))); (case aL => have := LMc2.out; omega); intro v105 w5 ho hb hg hat; rw [← Ny104.out] at ho; have n0_ := Aside0.mk (hb); have n1_ := Aside0.mk (ho); clear HB; clear HO103; have HB := n0_; have HO106 := n1_; clear n0_ n1_; clear ho hb hg hat))
  go_ret
  exact ⟨_, by first | rfl | (simp [errW_none, errW_some] <;> rfl) | (simp [*, errW_none, errW_some] <;> rfl), by (with_reducible repeat (first | apply Kd.R_alloc | apply Kd.R_drewN | apply Kd.R_drew)); exact HO106.out, by repeat (first | (with_reducible first | exact HB.out | apply below_alloc | apply pw_below_drewN | apply below_drew1) | exact HB.out)⟩
 ·rw [if_neg c2] at H
  exact absurd H (by simp)
def slices_Clone_int_int.f (l0 : List Int) : Option (List Int) := if l0.length < 17592186044416 then some l0 else none
theorem slices_Clone_int_int.calls (A0 : Option Addr) (c0 : Nat) (l0 : List Int) (r : List Int) (w : World) (hr0 : Kd.C (Kd.int .i64) w A0 l0.length l0) (hc0 : l0.length ≤ c0) (h : slices_Clone_int_int.f l0 = some r) :
  Calls Tryz.prog 66 #[.slice A0 l0.length c0] w fun e w' => ∃ v0_ : Value, e = .returned (v0_) ∧ Kd.R (Kd.int .i64) 3 w' w.heap.size (fun _ => True) v0_ r ∧ Below w.heap.size w w' := by
 unfold slices_Clone_int_int.f at h
 by_cases hl : l0.length < 17592186044416
 ·rw [if_pos hl] at h
  obtain rfl := Option.some.inj h
  cases A0 with
  | none =>
   obtain rfl := Fun.C_none hr0
   exact slices_Clone_int_int_N.calls c0 [] [] w hr0 hc0 (by simp [slices_Clone_int_int_N.f])
  | some ad => exact slices_Clone_int_int_S.calls ad c0 l0 l0 w hr0 hc0 (by simp [slices_Clone_int_int_S.f, hl])
 ·rw [if_neg hl] at h
  cases h
section
structure BpSt where
 least : Int
 count : Int
 best : List Int
def bpLeaf (num : List Int → Option Int) (p : List Int) (s : BpSt) : Option BpSt :=
 (num p).bind fun own =>
  if s.count = 0 ∨ own < s.least then some ⟨own, 1, p⟩
  else if own = s.least then some ⟨s.least, wrap64 (s.count + 1), s.best⟩ else some s
def bpNext (ws : List Int) (t : Nat) (x : Int) : List Int := (if t < ws.length then ws else ws ++ [0]).set t (wrap64 (rd (if t < ws.length then ws else ws ++ [0]) (t : Int) + x))
theorem bpNext_old {ws : List Int} {t : Nat} {x : Int} (h : t < ws.length) : bpNext ws t x = ws.set t (wrap64 (rdOf 0 ws (t : Int) + x)) := by
 unfold bpNext
 rw [if_pos h]
 rfl
theorem bpNext_new (ws : List Int) (x : Int) : bpNext ws ws.length x = (ws ++ [0]).set ws.length (wrap64 (rdOf 0 (ws ++ [0]) (ws.length : Int) + x)) := by
 unfold bpNext
 rw [if_neg (Nat.lt_irrefl _)]
 rfl
def bpLoop (f : List Int → List Int → BpSt → Option BpSt) (bag x : Int) (p ws : List Int) : Nat → Nat → BpSt → Option BpSt
 | 0, _, s => some s
 | m + 1, t, s => if rd (bpNext ws t x) (t : Int) ≤ bag then (f (p ++ [(t : Int)]) (bpNext ws t x) s).bind fun s' => bpLoop f bag x p ws m (t + 1) s' else bpLoop f bag x p ws m (t + 1) s
def bpGo (num : List Int → Option Int) (l : List S62) (bag : Int) : Nat → List Int → List Int → BpSt → Option BpSt
 | 0, p, _, s => bpLeaf num p s
 | d + 1, p, ws, s => bpLoop (bpGo num l bag d) bag (rd_T62 l (p.length : Int)).f1 p ws (ws.length + 1) 0 s
structure BpKeep (N : Nat) (W W' : World) : Prop where
 os : W'.os = W.os
 tape : W'.tape = W.tape
 output : W'.output = W.output
 size : W.heap.size ≤ W'.heap.size
 block : ∀ k, k < W.heap.size → k ≠ N + 3 → k ≠ N + 4 → k ≠ N + 5 → W'.heap[k]? = W.heap[k]?
theorem BpKeep.refl (N : Nat) (W : World) : BpKeep N W W := ⟨rfl, rfl, rfl, Nat.le_refl _, fun _ _ _ _ _ => rfl⟩
theorem BpKeep.trans {N : Nat} {a b c : World} (h : BpKeep N a b) (k : BpKeep N b c) : BpKeep N a c :=
 ⟨k.os.trans h.os, k.tape.trans h.tape, k.output.trans h.output, Nat.le_trans h.size k.size, fun i hi h3 h4 h5 => (k.block i (Nat.lt_of_lt_of_le hi h.size) h3 h4 h5).trans (h.block i hi h3 h4 h5)⟩
theorem BpKeep.of_below {N : Nat} {a b : World} (h : Below a.heap.size a b) : BpKeep N a b := ⟨h.os, h.tape, h.output, h.size, fun i hi _ _ _ => h.block i hi⟩
theorem BpKeep.below {N : Nat} {a b c : World} (h : BpKeep N a b) (k : Below b.heap.size b c) : BpKeep N a c := h.trans (BpKeep.of_below k)
theorem BpKeep.set {N : Nat} {a b : World} (h : BpKeep N a b) (g : Nat) (hg : g = N + 3 ∨ g = N + 4 ∨ g = N + 5 ∨ a.heap.size ≤ g) (j : Nat) (u : Value) : BpKeep N a (b.setCell ⟨g, j, none⟩ u) :=
 ⟨h.os, h.tape, h.output, by simpa [World.setCell] using h.size, fun i hi h3 h4 h5 => (Below.heap_setCell _ _ _ _ (by show i ≠ g; omega)).trans (h.block i hi h3 h4 h5)⟩
theorem BpKeep.lo {N : Nat} {w0 a b : World} (h : BpKeep N a b) (hb : Below N w0 a) (hN : N + 7 ≤ a.heap.size) : Below N w0 b :=
 hb.trans ⟨h.os, h.tape, h.output, h.size, fun k hk => h.block k (by omega) (by omega) (by omega) (by omega)⟩
theorem BpKeep.cell {N : Nat} {a b : World} (h : BpKeep N a b) {g j : Nat} {v : Value} (hc : a.cell? ⟨g, j, none⟩ = some v) (h3 : g ≠ N + 3) (h4 : g ≠ N + 4) (h5 : g ≠ N + 5) : b.cell? ⟨g, j, none⟩ = some v :=
 (World.cell?_of_block (w := a) (a := ⟨g, j, none⟩) (h.block g (World.block_lt_of_cell? a _ hc) h3 h4 h5)).trans hc
theorem BpKeep.row {N : Nat} {a b : World} (h : BpKeep N a b) {e : Nat} {v : Value} {xs : List Int} (hr : Kd.R (Kd.int .i64) e a (N + 7) (fun _ => True) v xs) : Kd.R (Kd.int .i64) e b (N + 7) (fun _ => True) v xs := by
 have := Kd.R_bound hr
 exact Kd.R_mono (Kd.R_step this (fun k hk hlt => h.block k hlt (by have := hk.2.1; omega) (by have := hk.2.1; omega) (by have := hk.2.1; omega))) (fun _ _ => trivial)
theorem BpKeep.drew {N : Nat} {a b : World} (h : BpKeep N a b) : BpKeep N a b.drew := ⟨h.os, h.tape, h.output, h.size, h.block⟩
structure BpBox (N : Nat) (A0 : Option Addr) (n0 c0 : Nat) (bag : Int) (fv ev : Value) (W : World) : Prop where
 list : W.cell? ⟨N, 0, none⟩ = some (.slice A0 n0 c0)
 bag : W.cell? ⟨N + 1, 0, none⟩ = some (.int .i64 bag)
 num : W.cell? ⟨N + 2, 0, none⟩ = some fv
 ext : W.cell? ⟨N + 6, 0, none⟩ = some ev
theorem BpBox.keep {N : Nat} {A0 : Option Addr} {n0 c0 : Nat} {bag : Int} {fv ev : Value} {W W' : World} (h : BpBox N A0 n0 c0 bag fv ev W) (k : BpKeep N W W') : BpBox N A0 n0 c0 bag fv ev W' :=
 ⟨k.cell h.list (by omega) (by omega) (by omega), k.cell h.bag (by omega) (by omega) (by omega), k.cell h.num (by omega) (by omega) (by omega), k.cell h.ext (by omega) (by omega) (by omega)⟩
structure BpVar (N : Nat) (s : BpSt) (v : Value) (W : World) : Prop where
 least : W.heap[N + 3]? = some (.cells #[.int .i64 s.least] 3 (0, 0))
 count : W.heap[N + 4]? = some (.cells #[.int .i64 s.count] 3 (0, 0))
 best : W.heap[N + 5]? = some (.cells #[v] 35 (0, 0))
 row : Kd.R (Kd.int .i64) 3 W (N + 7) (fun _ => True) v s.best
theorem BpVar.below {N : Nat} {s : BpSt} {v : Value} {W W' : World} (h : BpVar N s v W) (hb : Below W.heap.size W W') : BpVar N s v W' :=
 ⟨blk_below h.least hb, blk_below h.count hb, blk_below h.best hb, Kd.R_below h.row hb⟩
theorem BpVar.drew {N : Nat} {s : BpSt} {v : Value} {W : World} (h : BpVar N s v W) : BpVar N s v W.drew := ⟨h.least, h.count, h.best, Kd.R_drew h.row⟩
theorem bp_row_set {N : Nat} {w : World} {e : Nat} {v : Value} {xs : List Int} (hr : Kd.R (Kd.int .i64) e w (N + 7) (fun _ => True) v xs) (g j : Nat) (hg : g < N + 7) (u : Value) : Kd.R (Kd.int .i64) e (w.setCell ⟨g, j, none⟩ u) (N + 7) (fun _ => True) v xs :=
 Kd.R_mono (Kd.R_far (p := ⟨g, j, none⟩) (Kd.R_bound hr) (fun k hk => (by have := hk.2.1; show k ≠ g; omega)) u) (fun _ _ => trivial)
theorem BpKeep.alloc {N : Nat} {a b : World} (h : BpKeep N a b) (o : Obj) : BpKeep N a (b.alloc o) := h.below (below_alloc (Below.refl _ _) o)
section
variable {N : Nat} {w3 W W' : World} {ev : Value}
theorem bp_S_alloc (h : W.cell? ⟨N + 6, 0, none⟩ = some ev ∧ BpKeep N w3 W) (o : Obj) : (W.alloc o).cell? ⟨N + 6, 0, none⟩ = some ev ∧ BpKeep N w3 (W.alloc o) :=
 ⟨((BpKeep.refl N W).alloc o).cell h.1 (by omega) (by omega) (by omega), h.2.alloc o⟩
theorem bp_S_below (h : W.cell? ⟨N + 6, 0, none⟩ = some ev ∧ BpKeep N w3 W) (hb : Below W.heap.size W W') : W'.cell? ⟨N + 6, 0, none⟩ = some ev ∧ BpKeep N w3 W' :=
 ⟨(BpKeep.of_below (N := N) hb).cell h.1 (by omega) (by omega) (by omega), h.2.below hb⟩
theorem bp_S_from (h : w3.drew.cell? ⟨N + 6, 0, none⟩ = some ev) (hb : Below w3.heap.size w3 W') : W'.cell? ⟨N + 6, 0, none⟩ = some ev ∧ BpKeep N w3 W' :=
 ⟨(BpKeep.of_below (N := N) hb).cell h (by omega) (by omega) (by omega), BpKeep.of_below hb⟩
theorem bp_S_keep (h : W.cell? ⟨N + 6, 0, none⟩ = some ev ∧ BpKeep N w3 W) (hk : BpKeep N W W') : W'.cell? ⟨N + 6, 0, none⟩ = some ev ∧ BpKeep N w3 W' :=
 ⟨hk.cell h.1 (by omega) (by omega) (by omega), h.2.trans hk⟩
end
theorem bp_then {w3 W W' : World} (h : Below w3.heap.size w3 W) (k : Below W.heap.size W W') : Below w3.heap.size w3 W' := below_then h h.size k
theorem lit_C (w : World) (x : Int) (e : Nat) : Kd.C (Kd.int .i64) (w.alloc (.cells #[.int .i64 x] e)) (some ⟨w.heap.size, 0, none⟩) 1 [x] :=
 Kd.C_of_reads (enc := Value.int .i64) (d := (0 : Int)) ⟨rfl, by omega, fun _ => ⟨_, rfl, fun j hj => by
  obtain rfl : j = 0 := by omega
  simp [Addr.add]⟩⟩
theorem bp_far (w : World) (g j : Nat) (u : Value) (k : Nat) (h : k ≠ g) : (w.setCell ⟨g, j, none⟩ u).heap[k]? = w.heap[k]? := Below.heap_setCell _ _ _ _ h
theorem BpVar.put1 {N : Nat} {s : BpSt} {v : Value} {w : World} (h : BpVar N s v w) (b : Int) : BpVar N ⟨s.least, b, s.best⟩ v (w.setCell ⟨N + 4, 0, none⟩ (.int .i64 b)) :=
 ⟨(bp_far _ _ _ _ _ (by omega)).trans h.least, by simpa using blk_set h.count 0 (.int .i64 b), (bp_far _ _ _ _ _ (by omega)).trans h.best, bp_row_set h.row _ _ (by omega) _⟩
theorem BpVar.put3 {N : Nat} {s : BpSt} {v0 v : Value} {w : World} {xs : List Int} (h1 : w.heap[N + 3]? = some (.cells #[.int .i64 s.least] 3 (0, 0))) (h2 : w.heap[N + 4]? = some (.cells #[.int .i64 s.count] 3 (0, 0))) (h3 : w.heap[N + 5]? = some (.cells #[v0] 35 (0, 0)))
  (hr : Kd.R (Kd.int .i64) 3 w (N + 7) (fun _ => True) v xs) (a b : Int) :
  BpVar N ⟨a, b, xs⟩ v (((w.setCell ⟨N + 3, 0, none⟩ (.int .i64 a)).setCell ⟨N + 4, 0, none⟩ (.int .i64 b)).setCell ⟨N + 5, 0, none⟩ v) := by
 have k1 := blk_set h1 0 (.int .i64 a)
 have k2 := blk_set ((bp_far w (N + 3) 0 (.int .i64 a) _ (by omega)).trans h2) 0 (.int .i64 b)
 have k3 := blk_set ((bp_far (w.setCell ⟨N + 3, 0, none⟩ (.int .i64 a)) (N + 4) 0 (.int .i64 b) _ (by omega)).trans ((bp_far w (N + 3) 0 (.int .i64 a) _ (by omega)).trans h3)) 0 v
 refine ⟨?_, ?_, by simpa using k3, bp_row_set (bp_row_set (bp_row_set hr _ _ (by omega) _) _ _ (by omega) _) _ _ (by omega) _⟩
 ·rw [bp_far _ _ _ _ _ (by omega), bp_far _ _ _ _ _ (by omega)]
  simpa using k1
 ·rw [bp_far _ _ _ _ _ (by omega)]
  simpa using k2
theorem bp_extend (num : List Int → Option Int) (gn : Nat) (lbn : Array Value) (egn : ∀ args w, (callFunc gn args).run Tryz.prog w = .ok (.enter gn args) w)
  (ege : ∀ args w, (callFunc 65 args).run Tryz.prog w = .ok (.enter 65 args) w)
  (A0 : Option Addr) (c0 : Nat) (l0 : List S62) (bag : Int) (w0 : World) (hr0 : Kd.C k62 w0 A0 l0.length l0) (hc0 : l0.length ≤ c0) (hl : l0.length ≤ 8)
  (hnum : ∀ (W : World) (p : List Int) (A : Option Addr) (c : Nat) (x : Int), Below w0.heap.size w0 W → Kd.C (Kd.int .i64) W A p.length p → p.length ≤ c → p.length = l0.length → num p = some x → Calls Tryz.prog gn (#[.slice A0 l0.length c0, .slice A p.length c] ++ lbn) W fun e w' => e = .returned (.int .i64 x) ∧ Below W.heap.size W w')
  (ev : Value) (hev : ev = .func (.func 65) #[] #[.pointer (some ⟨w0.heap.size, 0, none⟩), .pointer (some ⟨w0.heap.size + 2, 0, none⟩), .pointer (some ⟨w0.heap.size + 4, 0, none⟩), .pointer (some ⟨w0.heap.size + 3, 0, none⟩), .pointer (some ⟨w0.heap.size + 5, 0, none⟩), .pointer (some ⟨w0.heap.size + 1, 0, none⟩), .pointer (some ⟨w0.heap.size + 6, 0, none⟩)]) :
  ∀ (d : Nat) (p ws : List Int) (vp vw : Value) (s s' : BpSt) (v : Value) (W : World), bpGo num l0 bag d p ws s = some s' → p.length + d = l0.length → ws.length ≤ p.length →
   Below w0.heap.size w0 W → w0.heap.size + 7 ≤ W.heap.size → BpBox w0.heap.size A0 l0.length c0 bag (.func (.func gn) #[] lbn) ev W → BpVar w0.heap.size s v W →
   Kd.R (Kd.int .i64) 3 W (w0.heap.size + 7) (fun _ => True) vp p → Kd.R (Kd.int .i64) 3 W (w0.heap.size + 7) (fun _ => True) vw ws →
   Calls Tryz.prog 65 (#[vp, vw] ++ #[.pointer (some ⟨w0.heap.size, 0, none⟩), .pointer (some ⟨w0.heap.size + 2, 0, none⟩), .pointer (some ⟨w0.heap.size + 4, 0, none⟩), .pointer (some ⟨w0.heap.size + 3, 0, none⟩), .pointer (some ⟨w0.heap.size + 5, 0, none⟩), .pointer (some ⟨w0.heap.size + 1, 0, none⟩), .pointer (some ⟨w0.heap.size + 6, 0, none⟩)]) W
    fun e w' => e = .returned (.tuple #[]) ∧ BpKeep w0.heap.size W w' ∧ ∃ v', BpVar w0.heap.size s' v' w' := by
 intro d
 induction d with
 | zero =>
  intro p ws vp vw s s' v W h hlen hws hlo hsz hbox hvar hp hw
  subst hev
  obtain ⟨Ap, cp, rfl, hcp, hCp⟩ := Kd.R_reads hp
  obtain ⟨Aw, cw, rfl, hcw, hCw⟩ := Kd.R_reads hw
  unfold bpGo bpLeaf at h
  obtain ⟨own, hown, hh⟩ := Option.bind_eq_some_iff.1 h
  clear h
  obtain ⟨b1, b2, b3, b4⟩ := hbox
  obtain ⟨v1, v2, v3, v4⟩ := hvar
  have q1 := blk_cell v1 0
  have q2 := blk_cell v2 0
  have q3 := blk_cell v3 0
  have e1 : decide ((p.length : Int) = (l0.length : Int)) = true := decide_eq_true (by omega)
  have KN := Aside0.mk (hnum W p Ap cp own hlo hCp hcp (by omega) hown)
  have HP := Aside0.mk hp
  have CP := Aside0.mk hCp
  have HW := Aside0.mk hw
  have HH := Aside0.mk hh
  clear hp hw hh hnum hCp hCw ege hown hr0
  go_enter Tryz.func65, Tryz.ntmps65
  go_wp2_with fail
  refine KN.out.mono ?_
  rintro e w1 ⟨rfl, hb⟩
  have k1 : BpKeep w0.heap.size W w1 := BpKeep.of_below hb
  have q1 := blk_cell (blk_below v1 hb) 0
  have q2 := blk_cell (blk_below v2 hb) 0
  have q3 := blk_cell (blk_below v3 hb) 0
  clear egn b1 b2 b3 b4
  have KC := Aside0.mk (slices_Clone_int_int.calls Ap cp p p w1 (Kd.C_below CP.out hb) hcp (by unfold slices_Clone_int_int.f; rw [if_pos (by omega)]))
  by_cases hc : s.count = 0 ∨ own < s.least
  ·have hh := HH.out
   rw [if_pos hc] at hh
   obtain rfl := Option.some.inj hh
   have HV := Aside0.mk v4
   have V1 := Aside0.mk (blk_below v1 hb)
   have V2 := Aside0.mk (blk_below v2 hb)
   have V3 := Aside0.mk (blk_below v3 hb)
   have HK := Aside0.mk k1
   have HB1 := Aside0.mk hb
   clear hh HH v1 v2 v3 v4 k1 hb KN HP HW CP
   go_wp2_with fail
   all_goals
    refine KC.out.mono ?_
    rintro e w2 ⟨vb, rfl, HO, hb2⟩
    have V12 := Aside0.mk (blk_below V1.out hb2)
    have V22 := Aside0.mk (blk_below V2.out hb2)
    have V32 := Aside0.mk (blk_below V3.out hb2)
    have HK2 := Aside0.mk (HK.out.below hb2)
    have q1 := blk_cell V12.out 0
    have q2 := blk_cell V22.out 0
    have q3 := blk_cell V32.out 0
    have f1 := blk_frozen V12.out 0
    have f2 := blk_frozen V22.out 0
    have f3 := blk_frozen V32.out 0
    obtain ⟨Ab, cb, rfl⟩ := Kd.R_slice HO
    have HOO := Aside0.mk HO
    clear hb2 HO V1 V2 V3
    go_wp2
    first | go_end0 | ((try simp only [Exit.inBlock, Exit.then]); refine bodyPost_ret (results_none rfl _ _ _) rfl ?_)
    exact ⟨rfl, (((HK2.out.set _ (.inl rfl) 0 _).set _ (.inr (.inl rfl)) 0 _).set _ (.inr (.inr (.inl rfl))) 0 _).set _ (.inr (.inl rfl)) 0 _, _, (BpVar.put3 V12.out V22.out V32.out (Kd.R_lower HOO.out (Nat.le_trans (by omega) HB1.out.size)) own 0).put1 1⟩
  ·have hh := HH.out
   rw [if_neg hc] at hh
   have c1 : (s.count == 0) = false := by simp; omega
   have c2 : decide (own < s.least) = false := decide_eq_false (by omega)
   have VV := Aside0.mk (BpVar.below ⟨v1, v2, v3, v4⟩ hb)
   have f2 := blk_frozen (blk_below v2 hb) 0
   have HK := Aside0.mk k1
   clear HH v1 v2 v3 v4 k1 hb KN HP HW CP KC
   by_cases ho : own = s.least
   ·rw [if_pos ho] at hh
    obtain rfl := Option.some.inj hh
    have c3 : (own == s.least) = true := by simpa using ho
    clear hh hc
    go_wp2
    first | go_end0 | ((try simp only [Exit.inBlock, Exit.then]); refine bodyPost_ret (results_none rfl _ _ _) rfl ?_)
    exact ⟨rfl, HK.out.set _ (.inr (.inl rfl)) 0 _, _, VV.out.put1 _⟩
   ·rw [if_neg ho] at hh
    obtain rfl := Option.some.inj hh
    have c3 : (own == s.least) = false := by simpa using ho
    clear hh hc
    go_wp2
    first | go_end0 | ((try simp only [Exit.inBlock, Exit.then]); refine bodyPost_ret (results_none rfl _ _ _) rfl ?_)
    exact ⟨rfl, HK.out, _, VV.out⟩
 | succ d ih =>
  intro p ws vp vw s s' v W h hlen hws hlo hsz hbox hvar hp hw
  subst hev
  obtain ⟨Ap, cp, rfl, hcp, hCp⟩ := Kd.R_reads hp
  obtain ⟨Aw, cw, rfl, hcw, hCw⟩ := Kd.R_reads hw
  unfold bpGo at h
  obtain ⟨ad, ead, hx0, hx1⟩ := at_T62 (Kd.C_below hr0 hlo) (p.length : Int) (by omega) (by omega)
  have b1 := hbox.list
  have e1 : decide ((p.length : Int) = (l0.length : Int)) = false := decide_eq_false (by omega)
  have HR := Aside0.mk hr0
  have HP := Aside0.mk hp
  have HW := Aside0.mk hw
  have HH := Aside0.mk h
  have HV := Aside0.mk hvar
  have HX := Aside0.mk hbox
  have HLO := Aside0.mk hlo
  have HN := Aside0.mk hnum
  have IH := Aside0.mk ih
  have e2 : wrap64 ((ws.length : Int) + 1) = ((ws.length + 1 : Nat) : Int) := by unfold wrap64; omega
  clear hp hw h hnum hCp hCw hr0 hvar hbox hlo ih
  go_enter Tryz.func65, Tryz.ntmps65
  go_wp2_with fail
  generalize hx : (rd_T62 l0 (p.length : Int)).f1 = x at *
  have HX1 := Aside0.mk hx
  clear hx0 hx1 hx b1
  go_loopg [43] (ws.length + 1) (fun gg s43 wr => ∃ (t : Nat) (st : BpSt) (v : Value), s43 = .int .i64 (t : Int) ∧ t + gg = ws.length + 1 ∧ Aside0 (bpLoop (bpGo num l0 bag d) bag x p ws gg t st = some s') ∧ Aside0 (BpKeep w0.heap.size W wr) ∧ Aside0 (BpVar w0.heap.size st v wr))
  case atStart => exact ⟨0, s, v, rfl, by omega, HH, ⟨BpKeep.refl _ _⟩, HV⟩
  case round =>
   obtain ⟨t, st, v', rfl, hg, HL, HK, HVV⟩ := hrel
   by_cases hlt : t < ws.length + 1
   ·obtain ⟨m, rfl⟩ : ∃ m, gk = m + 1 := ⟨gk - 1, by omega⟩
    have c1 : decide ((t : Int) < (ws.length : Int) + 1) = true := decide_eq_true (by omega)
    have CW := (Kd.R_reads' (HK.out.row HW.out)).2.2
    have KC := Aside0.mk (slices_Clone_int_int.calls Aw cw ws ws wr CW hcw (by unfold slices_Clone_int_int.f; rw [if_pos (by omega)]))
    clear CW
    go_wp2_with fail
    refine KC.out.mono ?_
    rintro e w1 ⟨vn, rfl, hn, hb1⟩
    have HN1 := Aside0.mk hn
    have HB1 := Aside0.mk hb1
    clear hn hb1 KC
    by_cases hq : t < ws.length
    ·have cq : decide ((t : Int) < (ws.length : Int)) = true := decide_eq_true (by omega)
     go_wp2_with (first | ((with_reducible refine gate_builtin (b := .append) (xs := #[.tmp 47, .tmp 48]) rfl ?_); at_builtin; refine Kd.R_append (Kd.int .i64) (w0 := wr) wr.heap.size rfl (.tmp 47) (.tmp 48) 35 3 (.int .i64 0) 8 rfl Tryz.underlying35 info3 rfl (by decide) (by omega) vn ws 0 [.int .i64 0] (fun _ => True) (fun _ => False) rfl rfl ?aP (fun _ hk => hk.elim) ?aF ?aO ?aB ?aS ?aL ?_; (case aP => exact rfl); (case aF => exact fun _ _ => trivial); (case aO => exact HN1.out); (case aB => exact HB1.out); (case aS => exact HB1.out.size); (case aL => omega); intro v1 w2 ho hb hg hat; obtain ⟨g, cap, rfl, hbg, hgl, cells, hcells⟩ := Kd.R_form ho (by simp); rw [show (ws ++ [(0 : Int)]).length = ws.length + 1 from by simp] at ho ⊢; obtain ⟨i0, hi0, _, _, _⟩ := info_parts info3; have hcut := cut_to (P := Tryz.prog) 35 3 .i64 Tryz.underlying35 hi0 (some ⟨g, 0, none⟩) (ws.length + 1) cap (ws.length : Int) (by omega) (by omega) (Kd.R_reads' ho).2.1; rw [Int.toNat_natCast] at hcut; have HT := Kd.R_take (m := ws.length) ho (by simp); rw [List.take_left' rfl] at HT; have HTT := Aside0.mk HT; have hcl := Kd.R_celln 0 HT (t : Int) (by omega) (by omega); rw [Int.toNat_natCast] at hcl; obtain ⟨hcl, hfz⟩ := hcl; have hk2 := (HK.out.below hb); have HKK := Aside0.mk hk2; have HBB := Aside0.mk hb; have bx := (HX.out.keep hk2); have bl := bx.list; have bb := bx.bag; have be := bx.ext; clear bx; obtain ⟨ad2, ead2, _, hx2⟩ := at_T62 (Kd.C_below HR.out (hk2.lo HLO.out hsz)) (p.length : Int) (by omega) (by omega); rw [HX1.out, Int.toNat_natCast, Option.some.inj (ead2.symm.trans ead)] at hx2; clear ead2; clear ho hb hg hat hk2 HT HN1 HB1; have hg1 : w0.heap.size + 7 ≤ g := Nat.le_trans (Nat.le_trans hsz HK.out.size) hbg))
     go_region
     go_wp2_with fail
     have HV3 := HTT.out
     obtain ⟨y, hy⟩ : ∃ y, y = wrap64 (rdOf 0 ws (t : Int) + x) := ⟨_, rfl⟩
     have HT3 : Kd.R (Kd.int .i64) 3 _ _ _ _ _ := Kd.R_drew (Kd.R_putn HTT.out (t : Int) y)
     have HB3 : Below wr.heap.size wr _ := (HBB.out.setCell (p := ⟨g, t, none⟩) hbg (.int .i64 y)).drew
     have hcy : ((w2.setCell ⟨g, t, none⟩ (.int .i64 y)).drew).cell? ⟨g, t, none⟩ = some (.int .i64 y) := World.cell?_setCell_same _ _ _ hcl
     rw [Int.toNat_natCast] at HT3
     rw [← hy]
     generalize (w2.setCell ⟨g, t, none⟩ (.int .i64 y)).drew = w3 at HT3 HB3 hcy ⊢
     have hk3 := HK.out.below HB3
     have bx := HX.out.keep hk3
     have bb3 := bx.bag
     have be3 := bx.ext
     have hNX : bpNext ws t x = ws.set t y := by rw [hy]; exact bpNext_old hq
     have HNX := Aside0.mk hNX
     have hrd : rd (ws.set t y) (t : Int) = y := by simp [rd, List.getD, List.getElem?_set, hq]
     have HRD := Aside0.mk hrd
     have HTA := Aside0.mk HT3
     have HBA := Aside0.mk HB3
     have HKA := Aside0.mk hk3
     have HPA := Aside0.mk (hk3.row HP.out)
     have hL := HL.out
     unfold bpLoop at hL
     rw [hNX, hrd] at hL
     clear HV3 HT3 HB3 bx hk3 hNX hrd HTT HBB bl bb be hcl hfz hx2 hgl hcells HL hy hcut
     by_cases hle : y ≤ bag
     ·rw [if_pos hle] at hL
      obtain ⟨s2, hs2, hL2⟩ := Option.bind_eq_some_iff.1 hL
      have HS2 := Aside0.mk hs2
      have HL2 := Aside0.mk hL2
      have c3 : decide (y ≤ bag) = true := decide_eq_true hle
      clear hL hs2 hL2 hle
      go_region
      go_wp2_with fail
      have be4 : w3.drew.drew.cell? ⟨w0.heap.size + 6, 0, none⟩ = _ := be3
      have bs4 : BpKeep w0.heap.size w3 w3.drew.drew := (BpKeep.refl _ _).drew.drew
      clear bb3 be3 hcy
      go_region_held3 (fun W' => W'.cell? ⟨w0.heap.size + 6, 0, none⟩ = some (.func (.func 65) #[] #[.pointer (some ⟨w0.heap.size, 0, none⟩), .pointer (some ⟨w0.heap.size + 2, 0, none⟩), .pointer (some ⟨w0.heap.size + 4, 0, none⟩), .pointer (some ⟨w0.heap.size + 3, 0, none⟩), .pointer (some ⟨w0.heap.size + 5, 0, none⟩), .pointer (some ⟨w0.heap.size + 1, 0, none⟩), .pointer (some ⟨w0.heap.size + 6, 0, none⟩)]) ∧ BpKeep w0.heap.size w3 W') (first | assumption | exact ⟨be4, bs4⟩ | exact bp_S_alloc (by assumption) _ | exact bp_S_below (by assumption) (by assumption) | exact bp_S_from (by assumption) (by assumption) | exact bp_S_keep (by assumption) (by assumption)) (first | (go_at_call 66; refine (slices_Clone_int_int.calls Ap cp p p _ (Kd.R_reads' (BpKeep.row (by first | exact bs4 | exact bs4.alloc _) HPA.out)).2.2 hcp (by unfold slices_Clone_int_int.f; rw [if_pos (by omega)])).mono ?_; rintro e w5 ⟨vc, rfl, hc5, hb5⟩; have hb53 : Below w3.heap.size w3 w5 := (by first | exact bp_then (below_drew (below_drew (Below.refl _ _))) hb5 | exact bp_then (below_alloc (below_drew (below_drew (Below.refl _ _))) _) hb5); have ho5 : Kd.R (Kd.int .i64) 3 w5 w3.heap.size (fun _ => True) vc p := Kd.R_lower hc5 (by first | exact Nat.le_refl _ | exact Nat.le_of_lt (by simp))) | (go_at_call 65; refine (IH.out (p ++ [(t : Int)]) (ws.set t y) v6 _ st s2 v' _ HS2.out (by simp; omega) (by simp; omega) ((BpKeep.of_below hb6).lo (HKA.out.lo HLO.out hsz) (Nat.le_trans (Nat.le_trans hsz HK.out.size) HBA.out.size)) (Nat.le_trans (Nat.le_trans hsz HK.out.size) (Nat.le_trans HBA.out.size hb6.size)) (HX.out.keep (HKA.out.below hb6)) ((HVV.out.below HBA.out).below hb6) (Kd.R_lower ho6 (Nat.le_trans (Nat.le_trans hsz HK.out.size) HBA.out.size)) (BpKeep.row (BpKeep.of_below hb6) (Kd.R_lower HTA.out (Nat.le_trans hsz HK.out.size)))).mono ?_; rintro e w7 ⟨rfl, hk7, vf, hv7⟩) | (refine Kd.R_append_rows_step (Kd.int .i64) (w0 := w3) w3.heap.size (by rfl) (.tmp 77) (.tmp 79) 35 3 (.int .i64 0) 8 rfl Tryz.underlying35 info3 rfl (by decide) (by omega) vc p [(t : Int)] _ _ _ (fun _ => True) (fun _ => False) rfl rfl ?aO ?aR (fun _ _ h => h) (fun _ h => h.elim) (fun _ _ => trivial) ?aB ?aS ?aL ?_; (case aO => first | exact ho5 | exact Kd.R_alloc ho5 _); (case aR => first | exact lit_C _ _ _ | (have hl5 := Kd.C_below (Kd.C_drew (Kd.C_drew (lit_C _ _ _))) hb5; exact hl5)); (case aB => first | exact hb53 | exact below_alloc hb53 _); (case aS => first | exact hb53.size | exact (below_alloc hb53 _).size); (case aL => omega); intro v6 w6 ho6 hb6 hg6 hat6))
      all_goals
       go_wp2
       go_roundg m
       (case measure => omega)
       (case rel => exact ⟨t + 1, s2, vf, rfl, by omega, HL2, ⟨(HKA.out.below hb6).trans hk7⟩, ⟨hv7⟩⟩)
     ·rw [if_neg hle] at hL
      have HL2 := Aside0.mk hL
      have c3 : decide (y ≤ bag) = false := decide_eq_false hle
      clear hL hle
      go_region
      go_wp2
      go_roundg m
      case measure => omega
      case rel => exact ⟨t + 1, st, v', rfl, by omega, HL2, ⟨HKA.out.drew⟩, ⟨(HVV.out.below HBA.out).drew⟩⟩
    ·have cq : decide ((t : Int) < (ws.length : Int)) = false := decide_eq_false (by omega)
     obtain rfl : t = ws.length := by omega
     go_wp2_with (first | ((with_reducible refine gate_builtin (b := .append) (xs := #[.tmp 47, .tmp 48]) rfl ?_); at_builtin; refine Kd.R_append (Kd.int .i64) (w0 := wr) wr.heap.size rfl (.tmp 47) (.tmp 48) 35 3 (.int .i64 0) 8 rfl Tryz.underlying35 info3 rfl (by decide) (by omega) vn ws 0 [.int .i64 0] (fun _ => True) (fun _ => False) rfl rfl ?aP (fun _ hk => hk.elim) ?aF ?aO ?aB ?aS ?aL ?_; (case aP => exact rfl); (case aF => exact fun _ _ => trivial); (case aO => exact HN1.out); (case aB => exact HB1.out); (case aS => exact HB1.out.size); (case aL => omega); intro v1 w2 ho hb hg hat; obtain ⟨g, cap, rfl, hbg, hgl, cells, hcells⟩ := Kd.R_form ho (by simp); rw [show (ws ++ [(0 : Int)]).length = ws.length + 1 from by simp] at ho ⊢; have HT := ho; have HTT := Aside0.mk HT; have hcl := Kd.R_celln 0 HT (ws.length : Int) (by omega) (by omega); rw [Int.toNat_natCast] at hcl; obtain ⟨hcl, hfz⟩ := hcl; have hk2 := (HK.out.below hb); have HKK := Aside0.mk hk2; have HBB := Aside0.mk hb; have bx := (HX.out.keep hk2); have bl := bx.list; have bb := bx.bag; have be := bx.ext; clear bx; obtain ⟨ad2, ead2, _, hx2⟩ := at_T62 (Kd.C_below HR.out (hk2.lo HLO.out hsz)) (p.length : Int) (by omega) (by omega); rw [HX1.out, Int.toNat_natCast, Option.some.inj (ead2.symm.trans ead)] at hx2; clear ead2; clear ho hb hg hat hk2 HT HN1 HB1; have hg1 : w0.heap.size + 7 ≤ g := Nat.le_trans (Nat.le_trans hsz HK.out.size) hbg))
     go_region
     go_wp2_with fail
     have HV3 := HTT.out
     obtain ⟨y, hy⟩ : ∃ y, y = wrap64 (rdOf 0 (ws ++ [0]) (ws.length : Int) + x) := ⟨_, rfl⟩
     have HT3 : Kd.R (Kd.int .i64) 3 _ _ _ _ _ := Kd.R_drew (Kd.R_putn HTT.out (ws.length : Int) y)
     have HB3 : Below wr.heap.size wr _ := (HBB.out.setCell (p := ⟨g, ws.length, none⟩) hbg (.int .i64 y)).drew
     have hcy : ((w2.setCell ⟨g, ws.length, none⟩ (.int .i64 y)).drew).cell? ⟨g, ws.length, none⟩ = some (.int .i64 y) := World.cell?_setCell_same _ _ _ hcl
     rw [Int.toNat_natCast] at HT3
     rw [← hy]
     generalize (w2.setCell ⟨g, ws.length, none⟩ (.int .i64 y)).drew = w3 at HT3 HB3 hcy ⊢
     have hk3 := HK.out.below HB3
     have bx := HX.out.keep hk3
     have bb3 := bx.bag
     have be3 := bx.ext
     have hNX : bpNext ws ws.length x = (ws ++ [0]).set ws.length y := by rw [hy]; exact bpNext_new ws x
     have HNX := Aside0.mk hNX
     have hrd : rd ((ws ++ [0]).set ws.length y) (ws.length : Int) = y := by simp [rd, List.getD, List.getElem?_set]
     have HRD := Aside0.mk hrd
     have HTA := Aside0.mk HT3
     have HBA := Aside0.mk HB3
     have HKA := Aside0.mk hk3
     have HPA := Aside0.mk (hk3.row HP.out)
     have hL := HL.out
     unfold bpLoop at hL
     rw [hNX, hrd] at hL
     clear HV3 HT3 HB3 bx hk3 hNX hrd HTT HBB bl bb be hcl hfz hx2 hgl hcells HL hy
     by_cases hle : y ≤ bag
     ·rw [if_pos hle] at hL
      obtain ⟨s2, hs2, hL2⟩ := Option.bind_eq_some_iff.1 hL
      have HS2 := Aside0.mk hs2
      have HL2 := Aside0.mk hL2
      have c3 : decide (y ≤ bag) = true := decide_eq_true hle
      clear hL hs2 hL2 hle
      go_region
      go_wp2_with fail
      have be4 : w3.drew.drew.cell? ⟨w0.heap.size + 6, 0, none⟩ = _ := be3
      have bs4 : BpKeep w0.heap.size w3 w3.drew.drew := (BpKeep.refl _ _).drew.drew
      clear bb3 be3 hcy
      go_region_held3 (fun W' => W'.cell? ⟨w0.heap.size + 6, 0, none⟩ = some (.func (.func 65) #[] #[.pointer (some ⟨w0.heap.size, 0, none⟩), .pointer (some ⟨w0.heap.size + 2, 0, none⟩), .pointer (some ⟨w0.heap.size + 4, 0, none⟩), .pointer (some ⟨w0.heap.size + 3, 0, none⟩), .pointer (some ⟨w0.heap.size + 5, 0, none⟩), .pointer (some ⟨w0.heap.size + 1, 0, none⟩), .pointer (some ⟨w0.heap.size + 6, 0, none⟩)]) ∧ BpKeep w0.heap.size w3 W') (first | assumption | exact ⟨be4, bs4⟩ | exact bp_S_alloc (by assumption) _ | exact bp_S_below (by assumption) (by assumption) | exact bp_S_from (by assumption) (by assumption) | exact bp_S_keep (by assumption) (by assumption)) (first | (go_at_call 66; refine (slices_Clone_int_int.calls Ap cp p p _ (Kd.R_reads' (BpKeep.row (by first | exact bs4 | exact bs4.alloc _) HPA.out)).2.2 hcp (by unfold slices_Clone_int_int.f; rw [if_pos (by omega)])).mono ?_; rintro e w5 ⟨vc, rfl, hc5, hb5⟩; have hb53 : Below w3.heap.size w3 w5 := (by first | exact bp_then (below_drew (below_drew (Below.refl _ _))) hb5 | exact bp_then (below_alloc (below_drew (below_drew (Below.refl _ _))) _) hb5); have ho5 : Kd.R (Kd.int .i64) 3 w5 w3.heap.size (fun _ => True) vc p := Kd.R_lower hc5 (by first | exact Nat.le_refl _ | exact Nat.le_of_lt (by simp))) | (go_at_call 65; refine (IH.out (p ++ [(ws.length : Int)]) ((ws ++ [0]).set ws.length y) v6 _ st s2 v' _ HS2.out (by simp; omega) (by simp; omega) ((BpKeep.of_below hb6).lo (HKA.out.lo HLO.out hsz) (Nat.le_trans (Nat.le_trans hsz HK.out.size) HBA.out.size)) (Nat.le_trans (Nat.le_trans hsz HK.out.size) (Nat.le_trans HBA.out.size hb6.size)) (HX.out.keep (HKA.out.below hb6)) ((HVV.out.below HBA.out).below hb6) (Kd.R_lower ho6 (Nat.le_trans (Nat.le_trans hsz HK.out.size) HBA.out.size)) (BpKeep.row (BpKeep.of_below hb6) (Kd.R_lower HTA.out (Nat.le_trans hsz HK.out.size)))).mono ?_; rintro e w7 ⟨rfl, hk7, vf, hv7⟩) | (refine Kd.R_append_rows_step (Kd.int .i64) (w0 := w3) w3.heap.size (by rfl) (.tmp 77) (.tmp 79) 35 3 (.int .i64 0) 8 rfl Tryz.underlying35 info3 rfl (by decide) (by omega) vc p [(ws.length : Int)] _ _ _ (fun _ => True) (fun _ => False) rfl rfl ?aO ?aR (fun _ _ h => h) (fun _ h => h.elim) (fun _ _ => trivial) ?aB ?aS ?aL ?_; (case aO => first | exact ho5 | exact Kd.R_alloc ho5 _); (case aR => first | exact lit_C _ _ _ | (have hl5 := Kd.C_below (Kd.C_drew (Kd.C_drew (lit_C _ _ _))) hb5; exact hl5)); (case aB => first | exact hb53 | exact below_alloc hb53 _); (case aS => first | exact hb53.size | exact (below_alloc hb53 _).size); (case aL => omega); intro v6 w6 ho6 hb6 hg6 hat6))
      all_goals
       go_wp2
       go_roundg m
       (case measure => omega)
       (case rel => exact ⟨ws.length + 1, s2, vf, rfl, by omega, HL2, ⟨(HKA.out.below hb6).trans hk7⟩, ⟨hv7⟩⟩)
     ·rw [if_neg hle] at hL
      have HL2 := Aside0.mk hL
      have c3 : decide (y ≤ bag) = false := decide_eq_false hle
      clear hL hle
      go_region
      go_wp2
      go_roundg m
      case measure => omega
      case rel => exact ⟨ws.length + 1, st, v', rfl, by omega, HL2, ⟨HKA.out.drew⟩, ⟨(HVV.out.below HBA.out).drew⟩⟩
   ·obtain rfl : gk = 0 := by omega
    have c1 : decide ((t : Int) < (ws.length : Int) + 1) = false := decide_eq_false (by omega)
    have hL := HL.out
    unfold bpLoop at hL
    obtain rfl := Option.some.inj hL
    clear hL HL HH
    go_wp2
    first | go_end0 | ((try simp only [Exit.inBlock, Exit.then]); refine bodyPost_ret (results_none rfl _ _ _) rfl ?_)
    exact ⟨rfl, HK.out, _, HVV.out⟩
end
theorem bp_boxes {w W : World} {v0 v1 v2 v3 v4 v5 v6 : Value} {t0 t1 t2 t3 t4 t5 t6 : TypeId}
  (h : World.alloc (World.alloc (World.alloc (World.alloc (World.alloc (World.alloc (World.alloc w (.cells #[v0] t0)) (.cells #[v1] t1)) (.cells #[v2] t2)) (.cells #[v3] t3)) (.cells #[v4] t4)) (.cells #[v5] t5)) (.cells #[v6] t6) = W) :
  Below w.heap.size w W ∧ W.heap.size = w.heap.size + 7 ∧ W.heap[w.heap.size]? = some (.cells #[v0] t0 (0, 0)) ∧ W.heap[w.heap.size + 1]? = some (.cells #[v1] t1 (0, 0)) ∧ W.heap[w.heap.size + 2]? = some (.cells #[v2] t2 (0, 0)) ∧
   W.heap[w.heap.size + 3]? = some (.cells #[v3] t3 (0, 0)) ∧ W.heap[w.heap.size + 4]? = some (.cells #[v4] t4 (0, 0)) ∧ W.heap[w.heap.size + 5]? = some (.cells #[v5] t5 (0, 0)) ∧ W.heap[w.heap.size + 6]? = some (.cells #[v6] t6 (0, 0)) := by
 subst h
 refine ⟨below_alloc (below_alloc (below_alloc (below_alloc (below_alloc (below_alloc (below_alloc (Below.refl _ _) _) _) _) _) _) _) _, by simp, ?_, ?_, ?_, ?_, ?_, ?_, ?_⟩
 ·exact blk_alloc (blk_alloc (blk_alloc (blk_alloc (blk_alloc (blk_alloc (blk_new _ _) _) _) _) _) _) _
 ·have := blk_new (w.alloc (.cells #[v0] t0)) (.cells #[v1] t1)
  rw [show (w.alloc (.cells #[v0] t0)).heap.size = w.heap.size + 1 by simp] at this
  exact blk_alloc (blk_alloc (blk_alloc (blk_alloc (blk_alloc this _) _) _) _) _
 ·have := blk_new ((w.alloc (.cells #[v0] t0)).alloc (.cells #[v1] t1)) (.cells #[v2] t2)
  rw [show ((w.alloc (.cells #[v0] t0)).alloc (.cells #[v1] t1)).heap.size = w.heap.size + 2 by simp] at this
  exact blk_alloc (blk_alloc (blk_alloc (blk_alloc this _) _) _) _
 ·have := blk_new (((w.alloc (.cells #[v0] t0)).alloc (.cells #[v1] t1)).alloc (.cells #[v2] t2)) (.cells #[v3] t3)
  rw [show (((w.alloc (.cells #[v0] t0)).alloc (.cells #[v1] t1)).alloc (.cells #[v2] t2)).heap.size = w.heap.size + 3 by simp] at this
  exact blk_alloc (blk_alloc (blk_alloc this _) _) _
 ·have := blk_new ((((w.alloc (.cells #[v0] t0)).alloc (.cells #[v1] t1)).alloc (.cells #[v2] t2)).alloc (.cells #[v3] t3)) (.cells #[v4] t4)
  rw [show ((((w.alloc (.cells #[v0] t0)).alloc (.cells #[v1] t1)).alloc (.cells #[v2] t2)).alloc (.cells #[v3] t3)).heap.size = w.heap.size + 4 by simp] at this
  exact blk_alloc (blk_alloc this _) _
 ·have := blk_new (((((w.alloc (.cells #[v0] t0)).alloc (.cells #[v1] t1)).alloc (.cells #[v2] t2)).alloc (.cells #[v3] t3)).alloc (.cells #[v4] t4)) (.cells #[v5] t5)
  rw [show (((((w.alloc (.cells #[v0] t0)).alloc (.cells #[v1] t1)).alloc (.cells #[v2] t2)).alloc (.cells #[v3] t3)).alloc (.cells #[v4] t4)).heap.size = w.heap.size + 5 by simp] at this
  exact blk_alloc this _
 ·have := blk_new ((((((w.alloc (.cells #[v0] t0)).alloc (.cells #[v1] t1)).alloc (.cells #[v2] t2)).alloc (.cells #[v3] t3)).alloc (.cells #[v4] t4)).alloc (.cells #[v5] t5)) (.cells #[v6] t6)
  rw [show ((((((w.alloc (.cells #[v0] t0)).alloc (.cells #[v1] t1)).alloc (.cells #[v2] t2)).alloc (.cells #[v3] t3)).alloc (.cells #[v4] t4)).alloc (.cells #[v5] t5)).heap.size = w.heap.size + 6 by simp] at this
  exact this
theorem bp_call (num : List Int → Option Int) (gn : Nat) (lbn : Array Value) (egn : ∀ args w, (callFunc gn args).run Tryz.prog w = .ok (.enter gn args) w)
  (A0 : Option Addr) (c0 : Nat) (l0 : List S62) (bag : Int) (w : World) (hr0 : Kd.C k62 w A0 l0.length l0) (hc0 : l0.length ≤ c0) (hl : l0.length ≤ 8)
  (hnum : ∀ (W : World) (p : List Int) (A : Option Addr) (c : Nat) (x : Int), Below w.heap.size w W → Kd.C (Kd.int .i64) W A p.length p → p.length ≤ c → p.length = l0.length → num p = some x → Calls Tryz.prog gn (#[.slice A0 l0.length c0, .slice A p.length c] ++ lbn) W fun e w' => e = .returned (.int .i64 x) ∧ Below W.heap.size W w')
  (s : BpSt) (h : bpGo num l0 bag l0.length [] [] ⟨0, 0, []⟩ = some s) :
  Calls Tryz.prog 29 #[.slice A0 l0.length c0, .int .i64 bag, .func (.func gn) #[] lbn] w fun e w' => ∃ v, e = .returned (.tuple #[.int .i64 s.least, v, .int .i64 s.count]) ∧ Kd.R (Kd.int .i64) 3 w' w.heap.size (fun _ => True) v s.best ∧ Below w.heap.size w w' := by
 have key := fun ev hev W h1 h2 h3 h4 => bp_extend num gn lbn egn (enters_of Tryz.func65 (by kernel_rfl) rfl) A0 c0 l0 bag w hr0 hc0 hl hnum ev hev l0.length [] [] (.slice none 0 0) (.slice none 0 0) ⟨0, 0, []⟩ s (.slice none 0 0) W h (Nat.zero_add _) (Nat.le_refl _) h1 h2 h3 h4 (Kd.R_nil _ _ _ _ _) (Kd.R_nil _ _ _ _ _)
 have KY := Aside0.mk key
 clear key hr0 hnum h egn
 go_enter Tryz.func29, Tryz.ntmps29
 go_wp2_with fail
 generalize hW : World.alloc (World.alloc (World.alloc (World.alloc (World.alloc (World.alloc (World.alloc w _) _) _) _) _) _) _ = W1
 obtain ⟨hb, hs, b0, b1, b2, b3, b4, b5, b6⟩ := bp_boxes hW
 have HB := Aside0.mk hb
 have BX : Aside0 (BpBox w.heap.size A0 l0.length c0 bag (.func (.func gn) #[] lbn) _ W1) := ⟨⟨(blk_cell b0 0).trans rfl, (blk_cell b1 0).trans rfl, (blk_cell b2 0).trans rfl, (blk_cell b6 0).trans rfl⟩⟩
 have BV : Aside0 (BpVar w.heap.size ⟨0, 0, []⟩ (.slice none 0 0) W1) := ⟨⟨b3, b4, b5, Kd.R_nil _ _ _ _ _⟩⟩
 clear hW hb b0 b1 b2 b3 b4 b5 b6
 simp only [Nat.add_assoc, Nat.reduceAdd] at BX ⊢
 refine (KY.out _ rfl W1 HB.out (by omega) BX.out BV.out).mono ?_
 rintro e w2 ⟨rfl, hk, v', hv⟩
 have hlo := hk.lo HB.out (by omega)
 obtain ⟨Ab, cb, rfl⟩ := Kd.R_slice hv.row
 have q1 : w2.cell? ⟨w.heap.size + 3, 0, none⟩ = some (.int .i64 s.least) := blk_cell hv.least 0
 have q2 : w2.cell? ⟨w.heap.size + 4, 0, none⟩ = some (.int .i64 s.count) := blk_cell hv.count 0
 have q3 : w2.cell? ⟨w.heap.size + 5, 0, none⟩ = some (.slice Ab s.best.length cb) := blk_cell hv.best 0
 have HL := Aside0.mk hlo
 have HR := Aside0.mk (Kd.R_lower hv.row (base' := w.heap.size) (by omega))
 clear hk hv hlo KY BX BV HB hs
 go_wp2
 go_region
 go_wp2
 go_ret3
 exact ⟨_, rfl, Kd.R_drew HR.out, below_drew HL.out⟩
def lbNum (k : Nat) (l : List S62) (trips : Int) (p : List Int) : Option Int :=
 (impl_countTrips.f l p).bind fun n => if n > trips then some 1000000 else (impl_weightsOf.f k l p).bind fun ws => slices_Max_int_int.f ws
theorem lb_keep {gt : Nat} {v : Value} {w W W' : World} (h : W.cell? ⟨gt, 0, none⟩ = some v ∧ Below w.heap.size w W) (hb : Below W.heap.size W W') : W'.cell? ⟨gt, 0, none⟩ = some v ∧ Below w.heap.size w W' :=
 ⟨(hb.cell (World.block_lt_of_cell? W _ h.1)).trans h.1, below_step h.2 hb⟩
theorem lb_calls (k gt : Nat) (trips : Int) (A0 : Option Addr) (c0 : Nat) (l0 : List S62) (A : Option Addr) (c : Nat) (p : List Int) (x : Int) (W : World) (hr0 : Kd.C k62 W A0 l0.length l0) (hc0 : l0.length ≤ c0) (hr1 : Kd.C (Kd.int .i64) W A p.length p) (hc1 : p.length ≤ c)
  (hg : W.cell? ⟨gt, 0, none⟩ = some (.int .i64 trips)) (h : lbNum k l0 trips p = some x) :
  Calls Tryz.prog 31 (#[.slice A0 l0.length c0, .slice A p.length c] ++ #[.pointer (some ⟨gt, 0, none⟩)]) W fun e w' => e = .returned (.int .i64 x) ∧ Below W.heap.size W w' := by
 unfold lbNum at h
 obtain ⟨n, hn, hh⟩ := Option.bind_eq_some_iff.1 h
 clear h
 have K1 := Aside0.mk fun W1 h0 h1 => impl_countTrips.calls A0 c0 l0 A c p n W1 h0 hc0 h1 hc1 hn
 have HR0 := Aside0.mk hr0
 have HR1 := Aside0.mk hr1
 have HC0 := Aside0.mk hc0
 have HC1 := Aside0.mk hc1
 clear hn hr0 hr1 hc0 hc1
 by_cases hgt : n > trips
 ·rw [if_pos hgt] at hh
  obtain rfl := Option.some.inj hh
  have c1 : decide (n > trips) = true := decide_eq_true hgt
  clear hh hgt
  go_enter Tryz.func31, Tryz.ntmps31
  go_wp2_with fail
  have s0 : W.cell? ⟨gt, 0, none⟩ = some (.int .i64 trips) ∧ Below W.heap.size W W := ⟨hg, Below.refl _ _⟩
  go_region_held3 (fun W' => W'.cell? ⟨gt, 0, none⟩ = some (.int .i64 trips) ∧ Below W.heap.size W W') (first | assumption | exact ⟨s0.1, s0.2.drew⟩ | exact lb_keep (by assumption) (by assumption)) (first | (go_at_call 32; refine (K1.out _ (Kd.C_drew HR0.out) (Kd.C_drew HR1.out)).mono ?_; rintro e w1 ⟨rfl, hd⟩; have hb := hd.below))
  have HB1 := Aside0.mk (below_step ((Below.refl W.heap.size W).drew) hb)
  clear s0 hb hd hg
  go_wp2
  go_ret
  exact ⟨rfl, HB1.out⟩
 ·rw [if_neg hgt] at hh
  obtain ⟨ws, hws, hh⟩ := Option.bind_eq_some_iff.1 hh
  have K2 := Aside0.mk fun W1 h0 h1 => impl_weightsOf.calls k A0 c0 l0 A c p ws W1 h0 HC0.out h1 HC1.out hws
  have K3 := Aside0.mk fun A c W1 h0 h1 => slices_Max_int_int.calls A c ws x W1 h0 h1 hh
  have c1 : decide (n > trips) = false := decide_eq_false hgt
  clear hh hgt hws
  go_enter Tryz.func31, Tryz.ntmps31
  go_wp2_with fail
  have s0 : W.cell? ⟨gt, 0, none⟩ = some (.int .i64 trips) ∧ Below W.heap.size W W := ⟨hg, Below.refl _ _⟩
  go_region_held3 (fun W' => W'.cell? ⟨gt, 0, none⟩ = some (.int .i64 trips) ∧ Below W.heap.size W W') (first | assumption | exact ⟨s0.1, s0.2.drew⟩ | exact lb_keep (by assumption) (by assumption)) (first | (go_at_call 32; refine (K1.out _ (Kd.C_drew HR0.out) (Kd.C_drew HR1.out)).mono ?_; rintro e w1 ⟨rfl, hd⟩; have hb := hd.below))
  have HB1 := Aside0.mk (below_step ((Below.refl W.heap.size W).drew) hb)
  clear s0 hb hd hg
  go_wp2_with fail
  refine (K2.out _ (Kd.C_below HR0.out HB1.out) (Kd.C_below HR1.out HB1.out)).mono ?_
  rintro e w2 ⟨v, rfl, ho, hb2⟩
  obtain ⟨Ab, cb, rfl, hcb, hC⟩ := Kd.R_reads ho
  have HB2 := Aside0.mk (below_step HB1.out hb2)
  clear ho hb2
  go_wp2_with fail
  refine (K3.out _ _ _ hC hcb).mono ?_
  rintro e w3 ⟨rfl, hd3⟩
  have HB3 := Aside0.mk (below_step HB2.out hd3.below)
  clear hd3
  go_wp2
  go_ret
  exact ⟨rfl, HB3.out⟩
def strings_Join.f (l0 : List ByteArray) (a1 : ByteArray) : Option (ByteArray) := if (Lib.join (l0.map (·.data.toList)) a1.data.toList).length ≤ 140737488355328 then (if l0.length ≤ 140737488355328 then some ⟨(Lib.join (l0.map (·.data.toList)) a1.data.toList).toArray⟩ else none) else none
theorem strings_Join.calls (A0 : Option Addr) (c0 : Nat) (l0 : List ByteArray) (a1 : ByteArray) (r : ByteArray) (w : World) (hr0 : Kd.C Kd.string w A0 l0.length l0) (hc0 : l0.length ≤ c0) (h : strings_Join.f l0 a1 = some r) :
  Calls Tryz.prog 43 #[.slice A0 l0.length c0, .string a1] w fun e w' => e = .returned (.string r) ∧ Below w.heap.size w w' := by
 unfold strings_Join.f at h
 by_cases c1 : (Lib.join (l0.map (·.data.toList)) a1.data.toList).length ≤ 140737488355328
 ·rw [if_pos c1] at h
  by_cases c2 : l0.length ≤ 140737488355328
  ·rw [if_pos c2] at h
   obtain rfl := Option.some.inj h
   rcases l0 with _ | ⟨x, xs⟩
   ·refine (Tryz.strings_Join_none A0 c0 a1 w).mono ?_
    rintro e w' ⟨rfl, rfl⟩
    exact ⟨rfl, Below.refl _ _⟩
   ·obtain ⟨⟨bk, o, sp⟩, rfl, hcell⟩ := hr0.2.2 (by simp)
    have h0 : w.cell? ⟨bk, o, sp⟩ = some (.string x) := by
     obtain ⟨c, hc1, hc2, hc3⟩ := hcell 0 x rfl
     have hc2 : c = [.string x] := hc2
     have := hc3 0 (.string x) (by rw [hc2]; rfl)
     simpa [Addr.add] using this
    have hsp : sp = none := by
     unfold World.cell? at h0
     split at h0
     ·cases sp with
      | none => rfl
      | some q => simp at h0
     ·cases h0
    subst hsp
    refine (Tryz.strings_Join bk o c0 (x :: xs) a1 w (fun j y hj => ?_) (World.block_lt_of_cell? w _ h0) c2 hc0 c1).mono ?_
    ·obtain ⟨c, hc1, hc2, hc3⟩ := hcell j y hj
     have hc2 : c = [.string y] := hc2
     have := hc3 0 (.string y) (by rw [hc2]; rfl)
     have hsz : (Kd.string).sz = 1 := rfl
     rw [hsz] at this
     by_cases hj0 : j = 0
     ·subst hj0
      simpa [Addr.add] using this
     ·simpa [Addr.add, hj0] using this
    ·rintro e w' ⟨rfl, hb⟩
     exact ⟨rfl, hb⟩
  ·rw [if_neg c2] at h
   cases h
 ·rw [if_neg c1] at h
  cases h
def spec_l1All.l0 : Nat → Int → Int → List Int → Int → Int → Option (Bool)
 | 0, _, _, _, _, _ => none
 | k + 1, x1, x2, x9, x10, x11 => if x11 < x10 then (if 0 ≤ x11 then (if x11 < (x9.length : Int) then ((spec_l1In.f (rd x9 x11) x1 x2).bind fun t102 => (if t102 = true then (spec_l1All.l0 k x1 x2 x9 x10 (wrap64 (x11 + 1))) else (some false))) else (none)) else (none)) else (some true)
def spec_l1All.f (k : Nat) (l0 : List Int) (a1 : Int) (a2 : Int) : Option (Bool) := spec_l1All.l0 k a1 a2 l0 (l0.length : Int) 0
theorem spec_l1All.calls (k : Nat) (A0 : Option Addr) (c0 : Nat) (l0 : List Int) (a1 : Int) (a2 : Int) (r : Bool) (w : World) (hr0 : Kd.C (Kd.int .i64) w A0 l0.length l0) (hc0 : l0.length ≤ c0) (h : spec_l1All.f k l0 a1 a2 = some r) :
  Calls Tryz.prog 78 #[.slice A0 l0.length c0, .int .i64 a1, .int .i64 a2] w fun e w' => e = .returned (.bool r) ∧ Drawn0 w w' := by
 have HR0 := Aside0.mk hr0
 have HC0 := Aside0.mk hc0
 clear hr0 hc0
 have H : (spec_l1All.l0 k a1 a2 l0 (l0.length : Int) 0) = some r := h
 clear h
 have H' := Aside0.mk H
 clear H
 go_enter Tryz.func78, Tryz.ntmps78
 go_wp2
 go_loopg [11] k (fun kq v11 w' => ∃ (x11_1 : Int), v11 = .int .i64 x11_1 ∧ Aside0 (spec_l1All.l0 kq a1 a2 l0 (l0.length : Int) x11_1 = some r) ∧ Aside0 (kq ≤ k) ∧ Drawn0 w w')
 case atStart => exact ⟨(0), (by first | rfl | (simp; done) | (simp [*]; done)), H', ⟨Nat.le_refl _⟩, by repeat (first | exact Drawn0.refl _ | apply Drawn0.step)⟩
 case round =>
  clear H'
  try clear p2
  obtain ⟨x11_1, rfl, HA, HK1, ⟨m1, rfl⟩⟩ := hrel
  cases gk with
  | zero => exact absurd HA.out (by simp [spec_l1All.l0])
  | succ k1 =>
   have H := HA.out
   clear HA
   simp only [spec_l1All.l0] at H
   by_cases c4 : x11_1 < (l0.length : Int)
   ·rw [if_pos c4] at H
    have c4b0 : decide (x11_1 < (l0.length : Int)) = true := decide_eq_true c4
    clear c4
    by_cases c5 : 0 ≤ x11_1
    ·rw [if_pos c5] at H
     have c5b0 : decide (0 ≤ x11_1) = true := decide_eq_true c5
     clear c5
     by_cases c6 : x11_1 < (l0.length : Int)
     ·rw [if_pos c6] at H
      have c6b0 : decide (x11_1 < (l0.length : Int)) = true := decide_eq_true c6
      clear c6
      replace H := Option.bind_eq_some_iff.mp H
      obtain ⟨t102, A70, H⟩ := H
      replace H : (if t102 = true then (spec_l1All.l0 k1 a1 a2 l0 (l0.length : Int) (wrap64 (x11_1 + 1))) else (some false)) = some r := H
      have A7 := Aside0.mk A70
      clear A70
      by_cases c8 : t102 = true
      ·subst c8
       have H1 : (spec_l1All.l0 k1 a1 a2 l0 (l0.length : Int) (wrap64 (x11_1 + 1))) = some r := by rw [if_pos rfl] at H; exact H
       clear H
       have H := H1
       clear H1
       have H' := Aside0.mk H
       clear H
       have p101 : 0 ≤ (x11_1 : Int) := of_decide_eq_true (by first | (with_reducible assumption) | assumption)
       have q101 : x11_1 < (l0.length : Int) := of_decide_eq_true (by first | (with_reducible assumption) | assumption)
       obtain ⟨ad101, e101, hx101_0⟩ := Kd.at_int HR0.out x11_1 p101 q101
       cases e101
       replace p101 := eq_true p101
       replace q101 := eq_true q101
       go_wp2_with (first | ((with_reducible refine gate_callee (f := 36) rfl ?_); refine goesL_ (some 18) rfl rfl Tryz.func36 (by kernel_rfl) rfl #[.int .i64 (rd l0 x11_1), .int .i64 a1, .int .i64 a2] rfl (by (try simp only [List.map_toArray, List.map_cons, List.map_nil]); first | done | rfl | (simp only [List.length_drop, List.length_take]; rfl)) ?_; (with_reducible refine (spec_l1In.calls (rd l0 x11_1) a1 a2 true _ A7.out).mono ?_); rintro e w' ⟨rfl, ⟨nd, rfl⟩⟩; refine ⟨_, rfl, ?_⟩))
       go_roundg k1
       case measure => have := HK1.out; omega
       case rel => exact ⟨(wrap64 (x11_1 + 1)), (by first | rfl | (simp; done) | (simp [*]; done)), H', ⟨by have := HK1.out; omega⟩, by repeat (first | exact Drawn0.refl _ | apply Drawn0.step)⟩
      ·replace c8 := Bool.eq_false_iff.mpr c8
       subst c8
       have H1 : (some false) = some r := by rw [if_neg (show ¬ (false = true) by decide)] at H; exact H
       clear H
       have H := H1
       clear H1
       obtain rfl := Option.some.inj H
       have p101 : 0 ≤ (x11_1 : Int) := of_decide_eq_true (by first | (with_reducible assumption) | assumption)
       have q101 : x11_1 < (l0.length : Int) := of_decide_eq_true (by first | (with_reducible assumption) | assumption)
       obtain ⟨ad101, e101, hx101_0⟩ := Kd.at_int HR0.out x11_1 p101 q101
       cases e101
       replace p101 := eq_true p101
       replace q101 := eq_true q101
       go_wp2_with (first | ((with_reducible refine gate_callee (f := 36) rfl ?_); refine goesL_ (some 18) rfl rfl Tryz.func36 (by kernel_rfl) rfl #[.int .i64 (rd l0 x11_1), .int .i64 a1, .int .i64 a2] rfl (by (try simp only [List.map_toArray, List.map_cons, List.map_nil]); first | done | rfl | (simp only [List.length_drop, List.length_take]; rfl)) ?_; (with_reducible refine (spec_l1In.calls (rd l0 x11_1) a1 a2 false _ A7.out).mono ?_); rintro e w' ⟨rfl, ⟨nd, rfl⟩⟩; refine ⟨_, rfl, ?_⟩))
       go_ret
       exact ⟨by first | rfl | (simp; done) | (simp [*]; done), by repeat (first | exact Drawn0.refl _ | apply Drawn0.step)⟩
     ·rw [if_neg c6] at H
      exact absurd H (by simp)
    ·rw [if_neg c5] at H
     exact absurd H (by simp)
   ·rw [if_neg c4] at H
    have c4b0 : decide (x11_1 < (l0.length : Int)) = false := decide_eq_false c4
    clear c4
    obtain rfl := Option.some.inj H
    go_wp2
    go_ret
    exact ⟨by first | rfl | (simp; done) | (simp [*]; done), by repeat (first | exact Drawn0.refl _ | apply Drawn0.step)⟩
def spec_bgPost.f (k : Nat) (l0 : List Int) (a1 : Int) : Option (Bool) := (spec_l1In.f (l0.length : Int) 1 100).bind fun t101 => (if t101 = true then ((spec_l1All.f k l0 0 1000).bind fun t102 => (if t102 = true then ((spec_l1In.f a1 1 10000).bind fun t103 => (some t103)) else (some false))) else (some false))
theorem spec_bgPost.calls (k : Nat) (A0 : Option Addr) (c0 : Nat) (l0 : List Int) (a1 : Int) (r : Bool) (w : World) (hr0 : Kd.C (Kd.int .i64) w A0 l0.length l0) (hc0 : l0.length ≤ c0) (h : spec_bgPost.f k l0 a1 = some r) :
  Calls Tryz.prog 54 #[.slice A0 l0.length c0, .int .i64 a1] w fun e w' => e = .returned (.bool r) ∧ Drawn0 w w' := by
 have HR0 := Aside0.mk hr0
 have HC0 := Aside0.mk hc0
 clear hr0 hc0
 have H : ((spec_l1In.f (l0.length : Int) 1 100).bind fun t101 => (if t101 = true then ((spec_l1All.f k l0 0 1000).bind fun t102 => (if t102 = true then ((spec_l1In.f a1 1 10000).bind fun t103 => (some t103)) else (some false))) else (some false))) = some r := h
 clear h
 replace H := Option.bind_eq_some_iff.mp H
 obtain ⟨t101, A30, H⟩ := H
 replace H : (if t101 = true then ((spec_l1All.f k l0 0 1000).bind fun t102 => (if t102 = true then ((spec_l1In.f a1 1 10000).bind fun t103 => (some t103)) else (some false))) else (some false)) = some r := H
 have A3 := Aside0.mk A30
 clear A30
 by_cases c4 : t101 = true
 ·subst c4
  have H1 : ((spec_l1All.f k l0 0 1000).bind fun t102 => (if t102 = true then ((spec_l1In.f a1 1 10000).bind fun t103 => (some t103)) else (some false))) = some r := by rw [if_pos rfl] at H; exact H
  clear H
  have H := H1
  clear H1
  replace H := Option.bind_eq_some_iff.mp H
  obtain ⟨t102, A50, H⟩ := H
  replace H : (if t102 = true then ((spec_l1In.f a1 1 10000).bind fun t103 => (some t103)) else (some false)) = some r := H
  have A5 := Aside0.mk A50
  clear A50
  by_cases c6 : t102 = true
  ·subst c6
   have H1 : ((spec_l1In.f a1 1 10000).bind fun t103 => (some t103)) = some r := by rw [if_pos rfl] at H; exact H
   clear H
   have H := H1
   clear H1
   replace H := Option.bind_eq_some_iff.mp H
   obtain ⟨t103, A70, H⟩ := H
   replace H : (some t103) = some r := H
   have A7 := Aside0.mk A70
   clear A70
   obtain rfl := Option.some.inj H
   go_enter Tryz.func54, Tryz.ntmps54
   go_wp2_with (first | ((with_reducible refine gate_callee (f := 36) rfl ?_); refine goesL_ (some 7) rfl rfl Tryz.func36 (by kernel_rfl) rfl #[.int .i64 (l0.length : Int), .int .i64 1, .int .i64 100] rfl (by (try simp only [List.map_toArray, List.map_cons, List.map_nil]); first | done | rfl | (simp only [List.length_drop, List.length_take]; rfl)) ?_; (with_reducible refine (spec_l1In.calls (l0.length : Int) 1 100 true _ A3.out).mono ?_); rintro e w' ⟨rfl, ⟨nd, rfl⟩⟩; refine ⟨_, rfl, ?_⟩) | (go_at_call 78; (with_reducible refine (spec_l1All.calls k _ _ l0 0 1000 true _ ?side1 ?side2 A5.out).mono ?_); (case side1 => repeat (first | exact HR0.out | (with_reducible refine Kd.C_alloc ?_ _) | (with_reducible refine Kd.C_drewN ?_ _) | (with_reducible refine Kd.C_drew ?_))); (case side2 => exact HC0.out); rintro e w' ⟨rfl, ⟨nd, rfl⟩⟩) | (go_at_call 36; (with_reducible refine (spec_l1In.calls a1 1 10000 t103 _ A7.out).mono ?_); rintro e w' ⟨rfl, ⟨nd, rfl⟩⟩))
   go_ret
   exact ⟨by first | rfl | (simp; done) | (simp [*]; done), by repeat (first | exact Drawn0.refl _ | apply Drawn0.step)⟩
  ·replace c6 := Bool.eq_false_iff.mpr c6
   subst c6
   have H1 : (some false) = some r := by rw [if_neg (show ¬ (false = true) by decide)] at H; exact H
   clear H
   have H := H1
   clear H1
   obtain rfl := Option.some.inj H
   go_enter Tryz.func54, Tryz.ntmps54
   go_wp2_with (first | ((with_reducible refine gate_callee (f := 36) rfl ?_); refine goesL_ (some 7) rfl rfl Tryz.func36 (by kernel_rfl) rfl #[.int .i64 (l0.length : Int), .int .i64 1, .int .i64 100] rfl (by (try simp only [List.map_toArray, List.map_cons, List.map_nil]); first | done | rfl | (simp only [List.length_drop, List.length_take]; rfl)) ?_; (with_reducible refine (spec_l1In.calls (l0.length : Int) 1 100 true _ A3.out).mono ?_); rintro e w' ⟨rfl, ⟨nd, rfl⟩⟩; refine ⟨_, rfl, ?_⟩) | (go_at_call 78; (with_reducible refine (spec_l1All.calls k _ _ l0 0 1000 false _ ?side1 ?side2 A5.out).mono ?_); (case side1 => repeat (first | exact HR0.out | (with_reducible refine Kd.C_alloc ?_ _) | (with_reducible refine Kd.C_drewN ?_ _) | (with_reducible refine Kd.C_drew ?_))); (case side2 => exact HC0.out); rintro e w' ⟨rfl, ⟨nd, rfl⟩⟩))
   go_ret
   exact ⟨by first | rfl | (simp; done) | (simp [*]; done), by repeat (first | exact Drawn0.refl _ | apply Drawn0.step)⟩
 ·replace c4 := Bool.eq_false_iff.mpr c4
  subst c4
  have H1 : (some false) = some r := by rw [if_neg (show ¬ (false = true) by decide)] at H; exact H
  clear H
  have H := H1
  clear H1
  obtain rfl := Option.some.inj H
  go_enter Tryz.func54, Tryz.ntmps54
  go_wp2_with (first | ((with_reducible refine gate_callee (f := 36) rfl ?_); refine goesL_ (some 7) rfl rfl Tryz.func36 (by kernel_rfl) rfl #[.int .i64 (l0.length : Int), .int .i64 1, .int .i64 100] rfl (by (try simp only [List.map_toArray, List.map_cons, List.map_nil]); first | done | rfl | (simp only [List.length_drop, List.length_take]; rfl)) ?_; (with_reducible refine (spec_l1In.calls (l0.length : Int) 1 100 false _ A3.out).mono ?_); rintro e w' ⟨rfl, ⟨nd, rfl⟩⟩; refine ⟨_, rfl, ?_⟩))
  go_ret
  exact ⟨by first | rfl | (simp; done) | (simp [*]; done), by repeat (first | exact Drawn0.refl _ | apply Drawn0.step)⟩
mutual
def spec_bgLetters.l0 : Nat → List Int → Int → List Int → Int → Int → Option (List Int)
 | 0, _, _, _, _, _ => none
 | k + 1, x0, x1, x5, x6, x7 => if x7 ≥ 0 then (if 0 ≤ x7 then (if x7 < (x0.length : Int) then (spec_bgLetters.l1 k x0 x1 x5 x6 x7 (rd x0 x7)) else (none)) else (none)) else (some x5)
def spec_bgLetters.l1 : Nat → List Int → Int → List Int → Int → Int → Int → Option (List Int)
 | 0, _, _, _, _, _, _ => none
 | k + 1, x0, x1, x5, x6, x7, x8 => if x8 > x6 then (if x5.length < 17592186044416 then (spec_bgLetters.l1 k x0 x1 (x5 ++ [wrap64 (x7 + 1)]) x1 x7 (wrap64 (x8 - x6))) else (none)) else (spec_bgLetters.l0 k x0 x1 x5 (wrap64 (x6 - x8)) (wrap64 (x7 - 1)))
end
def spec_bgLetters.f (k : Nat) (l0 : List Int) (a1 : Int) : Option (List Int) := spec_bgLetters.l0 k l0 a1 ([] : List Int) 0 (wrap64 ((l0.length : Int) - 1))
theorem spec_bgLetters.calls (k : Nat) (A0 : Option Addr) (c0 : Nat) (l0 : List Int) (a1 : Int) (r : List Int) (w : World) (hr0 : Kd.C (Kd.int .i64) w A0 l0.length l0) (hc0 : l0.length ≤ c0) (h : spec_bgLetters.f k l0 a1 = some r) :
  Calls Tryz.prog 55 #[.slice A0 l0.length c0, .int .i64 a1] w fun e w' => ∃ v0_ : Value, e = .returned (v0_) ∧ Kd.R (Kd.int .i64) 3 w' w.heap.size (fun _ => True) v0_ r ∧ Below w.heap.size w w' := by
 have HR0 := Aside0.mk hr0
 have HC0 := Aside0.mk hc0
 clear hr0 hc0
 have HB := Aside0.mk (Below.refl w.heap.size w)
 have H : (spec_bgLetters.l0 k l0 a1 ([] : List Int) 0 (wrap64 ((l0.length : Int) - 1))) = some r := h
 clear h
 have H' := Aside0.mk H
 clear H
 go_enter Tryz.func55, Tryz.ntmps55
 go_wp2
 go_loopg [5, 6, 7] k (fun kq v5 v6 v7 w' => ∃ (x5_1 : List Int) (x6_1 : Int) (x7_1 : Int), v6 = .int .i64 x6_1 ∧ v7 = .int .i64 x7_1 ∧ Aside0 (spec_bgLetters.l0 kq l0 a1 x5_1 x6_1 x7_1 = some r) ∧ Aside0 (kq ≤ k) ∧ Aside0 (Kd.R (Kd.int .i64) 3 w' w.heap.size (fun _ => True) v5 x5_1) ∧ Aside0 (Below w.heap.size w w'))
 case atStart => exact ⟨(([] : List Int)), (0), (wrap64 ((l0.length : Int) - 1)), (by first | rfl | (simp; done) | (simp [*]; done)), (by first | rfl | (simp; done) | (simp [*]; done)), H', ⟨Nat.le_refl _⟩, ⟨by first | exact Kd.R_nil _ _ _ _ _ | exact Kd.N_nil _ _ _ _ _ | exact Kd.V_nil _ _ _ _ _ | exact Kd.Q_nil _ _ _ _ _ | exact Kd.S_nil _ _ _ _ _⟩, ⟨by repeat (first | (with_reducible first | exact HB.out | apply below_alloc | apply pw_below_drewN | apply below_drew1) | exact HB.out)⟩⟩
 case round =>
  clear H'
  try clear p2
  obtain ⟨x5_1, x6_1, x7_1, rfl, rfl, HA, HK1, HO_5, HB⟩ := hrel
  cases gk with
  | zero => exact absurd HA.out (by simp [spec_bgLetters.l0])
  | succ k1 =>
   have H := HA.out
   clear HA
   simp only [spec_bgLetters.l0] at H
   by_cases c3 : x7_1 ≥ 0
   ·rw [if_pos c3] at H
    have c3b0 : decide (0 ≤ x7_1) = true := decide_eq_true c3
    clear c3
    by_cases c4 : 0 ≤ x7_1
    ·rw [if_pos c4] at H
     have c4b0 : decide (0 ≤ x7_1) = true := decide_eq_true c4
     clear c4
     by_cases c5 : x7_1 < (l0.length : Int)
     ·rw [if_pos c5] at H
      have c5b0 : decide (x7_1 < (l0.length : Int)) = true := decide_eq_true c5
      clear c5
      have H' := Aside0.mk H
      clear H
      have p101 : 0 ≤ (x7_1 : Int) := of_decide_eq_true (by first | (with_reducible assumption) | assumption)
      have q101 : x7_1 < (l0.length : Int) := of_decide_eq_true (by first | (with_reducible assumption) | assumption)
      obtain ⟨ad101, e101, hx101_0⟩ := Kd.at_int HR0.out x7_1 p101 q101
      cases e101
      try replace hx101_0 := (HB.out.cell (World.block_lt_of_cell? w _ hx101_0)).trans hx101_0
      replace p101 := eq_true p101
      replace q101 := eq_true q101
      go_wp2
      go_loopg [5, 6, 8] k1 (fun kq v5 v6 v8 w' => ∃ (x5_2 : List Int) (x6_2 : Int) (x8_2 : Int), v6 = .int .i64 x6_2 ∧ v8 = .int .i64 x8_2 ∧ Aside0 (spec_bgLetters.l1 kq l0 a1 x5_2 x6_2 x7_1 x8_2 = some r) ∧ Aside0 (kq ≤ k1) ∧ Aside0 (Kd.R (Kd.int .i64) 3 w' w.heap.size (fun _ => True) v5 x5_2) ∧ Aside0 (Below w.heap.size w w'))
      case atStart => exact ⟨(x5_1), (x6_1), (rd l0 x7_1), (by first | rfl | (simp; done) | (simp [*]; done)), (by first | rfl | (simp; done) | (simp [*]; done)), H', ⟨Nat.le_refl _⟩, ⟨by (with_reducible repeat (first | apply Kd.R_alloc | apply Kd.R_drewN | apply Kd.R_drew)); exact HO_5.out⟩, ⟨by repeat (first | (with_reducible first | exact HB.out | apply below_alloc | apply pw_below_drewN | apply below_drew1) | exact HB.out)⟩⟩
      case round =>
       clear H'
       try clear p1
       try clear q1
       try clear hx1
       try clear p2
       try clear c3
       try clear c3b0
       try clear c4
       try clear c4b0
       try clear c5
       try clear c5b0
       try clear hx101_0
       try clear p101
       try clear p2
       try clear q101
       obtain ⟨x5_2, x6_2, x8_2, rfl, rfl, HA, HK2, HO_5, HB⟩ := hrel
       cases gk with
       | zero => exact absurd HA.out (by simp [spec_bgLetters.l1])
       | succ k2 =>
        have H := HA.out
        clear HA
        simp only [spec_bgLetters.l1] at H
        by_cases c6 : x8_2 > x6_2
        ·rw [if_pos c6] at H
         have c6b0 : decide (x6_2 < x8_2) = true := decide_eq_true c6
         clear c6
         by_cases c7 : x5_2.length < 17592186044416
         ·rw [if_pos c7] at H
          have LMc7 := Aside0.mk c7
          clear c7
          obtain ⟨y102, hy102⟩ : ∃ y_ : List Int, y_ = (x5_2 ++ [wrap64 (x7_1 + 1)]) := ⟨_, rfl⟩
          replace H : (spec_bgLetters.l1 k2 l0 a1 y102 a1 x7_1 (wrap64 (x8_2 - x6_2))) = some r := by first | (rw [hy102]; with_reducible exact H) | (have H2_ := (Option.bind_some _ _).symm.trans H; rw [hy102]; with_reducible exact H2_) | (have H2_ := (Option.bind_some _ _).symm.trans H; with_reducible exact H2_) | with_reducible exact H | (rw [hy102]; exact H) | exact H
          have Ny102 := Aside0.mk hy102
          clear hy102
          have H' := Aside0.mk H
          clear H
          go_wp2_with (first | ((with_reducible refine gate_builtin (b := .append) (xs := #[.tmp 27, .tmp 30]) rfl ?_); at_builtin; refine Kd.R_append (Kd.int .i64) (w0 := w) w.heap.size rfl (.tmp 27) (.tmp 30) 35 3 (.int .i64 0) 8 rfl Tryz.underlying35 info3 rfl (by decide) (by omega) u5 x5_2 (wrap64 (x7_1 + 1)) [.int .i64 (wrap64 (x7_1 + 1))] (fun _ => True) (fun _ => False) rfl rfl ?aP (fun _ hk => hk.elim) ?aF ?aO ?aB ?aS ?aL ?_; (case aP => exact rfl); (case aB => exact (by repeat (first | (with_reducible first | exact HB.out | apply below_alloc | apply pw_below_drewN | apply below_drew1) | exact HB.out))); (case aF => exact (fun _ _ => trivial)); (case aO => exact (by (with_reducible repeat (first | apply Kd.R_alloc | apply Kd.R_drewN | apply Kd.R_drew)); exact HO_5.out)); (case aS => exact (below_size (by repeat (first | (with_reducible first | exact HB.out | apply below_alloc | apply pw_below_drewN | apply below_drew1) | exact HB.out)))); (case aL => have := LMc7.out; omega); intro v103 w8 ho hb hg hat; rw [← Ny102.out] at ho; have n0_ := Aside0.mk (hb); have n1_ := Aside0.mk (ho); clear HB; clear HO_5; have HB := n0_; have HO104 := n1_; clear n0_ n1_; clear ho hb hg hat))
          go_roundg k2
          case measure => have := HK1.out; have := HK2.out; omega
          case rel => exact ⟨(y102), (a1), (wrap64 (x8_2 - x6_2)), (by first | rfl | (simp; done) | (simp [*]; done)), (by first | rfl | (simp; done) | (simp [*]; done)), H', ⟨by have := HK1.out; have := HK2.out; omega⟩, ⟨by (with_reducible repeat (first | apply Kd.R_alloc | apply Kd.R_drewN | apply Kd.R_drew)); exact HO104.out⟩, ⟨by repeat (first | (with_reducible first | exact HB.out | apply below_alloc | apply pw_below_drewN | apply below_drew1) | exact HB.out)⟩⟩
         ·rw [if_neg c7] at H
          exact absurd H (by simp)
        ·rw [if_neg c6] at H
         have c6b0 : decide (x6_2 < x8_2) = false := decide_eq_false c6
         clear c6
         have H' := Aside0.mk H
         clear H
         go_wp2
         go_roundg k2
         case measure => have := HK1.out; have := HK2.out; omega
         case rel => exact ⟨(x5_2), (wrap64 (x6_2 - x8_2)), (wrap64 (x7_1 - 1)), (by first | rfl | (simp; done) | (simp [*]; done)), (by first | rfl | (simp; done) | (simp [*]; done)), H', ⟨by have := HK1.out; have := HK2.out; omega⟩, ⟨by (with_reducible repeat (first | apply Kd.R_alloc | apply Kd.R_drewN | apply Kd.R_drew)); exact HO_5.out⟩, ⟨by repeat (first | (with_reducible first | exact HB.out | apply below_alloc | apply pw_below_drewN | apply below_drew1) | exact HB.out)⟩⟩
     ·rw [if_neg c5] at H
      exact absurd H (by simp)
    ·rw [if_neg c4] at H
     exact absurd H (by simp)
   ·rw [if_neg c3] at H
    have c3b0 : decide (0 ≤ x7_1) = false := decide_eq_false c3
    clear c3
    obtain rfl := Option.some.inj H
    go_wp2
    go_ret
    exact ⟨_, by first | rfl | (simp [errW_none, errW_some] <;> rfl) | (simp [*, errW_none, errW_some] <;> rfl), by (with_reducible repeat (first | apply Kd.R_alloc | apply Kd.R_drewN | apply Kd.R_drew)); exact HO_5.out, by repeat (first | (with_reducible first | exact HB.out | apply below_alloc | apply pw_below_drewN | apply below_drew1) | exact HB.out)⟩
def spec_LettersTrips.f (k : Nat) (l0 : List Int) (a1 : Int) : Option (List Int × Bool) := (spec_bgPost.f k l0 a1).bind fun t101 => (if t101 = true then ((spec_bgLetters.f k l0 a1).bind fun t102 => (some (t102, true))) else (some (([] : List Int), false)))
theorem spec_LettersTrips.calls (k : Nat) (A0 : Option Addr) (c0 : Nat) (l0 : List Int) (a1 : Int) (r1 : List Int) (r2 : Bool) (w : World) (hr0 : Kd.C (Kd.int .i64) w A0 l0.length l0) (hc0 : l0.length ≤ c0) (h : spec_LettersTrips.f k l0 a1 = some (r1, r2)) :
  Calls Tryz.prog 16 #[.slice A0 l0.length c0, .int .i64 a1] w fun e w' => ∃ v0_ : Value, e = .returned (.tuple #[v0_, .bool r2]) ∧ Kd.R (Kd.int .i64) 3 w' w.heap.size (fun _ => True) v0_ r1 ∧ Below w.heap.size w w' := by
 have HR0 := Aside0.mk hr0
 have HC0 := Aside0.mk hc0
 clear hr0 hc0
 have HB := Aside0.mk (Below.refl w.heap.size w)
 have H : ((spec_bgPost.f k l0 a1).bind fun t101 => (if t101 = true then ((spec_bgLetters.f k l0 a1).bind fun t102 => (some (t102, true))) else (some (([] : List Int), false)))) = some (r1, r2) := h
 clear h
 replace H := Option.bind_eq_some_iff.mp H
 obtain ⟨t101, A30, H⟩ := H
 replace H : (if t101 = true then ((spec_bgLetters.f k l0 a1).bind fun t102 => (some (t102, true))) else (some (([] : List Int), false))) = some (r1, r2) := H
 have A3 := Aside0.mk A30
 clear A30
 by_cases c4 : t101 = true
 ·subst c4
  have H1 : ((spec_bgLetters.f k l0 a1).bind fun t102 => (some (t102, true))) = some (r1, r2) := by rw [if_pos rfl] at H; exact H
  clear H
  have H := H1
  clear H1
  replace H := Option.bind_eq_some_iff.mp H
  obtain ⟨t102, A50, H⟩ := H
  replace H : (some (t102, true)) = some (r1, r2) := H
  have A5 := Aside0.mk A50
  clear A50
  simp only [Option.some.injEq, Prod.mk.injEq] at H
  obtain ⟨rfl, rfl⟩ := H
  go_enter Tryz.func16, Tryz.ntmps16
  go_wp2_with (first | ((with_reducible refine gate_callee (f := 54) rfl ?_); refine goesL_ (some 8) rfl rfl Tryz.func54 (by kernel_rfl) rfl #[.slice A0 l0.length c0, .int .i64 a1] rfl (by (try simp only [List.map_toArray, List.map_cons, List.map_nil]); first | done | rfl | (simp only [List.length_drop, List.length_take]; rfl)) ?_; (with_reducible refine (spec_bgPost.calls k _ _ l0 a1 true _ ?side1 ?side2 A3.out).mono ?_); (case side1 => repeat (first | exact HR0.out | (with_reducible refine Kd.C_alloc ?_ _) | (with_reducible refine Kd.C_drewN ?_ _) | (with_reducible refine Kd.C_drew ?_))); (case side2 => exact HC0.out); rintro e w' ⟨rfl, ⟨nd, rfl⟩⟩; refine ⟨_, rfl, ?_⟩) | ((with_reducible refine gate_callee (f := 55) rfl ?_); refine goesL_ (some 12) rfl rfl Tryz.func55 (by kernel_rfl) rfl #[.slice A0 l0.length c0, .int .i64 a1] rfl (by (try simp only [List.map_toArray, List.map_cons, List.map_nil]); first | done | rfl | (simp only [List.length_drop, List.length_take]; rfl)) ?_; (with_reducible refine (spec_bgLetters.calls k _ _ l0 a1 t102 _ ?side1 ?side2 A5.out).mono ?_); (case side1 => repeat (first | exact HR0.out | (with_reducible refine Kd.C_alloc ?_ _) | (with_reducible refine Kd.C_drewN ?_ _) | (with_reducible refine Kd.C_drew ?_))); (case side2 => exact HC0.out); rintro e w6 ⟨v103, rfl, ho0, hb⟩; refine ⟨_, rfl, ?_⟩; have n0_ := Aside0.mk (Kd.R_lower ho0 (below_size (by repeat (first | (with_reducible first | exact HB.out | apply below_alloc | apply pw_below_drewN | apply below_drew1) | exact HB.out)))); have n1_ := Aside0.mk (below_step (by repeat (first | (with_reducible first | exact HB.out | apply below_alloc | apply pw_below_drewN | apply below_drew1) | exact HB.out)) hb); clear HB; have HO104 := n0_; have HB := n1_; clear n0_ n1_; (try clear hb); (try clear hb2); (try clear hk); (try clear hi); (try clear ho0)))
  go_ret2
  exact ⟨_, by first | rfl | (simp [errW_none, errW_some] <;> rfl) | (simp [*, errW_none, errW_some] <;> rfl), by (with_reducible repeat (first | apply Kd.R_alloc | apply Kd.R_drewN | apply Kd.R_drew)); exact HO104.out, by repeat (first | (with_reducible first | exact HB.out | apply below_alloc | apply pw_below_drewN | apply below_drew1) | exact HB.out)⟩
 ·replace c4 := Bool.eq_false_iff.mpr c4
  subst c4
  have H1 : (some (([] : List Int), false)) = some (r1, r2) := by rw [if_neg (show ¬ (false = true) by decide)] at H; exact H
  clear H
  have H := H1
  clear H1
  simp only [Option.some.injEq, Prod.mk.injEq] at H
  obtain ⟨rfl, rfl⟩ := H
  go_enter Tryz.func16, Tryz.ntmps16
  go_wp2_with (first | ((with_reducible refine gate_callee (f := 54) rfl ?_); refine goesL_ (some 8) rfl rfl Tryz.func54 (by kernel_rfl) rfl #[.slice A0 l0.length c0, .int .i64 a1] rfl (by (try simp only [List.map_toArray, List.map_cons, List.map_nil]); first | done | rfl | (simp only [List.length_drop, List.length_take]; rfl)) ?_; (with_reducible refine (spec_bgPost.calls k _ _ l0 a1 false _ ?side1 ?side2 A3.out).mono ?_); (case side1 => repeat (first | exact HR0.out | (with_reducible refine Kd.C_alloc ?_ _) | (with_reducible refine Kd.C_drewN ?_ _) | (with_reducible refine Kd.C_drew ?_))); (case side2 => exact HC0.out); rintro e w' ⟨rfl, ⟨nd, rfl⟩⟩; refine ⟨_, rfl, ?_⟩))
  go_ret2
  exact ⟨_, by first | rfl | (simp [errW_none, errW_some] <;> rfl) | (simp [*, errW_none, errW_some] <;> rfl), by first | exact Kd.R_nil _ _ _ _ _ | exact Kd.N_nil _ _ _ _ _ | exact Kd.V_nil _ _ _ _ _ | exact Kd.Q_nil _ _ _ _ _ | exact Kd.S_nil _ _ _ _ _, by repeat (first | (with_reducible first | exact HB.out | apply below_alloc | apply pw_below_drewN | apply below_drew1) | exact HB.out)⟩
def impl_allWithin.l0 : Nat → Int → Int → List Int → Int → Int → Option (Bool)
 | 0, _, _, _, _, _ => none
 | k + 1, x1, x2, x9, x10, x11 => if x11 < x10 then (if 0 ≤ x11 then (if x11 < (x9.length : Int) then ((impl_within.f (rd x9 x11) x1 x2).bind fun t102 => (if t102 = true then (impl_allWithin.l0 k x1 x2 x9 x10 (wrap64 (x11 + 1))) else (some false))) else (none)) else (none)) else (some true)
def impl_allWithin.f (k : Nat) (l0 : List Int) (a1 : Int) (a2 : Int) : Option (Bool) := impl_allWithin.l0 k a1 a2 l0 (l0.length : Int) 0
theorem impl_allWithin.calls (k : Nat) (A0 : Option Addr) (c0 : Nat) (l0 : List Int) (a1 : Int) (a2 : Int) (r : Bool) (w : World) (hr0 : Kd.C (Kd.int .i64) w A0 l0.length l0) (hc0 : l0.length ≤ c0) (h : impl_allWithin.f k l0 a1 a2 = some r) :
  Calls Tryz.prog 77 #[.slice A0 l0.length c0, .int .i64 a1, .int .i64 a2] w fun e w' => e = .returned (.bool r) ∧ Drawn0 w w' := by
 have HR0 := Aside0.mk hr0
 have HC0 := Aside0.mk hc0
 clear hr0 hc0
 have H : (impl_allWithin.l0 k a1 a2 l0 (l0.length : Int) 0) = some r := h
 clear h
 have H' := Aside0.mk H
 clear H
 go_enter Tryz.func77, Tryz.ntmps77
 go_wp2
 go_loopg [11] k (fun kq v11 w' => ∃ (x11_1 : Int), v11 = .int .i64 x11_1 ∧ Aside0 (impl_allWithin.l0 kq a1 a2 l0 (l0.length : Int) x11_1 = some r) ∧ Aside0 (kq ≤ k) ∧ Drawn0 w w')
 case atStart => exact ⟨(0), (by first | rfl | (simp; done) | (simp [*]; done)), H', ⟨Nat.le_refl _⟩, by repeat (first | exact Drawn0.refl _ | apply Drawn0.step)⟩
 case round =>
  clear H'
  try clear p2
  obtain ⟨x11_1, rfl, HA, HK1, ⟨m1, rfl⟩⟩ := hrel
  cases gk with
  | zero => exact absurd HA.out (by simp [impl_allWithin.l0])
  | succ k1 =>
   have H := HA.out
   clear HA
   simp only [impl_allWithin.l0] at H
   by_cases c4 : x11_1 < (l0.length : Int)
   ·rw [if_pos c4] at H
    have c4b0 : decide (x11_1 < (l0.length : Int)) = true := decide_eq_true c4
    clear c4
    by_cases c5 : 0 ≤ x11_1
    ·rw [if_pos c5] at H
     have c5b0 : decide (0 ≤ x11_1) = true := decide_eq_true c5
     clear c5
     by_cases c6 : x11_1 < (l0.length : Int)
     ·rw [if_pos c6] at H
      have c6b0 : decide (x11_1 < (l0.length : Int)) = true := decide_eq_true c6
      clear c6
      replace H := Option.bind_eq_some_iff.mp H
      obtain ⟨t102, A70, H⟩ := H
      replace H : (if t102 = true then (impl_allWithin.l0 k1 a1 a2 l0 (l0.length : Int) (wrap64 (x11_1 + 1))) else (some false)) = some r := H
      have A7 := Aside0.mk A70
      clear A70
      by_cases c8 : t102 = true
      ·subst c8
       have H1 : (impl_allWithin.l0 k1 a1 a2 l0 (l0.length : Int) (wrap64 (x11_1 + 1))) = some r := by rw [if_pos rfl] at H; exact H
       clear H
       have H := H1
       clear H1
       have H' := Aside0.mk H
       clear H
       have p101 : 0 ≤ (x11_1 : Int) := of_decide_eq_true (by first | (with_reducible assumption) | assumption)
       have q101 : x11_1 < (l0.length : Int) := of_decide_eq_true (by first | (with_reducible assumption) | assumption)
       obtain ⟨ad101, e101, hx101_0⟩ := Kd.at_int HR0.out x11_1 p101 q101
       cases e101
       replace p101 := eq_true p101
       replace q101 := eq_true q101
       go_wp2_with (first | ((with_reducible refine gate_callee (f := 28) rfl ?_); refine goesL_ (some 18) rfl rfl Tryz.func28 (by kernel_rfl) rfl #[.int .i64 (rd l0 x11_1), .int .i64 a1, .int .i64 a2] rfl (by (try simp only [List.map_toArray, List.map_cons, List.map_nil]); first | done | rfl | (simp only [List.length_drop, List.length_take]; rfl)) ?_; (with_reducible refine (impl_within.calls (rd l0 x11_1) a1 a2 true _ A7.out).mono ?_); rintro e w' ⟨rfl, ⟨nd, rfl⟩⟩; refine ⟨_, rfl, ?_⟩))
       go_roundg k1
       case measure => have := HK1.out; omega
       case rel => exact ⟨(wrap64 (x11_1 + 1)), (by first | rfl | (simp; done) | (simp [*]; done)), H', ⟨by have := HK1.out; omega⟩, by repeat (first | exact Drawn0.refl _ | apply Drawn0.step)⟩
      ·replace c8 := Bool.eq_false_iff.mpr c8
       subst c8
       have H1 : (some false) = some r := by rw [if_neg (show ¬ (false = true) by decide)] at H; exact H
       clear H
       have H := H1
       clear H1
       obtain rfl := Option.some.inj H
       have p101 : 0 ≤ (x11_1 : Int) := of_decide_eq_true (by first | (with_reducible assumption) | assumption)
       have q101 : x11_1 < (l0.length : Int) := of_decide_eq_true (by first | (with_reducible assumption) | assumption)
       obtain ⟨ad101, e101, hx101_0⟩ := Kd.at_int HR0.out x11_1 p101 q101
       cases e101
       replace p101 := eq_true p101
       replace q101 := eq_true q101
       go_wp2_with (first | ((with_reducible refine gate_callee (f := 28) rfl ?_); refine goesL_ (some 18) rfl rfl Tryz.func28 (by kernel_rfl) rfl #[.int .i64 (rd l0 x11_1), .int .i64 a1, .int .i64 a2] rfl (by (try simp only [List.map_toArray, List.map_cons, List.map_nil]); first | done | rfl | (simp only [List.length_drop, List.length_take]; rfl)) ?_; (with_reducible refine (impl_within.calls (rd l0 x11_1) a1 a2 false _ A7.out).mono ?_); rintro e w' ⟨rfl, ⟨nd, rfl⟩⟩; refine ⟨_, rfl, ?_⟩))
       go_ret
       exact ⟨by first | rfl | (simp; done) | (simp [*]; done), by repeat (first | exact Drawn0.refl _ | apply Drawn0.step)⟩
     ·rw [if_neg c6] at H
      exact absurd H (by simp)
    ·rw [if_neg c5] at H
     exact absurd H (by simp)
   ·rw [if_neg c4] at H
    have c4b0 : decide (x11_1 < (l0.length : Int)) = false := decide_eq_false c4
    clear c4
    obtain rfl := Option.some.inj H
    go_wp2
    go_ret
    exact ⟨by first | rfl | (simp; done) | (simp [*]; done), by repeat (first | exact Drawn0.refl _ | apply Drawn0.step)⟩
def impl_areLetters.f (k : Nat) (l0 : List Int) : Option (Bool) := (impl_within.f (l0.length : Int) 1 100).bind fun t101 => (if t101 = true then ((impl_allWithin.f k l0 0 1000).bind fun t102 => (some t102)) else (some false))
theorem impl_areLetters.calls (k : Nat) (A0 : Option Addr) (c0 : Nat) (l0 : List Int) (r : Bool) (w : World) (hr0 : Kd.C (Kd.int .i64) w A0 l0.length l0) (hc0 : l0.length ≤ c0) (h : impl_areLetters.f k l0 = some r) :
  Calls Tryz.prog 51 #[.slice A0 l0.length c0] w fun e w' => e = .returned (.bool r) ∧ Drawn0 w w' := by
 have HR0 := Aside0.mk hr0
 have HC0 := Aside0.mk hc0
 clear hr0 hc0
 have H : ((impl_within.f (l0.length : Int) 1 100).bind fun t101 => (if t101 = true then ((impl_allWithin.f k l0 0 1000).bind fun t102 => (some t102)) else (some false))) = some r := h
 clear h
 replace H := Option.bind_eq_some_iff.mp H
 obtain ⟨t101, A20, H⟩ := H
 replace H : (if t101 = true then ((impl_allWithin.f k l0 0 1000).bind fun t102 => (some t102)) else (some false)) = some r := H
 have A2 := Aside0.mk A20
 clear A20
 by_cases c3 : t101 = true
 ·subst c3
  have H1 : ((impl_allWithin.f k l0 0 1000).bind fun t102 => (some t102)) = some r := by rw [if_pos rfl] at H; exact H
  clear H
  have H := H1
  clear H1
  replace H := Option.bind_eq_some_iff.mp H
  obtain ⟨t102, A40, H⟩ := H
  replace H : (some t102) = some r := H
  have A4 := Aside0.mk A40
  clear A40
  obtain rfl := Option.some.inj H
  go_enter Tryz.func51, Tryz.ntmps51
  go_wp2_with (first | ((with_reducible refine gate_callee (f := 28) rfl ?_); refine goesL_ (some 5) rfl rfl Tryz.func28 (by kernel_rfl) rfl #[.int .i64 (l0.length : Int), .int .i64 1, .int .i64 100] rfl (by (try simp only [List.map_toArray, List.map_cons, List.map_nil]); first | done | rfl | (simp only [List.length_drop, List.length_take]; rfl)) ?_; (with_reducible refine (impl_within.calls (l0.length : Int) 1 100 true _ A2.out).mono ?_); rintro e w' ⟨rfl, ⟨nd, rfl⟩⟩; refine ⟨_, rfl, ?_⟩) | (go_at_call 77; (with_reducible refine (impl_allWithin.calls k _ _ l0 0 1000 t102 _ ?side1 ?side2 A4.out).mono ?_); (case side1 => repeat (first | exact HR0.out | (with_reducible refine Kd.C_alloc ?_ _) | (with_reducible refine Kd.C_drewN ?_ _) | (with_reducible refine Kd.C_drew ?_))); (case side2 => exact HC0.out); rintro e w' ⟨rfl, ⟨nd, rfl⟩⟩))
  go_ret
  exact ⟨by first | rfl | (simp; done) | (simp [*]; done), by repeat (first | exact Drawn0.refl _ | apply Drawn0.step)⟩
 ·replace c3 := Bool.eq_false_iff.mpr c3
  subst c3
  have H1 : (some false) = some r := by rw [if_neg (show ¬ (false = true) by decide)] at H; exact H
  clear H
  have H := H1
  clear H1
  obtain rfl := Option.some.inj H
  go_enter Tryz.func51, Tryz.ntmps51
  go_wp2_with (first | ((with_reducible refine gate_callee (f := 28) rfl ?_); refine goesL_ (some 5) rfl rfl Tryz.func28 (by kernel_rfl) rfl #[.int .i64 (l0.length : Int), .int .i64 1, .int .i64 100] rfl (by (try simp only [List.map_toArray, List.map_cons, List.map_nil]); first | done | rfl | (simp only [List.length_drop, List.length_take]; rfl)) ?_; (with_reducible refine (impl_within.calls (l0.length : Int) 1 100 false _ A2.out).mono ?_); rintro e w' ⟨rfl, ⟨nd, rfl⟩⟩; refine ⟨_, rfl, ?_⟩))
  go_ret
  exact ⟨by first | rfl | (simp; done) | (simp [*]; done), by repeat (first | exact Drawn0.refl _ | apply Drawn0.step)⟩
mutual
def impl_lettersTrips.l0 : Nat → List Int → Int → List Int → Int → Int → Option (List Int)
 | 0, _, _, _, _, _ => none
 | k + 1, x0, x1, x5, x6, x7 => if x7 > 0 then (if 0 ≤ (wrap64 (x7 - 1)) then (if (wrap64 (x7 - 1)) < (x0.length : Int) then (impl_lettersTrips.l1 k x0 x1 x5 x6 x7 (rd x0 (wrap64 (x7 - 1)))) else (none)) else (none)) else (some x5)
def impl_lettersTrips.l1 : Nat → List Int → Int → List Int → Int → Int → Int → Option (List Int)
 | 0, _, _, _, _, _, _ => none
 | k + 1, x0, x1, x5, x6, x7, x8 => if x8 > x6 then (if x5.length < 17592186044416 then (impl_lettersTrips.l1 k x0 x1 (x5 ++ [x7]) x1 x7 (wrap64 (x8 - x6))) else (none)) else (impl_lettersTrips.l0 k x0 x1 x5 (wrap64 (x6 - x8)) (wrap64 (x7 - 1)))
end
def impl_lettersTrips.f (k : Nat) (l0 : List Int) (a1 : Int) : Option (List Int) := impl_lettersTrips.l0 k l0 a1 ([] : List Int) 0 (l0.length : Int)
theorem impl_lettersTrips.calls (k : Nat) (A0 : Option Addr) (c0 : Nat) (l0 : List Int) (a1 : Int) (r : List Int) (w : World) (hr0 : Kd.C (Kd.int .i64) w A0 l0.length l0) (hc0 : l0.length ≤ c0) (h : impl_lettersTrips.f k l0 a1 = some r) :
  Calls Tryz.prog 53 #[.slice A0 l0.length c0, .int .i64 a1] w fun e w' => ∃ v0_ : Value, e = .returned (v0_) ∧ Kd.R (Kd.int .i64) 3 w' w.heap.size (fun _ => True) v0_ r ∧ Below w.heap.size w w' := by
 have HR0 := Aside0.mk hr0
 have HC0 := Aside0.mk hc0
 clear hr0 hc0
 have HB := Aside0.mk (Below.refl w.heap.size w)
 have H : (impl_lettersTrips.l0 k l0 a1 ([] : List Int) 0 (l0.length : Int)) = some r := h
 clear h
 have H' := Aside0.mk H
 clear H
 go_enter Tryz.func53, Tryz.ntmps53
 go_wp2
 go_loopg [5, 6, 7] k (fun kq v5 v6 v7 w' => ∃ (x5_1 : List Int) (x6_1 : Int) (x7_1 : Int), v6 = .int .i64 x6_1 ∧ v7 = .int .i64 x7_1 ∧ Aside0 (impl_lettersTrips.l0 kq l0 a1 x5_1 x6_1 x7_1 = some r) ∧ Aside0 (kq ≤ k) ∧ Aside0 (Kd.R (Kd.int .i64) 3 w' w.heap.size (fun _ => True) v5 x5_1) ∧ Aside0 (Below w.heap.size w w'))
 case atStart => exact ⟨(([] : List Int)), (0), ((l0.length : Int)), (by first | rfl | (simp; done) | (simp [*]; done)), (by first | rfl | (simp; done) | (simp [*]; done)), H', ⟨Nat.le_refl _⟩, ⟨by first | exact Kd.R_nil _ _ _ _ _ | exact Kd.N_nil _ _ _ _ _ | exact Kd.V_nil _ _ _ _ _ | exact Kd.Q_nil _ _ _ _ _ | exact Kd.S_nil _ _ _ _ _⟩, ⟨by repeat (first | (with_reducible first | exact HB.out | apply below_alloc | apply pw_below_drewN | apply below_drew1) | exact HB.out)⟩⟩
 case round =>
  clear H'
  try clear p2
  obtain ⟨x5_1, x6_1, x7_1, rfl, rfl, HA, HK1, HO_5, HB⟩ := hrel
  cases gk with
  | zero => exact absurd HA.out (by simp [impl_lettersTrips.l0])
  | succ k1 =>
   have H := HA.out
   clear HA
   simp only [impl_lettersTrips.l0] at H
   by_cases c3 : x7_1 > 0
   ·rw [if_pos c3] at H
    have c3b0 : decide (0 < x7_1) = true := decide_eq_true c3
    clear c3
    obtain ⟨ji4, hji4⟩ : ∃ j_ : Int, (wrap64 (x7_1 - 1)) = j_ := ⟨_, rfl⟩
    replace H : (if 0 ≤ (ji4) then (if (ji4) < (l0.length : Int) then (impl_lettersTrips.l1 k1 l0 a1 x5_1 x6_1 x7_1 (rd l0 (ji4))) else (none)) else (none)) = some r := by first | (rw [hji4] at H; exact H) | (simp only [hji4] at H ⊢; exact H)
    have hji4w : (IntKind.i64.wrap (x7_1 - 1)) = ji4 := (i64_w _).trans hji4
    by_cases c5 : 0 ≤ (ji4)
    ·rw [if_pos c5] at H
     have c5b0 : decide (0 ≤ (ji4)) = true := decide_eq_true c5
     clear c5
     by_cases c6 : (ji4) < (l0.length : Int)
     ·rw [if_pos c6] at H
      have c6b0 : decide ((ji4) < (l0.length : Int)) = true := decide_eq_true c6
      clear c6
      have H' := Aside0.mk H
      clear H
      have p101 : 0 ≤ ((ji4) : Int) := of_decide_eq_true (by first | (with_reducible assumption) | assumption)
      have q101 : (ji4) < (l0.length : Int) := of_decide_eq_true (by first | (with_reducible assumption) | assumption)
      obtain ⟨ad101, e101, hx101_0⟩ := Kd.at_int HR0.out (ji4) p101 q101
      cases e101
      try replace hx101_0 := (HB.out.cell (World.block_lt_of_cell? w _ hx101_0)).trans hx101_0
      replace p101 := eq_true p101
      replace q101 := eq_true q101
      go_wp2
      go_loopg [5, 6, 8] k1 (fun kq v5 v6 v8 w' => ∃ (x5_2 : List Int) (x6_2 : Int) (x8_2 : Int), v6 = .int .i64 x6_2 ∧ v8 = .int .i64 x8_2 ∧ Aside0 (impl_lettersTrips.l1 kq l0 a1 x5_2 x6_2 x7_1 x8_2 = some r) ∧ Aside0 (kq ≤ k1) ∧ Aside0 (Kd.R (Kd.int .i64) 3 w' w.heap.size (fun _ => True) v5 x5_2) ∧ Aside0 (Below w.heap.size w w'))
      case atStart => exact ⟨(x5_1), (x6_1), (rd l0 (ji4)), (by first | rfl | (simp; done) | (simp [*]; done)), (by first | rfl | (simp; done) | (simp only [← hji4] <;> (first | rfl | simp)) | (simp [*]; done)), H', ⟨Nat.le_refl _⟩, ⟨by (with_reducible repeat (first | apply Kd.R_alloc | apply Kd.R_drewN | apply Kd.R_drew)); exact HO_5.out⟩, ⟨by repeat (first | (with_reducible first | exact HB.out | apply below_alloc | apply pw_below_drewN | apply below_drew1) | exact HB.out)⟩⟩
      case round =>
       clear H'
       try clear p1
       try clear q1
       try clear hx1
       try clear p2
       try clear c3
       try clear c3b0
       try clear c5
       try clear c5b0
       try clear c6
       try clear c6b0
       try clear p6
       try clear hx101_0
       try clear p101
       try clear p2
       try clear q101
       obtain ⟨x5_2, x6_2, x8_2, rfl, rfl, HA, HK2, HO_5, HB⟩ := hrel
       cases gk with
       | zero => exact absurd HA.out (by simp [impl_lettersTrips.l1])
       | succ k2 =>
        have H := HA.out
        clear HA
        simp only [impl_lettersTrips.l1] at H
        by_cases c7 : x8_2 > x6_2
        ·rw [if_pos c7] at H
         have c7b0 : decide (x6_2 < x8_2) = true := decide_eq_true c7
         clear c7
         by_cases c8 : x5_2.length < 17592186044416
         ·rw [if_pos c8] at H
          have LMc8 := Aside0.mk c8
          clear c8
          obtain ⟨y102, hy102⟩ : ∃ y_ : List Int, y_ = (x5_2 ++ [x7_1]) := ⟨_, rfl⟩
          replace H : (impl_lettersTrips.l1 k2 l0 a1 y102 a1 x7_1 (wrap64 (x8_2 - x6_2))) = some r := by first | (rw [hy102]; with_reducible exact H) | (have H2_ := (Option.bind_some _ _).symm.trans H; rw [hy102]; with_reducible exact H2_) | (have H2_ := (Option.bind_some _ _).symm.trans H; with_reducible exact H2_) | with_reducible exact H | (rw [hy102]; exact H) | exact H
          have Ny102 := Aside0.mk hy102
          clear hy102
          have H' := Aside0.mk H
          clear H
          go_wp2_with (first | ((with_reducible refine gate_builtin (b := .append) (xs := #[.tmp 27, .tmp 29]) rfl ?_); at_builtin; refine Kd.R_append (Kd.int .i64) (w0 := w) w.heap.size rfl (.tmp 27) (.tmp 29) 35 3 (.int .i64 0) 8 rfl Tryz.underlying35 info3 rfl (by decide) (by omega) u5 x5_2 x7_1 [.int .i64 x7_1] (fun _ => True) (fun _ => False) rfl rfl ?aP (fun _ hk => hk.elim) ?aF ?aO ?aB ?aS ?aL ?_; (case aP => exact rfl); (case aB => exact (by repeat (first | (with_reducible first | exact HB.out | apply below_alloc | apply pw_below_drewN | apply below_drew1) | exact HB.out))); (case aF => exact (fun _ _ => trivial)); (case aO => exact (by (with_reducible repeat (first | apply Kd.R_alloc | apply Kd.R_drewN | apply Kd.R_drew)); exact HO_5.out)); (case aS => exact (below_size (by repeat (first | (with_reducible first | exact HB.out | apply below_alloc | apply pw_below_drewN | apply below_drew1) | exact HB.out)))); (case aL => have := LMc8.out; omega); intro v103 w9 ho hb hg hat; rw [← Ny102.out] at ho; have n0_ := Aside0.mk (hb); have n1_ := Aside0.mk (ho); clear HB; clear HO_5; have HB := n0_; have HO104 := n1_; clear n0_ n1_; clear ho hb hg hat))
          go_roundg k2
          case measure => have := HK1.out; have := HK2.out; omega
          case rel => exact ⟨(y102), (a1), (wrap64 (x8_2 - x6_2)), (by first | rfl | (simp; done) | (simp [*]; done)), (by first | rfl | (simp; done) | (simp [*]; done)), H', ⟨by have := HK1.out; have := HK2.out; omega⟩, ⟨by (with_reducible repeat (first | apply Kd.R_alloc | apply Kd.R_drewN | apply Kd.R_drew)); exact HO104.out⟩, ⟨by repeat (first | (with_reducible first | exact HB.out | apply below_alloc | apply pw_below_drewN | apply below_drew1) | exact HB.out)⟩⟩
         ·rw [if_neg c8] at H
          exact absurd H (by simp)
        ·rw [if_neg c7] at H
         have c7b0 : decide (x6_2 < x8_2) = false := decide_eq_false c7
         clear c7
         have H' := Aside0.mk H
         clear H
         go_wp2
         go_roundg k2
         case measure => have := HK1.out; have := HK2.out; omega
         case rel => exact ⟨(x5_2), (wrap64 (x6_2 - x8_2)), (wrap64 (x7_1 - 1)), (by first | rfl | (simp; done) | (simp [*]; done)), (by first | rfl | (simp; done) | (simp [*]; done)), H', ⟨by have := HK1.out; have := HK2.out; omega⟩, ⟨by (with_reducible repeat (first | apply Kd.R_alloc | apply Kd.R_drewN | apply Kd.R_drew)); exact HO_5.out⟩, ⟨by repeat (first | (with_reducible first | exact HB.out | apply below_alloc | apply pw_below_drewN | apply below_drew1) | exact HB.out)⟩⟩
     ·rw [if_neg c6] at H
      exact absurd H (by simp)
    ·rw [if_neg c5] at H
     exact absurd H (by simp)
   ·rw [if_neg c3] at H
    have c3b0 : decide (0 < x7_1) = false := decide_eq_false c3
    clear c3
    obtain rfl := Option.some.inj H
    go_wp2
    go_ret
    exact ⟨_, by first | rfl | (simp [errW_none, errW_some] <;> rfl) | (simp [*, errW_none, errW_some] <;> rfl), by (with_reducible repeat (first | apply Kd.R_alloc | apply Kd.R_drewN | apply Kd.R_drew)); exact HO_5.out, by repeat (first | (with_reducible first | exact HB.out | apply below_alloc | apply pw_below_drewN | apply below_drew1) | exact HB.out)⟩
def impl_LettersTrips.f (k : Nat) (l0 : List Int) (a1 : Int) : Option (List Int × Bool) := (impl_areLetters.f k l0).bind fun t101 => (if t101 = true then ((impl_isBag.f a1).bind fun t102 => (if t102 = true then ((impl_lettersTrips.f k l0 a1).bind fun t103 => (some (t103, true))) else (some (([] : List Int), false)))) else (some (([] : List Int), false)))
theorem impl_LettersTrips.calls (k : Nat) (A0 : Option Addr) (c0 : Nat) (l0 : List Int) (a1 : Int) (r1 : List Int) (r2 : Bool) (w : World) (hr0 : Kd.C (Kd.int .i64) w A0 l0.length l0) (hc0 : l0.length ≤ c0) (h : impl_LettersTrips.f k l0 a1 = some (r1, r2)) :
  Calls Tryz.prog 15 #[.slice A0 l0.length c0, .int .i64 a1] w fun e w' => ∃ v0_ : Value, e = .returned (.tuple #[v0_, .bool r2]) ∧ Kd.R (Kd.int .i64) 3 w' w.heap.size (fun _ => True) v0_ r1 ∧ Below w.heap.size w w' := by
 have HR0 := Aside0.mk hr0
 have HC0 := Aside0.mk hc0
 clear hr0 hc0
 have HB := Aside0.mk (Below.refl w.heap.size w)
 have H : ((impl_areLetters.f k l0).bind fun t101 => (if t101 = true then ((impl_isBag.f a1).bind fun t102 => (if t102 = true then ((impl_lettersTrips.f k l0 a1).bind fun t103 => (some (t103, true))) else (some (([] : List Int), false)))) else (some (([] : List Int), false)))) = some (r1, r2) := h
 clear h
 replace H := Option.bind_eq_some_iff.mp H
 obtain ⟨t101, A30, H⟩ := H
 replace H : (if t101 = true then ((impl_isBag.f a1).bind fun t102 => (if t102 = true then ((impl_lettersTrips.f k l0 a1).bind fun t103 => (some (t103, true))) else (some (([] : List Int), false)))) else (some (([] : List Int), false))) = some (r1, r2) := H
 have A3 := Aside0.mk A30
 clear A30
 by_cases c4 : t101 = true
 ·subst c4
  have H1 : ((impl_isBag.f a1).bind fun t102 => (if t102 = true then ((impl_lettersTrips.f k l0 a1).bind fun t103 => (some (t103, true))) else (some (([] : List Int), false)))) = some (r1, r2) := by rw [if_pos rfl] at H; exact H
  clear H
  have H := H1
  clear H1
  replace H := Option.bind_eq_some_iff.mp H
  obtain ⟨t102, A50, H⟩ := H
  replace H : (if t102 = true then ((impl_lettersTrips.f k l0 a1).bind fun t103 => (some (t103, true))) else (some (([] : List Int), false))) = some (r1, r2) := H
  have A5 := Aside0.mk A50
  clear A50
  by_cases c6 : t102 = true
  ·subst c6
   have H1 : ((impl_lettersTrips.f k l0 a1).bind fun t103 => (some (t103, true))) = some (r1, r2) := by rw [if_pos rfl] at H; exact H
   clear H
   have H := H1
   clear H1
   replace H := Option.bind_eq_some_iff.mp H
   obtain ⟨t103, A70, H⟩ := H
   replace H : (some (t103, true)) = some (r1, r2) := H
   have A7 := Aside0.mk A70
   clear A70
   simp only [Option.some.injEq, Prod.mk.injEq] at H
   obtain ⟨rfl, rfl⟩ := H
   go_enter Tryz.func15, Tryz.ntmps15
   go_wp2_with (first | ((with_reducible refine gate_callee (f := 51) rfl ?_); refine goesL_ (some 7) rfl rfl Tryz.func51 (by kernel_rfl) rfl #[.slice A0 l0.length c0] rfl (by (try simp only [List.map_toArray, List.map_cons, List.map_nil]); first | done | rfl | (simp only [List.length_drop, List.length_take]; rfl)) ?_; (with_reducible refine (impl_areLetters.calls k _ _ l0 true _ ?side1 ?side2 A3.out).mono ?_); (case side1 => repeat (first | exact HR0.out | (with_reducible refine Kd.C_alloc ?_ _) | (with_reducible refine Kd.C_drewN ?_ _) | (with_reducible refine Kd.C_drew ?_))); (case side2 => exact HC0.out); rintro e w' ⟨rfl, ⟨nd, rfl⟩⟩; refine ⟨_, rfl, ?_⟩) | (go_at_call 52; (with_reducible refine (impl_isBag.calls a1 true _ A5.out).mono ?_); rintro e w' ⟨rfl, ⟨nd, rfl⟩⟩) | ((with_reducible refine gate_callee (f := 53) rfl ?_); refine goesL_ (some 16) rfl rfl Tryz.func53 (by kernel_rfl) rfl #[.slice A0 l0.length c0, .int .i64 a1] rfl (by (try simp only [List.map_toArray, List.map_cons, List.map_nil]); first | done | rfl | (simp only [List.length_drop, List.length_take]; rfl)) ?_; (with_reducible refine (impl_lettersTrips.calls k _ _ l0 a1 t103 _ ?side1 ?side2 A7.out).mono ?_); (case side1 => repeat (first | exact HR0.out | (with_reducible refine Kd.C_alloc ?_ _) | (with_reducible refine Kd.C_drewN ?_ _) | (with_reducible refine Kd.C_drew ?_))); (case side2 => exact HC0.out); rintro e w8 ⟨v104, rfl, ho0, hb⟩; refine ⟨_, rfl, ?_⟩; have n0_ := Aside0.mk (Kd.R_lower ho0 (below_size (by repeat (first | (with_reducible first | exact HB.out | apply below_alloc | apply pw_below_drewN | apply below_drew1) | exact HB.out)))); have n1_ := Aside0.mk (below_step (by repeat (first | (with_reducible first | exact HB.out | apply below_alloc | apply pw_below_drewN | apply below_drew1) | exact HB.out)) hb); clear HB; have HO105 := n0_; have HB := n1_; clear n0_ n1_; (try clear hb); (try clear hb2); (try clear hk); (try clear hi); (try clear ho0)))
   go_ret2
   exact ⟨_, by first | rfl | (simp [errW_none, errW_some] <;> rfl) | (simp [*, errW_none, errW_some] <;> rfl), by (with_reducible repeat (first | apply Kd.R_alloc | apply Kd.R_drewN | apply Kd.R_drew)); exact HO105.out, by repeat (first | (with_reducible first | exact HB.out | apply below_alloc | apply pw_below_drewN | apply below_drew1) | exact HB.out)⟩
  ·replace c6 := Bool.eq_false_iff.mpr c6
   subst c6
   have H1 : (some (([] : List Int), false)) = some (r1, r2) := by rw [if_neg (show ¬ (false = true) by decide)] at H; exact H
   clear H
   have H := H1
   clear H1
   simp only [Option.some.injEq, Prod.mk.injEq] at H
   obtain ⟨rfl, rfl⟩ := H
   go_enter Tryz.func15, Tryz.ntmps15
   go_wp2_with (first | ((with_reducible refine gate_callee (f := 51) rfl ?_); refine goesL_ (some 7) rfl rfl Tryz.func51 (by kernel_rfl) rfl #[.slice A0 l0.length c0] rfl (by (try simp only [List.map_toArray, List.map_cons, List.map_nil]); first | done | rfl | (simp only [List.length_drop, List.length_take]; rfl)) ?_; (with_reducible refine (impl_areLetters.calls k _ _ l0 true _ ?side1 ?side2 A3.out).mono ?_); (case side1 => repeat (first | exact HR0.out | (with_reducible refine Kd.C_alloc ?_ _) | (with_reducible refine Kd.C_drewN ?_ _) | (with_reducible refine Kd.C_drew ?_))); (case side2 => exact HC0.out); rintro e w' ⟨rfl, ⟨nd, rfl⟩⟩; refine ⟨_, rfl, ?_⟩) | (go_at_call 52; (with_reducible refine (impl_isBag.calls a1 false _ A5.out).mono ?_); rintro e w' ⟨rfl, ⟨nd, rfl⟩⟩))
   go_ret2
   exact ⟨_, by first | rfl | (simp [errW_none, errW_some] <;> rfl) | (simp [*, errW_none, errW_some] <;> rfl), by first | exact Kd.R_nil _ _ _ _ _ | exact Kd.N_nil _ _ _ _ _ | exact Kd.V_nil _ _ _ _ _ | exact Kd.Q_nil _ _ _ _ _ | exact Kd.S_nil _ _ _ _ _, by repeat (first | (with_reducible first | exact HB.out | apply below_alloc | apply pw_below_drewN | apply below_drew1) | exact HB.out)⟩
 ·replace c4 := Bool.eq_false_iff.mpr c4
  subst c4
  have H1 : (some (([] : List Int), false)) = some (r1, r2) := by rw [if_neg (show ¬ (false = true) by decide)] at H; exact H
  clear H
  have H := H1
  clear H1
  simp only [Option.some.injEq, Prod.mk.injEq] at H
  obtain ⟨rfl, rfl⟩ := H
  go_enter Tryz.func15, Tryz.ntmps15
  go_wp2_with (first | ((with_reducible refine gate_callee (f := 51) rfl ?_); refine goesL_ (some 7) rfl rfl Tryz.func51 (by kernel_rfl) rfl #[.slice A0 l0.length c0] rfl (by (try simp only [List.map_toArray, List.map_cons, List.map_nil]); first | done | rfl | (simp only [List.length_drop, List.length_take]; rfl)) ?_; (with_reducible refine (impl_areLetters.calls k _ _ l0 false _ ?side1 ?side2 A3.out).mono ?_); (case side1 => repeat (first | exact HR0.out | (with_reducible refine Kd.C_alloc ?_ _) | (with_reducible refine Kd.C_drewN ?_ _) | (with_reducible refine Kd.C_drew ?_))); (case side2 => exact HC0.out); rintro e w' ⟨rfl, ⟨nd, rfl⟩⟩; refine ⟨_, rfl, ?_⟩))
  go_ret2
  exact ⟨_, by first | rfl | (simp [errW_none, errW_some] <;> rfl) | (simp [*, errW_none, errW_some] <;> rfl), by first | exact Kd.R_nil _ _ _ _ _ | exact Kd.N_nil _ _ _ _ _ | exact Kd.V_nil _ _ _ _ _ | exact Kd.Q_nil _ _ _ _ _ | exact Kd.S_nil _ _ _ _ _, by repeat (first | (with_reducible first | exact HB.out | apply below_alloc | apply pw_below_drewN | apply below_drew1) | exact HB.out)⟩
def impl_sumOf.l0 : Nat → Int → List Int → Int → Int → Option (Int)
 | 0, _, _, _, _ => none
 | k + 1, x3, x6, x7, x8 => if x8 < x7 then (if 0 ≤ x8 then (if x8 < (x6.length : Int) then (impl_sumOf.l0 k (wrap64 (x3 + (rd x6 x8))) x6 x7 (wrap64 (x8 + 1))) else (none)) else (none)) else (some x3)
def impl_sumOf.f (k : Nat) (l0 : List Int) : Option (Int) := impl_sumOf.l0 k 0 l0 (l0.length : Int) 0
theorem impl_sumOf.calls (k : Nat) (A0 : Option Addr) (c0 : Nat) (l0 : List Int) (r : Int) (w : World) (hr0 : Kd.C (Kd.int .i64) w A0 l0.length l0) (hc0 : l0.length ≤ c0) (h : impl_sumOf.f k l0 = some r) :
  Calls Tryz.prog 56 #[.slice A0 l0.length c0] w fun e w' => e = .returned (.int .i64 r) ∧ Drawn0 w w' := by
 have HR0 := Aside0.mk hr0
 have HC0 := Aside0.mk hc0
 clear hr0 hc0
 have H : (impl_sumOf.l0 k 0 l0 (l0.length : Int) 0) = some r := h
 clear h
 have H' := Aside0.mk H
 clear H
 go_enter Tryz.func56, Tryz.ntmps56
 go_wp2
 go_loopg [3, 8] k (fun kq v3 v8 w' => ∃ (x3_1 : Int) (x8_1 : Int), v3 = .int .i64 x3_1 ∧ v8 = .int .i64 x8_1 ∧ Aside0 (impl_sumOf.l0 kq x3_1 l0 (l0.length : Int) x8_1 = some r) ∧ Aside0 (kq ≤ k) ∧ Drawn0 w w')
 case atStart => exact ⟨(0), (0), (by first | rfl | (simp; done) | (simp [*]; done)), (by first | rfl | (simp; done) | (simp [*]; done)), H', ⟨Nat.le_refl _⟩, by repeat (first | exact Drawn0.refl _ | apply Drawn0.step)⟩
 case round =>
  clear H'
  obtain ⟨x3_1, x8_1, rfl, rfl, HA, HK1, ⟨m1, rfl⟩⟩ := hrel
  cases gk with
  | zero => exact absurd HA.out (by simp [impl_sumOf.l0])
  | succ k1 =>
   have H := HA.out
   clear HA
   simp only [impl_sumOf.l0] at H
   by_cases c2 : x8_1 < (l0.length : Int)
   ·rw [if_pos c2] at H
    have c2b0 : decide (x8_1 < (l0.length : Int)) = true := decide_eq_true c2
    clear c2
    by_cases c3 : 0 ≤ x8_1
    ·rw [if_pos c3] at H
     have c3b0 : decide (0 ≤ x8_1) = true := decide_eq_true c3
     clear c3
     by_cases c4 : x8_1 < (l0.length : Int)
     ·rw [if_pos c4] at H
      have c4b0 : decide (x8_1 < (l0.length : Int)) = true := decide_eq_true c4
      clear c4
      have H' := Aside0.mk H
      clear H
      have p101 : 0 ≤ (x8_1 : Int) := of_decide_eq_true (by first | (with_reducible assumption) | assumption)
      have q101 : x8_1 < (l0.length : Int) := of_decide_eq_true (by first | (with_reducible assumption) | assumption)
      obtain ⟨ad101, e101, hx101_0⟩ := Kd.at_int HR0.out x8_1 p101 q101
      cases e101
      replace p101 := eq_true p101
      replace q101 := eq_true q101
      go_wp2
      go_roundg k1
      case measure => have := HK1.out; omega
      case rel => exact ⟨(wrap64 (x3_1 + (rd l0 x8_1))), (wrap64 (x8_1 + 1)), (by first | rfl | (simp; done) | (simp [*]; done)), (by first | rfl | (simp; done) | (simp [*]; done)), H', ⟨by have := HK1.out; omega⟩, by repeat (first | exact Drawn0.refl _ | apply Drawn0.step)⟩
     ·rw [if_neg c4] at H
      exact absurd H (by simp)
    ·rw [if_neg c3] at H
     exact absurd H (by simp)
   ·rw [if_neg c2] at H
    have c2b0 : decide (x8_1 < (l0.length : Int)) = false := decide_eq_false c2
    clear c2
    obtain rfl := Option.some.inj H
    go_wp2
    go_ret
    exact ⟨by first | rfl | (simp; done) | (simp [*]; done), by repeat (first | exact Drawn0.refl _ | apply Drawn0.step)⟩
def impl_LettersLength.j0 : Nat → List Int → Int → Bool → Option (Int × Bool)
 | 0, _, _, _ => none
 | k + 1, x0, x1, x13 => if x13 = true then (some (0, false)) else ((impl_lettersTrips.f k x0 x1).bind fun t103 => ((impl_sumOf.f k t103).bind fun t106 => (some (wrap64 (2 * t106), true))))
def impl_LettersLength.f (k : Nat) (l0 : List Int) (a1 : Int) : Option (Int × Bool) := (impl_areLetters.f k l0).bind fun t101 => (if t101 = true then ((impl_isBag.f a1).bind fun t102 => (impl_LettersLength.j0 k l0 a1 (!t102))) else (impl_LettersLength.j0 k l0 a1 true))
theorem impl_LettersLength.calls (k : Nat) (A0 : Option Addr) (c0 : Nat) (l0 : List Int) (a1 : Int) (r1 : Int) (r2 : Bool) (w : World) (hr0 : Kd.C (Kd.int .i64) w A0 l0.length l0) (hc0 : l0.length ≤ c0) (h : impl_LettersLength.f k l0 a1 = some (r1, r2)) :
  Calls Tryz.prog 17 #[.slice A0 l0.length c0, .int .i64 a1] w fun e w' => e = .returned (.tuple #[.int .i64 r1, .bool r2]) ∧ Below w.heap.size w w' := by
 have HR0 := Aside0.mk hr0
 have HC0 := Aside0.mk hc0
 clear hr0 hc0
 have HB := Aside0.mk (Below.refl w.heap.size w)
 have H : ((impl_areLetters.f k l0).bind fun t101 => (if t101 = true then ((impl_isBag.f a1).bind fun t102 => (impl_LettersLength.j0 k l0 a1 (!t102))) else (impl_LettersLength.j0 k l0 a1 true))) = some (r1, r2) := h
 clear h
 have HC3 := Aside0.mk H
 clear H
 go_enter Tryz.func17, Tryz.ntmps17
 go_upto_region 1 with (fail)
 go_cut [13] (fun v13 wc => ∃ (kq : Nat) (x13_2 : Bool), v13 = .bool x13_2 ∧ Aside0 (impl_LettersLength.j0 kq l0 a1 x13_2 = some (r1, r2)) ∧ Aside0 (kq ≤ k) ∧ Aside0 (Below w.heap.size w wc))
 case first =>
  have H := HC3.out
  clear HC3
  replace H := Option.bind_eq_some_iff.mp H
  obtain ⟨t101, A40, H⟩ := H
  replace H : (if t101 = true then ((impl_isBag.f a1).bind fun t102 => (impl_LettersLength.j0 k l0 a1 (!t102))) else (impl_LettersLength.j0 k l0 a1 true)) = some (r1, r2) := H
  have A4 := Aside0.mk A40
  clear A40
  by_cases c5 : t101 = true
  ·subst c5
   have H1 : ((impl_isBag.f a1).bind fun t102 => (impl_LettersLength.j0 k l0 a1 (!t102))) = some (r1, r2) := by rw [if_pos rfl] at H; exact H
   clear H
   have H := H1
   clear H1
   replace H := Option.bind_eq_some_iff.mp H
   obtain ⟨t102, A60, H⟩ := H
   replace H : (impl_LettersLength.j0 k l0 a1 (!t102)) = some (r1, r2) := H
   have A6 := Aside0.mk A60
   clear A60
   have H' := Aside0.mk H
   clear H
   go_wp2_with (first | ((with_reducible refine gate_callee (f := 51) rfl ?_); refine goesL_ (some 7) rfl rfl Tryz.func51 (by kernel_rfl) rfl #[.slice A0 l0.length c0] rfl (by (try simp only [List.map_toArray, List.map_cons, List.map_nil]); first | done | rfl | (simp only [List.length_drop, List.length_take]; rfl)) ?_; (with_reducible refine (impl_areLetters.calls k _ _ l0 true _ ?side1 ?side2 A4.out).mono ?_); (case side1 => repeat (first | exact (Kd.C_below HR0.out HB.out) | (with_reducible refine Kd.C_alloc ?_ _) | (with_reducible refine Kd.C_drewN ?_ _) | (with_reducible refine Kd.C_drew ?_))); (case side2 => exact HC0.out); rintro e w' ⟨rfl, ⟨nd, rfl⟩⟩; refine ⟨_, rfl, ?_⟩) | (go_at_call 52; (with_reducible refine (impl_isBag.calls a1 t102 _ A6.out).mono ?_); rintro e w' ⟨rfl, ⟨nd, rfl⟩⟩))
   go_meet
   case rel => exact ⟨_, (!t102), (by first | rfl | (simp; done) | (simp [*]; done)), H', ⟨by first | omega | exact Nat.le_refl _⟩, ⟨by repeat (first | (with_reducible first | exact HB.out | apply below_alloc | apply pw_below_drewN | apply below_drew1) | exact HB.out)⟩⟩
  ·replace c5 := Bool.eq_false_iff.mpr c5
   subst c5
   have H1 : (impl_LettersLength.j0 k l0 a1 true) = some (r1, r2) := by rw [if_neg (show ¬ (false = true) by decide)] at H; exact H
   clear H
   have H := H1
   clear H1
   have H' := Aside0.mk H
   clear H
   go_wp2_with (first | ((with_reducible refine gate_callee (f := 51) rfl ?_); refine goesL_ (some 7) rfl rfl Tryz.func51 (by kernel_rfl) rfl #[.slice A0 l0.length c0] rfl (by (try simp only [List.map_toArray, List.map_cons, List.map_nil]); first | done | rfl | (simp only [List.length_drop, List.length_take]; rfl)) ?_; (with_reducible refine (impl_areLetters.calls k _ _ l0 false _ ?side1 ?side2 A4.out).mono ?_); (case side1 => repeat (first | exact (Kd.C_below HR0.out HB.out) | (with_reducible refine Kd.C_alloc ?_ _) | (with_reducible refine Kd.C_drewN ?_ _) | (with_reducible refine Kd.C_drew ?_))); (case side2 => exact HC0.out); rintro e w' ⟨rfl, ⟨nd, rfl⟩⟩; refine ⟨_, rfl, ?_⟩))
   go_meet
   case rel => exact ⟨_, (true), (by first | rfl | (simp; done) | (simp [*]; done)), H', ⟨by first | omega | exact Nat.le_refl _⟩, ⟨by repeat (first | (with_reducible first | exact HB.out | apply below_alloc | apply pw_below_drewN | apply below_drew1) | exact HB.out)⟩⟩
 case rest =>
  clear HC3
  try clear c1
  try clear p2
  try clear c5
  obtain ⟨kq, x13_2, rfl, HA, HJ2, HB⟩ := hcut
  cases kq with
  | zero => exact absurd HA.out (by simp [impl_LettersLength.j0])
  | succ kj2 =>
   have H := HA.out
   clear HA
   simp only [impl_LettersLength.j0] at H
   by_cases c7 : x13_2 = true
   ·subst c7
    have H1 : (some (0, false)) = some (r1, r2) := by rw [if_pos rfl] at H; exact H
    clear H
    have H := H1
    clear H1
    simp only [Option.some.injEq, Prod.mk.injEq] at H
    obtain ⟨rfl, rfl⟩ := H
    go_wp2
    go_ret2
    exact ⟨by first | rfl | (simp [errW_none, errW_some] <;> rfl) | (simp [*, errW_none, errW_some] <;> rfl), by repeat (first | (with_reducible first | exact HB.out | apply below_alloc | apply pw_below_drewN | apply below_drew1) | exact HB.out)⟩
   ·replace c7 := Bool.eq_false_iff.mpr c7
    subst c7
    have H1 : ((impl_lettersTrips.f kj2 l0 a1).bind fun t103 => ((impl_sumOf.f kj2 t103).bind fun t106 => (some (wrap64 (2 * t106), true)))) = some (r1, r2) := by rw [if_neg (show ¬ (false = true) by decide)] at H; exact H
    clear H
    have H := H1
    clear H1
    replace H := Option.bind_eq_some_iff.mp H
    obtain ⟨t103, A80, H⟩ := H
    replace H : ((impl_sumOf.f kj2 t103).bind fun t106 => (some (wrap64 (2 * t106), true))) = some (r1, r2) := H
    have A8 := Aside0.mk A80
    clear A80
    replace H := Option.bind_eq_some_iff.mp H
    obtain ⟨t106, A90, H⟩ := H
    replace H : (some (wrap64 (2 * t106), true)) = some (r1, r2) := H
    have A9 := Aside0.mk A90
    clear A90
    simp only [Option.some.injEq, Prod.mk.injEq] at H
    obtain ⟨rfl, rfl⟩ := H
    go_wp2_with (first | ((with_reducible refine gate_callee (f := 53) rfl ?_); refine goesL_ (some 16) rfl rfl Tryz.func53 (by kernel_rfl) rfl #[.slice A0 l0.length c0, .int .i64 a1] rfl (by (try simp only [List.map_toArray, List.map_cons, List.map_nil]); first | done | rfl | (simp only [List.length_drop, List.length_take]; rfl)) ?_; (with_reducible refine (impl_lettersTrips.calls kj2 _ _ l0 a1 t103 _ ?side1 ?side2 A8.out).mono ?_); (case side1 => repeat (first | exact (Kd.C_below HR0.out HB.out) | (with_reducible refine Kd.C_alloc ?_ _) | (with_reducible refine Kd.C_drewN ?_ _) | (with_reducible refine Kd.C_drew ?_))); (case side2 => exact HC0.out); rintro e w10 ⟨v104, rfl, ho0, hb⟩; refine ⟨_, rfl, ?_⟩; have n0_ := Aside0.mk (Kd.R_lower ho0 (below_size (by repeat (first | (with_reducible first | exact HB.out | apply below_alloc | apply pw_below_drewN | apply below_drew1) | exact HB.out)))); have n1_ := Aside0.mk (below_step (by repeat (first | (with_reducible first | exact HB.out | apply below_alloc | apply pw_below_drewN | apply below_drew1) | exact HB.out)) hb); clear HB; have HO105 := n0_; have HB := n1_; clear n0_ n1_; (try clear hb); (try clear hb2); (try clear hk); (try clear hi); (try clear ho0); obtain ⟨Ao11, co11, eo11⟩ := Kd.R_slice HO105.out; subst eo11) | ((with_reducible refine gate_callee (f := 56) rfl ?_); refine goesL_ (some 17) rfl rfl Tryz.func56 (by kernel_rfl) rfl #[.slice Ao11 t103.length co11] rfl (by (try simp only [List.map_toArray, List.map_cons, List.map_nil]); first | done | rfl | (simp only [List.length_drop, List.length_take]; rfl)) ?_; (with_reducible refine (impl_sumOf.calls kj2 _ _ t103 t106 _ ?side1 ?side2 A9.out).mono ?_); (case side1 => repeat (first | exact (Kd.R_reads' HO105.out).2.2 | (with_reducible refine Kd.C_alloc ?_ _) | (with_reducible refine Kd.C_drewN ?_ _) | (with_reducible refine Kd.C_drew ?_))); (case side2 => exact (Kd.R_reads' HO105.out).2.1); rintro e w' ⟨rfl, ⟨nd, rfl⟩⟩; refine ⟨_, rfl, ?_⟩))
    go_ret2
    exact ⟨by first | rfl | (simp [errW_none, errW_some] <;> rfl) | (simp [*, errW_none, errW_some] <;> rfl), by repeat (first | (with_reducible first | exact HB.out | apply below_alloc | apply pw_below_drewN | apply below_drew1) | exact HB.out)⟩
def spec_LettersLength.l0 : Nat → Int → List Int → Int → Int → Option (Int × Bool)
 | 0, _, _, _, _ => none
 | k + 1, x6, x15, x16, x17 => if x17 < x16 then (if 0 ≤ x17 then (if x17 < (x15.length : Int) then (spec_LettersLength.l0 k (wrap64 (x6 + (wrap64 (2 * (rd x15 x17))))) x15 x16 (wrap64 (x17 + 1))) else (none)) else (none)) else (some (x6, true))
def spec_LettersLength.f (k : Nat) (l0 : List Int) (a1 : Int) : Option (Int × Bool) := (spec_bgPost.f k l0 a1).bind fun t101 => (if t101 = true then ((spec_bgLetters.f k l0 a1).bind fun t102 => (spec_LettersLength.l0 k 0 t102 (t102.length : Int) 0)) else (some (0, false)))
theorem spec_LettersLength.calls (k : Nat) (A0 : Option Addr) (c0 : Nat) (l0 : List Int) (a1 : Int) (r1 : Int) (r2 : Bool) (w : World) (hr0 : Kd.C (Kd.int .i64) w A0 l0.length l0) (hc0 : l0.length ≤ c0) (h : spec_LettersLength.f k l0 a1 = some (r1, r2)) :
  Calls Tryz.prog 18 #[.slice A0 l0.length c0, .int .i64 a1] w fun e w' => e = .returned (.tuple #[.int .i64 r1, .bool r2]) ∧ Below w.heap.size w w' := by
 have HR0 := Aside0.mk hr0
 have HC0 := Aside0.mk hc0
 clear hr0 hc0
 have HB := Aside0.mk (Below.refl w.heap.size w)
 have H : ((spec_bgPost.f k l0 a1).bind fun t101 => (if t101 = true then ((spec_bgLetters.f k l0 a1).bind fun t102 => (spec_LettersLength.l0 k 0 t102 (t102.length : Int) 0)) else (some (0, false)))) = some (r1, r2) := h
 clear h
 replace H := Option.bind_eq_some_iff.mp H
 obtain ⟨t101, A30, H⟩ := H
 replace H : (if t101 = true then ((spec_bgLetters.f k l0 a1).bind fun t102 => (spec_LettersLength.l0 k 0 t102 (t102.length : Int) 0)) else (some (0, false))) = some (r1, r2) := H
 have A3 := Aside0.mk A30
 clear A30
 by_cases c4 : t101 = true
 ·subst c4
  have H1 : ((spec_bgLetters.f k l0 a1).bind fun t102 => (spec_LettersLength.l0 k 0 t102 (t102.length : Int) 0)) = some (r1, r2) := by rw [if_pos rfl] at H; exact H
  clear H
  have H := H1
  clear H1
  replace H := Option.bind_eq_some_iff.mp H
  obtain ⟨t102, A50, H⟩ := H
  replace H : (spec_LettersLength.l0 k 0 t102 (t102.length : Int) 0) = some (r1, r2) := H
  have A5 := Aside0.mk A50
  clear A50
  have H' := Aside0.mk H
  clear H
  go_enter Tryz.func18, Tryz.ntmps18
  go_wp2_with (first | ((with_reducible refine gate_callee (f := 54) rfl ?_); refine goesL_ (some 11) rfl rfl Tryz.func54 (by kernel_rfl) rfl #[.slice A0 l0.length c0, .int .i64 a1] rfl (by (try simp only [List.map_toArray, List.map_cons, List.map_nil]); first | done | rfl | (simp only [List.length_drop, List.length_take]; rfl)) ?_; (with_reducible refine (spec_bgPost.calls k _ _ l0 a1 true _ ?side1 ?side2 A3.out).mono ?_); (case side1 => repeat (first | exact HR0.out | (with_reducible refine Kd.C_alloc ?_ _) | (with_reducible refine Kd.C_drewN ?_ _) | (with_reducible refine Kd.C_drew ?_))); (case side2 => exact HC0.out); rintro e w' ⟨rfl, ⟨nd, rfl⟩⟩; refine ⟨_, rfl, ?_⟩) | ((with_reducible refine gate_callee (f := 55) rfl ?_); refine goesL_ (some 15) rfl rfl Tryz.func55 (by kernel_rfl) rfl #[.slice A0 l0.length c0, .int .i64 a1] rfl (by (try simp only [List.map_toArray, List.map_cons, List.map_nil]); first | done | rfl | (simp only [List.length_drop, List.length_take]; rfl)) ?_; (with_reducible refine (spec_bgLetters.calls k _ _ l0 a1 t102 _ ?side1 ?side2 A5.out).mono ?_); (case side1 => repeat (first | exact HR0.out | (with_reducible refine Kd.C_alloc ?_ _) | (with_reducible refine Kd.C_drewN ?_ _) | (with_reducible refine Kd.C_drew ?_))); (case side2 => exact HC0.out); rintro e w6 ⟨v103, rfl, ho0, hb⟩; refine ⟨_, rfl, ?_⟩; have n0_ := Aside0.mk (Kd.R_lower ho0 (below_size (by repeat (first | (with_reducible first | exact HB.out | apply below_alloc | apply pw_below_drewN | apply below_drew1) | exact HB.out)))); have n1_ := Aside0.mk (below_step (by repeat (first | (with_reducible first | exact HB.out | apply below_alloc | apply pw_below_drewN | apply below_drew1) | exact HB.out)) hb); clear HB; have HO104 := n0_; have HB := n1_; clear n0_ n1_; (try clear hb); (try clear hb2); (try clear hk); (try clear hi); (try clear ho0); obtain ⟨Ao7, co7, eo7⟩ := Kd.R_slice HO104.out; subst eo7))
  go_loopg [6, 17] k (fun kq v6 v17 w' => ∃ (x6_1 : Int) (x17_1 : Int), v6 = .int .i64 x6_1 ∧ v17 = .int .i64 x17_1 ∧ Aside0 (spec_LettersLength.l0 kq x6_1 t102 (t102.length : Int) x17_1 = some (r1, r2)) ∧ Aside0 (kq ≤ k) ∧ Aside0 (Kd.R (Kd.int .i64) 3 w' w.heap.size (fun _ => True) (.slice Ao7 t102.length co7) t102) ∧ Aside0 (Below w.heap.size w w'))
  case atStart => exact ⟨(0), (0), (by first | rfl | (simp; done) | (simp [*]; done)), (by first | rfl | (simp; done) | (simp [*]; done)), H', ⟨Nat.le_refl _⟩, ⟨by (with_reducible repeat (first | apply Kd.R_alloc | apply Kd.R_drewN | apply Kd.R_drew)); exact HO104.out⟩, ⟨by repeat (first | (with_reducible first | exact HB.out | apply below_alloc | apply pw_below_drewN | apply below_drew1) | exact HB.out)⟩⟩
  case round =>
   clear H'
   try clear c1
   try clear p2
   try clear c4
   try clear c5
   obtain ⟨x6_1, x17_1, rfl, rfl, HA, HK1, HO_15, HB⟩ := hrel
   cases gk with
   | zero => exact absurd HA.out (by simp [spec_LettersLength.l0])
   | succ k1 =>
    have H := HA.out
    clear HA
    simp only [spec_LettersLength.l0] at H
    by_cases c8 : x17_1 < (t102.length : Int)
    ·rw [if_pos c8] at H
     have c8b0 : decide (x17_1 < (t102.length : Int)) = true := decide_eq_true c8
     clear c8
     by_cases c9 : 0 ≤ x17_1
     ·rw [if_pos c9] at H
      have c9b0 : decide (0 ≤ x17_1) = true := decide_eq_true c9
      clear c9
      by_cases c10 : x17_1 < (t102.length : Int)
      ·rw [if_pos c10] at H
       have c10b0 : decide (x17_1 < (t102.length : Int)) = true := decide_eq_true c10
       clear c10
       have H' := Aside0.mk H
       clear H
       have p105 : 0 ≤ (x17_1 : Int) := of_decide_eq_true (by first | (with_reducible assumption) | assumption)
       have q105 : x17_1 < (t102.length : Int) := of_decide_eq_true (by first | (with_reducible assumption) | assumption)
       obtain ⟨ad105, e105, hx105_0⟩ := Kd.at_int (Kd.R_reads' HO_15.out).2.2 x17_1 p105 q105
       cases e105
       replace p105 := eq_true p105
       replace q105 := eq_true q105
       go_wp2
       go_roundg k1
       case measure => have := HK1.out; omega
       case rel => exact ⟨(wrap64 (x6_1 + (wrap64 (2 * (rd t102 x17_1))))), (wrap64 (x17_1 + 1)), (by first | rfl | (simp; done) | (simp [*]; done)), (by first | rfl | (simp; done) | (simp [*]; done)), H', ⟨by have := HK1.out; omega⟩, ⟨by (with_reducible repeat (first | apply Kd.R_alloc | apply Kd.R_drewN | apply Kd.R_drew)); exact HO_15.out⟩, ⟨by repeat (first | (with_reducible first | exact HB.out | apply below_alloc | apply pw_below_drewN | apply below_drew1) | exact HB.out)⟩⟩
      ·rw [if_neg c10] at H
       exact absurd H (by simp)
     ·rw [if_neg c9] at H
      exact absurd H (by simp)
    ·rw [if_neg c8] at H
     have c8b0 : decide (x17_1 < (t102.length : Int)) = false := decide_eq_false c8
     clear c8
     simp only [Option.some.injEq, Prod.mk.injEq] at H
     obtain ⟨rfl, rfl⟩ := H
     go_wp2
     go_ret2
     exact ⟨by first | rfl | (simp [errW_none, errW_some] <;> rfl) | (simp [*, errW_none, errW_some] <;> rfl), by repeat (first | (with_reducible first | exact HB.out | apply below_alloc | apply pw_below_drewN | apply below_drew1) | exact HB.out)⟩
 ·replace c4 := Bool.eq_false_iff.mpr c4
  subst c4
  have H1 : (some (0, false)) = some (r1, r2) := by rw [if_neg (show ¬ (false = true) by decide)] at H; exact H
  clear H
  have H := H1
  clear H1
  simp only [Option.some.injEq, Prod.mk.injEq] at H
  obtain ⟨rfl, rfl⟩ := H
  go_enter Tryz.func18, Tryz.ntmps18
  go_wp2_with (first | ((with_reducible refine gate_callee (f := 54) rfl ?_); refine goesL_ (some 11) rfl rfl Tryz.func54 (by kernel_rfl) rfl #[.slice A0 l0.length c0, .int .i64 a1] rfl (by (try simp only [List.map_toArray, List.map_cons, List.map_nil]); first | done | rfl | (simp only [List.length_drop, List.length_take]; rfl)) ?_; (with_reducible refine (spec_bgPost.calls k _ _ l0 a1 false _ ?side1 ?side2 A3.out).mono ?_); (case side1 => repeat (first | exact HR0.out | (with_reducible refine Kd.C_alloc ?_ _) | (with_reducible refine Kd.C_drewN ?_ _) | (with_reducible refine Kd.C_drew ?_))); (case side2 => exact HC0.out); rintro e w' ⟨rfl, ⟨nd, rfl⟩⟩; refine ⟨_, rfl, ?_⟩))
  go_ret2
  exact ⟨by first | rfl | (simp [errW_none, errW_some] <;> rfl) | (simp [*, errW_none, errW_some] <;> rfl), by repeat (first | (with_reducible first | exact HB.out | apply below_alloc | apply pw_below_drewN | apply below_drew1) | exact HB.out)⟩
def spec_DrawNamedPlan.l0 : Nat → List Int → Int → List Int → Int → Int → Option (List Int)
 | 0, _, _, _, _, _ => none
 | k + 1, x4, x5, x102000, x102001, x102002 => if x5 > 0 then ((spec_l1Cur_among.f x102000 x102001 x102002 (([0, 1, 2, 3, 7, (-1), (-9223372036854775808), 4611686018427387904] : List Int))).bind fun bt108 => (if x4.length < 17592186044416 then (spec_DrawNamedPlan.l0 k (x4 ++ [bt108.1]) (wrap64 (x5 - 1)) x102000 bt108.2.1 bt108.2.2) else (none))) else (some x4)
def spec_DrawNamedPlan.f (k : Nat) (l0 : List Int) : Option (List Int) := (spec_l1Cur_pick.f l0 0 0 10).bind fun bt102 => (spec_DrawNamedPlan.l0 k ([] : List Int) bt102.1 l0 bt102.2.1 bt102.2.2)
theorem spec_DrawNamedPlan.calls (k : Nat) (A0 : Option Addr) (c0 : Nat) (l0 : List Int) (r : List Int) (w : World) (hr0 : Kd.C (Kd.int .u8) w A0 l0.length l0) (hc0 : l0.length ≤ c0) (h : spec_DrawNamedPlan.f k l0 = some r) :
  Calls Tryz.prog 19 #[.slice A0 l0.length c0] w fun e w' => ∃ v0_ : Value, e = .returned (v0_) ∧ Kd.R (Kd.int .i64) 3 w' w.heap.size (fun _ => True) v0_ r ∧ Below w.heap.size w w' := by
 have hu49 := Tryz.underlying49
 have HR0 := Aside0.mk hr0
 have HC0 := Aside0.mk hc0
 clear hr0 hc0
 have HB := Aside0.mk (Below.refl w.heap.size w)
 have H : ((spec_l1Cur_pick.f l0 0 0 10).bind fun bt102 => (spec_DrawNamedPlan.l0 k ([] : List Int) bt102.1 l0 bt102.2.1 bt102.2.2)) = some r := h
 clear h
 replace H := Option.bind_eq_some_iff.mp H
 obtain ⟨⟨t102, t103, t104⟩, A20, H⟩ := H
 replace H : (spec_DrawNamedPlan.l0 k ([] : List Int) t102 l0 t103 t104) = some r := H
 have A2 := Aside0.mk A20
 clear A20
 have H' := Aside0.mk H
 clear H
 go_enter Tryz.func19, Tryz.ntmps19
 go_wp2_with (first | ((with_reducible refine gate_dst (N := 8) rfl ?_); refine box_event ?hg (N := 8) ?hd (cs := #[.slice A0 l0.length c0, .int .i64 0, .int .u64 0]) (t := 49) ?hr ?_; (case hd => rfl); (case hg => rfl); (case hr => first | (go_simp; done) | (go_simp; rfl)); intro gb101 hg w3 hbox hb; have n0_ := Aside0.mk (below_step (by repeat (first | (with_reducible first | exact HB.out | apply below_alloc | apply pw_below_drewN | apply below_drew1) | exact HB.out)) hb); have n1_ := Aside0.mk (hbox); have n2_ := Aside0.mk ((by rw [hg]; exact (below_size (by repeat (first | (with_reducible first | exact HB.out | apply below_alloc | apply pw_below_drewN | apply below_drew1) | exact HB.out))) : w.heap.size ≤ gb101)); have n3_ := Aside0.mk ((by rw [hg]; exact (below_size (by repeat (first | (with_reducible first | exact HB.out | apply below_alloc | apply pw_below_drewN | apply below_drew1) | exact HB.out))) : w.heap.size ≤ gb101)); clear HB; have HB := n0_; have BK101 := n1_; have GW101 := n2_; have GE101 := n3_; clear n0_ n1_ n2_ n3_; clear hb hbox hg) | ((with_reducible refine gate_callee (f := 57) rfl ?_); refine goesL_ (some 10) rfl rfl Tryz.func57 (by kernel_rfl) rfl #[.pointer (some ⟨gb101, 0, none⟩), .int .i64 10] rfl (by (try simp only [List.map_toArray, List.map_cons, List.map_nil]); first | done | rfl | (simp only [List.length_drop, List.length_take]; rfl)) ?_; (with_reducible refine (spec_l1Cur_pick.calls gb101 l0 0 0 10 t102 t103 t104 w _ ?side1 ?side2 A2.out).mono ?_); (case side1 => exact ⟨_, _, by (with_reducible repeat (first | refine blk_drewN ?_ _ | refine blk_drew ?_ | refine blk_alloc ?_ _)); exact BK101.out, GE101.out, HR0.out⟩); (case side2 => repeat (first | (with_reducible first | exact HB.out | apply below_alloc | apply pw_below_drewN | apply below_drew1 | refine below_set ?_ GE101.out) | exact HB.out)); rintro e w4 ⟨rfl, hi, hb, hk⟩; refine ⟨_, rfl, ?_⟩; have n0_ := Aside0.mk (hb); have n1_ := Aside0.mk (hi); clear HB; clear BK101; have HB := n0_; have HI101 := n1_; clear n0_ n1_; (try clear hb); (try clear hb2); (try clear hk); (try clear hi)))
 go_loopg [4, 5] k (fun kq v4 v5 w' => ∃ (x4_1 : List Int) (x5_1 : Int) (x102001_1 : Int) (x102002_1 : Int), v5 = .int .i64 x5_1 ∧ Aside0 (spec_DrawNamedPlan.l0 kq x4_1 x5_1 l0 x102001_1 x102002_1 = some r) ∧ Aside0 (kq ≤ k) ∧ Aside0 (Kd.R (Kd.int .i64) 3 w' w.heap.size (fun _ => True) v4 x4_1) ∧ Aside0 (IsS49 w w' gb101 l0 x102001_1 x102002_1) ∧ Aside0 (Below w.heap.size w w'))
 case atStart => exact ⟨(([] : List Int)), (t102), (t103), (t104), (by first | rfl | (simp; done) | (simp [*]; done)), H', ⟨Nat.le_refl _⟩, ⟨by first | exact Kd.R_nil _ _ _ _ _ | exact Kd.N_nil _ _ _ _ _ | exact Kd.V_nil _ _ _ _ _ | exact Kd.Q_nil _ _ _ _ _ | exact Kd.S_nil _ _ _ _ _⟩, ⟨by repeat (first | (with_reducible first | exact HI101.out | apply IsS49.alloc | apply IsS49.drewN | apply IsS49.drew | apply IsS49.set_1 | apply IsS49.set_2) | exact HI101.out)⟩, ⟨by repeat (first | (with_reducible first | exact HB.out | apply below_alloc | apply pw_below_drewN | apply below_drew1 | refine below_set ?_ (IsS49.ge HI101.out)) | exact HB.out)⟩⟩
 case round =>
  clear H'
  try clear c1
  try clear p2
  obtain ⟨x4_1, x5_1, x102001_1, x102002_1, rfl, HA, HK1, HO_4, HI101, HB⟩ := hrel
  cases gk with
  | zero => exact absurd HA.out (by simp [spec_DrawNamedPlan.l0])
  | succ k1 =>
   have H := HA.out
   clear HA
   simp only [spec_DrawNamedPlan.l0] at H
   by_cases c5 : x5_1 > 0
   ·rw [if_pos c5] at H
    have c5b0 : decide (0 < x5_1) = true := decide_eq_true c5
    clear c5
    obtain ⟨y105, hy105⟩ : ∃ y_ : List Int, y_ = (([0, 1, 2, 3, 7, (-1), (-9223372036854775808), 4611686018427387904] : List Int)) := ⟨_, rfl⟩
    replace H : ((spec_l1Cur_among.f l0 x102001_1 x102002_1 y105).bind fun bt108 => (if x4_1.length < 17592186044416 then (spec_DrawNamedPlan.l0 k1 (x4_1 ++ [bt108.1]) (wrap64 (x5_1 - 1)) l0 bt108.2.1 bt108.2.2) else (none))) = some r := by first | (rw [hy105]; with_reducible exact H) | (have H2_ := (Option.bind_some _ _).symm.trans H; rw [hy105]; with_reducible exact H2_) | (have H2_ := (Option.bind_some _ _).symm.trans H; with_reducible exact H2_) | with_reducible exact H | (rw [hy105]; exact H) | exact H
    have Ny105 := Aside0.mk hy105
    clear hy105
    replace H := Option.bind_eq_some_iff.mp H
    obtain ⟨⟨t108, t109, t110⟩, A60, H⟩ := H
    replace H : (if x4_1.length < 17592186044416 then (spec_DrawNamedPlan.l0 k1 (x4_1 ++ [t108]) (wrap64 (x5_1 - 1)) l0 t109 t110) else (none)) = some r := H
    have A6 := Aside0.mk A60
    clear A60
    by_cases c7 : x4_1.length < 17592186044416
    ·rw [if_pos c7] at H
     have LMc7 := Aside0.mk c7
     clear c7
     obtain ⟨y111, hy111⟩ : ∃ y_ : List Int, y_ = (x4_1 ++ [t108]) := ⟨_, rfl⟩
     replace H : (spec_DrawNamedPlan.l0 k1 y111 (wrap64 (x5_1 - 1)) l0 t109 t110) = some r := by first | (rw [hy111]; with_reducible exact H) | (have H2_ := (Option.bind_some _ _).symm.trans H; rw [hy111]; with_reducible exact H2_) | (have H2_ := (Option.bind_some _ _).symm.trans H; with_reducible exact H2_) | with_reducible exact H | (rw [hy111]; exact H) | exact H
     have Ny111 := Aside0.mk hy111
     clear hy111
     have H' := Aside0.mk H
     clear H
     go_wp2_with (first | ((with_reducible refine gate_dst (N := 17) rfl ?_); refine Kd.R_lit (Kd.int .i64) _ 3 ?hg (N := 17) ?hd (xs := ([0, 1, 2, 3, 7, (-1), (-9223372036854775808), 4611686018427387904] : List Int)) (inner := [.int .i64 0, .int .i64 1, .int .i64 2, .int .i64 3, .int .i64 7, .int .i64 (-1), .int .i64 (-9223372036854775808), .int .i64 4611686018427387904]) (ok := fun _ => True) (okp := fun _ => True) ?hr ?hp (fun _ hk => hk) trivial (Below.refl _ _) (Nat.le_refl _) (by simp) ?_; (case hd => rfl); (case hg => rfl); (case hr => first | (go_simp; done) | (go_simp; rfl)); (case hp => exact (Reps.one (show Kd.M (Kd.int .i64) _ _ _ 0 [.int .i64 0] from rfl) (Reps.one (show Kd.M (Kd.int .i64) _ _ _ 1 [.int .i64 1] from rfl) (Reps.one (show Kd.M (Kd.int .i64) _ _ _ 2 [.int .i64 2] from rfl) (Reps.one (show Kd.M (Kd.int .i64) _ _ _ 3 [.int .i64 3] from rfl) (Reps.one (show Kd.M (Kd.int .i64) _ _ _ 7 [.int .i64 7] from rfl) (Reps.one (show Kd.M (Kd.int .i64) _ _ _ (-1) [.int .i64 (-1)] from rfl) (Reps.one (show Kd.M (Kd.int .i64) _ _ _ (-9223372036854775808) [.int .i64 (-9223372036854775808)] from rfl) (Reps.one (show Kd.M (Kd.int .i64) _ _ _ 4611686018427387904 [.int .i64 4611686018427387904] from rfl) (Reps.none _ _)))))))))); intro v106 w8 ho9 hb hg_ hnew_; clear hg_ hnew_; (first | rw [← Ny105.out] at ho9 | (simp only [Int.reduceToNat] at ho9; rw [← Ny105.out] at ho9)); have n0_ := Aside0.mk (Kd.R_elder' (by (with_reducible repeat (first | apply Kd.R_alloc | apply Kd.R_drewN | apply Kd.R_drew)); exact HO_4.out) (Kd.R_base ho9) hb); have n1_ := Aside0.mk (Kd.R_lower (Kd.R_new' ho9 (Kd.R_lt (by (with_reducible repeat (first | apply Kd.R_alloc | apply Kd.R_drewN | apply Kd.R_drew)); exact HO_4.out))) (below_size (by repeat (first | (with_reducible first | exact HB.out | apply below_alloc | apply pw_below_drewN | apply below_drew1 | refine below_set ?_ (IsS49.ge HI101.out)) | exact HB.out)))); have n2_ := Aside0.mk (IsS49.below (by repeat (first | (with_reducible first | exact HI101.out | apply IsS49.alloc | apply IsS49.drewN | apply IsS49.drew | apply IsS49.set_1 | apply IsS49.set_2) | exact HI101.out)) hb); have n3_ := Aside0.mk (below_step (by repeat (first | (with_reducible first | exact HB.out | apply below_alloc | apply pw_below_drewN | apply below_drew1 | refine below_set ?_ (IsS49.ge HI101.out)) | exact HB.out)) hb); clear HO_4; clear HI101; clear HB; have HO_4 := n0_; have HO107 := n1_; have HI101 := n2_; have HB := n3_; clear n0_ n1_ n2_ n3_; clear hb ho9; obtain ⟨Ao10, co10, eo10⟩ := Kd.R_slice HO107.out; subst eo10) | ((with_reducible refine gate_callee (f := 27) rfl ?_); refine goesL_ (some 18) rfl rfl Tryz.func27 (by kernel_rfl) rfl #[.pointer (some ⟨gb101, 0, none⟩), .slice Ao10 y105.length co10] rfl (by (try simp only [List.map_toArray, List.map_cons, List.map_nil]); first | done | rfl | (simp only [List.length_drop, List.length_take]; rfl)) ?_; (with_reducible refine (spec_l1Cur_among.calls gb101 l0 x102001_1 x102002_1 _ _ y105 t108 t109 t110 w _ ?side1 ?side2 ?side3 ?side4 ?side5 A6.out).mono ?_); (case side1 => repeat (first | (with_reducible first | exact HI101.out | apply IsS49.alloc | apply IsS49.drewN | apply IsS49.drew | apply IsS49.set_1 | apply IsS49.set_2) | exact HI101.out)); (case side2 => repeat (first | (with_reducible first | exact HB.out | apply below_alloc | apply pw_below_drewN | apply below_drew1 | refine below_set ?_ (IsS49.ge HI101.out)) | exact HB.out)); (case side3 => repeat (first | exact (Kd.R_reads' HO107.out).2.2 | (with_reducible refine Kd.C_alloc ?_ _) | (with_reducible refine Kd.C_drewN ?_ _) | (with_reducible refine Kd.C_drew ?_))); (case side4 => exact (Kd.R_reads' HO107.out).2.1); (case side5 => exact far_slice (IsS49.own_ne HI101.out HO107.out (by decide))); rintro e w11 ⟨rfl, hi, hb, hk⟩; refine ⟨_, rfl, ?_⟩; have n0_ := Aside0.mk (Kd.R_mono (Kd.R_keep (IsS49.apart (show IsS49 w _ gb101 l0 x102001_1 x102002_1 from by repeat (first | (with_reducible first | exact HI101.out | apply IsS49.alloc | apply IsS49.drewN | apply IsS49.drew | apply IsS49.set_1 | apply IsS49.set_2) | exact HI101.out)) (by (with_reducible repeat (first | apply Kd.R_alloc | apply Kd.R_drewN | apply Kd.R_drew)); exact HO_4.out) (by decide)) hk (fun _ h => h.2)) (fun _ h => h.1)); have n1_ := Aside0.mk (Kd.R_mono (Kd.R_keep (IsS49.apart (show IsS49 w _ gb101 l0 x102001_1 x102002_1 from by repeat (first | (with_reducible first | exact HI101.out | apply IsS49.alloc | apply IsS49.drewN | apply IsS49.drew | apply IsS49.set_1 | apply IsS49.set_2) | exact HI101.out)) (by (with_reducible repeat (first | apply Kd.R_alloc | apply Kd.R_drewN | apply Kd.R_drew)); exact HO107.out) (by decide)) hk (fun _ h => h.2)) (fun _ h => h.1)); have n2_ := Aside0.mk (hb); have n3_ := Aside0.mk (hi); clear HO_4; clear HO107; clear HB; clear HI101; have HO_4 := n0_; have HO107 := n1_; have HB := n2_; have HI101 := n3_; clear n0_ n1_ n2_ n3_; (try clear hb); (try clear hb2); (try clear hk); (try clear hi)) | ((with_reducible refine gate_builtin (b := .append) (xs := #[.tmp 15, .tmp 19]) rfl ?_); at_builtin; refine Kd.R_append (Kd.int .i64) (w0 := w) w.heap.size rfl (.tmp 15) (.tmp 19) 35 3 (.int .i64 0) 8 rfl Tryz.underlying35 info3 rfl (by decide) (by omega) u4 x4_1 t108 [.int .i64 t108] (fun k_ => some k_ ≠ (.slice Ao10 y105.length co10 : Value).ownBlock) (fun _ => False) rfl rfl ?aP (fun _ hk => hk.elim) ?aF ?aO ?aB ?aS ?aL ?_; (case aP => exact rfl); (case aB => exact (by repeat (first | (with_reducible first | exact HB.out | apply below_alloc | apply pw_below_drewN | apply below_drew1 | refine below_set ?_ (IsS49.ge HI101.out)) | exact HB.out))); (case aF => exact (fun k_ hk => Kd.fresh' (Kd.R_lt (by (with_reducible repeat (first | apply Kd.R_alloc | apply Kd.R_drewN | apply Kd.R_drew)); exact HO107.out)) k_ hk)); (case aO => exact (by (with_reducible repeat (first | apply Kd.R_alloc | apply Kd.R_drewN | apply Kd.R_drew)); exact Kd.R_mono HO_4.out (fun _ hk => hk.2))); (case aS => exact (below_size (by repeat (first | (with_reducible first | exact HB.out | apply below_alloc | apply pw_below_drewN | apply below_drew1 | refine below_set ?_ (IsS49.ge HI101.out)) | exact HB.out)))); (case aL => have := LMc7.out; omega); intro v112 w12 ho hb hg hat; rw [← Ny111.out] at ho; have n0_ := Aside0.mk (IsS49.grown (by repeat (first | (with_reducible first | exact HI101.out | apply IsS49.alloc | apply IsS49.drewN | apply IsS49.drew | apply IsS49.set_1 | apply IsS49.set_2) | exact HI101.out)) hg (IsS49.own_ne HI101.out HO_4.out (by decide))); have n1_ := Aside0.mk (Kd.R_after (ok := (fun _ => True)) (by (with_reducible repeat (first | apply Kd.R_alloc | apply Kd.R_drewN | apply Kd.R_drew)); exact HO107.out) hg hat); have n2_ := Aside0.mk (hb); have n3_ := Aside0.mk (ho); clear HI101; clear HO107; clear HB; clear HO_4; have HI101 := n0_; have HO107 := n1_; have HB := n2_; have HO113 := n3_; clear n0_ n1_ n2_ n3_; clear ho hb hg hat))
     go_roundg k1
     case measure => have := HK1.out; omega
     case rel => exact ⟨(y111), (wrap64 (x5_1 - 1)), (t109), (t110), (by first | rfl | (simp; done) | (simp [*]; done)), H', ⟨by have := HK1.out; omega⟩, ⟨by (with_reducible repeat (first | apply Kd.R_alloc | apply Kd.R_drewN | apply Kd.R_drew)); exact Kd.R_mono HO113.out (fun _ hk => trivial)⟩, ⟨by repeat (first | (with_reducible first | exact HI101.out | apply IsS49.alloc | apply IsS49.drewN | apply IsS49.drew | apply IsS49.set_1 | apply IsS49.set_2) | exact HI101.out)⟩, ⟨by repeat (first | (with_reducible first | exact HB.out | apply below_alloc | apply pw_below_drewN | apply below_drew1 | refine below_set ?_ (IsS49.ge HI101.out)) | exact HB.out)⟩⟩
    ·rw [if_neg c7] at H
     exact absurd H (by simp)
   ·rw [if_neg c5] at H
    have c5b0 : decide (0 < x5_1) = false := decide_eq_false c5
    clear c5
    obtain rfl := Option.some.inj H
    go_wp2
    go_ret
    exact ⟨_, by first | rfl | (simp [errW_none, errW_some] <;> rfl) | (simp [*, errW_none, errW_some] <;> rfl), by (with_reducible repeat (first | apply Kd.R_alloc | apply Kd.R_drewN | apply Kd.R_drew)); exact HO_4.out, by repeat (first | (with_reducible first | exact HB.out | apply below_alloc | apply pw_below_drewN | apply below_drew1 | refine below_set ?_ (IsS49.ge HI101.out)) | exact HB.out)⟩
def impl_LightestBag.f (k : Nat) (l0 : List (S62)) (a1 : Int) : Option (Int × Bool) := (impl_AreParcels.f l0).bind fun t => if t = true then (impl_within.f a1 1 8).bind fun u => if u = true then (impl_weightOf.f k l0).bind fun b => (if l0.length ≤ 8 then (bpGo (lbNum k l0 a1) l0 b l0.length [] [] ⟨0, 0, []⟩).bind fun s => some (s.least, true) else none) else some (0, false) else some (0, false)
theorem impl_LightestBag.calls (k : Nat) (A0 : Option Addr) (c0 : Nat) (l0 : List (S62)) (a1 : Int) (r1 : Int) (r2 : Bool) (w : World) (hr0 : Kd.C k62 w A0 l0.length l0) (hc0 : l0.length ≤ c0) (h : impl_LightestBag.f k l0 a1 = some (r1, r2)) :
  Calls Tryz.prog 6 #[.slice A0 l0.length c0, .int .i64 a1] w fun e w' => e = .returned (.tuple #[.int .i64 r1, .bool r2]) ∧ Below w.heap.size w w' := by
 unfold impl_LightestBag.f at h
 obtain ⟨t, ht, hh⟩ := Option.bind_eq_some_iff.1 h
 clear h
 have HR := Aside0.mk hr0
 have HC := Aside0.mk hc0
 have eg := enters_of Tryz.func31 (by kernel_rfl) rfl
 clear hr0 hc0
 have hb0 : Below w.heap.size w (w.alloc (.cells #[.int .i64 a1] 3 (0, 0))) := (Below.refl _ _).alloc (Nat.le_refl _) _
 have key := fun W hW => impl_AreParcels.calls A0 c0 l0 t W hW HC.out ht
 clear ht
 cases t with
 | false =>
  rw [if_neg (by decide)] at hh
  obtain ⟨rfl, rfl⟩ : r1 = 0 ∧ r2 = false := by simpa [eq_comm] using hh
  clear hh
  go_enter Tryz.func6, Tryz.ntmps6
  go_wp2_with fail
  refine (key _ (Kd.C_below HR.out hb0)).mono ?_
  rintro e w1 ⟨rfl, hb1⟩
  go_wp2
  go_ret2
  exact ⟨rfl, Fun.below_box hb1⟩
 | true =>
  rw [if_pos rfl] at hh
  obtain ⟨u, hu, hh⟩ := Option.bind_eq_some_iff.1 hh
  have key2 := fun W => impl_within.calls a1 1 8 u W hu
  clear hu
  cases u with
  | false =>
   rw [if_neg (by decide)] at hh
   obtain ⟨rfl, rfl⟩ : r1 = 0 ∧ r2 = false := by simpa [eq_comm] using hh
   clear hh
   go_enter Tryz.func6, Tryz.ntmps6
   go_wp2_with fail
   refine (key _ (Kd.C_below HR.out hb0)).mono ?_
   rintro e w1 ⟨rfl, hb1⟩
   obtain ⟨hc, hf⟩ := Fun.bcell hb1
   have hb2 := Fun.below_box hb1
   have c0 := (hc w.heap.size 0 (by simp)).trans (show _ = some (.int .i64 a1) by simp)
   clear hc hf hb1
   go_wp2_with fail
   refine (key2 _).mono ?_
   rintro e w2 ⟨rfl, hd3⟩
   have hb3 := hd3.below
   clear hd3
   go_wp2
   go_ret2
   exact ⟨rfl, hb2.trans (hb3.mono hb2.size)⟩
  | true =>
   rw [if_pos rfl] at hh
   obtain ⟨b, hbw, hh⟩ := Option.bind_eq_some_iff.1 hh
   by_cases hl : l0.length ≤ 8
   ·rw [if_pos hl] at hh
    obtain ⟨s, hs, hh⟩ := Option.bind_eq_some_iff.1 hh
    obtain ⟨rfl, rfl⟩ : r1 = s.least ∧ r2 = true := by simpa [eq_comm] using hh
    clear hh
    have HS := Aside0.mk hs
    have key3 := Aside0.mk fun W hW => impl_weightOf.calls k A0 c0 l0 b W hW HC.out hbw
    clear hs hbw
    go_enter Tryz.func6, Tryz.ntmps6
    go_wp2_with fail
    refine (key _ (Kd.C_below HR.out hb0)).mono ?_
    rintro e w1 ⟨rfl, hb1⟩
    obtain ⟨hc, hf⟩ := Fun.bcell hb1
    have hb2 := Fun.below_box hb1
    have c0 := (hc w.heap.size 0 (by simp)).trans (show _ = some (.int .i64 a1) by simp)
    have hs1 : w.heap.size < w1.heap.size := Nat.lt_of_lt_of_le (by simp) hb1.size
    clear hc hf hb1 key
    go_wp2_with fail
    refine (key2 _).mono ?_
    rintro e w2 ⟨rfl, hd3⟩
    have hb3 := hd3.below
    clear hd3
    have c1 := (hb3.cell (p := ⟨w.heap.size, 0, none⟩) hs1).trans c0
    have hs2 : w.heap.size < w2.heap.size := Nat.lt_of_lt_of_le hs1 hb3.size
    have hb4 := hb2.trans (hb3.mono hb2.size)
    clear hb2 hb3 c0 hs1 key2 hb0
    go_wp2_with fail
    refine (key3.out _ (Kd.C_below HR.out hb4)).mono ?_
    rintro e w3 ⟨rfl, hb5⟩
    have hb5 : Below w2.heap.size w2 w3 := by first | exact hb5 | exact hb5.below
    have C2 := Aside0.mk ((hb5.cell (p := ⟨w.heap.size, 0, none⟩) hs2).trans c1)
    have hs3 : w.heap.size < w3.heap.size := Nat.lt_of_lt_of_le hs2 hb5.size
    have HB := Aside0.mk (below_step hb4 hb5)
    clear hb4 hb5 c1 hs2 key3
    go_wp2_with fail
    refine (bp_call (lbNum k l0 a1) 31 #[.pointer (some ⟨w.heap.size, 0, none⟩)] eg A0 c0 l0 b w3 (Kd.C_below HR.out HB.out) HC.out hl (fun W p A c x hW hC hc _ hx => lb_calls k w.heap.size a1 A0 c0 l0 A c p x W (Kd.C_below HR.out (HB.out.trans (hW.mono HB.out.size))) HC.out hC hc ((hW.cell (p := ⟨w.heap.size, 0, none⟩) hs3).trans C2.out) hx) s HS.out).mono ?_
    rintro e w4 ⟨v, rfl, ho, hb6⟩
    obtain ⟨Ab, cb, rfl⟩ := Kd.R_slice ho
    have HB2 := Aside0.mk hb6
    clear ho hb6
    go_wp2
    go_ret2
    exact ⟨rfl, HB.out.trans (HB2.out.mono HB.out.size)⟩
   ·rw [if_neg hl] at hh
    cases hh
end Go.Proofs.YtgdhbkoggfaioaaGreatDoor.G
end

/- Texts of this seat's proofs: contracts of its functions and plain laws about them, with no condition beyond those that each theorem states. -/
import Derived.Test.YtmninaoedoonbaaQ5865e9cb
import Derived.Test.YtmninaoedoonbaaQa47db134
import Derived.Test.YtmninaoedoonbaaQ4ea981c7
import Derived.Deep.RegionHeld3
import Derived.WalkSpells
import Derived.Shelf.Abstract
import Derived.Laws.EntriesVeiled
set_option maxHeartbeats 8000000
set_option maxRecDepth 100000
section
namespace Go.Proofs.Ytmninaoedoonbaa.G
open Go.RowKit Go.Proofs.YtmninaoedoonbaaW.PrintWords Go.Proofs.YtmninaoedoonbaaW.PrintLast Go.Proofs.YtmninaoedoonbaaW.PrintMore
attribute [local go_sem] max2_int min2_int max_two min_two max_three min_three max_four min_four
set_option linter.unusedVariables false
set_option linter.unusedSimpArgs false
def slices_Index_int_int.l0 : Nat → List Int → Int → Int → Int → Option (Int)
 | 0, _, _, _, _ => none
 | k + 1, x0, x1, x7, x8 => if x8 < x7 then (if 0 ≤ x8 then (if x8 < (x0.length : Int) then (if x1 = (rd x0 x8) then (some x8) else (slices_Index_int_int.l0 k x0 x1 x7 (wrap64 (x8 + 1)))) else (none)) else (none)) else (some (-1))
def slices_Index_int_int.f (k : Nat) (l0 : List Int) (a1 : Int) : Option (Int) := slices_Index_int_int.l0 k l0 a1 (l0.length : Int) 0
theorem slices_Index_int_int.mono_l : ∀ k, (∀ y0 y1 y2 y3, LeO (slices_Index_int_int.l0 k y0 y1 y2 y3) (slices_Index_int_int.l0 (k + 1) y0 y1 y2 y3))
 | 0 => fun _ _ _ _ r h => by simp [slices_Index_int_int.l0] at h
 | k + 1 => by
  have ih0 := slices_Index_int_int.mono_l k
  ·intro y0 y1 y2 y3
   unfold slices_Index_int_int.l0
   repeat' first
   | (with_reducible exact ih0 _ _ _ _)
   | (with_reducible exact LeO.refl _)
   | (with_reducible exact LeO.none _)
   | (with_reducible refine LeO.ite ?_ ?_)
   | (with_reducible refine LeO.bind ?_ (fun _ => ?_))
   | exact ih0 _ _ _ _
   | exact LeO.none _
   | refine LeO.ite ?_ ?_
   | refine LeO.bind ?_ (fun _ => ?_)
theorem slices_Index_int_int.mono : ∀ a0 a1 k, LeO (slices_Index_int_int.f k a0 a1) (slices_Index_int_int.f (k + 1) a0 a1) := by
 intro a0 a1 k
 have ih0 := slices_Index_int_int.mono_l k
 unfold slices_Index_int_int.f
 repeat' first
   | (with_reducible exact ih0 _ _ _ _)
   | (with_reducible exact LeO.refl _)
   | (with_reducible exact LeO.none _)
   | (with_reducible refine LeO.ite ?_ ?_)
   | (with_reducible refine LeO.bind ?_ (fun _ => ?_))
   | exact ih0 _ _ _ _
   | exact LeO.none _
   | refine LeO.ite ?_ ?_
   | refine LeO.bind ?_ (fun _ => ?_)
theorem slices_Index_int_int.calls (k : Nat) (A0 : Option Addr) (c0 : Nat) (l0 : List Int) (a1 : Int) (r : Int) (w : World) (hr0 : Kd.C (Kd.int .i64) w A0 l0.length l0) (hc0 : l0.length ≤ c0) (h : slices_Index_int_int.f k l0 a1 = some r) :
  Calls Try.prog 85 #[.slice A0 l0.length c0, .int .i64 a1] w fun e w' => e = .returned (.int .i64 r) ∧ Drawn0 w w' := by
 have HR0 := am hr0
 have HC0 := am hc0
 clear hr0 hc0
 have H : (slices_Index_int_int.l0 k l0 a1 (l0.length : Int) 0) = some r := h
 clear h
 have H' := am H
 clear H
 go_enter Try.func85, Try.ntmps85
 go_wp2
 go_loopg [8] k (fun kq v8 w' => ∃ (x8_1 : Int), v8 = .int .i64 x8_1 ∧ Aside0 (slices_Index_int_int.l0 kq l0 a1 (l0.length : Int) x8_1 = some r) ∧ Aside0 (kq ≤ k) ∧ Drawn0 w w')
 case atStart => exact ⟨(0), (by first | rfl | (simp; done) | (simp [*]; done)), H', ⟨Nat.le_refl _⟩, by repeat (first | exact Drawn0.refl _ | apply Drawn0.step)⟩
 case round =>
  clear H'
  try clear p2
  obtain ⟨x8_1, rfl, HA, HK1, ⟨m1, rfl⟩⟩ := hrel
  cases gk with
  | zero => exact absurd HA.out (by simp [slices_Index_int_int.l0])
  | succ k1 =>
   have H := HA.out
   clear HA
   simp only [slices_Index_int_int.l0] at H
   by_cases c3 : x8_1 < (l0.length : Int)
   ·rw [if_pos c3] at H
    have c3b0 : decide (x8_1 < (l0.length : Int)) = true := decide_eq_true c3
    clear c3
    by_cases c4 : 0 ≤ x8_1
    ·rw [if_pos c4] at H
     have c4b0 : decide (0 ≤ x8_1) = true := decide_eq_true c4
     clear c4
     by_cases c5 : x8_1 < (l0.length : Int)
     ·rw [if_pos c5] at H
      have c5b0 : decide (x8_1 < (l0.length : Int)) = true := decide_eq_true c5
      clear c5
      by_cases c6 : a1 = (rd l0 x8_1)
      ·rw [if_pos c6] at H
       have c6b0 : (a1 == (rd l0 x8_1)) = true := beq_iff_eq.mpr c6
       have c6b1 : (a1 != (rd l0 x8_1)) = false := bne_eq_false_iff_eq.mpr c6
       clear c6
       obtain rfl := Option.some.inj H
       have p101 : 0 ≤ (x8_1 : Int) := of_decide_eq_true (by first | (with_reducible assumption) | assumption)
       have q101 : x8_1 < (l0.length : Int) := of_decide_eq_true (by first | (with_reducible assumption) | assumption)
       obtain ⟨ad101, e101, hx101_0⟩ := Kd.at_int HR0.out x8_1 p101 q101
       cases e101
       replace p101 := eq_true p101
       replace q101 := eq_true q101
       go_wp2
       go_ret
       exact ⟨by first | rfl | (simp; done) | (simp [*]; done), by repeat (first | exact Drawn0.refl _ | apply Drawn0.step)⟩
      ·rw [if_neg c6] at H
       have c6b0 : (a1 == (rd l0 x8_1)) = false := beq_eq_false_iff_ne.mpr c6
       have c6b1 : (a1 != (rd l0 x8_1)) = true := bne_iff_ne.mpr c6
       have H' := am H
       clear H
       have p101 : 0 ≤ (x8_1 : Int) := of_decide_eq_true (by first | (with_reducible assumption) | assumption)
       have q101 : x8_1 < (l0.length : Int) := of_decide_eq_true (by first | (with_reducible assumption) | assumption)
       obtain ⟨ad101, e101, hx101_0⟩ := Kd.at_int HR0.out x8_1 p101 q101
       cases e101
       replace p101 := eq_true p101
       replace q101 := eq_true q101
       go_wp2
       go_roundg k1
       case measure => have := HK1.out; omega
       case rel => exact ⟨(wrap64 (x8_1 + 1)), (by first | rfl | (simp; done) | (simp [*]; done)), H', ⟨by have := HK1.out; omega⟩, by repeat (first | exact Drawn0.refl _ | apply Drawn0.step)⟩
     ·rw [if_neg c5] at H
      exact absurd H (by simp)
    ·rw [if_neg c4] at H
     exact absurd H (by simp)
   ·rw [if_neg c3] at H
    have c3b0 : decide (x8_1 < (l0.length : Int)) = false := decide_eq_false c3
    clear c3
    obtain rfl := Option.some.inj H
    go_wp2
    go_ret
    exact ⟨by first | rfl | (simp; done) | (simp [*]; done), by repeat (first | exact Drawn0.refl _ | apply Drawn0.step)⟩
def impl_named.l0 : Nat → List Int → List Int → List Int → Int → Int → Option (List Int)
 | 0, _, _, _, _, _ => none
 | k + 1, x3, x4, x11, x12, x13 => if x13 < x12 then (if 0 ≤ x13 then (if x13 < (x11.length : Int) then ((slices_Index_int_int.f k x3 (rd x11 x13)).bind fun t105 => (if t105 < 0 then (if x3.length < 17592186044416 then (if x13 < (x4.length : Int) then (impl_named.l0 k (x3 ++ [rd x11 x13]) (x4.set (x13 : Int).toNat (x3.length : Int)) x11 x12 (wrap64 (x13 + 1))) else (none)) else (none)) else (if x13 < (x4.length : Int) then (impl_named.l0 k x3 (x4.set (x13 : Int).toNat t105) x11 x12 (wrap64 (x13 + 1))) else (none)))) else (none)) else (none)) else (some x4)
def impl_named.f (k : Nat) (l0 : List Int) : Option (List Int) := if 0 ≤ (l0.length : Int) then (if ((l0.length : Int) : Int).toNat ≤ 35184372088832 then (impl_named.l0 k ([] : List Int) (List.replicate ((l0.length : Int) : Int).toNat 0) l0 (l0.length : Int) 0) else (none)) else (none)
theorem impl_named.mono_l : ∀ k, (∀ y0 y1 y2 y3 y4, LeO (impl_named.l0 k y0 y1 y2 y3 y4) (impl_named.l0 (k + 1) y0 y1 y2 y3 y4))
 | 0 => fun _ _ _ _ _ r h => by simp [impl_named.l0] at h
 | k + 1 => by
  have ih0 := impl_named.mono_l k
  ·intro y0 y1 y2 y3 y4
   unfold impl_named.l0
   repeat' first
   | (with_reducible exact ih0 _ _ _ _ _)
   | (with_reducible exact slices_Index_int_int.mono _ _ _)
   | (with_reducible exact LeO.refl _)
   | (with_reducible exact LeO.none _)
   | (with_reducible refine LeO.ite ?_ ?_)
   | (with_reducible refine LeO.bind ?_ (fun _ => ?_))
   | exact ih0 _ _ _ _ _
   | exact slices_Index_int_int.mono _ _ _
   | exact LeO.none _
   | refine LeO.ite ?_ ?_
   | refine LeO.bind ?_ (fun _ => ?_)
theorem impl_named.mono : ∀ a0 k, LeO (impl_named.f k a0) (impl_named.f (k + 1) a0) := by
 intro a0 k
 have ih0 := impl_named.mono_l k
 unfold impl_named.f
 repeat' first
   | (with_reducible exact ih0 _ _ _ _ _)
   | (with_reducible exact slices_Index_int_int.mono _ _ _)
   | (with_reducible exact LeO.refl _)
   | (with_reducible exact LeO.none _)
   | (with_reducible refine LeO.ite ?_ ?_)
   | (with_reducible refine LeO.bind ?_ (fun _ => ?_))
   | exact ih0 _ _ _ _ _
   | exact slices_Index_int_int.mono _ _ _
   | exact LeO.none _
   | refine LeO.ite ?_ ?_
   | refine LeO.bind ?_ (fun _ => ?_)
theorem impl_named.calls (k : Nat) (A0 : Option Addr) (c0 : Nat) (l0 : List Int) (r : List Int) (w : World) (hr0 : Kd.C (Kd.int .i64) w A0 l0.length l0) (hc0 : l0.length ≤ c0) (h : impl_named.f k l0 = some r) :
  Calls Try.prog 54 #[.slice A0 l0.length c0] w fun e w' => ∃ v0_ : Value, e = .returned (v0_) ∧ Kd.R (Kd.int .i64) 3 w' w.heap.size (fun _ => True) v0_ r ∧ Below w.heap.size w w' := by
 have HR0 := am hr0
 have HC0 := am hc0
 clear hr0 hc0
 have HB := am (Below.refl w.heap.size w)
 have H : (if 0 ≤ (l0.length : Int) then (if ((l0.length : Int) : Int).toNat ≤ 35184372088832 then (impl_named.l0 k ([] : List Int) (List.replicate ((l0.length : Int) : Int).toNat 0) l0 (l0.length : Int) 0) else (none)) else (none)) = some r := h
 clear h
 by_cases c2 : 0 ≤ (l0.length : Int)
 ·rw [if_pos c2] at H
  have c2b0 := eq_true c2
  have c2b1 : decide (0 ≤ (l0.length : Int)) = true := decide_eq_true c2
  clear c2
  by_cases c3 : ((l0.length : Int) : Int).toNat ≤ 35184372088832
  ·rw [if_pos c3] at H
   have c3b0 := eq_true c3
   have c3b1 : decide (((l0.length : Int) : Int).toNat ≤ 35184372088832) = true := decide_eq_true c3
   clear c3
   obtain ⟨y101, hy101⟩ : ∃ y_ : List Int, y_ = (List.replicate ((l0.length : Int) : Int).toNat 0) := ⟨_, rfl⟩
   replace H : (impl_named.l0 k ([] : List Int) y101 l0 (l0.length : Int) 0) = some r := by first | (rw [hy101]; with_reducible exact H) | (have H2_ := (Option.bind_some _ _).symm.trans H; rw [hy101]; with_reducible exact H2_) | (have H2_ := (Option.bind_some _ _).symm.trans H; with_reducible exact H2_) | with_reducible exact H | (rw [hy101]; exact H) | exact H
   have Ny101 := am hy101
   clear hy101
   have H' := am H
   clear H
   go_enter Try.func54, Try.ntmps54
   go_wp2_with (first | ((with_reducible refine gate_dst (N := 10) rfl ?_); refine Kd.R_make (Kd.int .i64) _ 3 rfl (N := 10) rfl 27 _ _ rfl (l0.length : Int) rfl rfl Try.underlying27 (.int .i64 0) 8 info3 rfl (by decide) (by omega) 0 (ok := fun _ => True) (okp := fun _ => True) rfl (fun _ hk => hk) trivial (of_decide_eq_true (by first | (with_reducible assumption) | assumption)) (Nat.le_trans (Nat.mul_le_mul_right _ (of_decide_eq_true (by first | (with_reducible assumption) | assumption) : (l0.length : Int).toNat ≤ 35184372088832)) (by omega)) (Below.refl _ _) (Nat.le_refl _) ?_; intro v102 w4 ho5 hb hg_ hnew_; clear hg_ hnew_; (first | rw [← Ny101.out] at ho5 | (simp only [Int.reduceToNat] at ho5; rw [← Ny101.out] at ho5)); have HO103 := am (Kd.R_lower ho5 (below_size uW)); replace HB := uS hb; clear hb ho5))
   go_loopg [3, 13] k (fun kq v3 v13 w' => ∃ (x3_1 : List Int) (x4_1 : List Int) (x13_1 : Int), v13 = .int .i64 x13_1 ∧ Aside0 (impl_named.l0 kq x3_1 x4_1 l0 (l0.length : Int) x13_1 = some r) ∧ Aside0 (kq ≤ k) ∧ Aside0 (Kd.R (Kd.int .i64) 3 w' w.heap.size (fun k_ => some k_ ≠ (v102 : Value).ownBlock) v3 x3_1) ∧ Aside0 (Kd.R (Kd.int .i64) 3 w' w.heap.size (fun k_ => some k_ ≠ (v3 : Value).ownBlock) v102 x4_1) ∧ Aside0 (Below w.heap.size w w'))
   case atStart => exact ⟨(([] : List Int)), (y101), (0), (by first | rfl | (simp; done) | (simp [*]; done)), H', ⟨Nat.le_refl _⟩, ⟨uN⟩, ⟨by (with_reducible repeat (first | apply rA | apply rN | apply rD)); exact Kd.R_mono HO103.out (fun _ hk => (by simp [Value.ownBlock]))⟩, ⟨by exact uW⟩⟩
   case round =>
    clear H'
    try clear c2
    try clear c2b0
    try clear c2b1
    try clear p2
    try clear c3
    try clear c3b0
    try clear c3b1
    try clear c5
    obtain ⟨x3_1, x4_1, x13_1, rfl, HA, HK1, HO_3, HO_4, HB⟩ := hrel
    cases gk with
    | zero => exact absurd HA.out (by simp [impl_named.l0])
    | succ k1 =>
     have H := HA.out
     clear HA
     simp only [impl_named.l0] at H
     by_cases c6 : x13_1 < (l0.length : Int)
     ·rw [if_pos c6] at H
      have c6b0 : decide (x13_1 < (l0.length : Int)) = true := decide_eq_true c6
      clear c6
      by_cases c7 : 0 ≤ x13_1
      ·rw [if_pos c7] at H
       have c7b0 : decide (0 ≤ x13_1) = true := decide_eq_true c7
       clear c7
       by_cases c8 : x13_1 < (l0.length : Int)
       ·rw [if_pos c8] at H
        have c8b0 : decide (x13_1 < (l0.length : Int)) = true := decide_eq_true c8
        clear c8
        replace H := bH H
        obtain ⟨t105, A90, H⟩ := H
        replace H : (if t105 < 0 then (if x3_1.length < 17592186044416 then (if x13_1 < (x4_1.length : Int) then (impl_named.l0 k1 (x3_1 ++ [rd l0 x13_1]) (x4_1.set (x13_1 : Int).toNat (x3_1.length : Int)) l0 (l0.length : Int) (wrap64 (x13_1 + 1))) else (none)) else (none)) else (if x13_1 < (x4_1.length : Int) then (impl_named.l0 k1 x3_1 (x4_1.set (x13_1 : Int).toNat t105) l0 (l0.length : Int) (wrap64 (x13_1 + 1))) else (none))) = some r := H
        have A9 := am A90
        clear A90
        by_cases c10 : t105 < 0
        ·rw [if_pos c10] at H
         have c10b0 : decide (t105 < 0) = true := decide_eq_true c10
         clear c10
         by_cases c11 : x3_1.length < 17592186044416
         ·rw [if_pos c11] at H
          have LMc11 := am c11
          clear c11
          obtain ⟨y106, hy106⟩ : ∃ y_ : List Int, y_ = (x3_1 ++ [rd l0 x13_1]) := ⟨_, rfl⟩
          replace H : (if x13_1 < (x4_1.length : Int) then (impl_named.l0 k1 y106 (x4_1.set (x13_1 : Int).toNat (x3_1.length : Int)) l0 (l0.length : Int) (wrap64 (x13_1 + 1))) else (none)) = some r := by first | (rw [hy106]; with_reducible exact H) | (have H2_ := (Option.bind_some _ _).symm.trans H; rw [hy106]; with_reducible exact H2_) | (have H2_ := (Option.bind_some _ _).symm.trans H; with_reducible exact H2_) | with_reducible exact H | (rw [hy106]; exact H) | exact H
          have Ny106 := am hy106
          clear hy106
          by_cases c12 : x13_1 < (x4_1.length : Int)
          ·rw [if_pos c12] at H
           have c12b0 : decide (x13_1 < (x4_1.length : Int)) = true := decide_eq_true c12
           clear c12
           obtain ⟨y109, hy109⟩ : ∃ y_ : List Int, y_ = (x4_1.set (x13_1 : Int).toNat (x3_1.length : Int)) := ⟨_, rfl⟩
           replace H : (impl_named.l0 k1 y106 y109 l0 (l0.length : Int) (wrap64 (x13_1 + 1))) = some r := by first | (rw [hy109]; with_reducible exact H) | (have H2_ := (Option.bind_some _ _).symm.trans H; rw [hy109]; with_reducible exact H2_) | (have H2_ := (Option.bind_some _ _).symm.trans H; with_reducible exact H2_) | with_reducible exact H | (rw [hy109]; exact H) | exact H
           have Ny109 := am hy109
           clear hy109
           have H' := am H
           clear H
           have p104 : 0 ≤ (x13_1 : Int) := of_decide_eq_true (by first | (with_reducible assumption) | assumption)
           have q104 : x13_1 < (l0.length : Int) := of_decide_eq_true (by first | (with_reducible assumption) | assumption)
           obtain ⟨ad104, e104, hx104_0⟩ := Kd.at_int HR0.out x13_1 p104 q104
           cases e104
           try replace hx104_0 := (HB.out.cell (World.block_lt_of_cell? w _ hx104_0)).trans hx104_0
           replace p104 := eq_true p104
           replace q104 := eq_true q104
           obtain ⟨Ao14, co14, eo14⟩ := Kd.R_slice HO_3.out
           subst eo14
           go_wp2_with (first | ((with_reducible refine gate_callee (f := 85) rfl ?_); refine uGo (some 20) Try.func85 #[.slice Ao14 x3_1.length co14, .int .i64 (rd l0 x13_1)] ?_; (with_reducible refine (slices_Index_int_int.calls k1 _ _ x3_1 (rd l0 x13_1) t105 _ ?side1 ?side2 A9.out).mono ?_); (case side1 => repeat (first | exact (Kd.R_reads' HO_3.out).2.2 | (with_reducible refine cA ?_ _) | (with_reducible refine cN ?_ _) | (with_reducible refine cD ?_))); (case side2 => exact (Kd.R_reads' HO_3.out).2.1); rintro e w' ⟨rfl, ⟨nd, rfl⟩⟩; refine ⟨_, rfl, ?_⟩; (try (rw [drewN_self wr]; generalize hq_ : World.drewN wr _ = wr; have n0_ : Aside0 (Kd.R (Kd.int .i64) 3 wr w.heap.size (fun k_ => some k_ ≠ (v102 : Value).ownBlock) (.slice Ao14 x3_1.length co14) x3_1) := ⟨by rw [← hq_]; exact (uR HO_3)⟩; have n1_ : Aside0 (Kd.R (Kd.int .i64) 3 wr w.heap.size (fun k_ => some k_ ≠ (.slice Ao14 x3_1.length co14 : Value).ownBlock) v102 x4_1) := ⟨by rw [← hq_]; exact (uR HO_4)⟩; have n2_ : Aside0 (Below w.heap.size w wr) := ⟨by rw [← hq_]; exact uW⟩; clear HO_3 HO_4 HB hq_; have HO_3 := n0_; have HO_4 := n1_; have HB := n2_; clear n0_ n1_ n2_))) | ((with_reducible refine gate_builtin (b := .append) (xs := #[.tmp 25, .tmp 27]) rfl ?_); at_builtin; refine Kd.R_append (Kd.int .i64) (w0 := w) w.heap.size rfl (.tmp 25) (.tmp 27) 27 3 (.int .i64 0) 8 rfl Try.underlying27 info3 rfl (by decide) (by omega) (.slice Ao14 x3_1.length co14) x3_1 (rd l0 x13_1) [.int .i64 (rd l0 x13_1)] (fun k_ => some k_ ≠ (v102 : Value).ownBlock) (fun _ => False) rfl rfl ?aP (fun _ hk => hk.elim) ?aF ?aO ?aB ?aS ?aL ?_; (case aP => exact rfl); (case aB => exact uW); (case aF => exact (fun k_ hk => Kd.fresh' (Kd.R_lt (uR HO_4)) k_ hk)); (case aO => exact (uR HO_3)); (case aS => exact (below_size uW)); (case aL => have := LMc11.out; omega); intro v107 w15 ho hb hg hat; rw [← Ny106.out] at ho; have HO108 := am (ho); replace HO_4 := am (Kd.R_after (ok := (fun _ => True)) (by (with_reducible repeat (first | apply rA | apply rN | apply rD)); exact Kd.R_mono HO_4.out (fun _ hk => ⟨trivial, hk⟩)) hg hat); replace HB := am (hb); clear HO_3; clear ho hb hg hat; have p13 : 0 ≤ (x13_1 : Int) := of_decide_eq_true (by first | (with_reducible assumption) | assumption); have q13 : (x13_1 : Int) < ((x4_1.length : Int) : Int) := of_decide_eq_true (by first | (with_reducible assumption) | assumption); obtain ⟨go13, co13, eo13, gb13, gl13, cl13, HG13⟩ := Kd.R_form HO_4.out (by omega); (first | cases eo13 | (injection eo13 with ea_ en_ ec_; (first | subst ea_ | (injection ea_ with ea_; subst ea_)); subst ec_; clear en_)); have GB13 := am gb13; have GG13 := am HG13; clear gb13 gl13 HG13; obtain ⟨hx13_0, hf13_0⟩ := Kd.R_celln 0 HO_4.out (x13_1 : Int) p13 q13; replace p13 := eq_true p13; replace q13 := eq_true q13; have n_ := am (Kd.R_mono (ok' := (fun k_ => some k_ ≠ (v107 : Value).ownBlock)) HO_4.out (fun k_ hk => hk.2)); clear HO_4; have HO_4 := n_; clear n_; obtain ⟨hy16_, hz16_⟩ := Kd.R_celln 0 HO_4.out (x13_1 : Int) (of_decide_eq_true (by first | (with_reducible assumption) | assumption)) (of_decide_eq_true (by first | (with_reducible assumption) | assumption)); have HP16 := Kd.R_putg HO_4.out (x13_1 : Int) (x3_1.length : Int)) | ((with_reducible refine gate_store (t := 3) (p := 32) rfl ?_); refine store_event (t := 3) (p := 32) (v := ?vo_w17) (w1 := (w15.setCell ⟨go13, (x13_1 : Int).toNat, none⟩ (.int .i64 (x3_1.length : Int)))) ?hg ?ho ?hn ?hr ?_; (case ho => rfl); (case hg => rfl); (case hn => rfl); (case hr => first | (go_simp; done) | (go_simp; rfl)); intro w17 hw; have hg : w15.grownBy w17 (some go13) := (by rw [hw]; exact HP16.2); have hp_ : Kd.R (Kd.int .i64) 3 w17 w.heap.size (fun k_ => some k_ ≠ (v107 : Value).ownBlock) (.slice (some ⟨go13, 0, none⟩) x4_1.length co13) y109 := (by rw [hw, Ny109.out]; exact HP16.1); clear HP16; replace HO_4 := am (hp_); replace HO108 := am (Kd.R_after (v := (.slice (some ⟨go13, 0, none⟩) x4_1.length co13)) (v1 := (.slice (some ⟨go13, 0, none⟩) x4_1.length co13)) (ok := (fun _ => True)) (by (with_reducible repeat (first | apply rA | apply rN | apply rD)); exact Kd.R_mono HO108.out (fun _ hk => ⟨trivial, hk⟩)) hg (.inl rfl)); replace HB := am ((by rw [hw]; exact below_set (HB.out) GB13.out : Below w.heap.size w w17)); clear hg hw hp_))
           go_roundg k1
           case measure => have := HK1.out; omega
           case rel => exact ⟨(y106), (y109), (wrap64 (x13_1 + 1)), (by first | rfl | (simp; done) | (simp [*]; done)), H', ⟨by have := HK1.out; omega⟩, ⟨by (with_reducible repeat (first | apply rA | apply rN | apply rD)); exact Kd.R_mono HO108.out (fun _ hk => hk.2)⟩, ⟨by (with_reducible repeat (first | apply rA | apply rN | apply rD)); exact HO_4.out⟩, ⟨by exact uW⟩⟩
          ·rw [if_neg c12] at H
           exact absurd H (by simp)
         ·rw [if_neg c11] at H
          exact absurd H (by simp)
        ·rw [if_neg c10] at H
         have c10b0 : decide (t105 < 0) = false := decide_eq_false c10
         clear c10
         by_cases c18 : x13_1 < (x4_1.length : Int)
         ·rw [if_pos c18] at H
          have c18b0 : decide (x13_1 < (x4_1.length : Int)) = true := decide_eq_true c18
          clear c18
          obtain ⟨y110, hy110⟩ : ∃ y_ : List Int, y_ = (x4_1.set (x13_1 : Int).toNat t105) := ⟨_, rfl⟩
          replace H : (impl_named.l0 k1 x3_1 y110 l0 (l0.length : Int) (wrap64 (x13_1 + 1))) = some r := by first | (rw [hy110]; with_reducible exact H) | (have H2_ := (Option.bind_some _ _).symm.trans H; rw [hy110]; with_reducible exact H2_) | (have H2_ := (Option.bind_some _ _).symm.trans H; with_reducible exact H2_) | with_reducible exact H | (rw [hy110]; exact H) | exact H
          have Ny110 := am hy110
          clear hy110
          have H' := am H
          clear H
          have p104 : 0 ≤ (x13_1 : Int) := of_decide_eq_true (by first | (with_reducible assumption) | assumption)
          have q104 : x13_1 < (l0.length : Int) := of_decide_eq_true (by first | (with_reducible assumption) | assumption)
          obtain ⟨ad104, e104, hx104_0⟩ := Kd.at_int HR0.out x13_1 p104 q104
          cases e104
          try replace hx104_0 := (HB.out.cell (World.block_lt_of_cell? w _ hx104_0)).trans hx104_0
          replace p104 := eq_true p104
          replace q104 := eq_true q104
          obtain ⟨Ao20, co20, eo20⟩ := Kd.R_slice HO_3.out
          subst eo20
          go_wp2_with (first | ((with_reducible refine gate_callee (f := 85) rfl ?_); refine uGo (some 20) Try.func85 #[.slice Ao20 x3_1.length co20, .int .i64 (rd l0 x13_1)] ?_; (with_reducible refine (slices_Index_int_int.calls k1 _ _ x3_1 (rd l0 x13_1) t105 _ ?side1 ?side2 A9.out).mono ?_); (case side1 => repeat (first | exact (Kd.R_reads' HO_3.out).2.2 | (with_reducible refine cA ?_ _) | (with_reducible refine cN ?_ _) | (with_reducible refine cD ?_))); (case side2 => exact (Kd.R_reads' HO_3.out).2.1); rintro e w' ⟨rfl, ⟨nd, rfl⟩⟩; refine ⟨_, rfl, ?_⟩; (try (rw [drewN_self wr]; generalize hq_ : World.drewN wr _ = wr; have n0_ : Aside0 (Kd.R (Kd.int .i64) 3 wr w.heap.size (fun k_ => some k_ ≠ (v102 : Value).ownBlock) (.slice Ao20 x3_1.length co20) x3_1) := ⟨by rw [← hq_]; exact (uR HO_3)⟩; have n1_ : Aside0 (Kd.R (Kd.int .i64) 3 wr w.heap.size (fun k_ => some k_ ≠ (.slice Ao20 x3_1.length co20 : Value).ownBlock) v102 x4_1) := ⟨by rw [← hq_]; exact (uR HO_4)⟩; have n2_ : Aside0 (Below w.heap.size w wr) := ⟨by rw [← hq_]; exact uW⟩; clear HO_3 HO_4 HB hq_; have HO_3 := n0_; have HO_4 := n1_; have HB := n2_; clear n0_ n1_ n2_)); have p19 : 0 ≤ (x13_1 : Int) := of_decide_eq_true (by first | (with_reducible assumption) | assumption); have q19 : (x13_1 : Int) < ((x4_1.length : Int) : Int) := of_decide_eq_true (by first | (with_reducible assumption) | assumption); obtain ⟨go19, co19, eo19, gb19, gl19, cl19, HG19⟩ := Kd.R_form HO_4.out (by omega); (first | cases eo19 | (injection eo19 with ea_ en_ ec_; (first | subst ea_ | (injection ea_ with ea_; subst ea_)); subst ec_; clear en_)); have GB19 := am gb19; have GG19 := am HG19; clear gb19 gl19 HG19; obtain ⟨hx19_0, hf19_0⟩ := Kd.R_celln 0 HO_4.out (x13_1 : Int) p19 q19; replace p19 := eq_true p19; replace q19 := eq_true q19; obtain ⟨hy21_, hz21_⟩ := Kd.R_celln 0 HO_4.out (x13_1 : Int) (of_decide_eq_true (by first | (with_reducible assumption) | assumption)) (of_decide_eq_true (by first | (with_reducible assumption) | assumption)); have HP21 := Kd.R_putg HO_4.out (x13_1 : Int) t105) | ((with_reducible refine gate_store (t := 3) (p := 32) rfl ?_); refine store_event (t := 3) (p := 32) (v := ?vo_w22) (w1 := (wr.setCell ⟨go19, (x13_1 : Int).toNat, none⟩ (.int .i64 t105))) ?hg ?ho ?hn ?hr ?_; (case ho => rfl); (case hg => rfl); (case hn => rfl); (case hr => first | (go_simp; done) | (go_simp; rfl)); intro w22 hw; have hg : wr.grownBy w22 (some go19) := (by rw [hw]; exact HP21.2); have hp_ : Kd.R (Kd.int .i64) 3 w22 w.heap.size (fun k_ => some k_ ≠ (.slice Ao20 x3_1.length co20 : Value).ownBlock) (.slice (some ⟨go19, 0, none⟩) x4_1.length co19) y110 := (by rw [hw, Ny110.out]; exact HP21.1); clear HP21; replace HO_3 := am (Kd.R_after (v := (.slice (some ⟨go19, 0, none⟩) x4_1.length co19)) (v1 := (.slice (some ⟨go19, 0, none⟩) x4_1.length co19)) (ok := (fun _ => True)) (by (with_reducible repeat (first | apply rA | apply rN | apply rD)); exact Kd.R_mono HO_3.out (fun _ hk => ⟨trivial, hk⟩)) hg (.inl rfl)); replace HO_4 := am (hp_); replace HB := am ((by rw [hw]; exact below_set (HB.out) GB19.out : Below w.heap.size w w22)); clear hg hw hp_))
          go_roundg k1
          case measure => have := HK1.out; omega
          case rel => exact ⟨(x3_1), (y110), (wrap64 (x13_1 + 1)), (by first | rfl | (simp; done) | (simp [*]; done)), H', ⟨by have := HK1.out; omega⟩, ⟨by (with_reducible repeat (first | apply rA | apply rN | apply rD)); exact Kd.R_mono HO_3.out (fun _ hk => hk.2)⟩, ⟨by (with_reducible repeat (first | apply rA | apply rN | apply rD)); exact HO_4.out⟩, ⟨by exact uW⟩⟩
         ·rw [if_neg c18] at H
          exact absurd H (by simp)
       ·rw [if_neg c8] at H
        exact absurd H (by simp)
      ·rw [if_neg c7] at H
       exact absurd H (by simp)
     ·rw [if_neg c6] at H
      have c6b0 : decide (x13_1 < (l0.length : Int)) = false := decide_eq_false c6
      clear c6
      obtain rfl := Option.some.inj H
      go_wp2
      go_ret
      exact ⟨_, uA, by (with_reducible repeat (first | apply rA | apply rN | apply rD)); exact Kd.R_mono HO_4.out (fun _ hk => trivial), by exact uW⟩
  ·rw [if_neg c3] at H
   exact absurd H (by simp)
 ·rw [if_neg c2] at H
  exact absurd H (by simp)
def laws_aSame.l0 : Nat → List Int → List Int → Int → Int → Option (Bool)
 | 0, _, _, _, _ => none
 | k + 1, x0, x1, x12, x13 => if x13 < x12 then (if 0 ≤ x13 then (if x13 < (x0.length : Int) then (if x13 < (x1.length : Int) then (if (rd x0 x13) = (rd x1 x13) then (laws_aSame.l0 k x0 x1 x12 (wrap64 (x13 + 1))) else (some false)) else (none)) else (none)) else (none)) else (some true)
def laws_aSame.f (k : Nat) (l0 : List Int) (l1 : List Int) : Option (Bool) := if (l0.length : Int) = (l1.length : Int) then (laws_aSame.l0 k l0 l1 (l0.length : Int) 0) else (some false)
theorem laws_aSame.calls (k : Nat) (A0 : Option Addr) (c0 : Nat) (l0 : List Int) (A1 : Option Addr) (c1 : Nat) (l1 : List Int) (r : Bool) (w : World) (hr0 : Kd.C (Kd.int .i64) w A0 l0.length l0) (hc0 : l0.length ≤ c0) (hr1 : Kd.C (Kd.int .i64) w A1 l1.length l1) (hc1 : l1.length ≤ c1) (h : laws_aSame.f k l0 l1 = some r) :
  Calls Try.prog 22 #[.slice A0 l0.length c0, .slice A1 l1.length c1] w fun e w' => e = .returned (.bool r) ∧ Drawn0 w w' := by
 have HR0 := am hr0
 have HC0 := am hc0
 clear hr0 hc0
 have HR1 := am hr1
 have HC1 := am hc1
 clear hr1 hc1
 have H : (if (l0.length : Int) = (l1.length : Int) then (laws_aSame.l0 k l0 l1 (l0.length : Int) 0) else (some false)) = some r := h
 clear h
 by_cases c3 : (l0.length : Int) = (l1.length : Int)
 ·rw [if_pos c3] at H
  have c3b0 : ((l0.length : Int) == (l1.length : Int)) = true := beq_iff_eq.mpr c3
  have c3b1 : ((l0.length : Int) != (l1.length : Int)) = false := bne_eq_false_iff_eq.mpr c3
  have c3b2 : (l0.length == l1.length) = true := by first | simpa using c3 | (simp at c3 ⊢; omega)
  clear c3
  have H' := am H
  clear H
  go_enter Try.func22, Try.ntmps22
  go_wp2
  repeat (go_quiet (fail); try go_wp2)
  go_loopg [13] k (fun kq v13 w' => ∃ (x13_1 : Int), v13 = .int .i64 x13_1 ∧ Aside0 (laws_aSame.l0 kq l0 l1 (l0.length : Int) x13_1 = some r) ∧ Aside0 (kq ≤ k) ∧ Drawn0 w w')
  case atStart => exact ⟨(0), (by first | rfl | (simp; done) | (simp [*]; done)), H', ⟨Nat.le_refl _⟩, by repeat (first | exact Drawn0.refl _ | apply Drawn0.step)⟩
  case round =>
   clear H'
   try clear c1
   try clear c2
   try clear p2
   try clear c3
   try clear c3b0
   try clear c3b1
   try clear c3b2
   obtain ⟨x13_1, rfl, HA, HK1, ⟨m1, rfl⟩⟩ := hrel
   cases gk with
   | zero => exact absurd HA.out (by simp [laws_aSame.l0])
   | succ k1 =>
    have H := HA.out
    clear HA
    simp only [laws_aSame.l0] at H
    by_cases c4 : x13_1 < (l0.length : Int)
    ·rw [if_pos c4] at H
     have c4b0 : decide (x13_1 < (l0.length : Int)) = true := decide_eq_true c4
     clear c4
     by_cases c5 : 0 ≤ x13_1
     ·rw [if_pos c5] at H
      have c5b0 : decide (0 ≤ x13_1) = true := decide_eq_true c5
      clear c5
      by_cases c6 : x13_1 < (l0.length : Int)
      ·rw [if_pos c6] at H
       have c6b0 : decide (x13_1 < (l0.length : Int)) = true := decide_eq_true c6
       clear c6
       by_cases c7 : x13_1 < (l1.length : Int)
       ·rw [if_pos c7] at H
        have c7b0 : decide (x13_1 < (l1.length : Int)) = true := decide_eq_true c7
        clear c7
        by_cases c8 : (rd l0 x13_1) = (rd l1 x13_1)
        ·rw [if_pos c8] at H
         have c8b0 : ((rd l0 x13_1) == (rd l1 x13_1)) = true := beq_iff_eq.mpr c8
         have c8b1 : ((rd l0 x13_1) != (rd l1 x13_1)) = false := bne_eq_false_iff_eq.mpr c8
         clear c8
         have H' := am H
         clear H
         have p101 : 0 ≤ (x13_1 : Int) := of_decide_eq_true (by first | (with_reducible assumption) | assumption)
         have q101 : x13_1 < (l0.length : Int) := of_decide_eq_true (by first | (with_reducible assumption) | assumption)
         obtain ⟨ad101, e101, hx101_0⟩ := Kd.at_int HR0.out x13_1 p101 q101
         cases e101
         replace p101 := eq_true p101
         replace q101 := eq_true q101
         have p102 : 0 ≤ (x13_1 : Int) := of_decide_eq_true (by first | (with_reducible assumption) | assumption)
         have q102 : x13_1 < (l1.length : Int) := of_decide_eq_true (by first | (with_reducible assumption) | assumption)
         obtain ⟨ad102, e102, hx102_0⟩ := Kd.at_int HR1.out x13_1 p102 q102
         cases e102
         replace p102 := eq_true p102
         replace q102 := eq_true q102
         go_wp2
         repeat (go_quiet (fail); try go_wp2)
         go_roundg k1
         case measure => have := HK1.out; omega
         case rel => exact ⟨(wrap64 (x13_1 + 1)), (by first | rfl | (simp; done) | (simp [*]; done)), H', ⟨by have := HK1.out; omega⟩, by repeat (first | exact Drawn0.refl _ | apply Drawn0.step)⟩
        ·rw [if_neg c8] at H
         have c8b0 : ((rd l0 x13_1) == (rd l1 x13_1)) = false := beq_eq_false_iff_ne.mpr c8
         have c8b1 : ((rd l0 x13_1) != (rd l1 x13_1)) = true := bne_iff_ne.mpr c8
         obtain rfl := Option.some.inj H
         have p101 : 0 ≤ (x13_1 : Int) := of_decide_eq_true (by first | (with_reducible assumption) | assumption)
         have q101 : x13_1 < (l0.length : Int) := of_decide_eq_true (by first | (with_reducible assumption) | assumption)
         obtain ⟨ad101, e101, hx101_0⟩ := Kd.at_int HR0.out x13_1 p101 q101
         cases e101
         replace p101 := eq_true p101
         replace q101 := eq_true q101
         have p102 : 0 ≤ (x13_1 : Int) := of_decide_eq_true (by first | (with_reducible assumption) | assumption)
         have q102 : x13_1 < (l1.length : Int) := of_decide_eq_true (by first | (with_reducible assumption) | assumption)
         obtain ⟨ad102, e102, hx102_0⟩ := Kd.at_int HR1.out x13_1 p102 q102
         cases e102
         replace p102 := eq_true p102
         replace q102 := eq_true q102
         go_wp2
         repeat (go_quiet (fail); try go_wp2)
         go_ret
         exact ⟨by first | rfl | (simp; done) | (simp [*]; done), by repeat (first | exact Drawn0.refl _ | apply Drawn0.step)⟩
       ·rw [if_neg c7] at H
        exact absurd H (by simp)
      ·rw [if_neg c6] at H
       exact absurd H (by simp)
     ·rw [if_neg c5] at H
      exact absurd H (by simp)
    ·rw [if_neg c4] at H
     have c4b0 : decide (x13_1 < (l0.length : Int)) = false := decide_eq_false c4
     clear c4
     obtain rfl := Option.some.inj H
     go_wp2
     repeat (go_quiet (fail); try go_wp2)
     go_ret
     exact ⟨by first | rfl | (simp; done) | (simp [*]; done), by repeat (first | exact Drawn0.refl _ | apply Drawn0.step)⟩
 ·rw [if_neg c3] at H
  have c3b0 : ((l0.length : Int) == (l1.length : Int)) = false := beq_eq_false_iff_ne.mpr c3
  have c3b1 : ((l0.length : Int) != (l1.length : Int)) = true := bne_iff_ne.mpr c3
  have c3b2 : (l0.length == l1.length) = false := by first | simpa using c3 | (simp at c3 ⊢; omega)
  obtain rfl := Option.some.inj H
  go_enter Try.func22, Try.ntmps22
  go_wp2
  repeat (go_quiet (fail); try go_wp2)
  go_ret
  exact ⟨by first | rfl | (simp; done) | (simp [*]; done), by repeat (first | exact Drawn0.refl _ | apply Drawn0.step)⟩
def spec_AreParcels.f (k : Nat) (l0 : List (S45)) : Option (Bool) := (spec_bgGood.f k l0).bind fun t101 => (some t101)
theorem spec_AreParcels.calls (k : Nat) (A0 : Option Addr) (c0 : Nat) (l0 : List (S45)) (r : Bool) (w : World) (hr0 : Kd.C k45 w A0 l0.length l0) (hc0 : l0.length ≤ c0) (h : spec_AreParcels.f k l0 = some r) :
  Calls Try.prog 24 #[.slice A0 l0.length c0] w fun e w' => e = .returned (.bool r) ∧ Below w.heap.size w w' := by
 have HR0 := am hr0
 have HC0 := am hc0
 clear hr0 hc0
 have HB := am (Below.refl w.heap.size w)
 have H : ((spec_bgGood.f k l0).bind fun t101 => (some t101)) = some r := h
 clear h
 replace H := bH H
 obtain ⟨t101, A20, H⟩ := H
 replace H : (some t101) = some r := H
 have A2 := am A20
 clear A20
 obtain rfl := Option.some.inj H
 go_enter Try.func24, Try.ntmps24
 go_wp2_with (first | ((with_reducible refine gate_callee (f := 60) rfl ?_); refine uGo (some 4) Try.func60 #[.slice A0 l0.length c0] ?_; (with_reducible refine (spec_bgGood.calls k _ _ l0 t101 _ ?side1 ?side2 A2.out).mono ?_); (case side1 => repeat (first | exact HR0.out | (with_reducible refine cA ?_ _) | (with_reducible refine cN ?_ _) | (with_reducible refine cD ?_))); (case side2 => exact HC0.out); rintro e w3 ⟨rfl, hb⟩; refine ⟨_, rfl, ?_⟩; replace HB := uS hb; (try clear hb); (try clear hb2); (try clear hk); (try clear hi)))
 go_ret
 exact ⟨uA, by exact uW⟩
def impl_weightsOf.l0 : Nat → List (S45) → List Int → List Int → Int → Int → Option (List Int)
 | 0, _, _, _, _, _ => none
 | k + 1, x0, x5, x12, x13, x14 => if x14 < x13 then (if 0 ≤ x14 then (if x14 < (x12.length : Int) then (if 0 ≤ (rd x12 x14) then (if (rd x12 x14) < (x5.length : Int) then (if x14 < (x0.length : Int) then (impl_weightsOf.l0 k x0 (x5.set ((rd x12 x14) : Int).toNat (wrap64 ((rd x5 (rd x12 x14)) + ((rd_T45 x0 x14).f1)))) x12 x13 (wrap64 (x14 + 1))) else (none)) else (none)) else (none)) else (none)) else (none)) else (some x5)
def impl_weightsOf.f (k : Nat) (l0 : List (S45)) (l1 : List Int) : Option (List Int) := (slices_Max_int_int.f l1).bind fun t101 => (if 0 ≤ (wrap64 (t101 + 1)) then (if (wrap64 (t101 + 1) : Int).toNat ≤ 35184372088832 then (impl_weightsOf.l0 k l0 (List.replicate (wrap64 (t101 + 1) : Int).toNat 0) l1 (l1.length : Int) 0) else (none)) else (none))
def impl_weightsOf.T5 : Bool × List (List Nat × List Nat) := (true, [([], []), ([], []), ([0, 1], [0, 1]), ([2], [2]), ([], []), ([], []), ([4, 5], [4, 5]), ([6], [6]), ([7], [7]), ([3, 8], [3, 8]), ([0, 1, 0, 1, 2, 3, 4, 5, 6, 7, 8, 9], [0, 1]), ([10, 9, 0, 1, 2, 3, 4, 5, 6, 7, 8, 9], [9, 10])])
def impl_weightsOf.B5 : List Nat := [0, 0, 3, 7, 0, 0, 48, 112, 240, 511, 1023, 2047]
theorem impl_weightsOf.tab5 : rtab .any (opsOf Try.f65 5) = impl_weightsOf.T5 := by kernel_rfl
theorem impl_weightsOf.bits5 : waitsOk impl_weightsOf.T5.2 impl_weightsOf.B5 = true := by kernel_rfl
theorem impl_weightsOf.calls (k : Nat) (A0 : Option Addr) (c0 : Nat) (l0 : List (S45)) (A1 : Option Addr) (c1 : Nat) (l1 : List Int) (r : List Int) (w : World) (hr0 : Kd.C k45 w A0 l0.length l0) (hc0 : l0.length ≤ c0) (hr1 : Kd.C (Kd.int .i64) w A1 l1.length l1) (hc1 : l1.length ≤ c1) (h : impl_weightsOf.f k l0 l1 = some r) :
  Calls Try.prog 65 #[.slice A0 l0.length c0, .slice A1 l1.length c1] w fun e w' => ∃ v0_ : Value, e = .returned (v0_) ∧ Kd.R (Kd.int .i64) 3 w' w.heap.size (fun _ => True) v0_ r ∧ Below w.heap.size w w' := by
 have HR0 := am hr0
 have HC0 := am hc0
 clear hr0 hc0
 have HR1 := am hr1
 have HC1 := am hc1
 clear hr1 hc1
 have HB := am (Below.refl w.heap.size w)
 have H : ((slices_Max_int_int.f l1).bind fun t101 => (if 0 ≤ (wrap64 (t101 + 1)) then (if (wrap64 (t101 + 1) : Int).toNat ≤ 35184372088832 then (impl_weightsOf.l0 k l0 (List.replicate (wrap64 (t101 + 1) : Int).toNat 0) l1 (l1.length : Int) 0) else (none)) else (none))) = some r := h
 clear h
 replace H := bH H
 obtain ⟨t101, A30, H⟩ := H
 replace H : (if 0 ≤ (wrap64 (t101 + 1)) then (if (wrap64 (t101 + 1) : Int).toNat ≤ 35184372088832 then (impl_weightsOf.l0 k l0 (List.replicate (wrap64 (t101 + 1) : Int).toNat 0) l1 (l1.length : Int) 0) else (none)) else (none)) = some r := H
 have A3 := am A30
 clear A30
 obtain ⟨ji4, hji4⟩ : ∃ j_ : Int, (wrap64 (t101 + 1)) = j_ := ⟨_, rfl⟩
 replace H : (if 0 ≤ (ji4) then (if (ji4 : Int).toNat ≤ 35184372088832 then (impl_weightsOf.l0 k l0 (List.replicate (ji4 : Int).toNat 0) l1 (l1.length : Int) 0) else (none)) else (none)) = some r := by first | (rw [hji4] at H; exact H) | (simp only [hji4] at H ⊢; exact H)
 (try rw [hji4] at A3)
 have hji4w : (IntKind.i64.wrap (t101 + 1)) = ji4 := (i64_w _).trans hji4
 by_cases c5 : 0 ≤ (ji4)
 ·rw [if_pos c5] at H
  have c5b0 := eq_true c5
  have c5b1 : decide (0 ≤ (ji4)) = true := decide_eq_true c5
  clear c5
  by_cases c6 : (ji4 : Int).toNat ≤ 35184372088832
  ·rw [if_pos c6] at H
   have c6b0 := eq_true c6
   have c6b1 : decide ((ji4 : Int).toNat ≤ 35184372088832) = true := decide_eq_true c6
   clear c6
   obtain ⟨y102, hy102⟩ : ∃ y_ : List Int, y_ = (List.replicate (ji4 : Int).toNat 0) := ⟨_, rfl⟩
   replace H : (impl_weightsOf.l0 k l0 y102 l1 (l1.length : Int) 0) = some r := by first | (rw [hy102]; with_reducible exact H) | (have H2_ := (Option.bind_some _ _).symm.trans H; rw [hy102]; with_reducible exact H2_) | (have H2_ := (Option.bind_some _ _).symm.trans H; with_reducible exact H2_) | with_reducible exact H | (rw [hy102]; exact H) | exact H
   have Ny102 := am hy102
   clear hy102
   have H' := am H
   clear H
   go_enter Try.func65, Try.ntmps65
   go_wp2_with (first | ((with_reducible refine gate_callee (f := 64) rfl ?_); refine uGo (some 9) Try.func64 #[.slice A1 l1.length c1] ?_; (with_reducible refine (slices_Max_int_int.calls _ _ l1 t101 _ ?side1 ?side2 A3.out).mono ?_); (case side1 => repeat (first | exact HR1.out | (with_reducible refine cA ?_ _) | (with_reducible refine cN ?_ _) | (with_reducible refine cD ?_))); (case side2 => exact HC1.out); rintro e w' ⟨rfl, ⟨nd, rfl⟩⟩; refine ⟨_, rfl, ?_⟩) | ((with_reducible refine gate_dst (N := 11) rfl ?_); refine Kd.R_make (Kd.int .i64) _ 3 rfl (N := 11) rfl 27 _ _ rfl ji4 rfl rfl Try.underlying27 (.int .i64 0) 8 info3 rfl (by decide) (by omega) 0 (ok := fun _ => True) (okp := fun _ => True) rfl (fun _ hk => hk) trivial (of_decide_eq_true (by first | (with_reducible assumption) | assumption)) (Nat.le_trans (Nat.mul_le_mul_right _ (of_decide_eq_true (by first | (with_reducible assumption) | assumption) : ji4.toNat ≤ 35184372088832)) (by omega)) (Below.refl _ _) (Nat.le_refl _) ?_; intro v103 w7 ho8 hb hg_ hnew_; clear hg_ hnew_; (first | rw [← Ny102.out] at ho8 | (simp only [Int.reduceToNat] at ho8; rw [← Ny102.out] at ho8)); have HO104 := am (Kd.R_lower ho8 (below_size uW)); replace HB := uS hb; clear hb ho8))
   go_loopg [14] k (fun kq v14 w' => ∃ (x5_1 : List Int) (x14_1 : Int), v14 = .int .i64 x14_1 ∧ Aside0 (impl_weightsOf.l0 kq l0 x5_1 l1 (l1.length : Int) x14_1 = some r) ∧ Aside0 (kq ≤ k) ∧ Aside0 (Kd.R (Kd.int .i64) 3 w' w.heap.size (fun _ => True) v103 x5_1) ∧ Aside0 (Below w.heap.size w w'))
   case atStart => exact ⟨(y102), (0), (by first | rfl | (simp; done) | (simp [*]; done)), H', ⟨Nat.le_refl _⟩, ⟨by (with_reducible repeat (first | apply rA | apply rN | apply rD)); exact HO104.out⟩, ⟨by exact uW⟩⟩
   case round =>
    clear H'
    try clear c1
    try clear p2
    try clear c5
    try clear c5b0
    try clear c5b1
    try clear c6
    try clear c6b0
    try clear c6b1
    try clear p6
    obtain ⟨x5_1, x14_1, rfl, HA, HK1, HO_5, HB⟩ := hrel
    cases gk with
    | zero => exact absurd HA.out (by simp [impl_weightsOf.l0])
    | succ k1 =>
     have H := HA.out
     clear HA
     simp only [impl_weightsOf.l0] at H
     by_cases c9 : x14_1 < (l1.length : Int)
     ·rw [if_pos c9] at H
      have c9b0 : decide (x14_1 < (l1.length : Int)) = true := decide_eq_true c9
      clear c9
      by_cases c10 : 0 ≤ x14_1
      ·rw [if_pos c10] at H
       have c10b0 : decide (0 ≤ x14_1) = true := decide_eq_true c10
       clear c10
       by_cases c11 : x14_1 < (l1.length : Int)
       ·rw [if_pos c11] at H
        have c11b0 : decide (x14_1 < (l1.length : Int)) = true := decide_eq_true c11
        clear c11
        by_cases c12 : 0 ≤ (rd l1 x14_1)
        ·rw [if_pos c12] at H
         have c12b0 : decide (0 ≤ (rd l1 x14_1)) = true := decide_eq_true c12
         clear c12
         by_cases c13 : (rd l1 x14_1) < (x5_1.length : Int)
         ·rw [if_pos c13] at H
          have c13b0 : decide ((rd l1 x14_1) < (x5_1.length : Int)) = true := decide_eq_true c13
          clear c13
          by_cases c14 : x14_1 < (l0.length : Int)
          ·rw [if_pos c14] at H
           have c14b0 : decide (x14_1 < (l0.length : Int)) = true := decide_eq_true c14
           clear c14
           obtain ⟨y108, hy108⟩ : ∃ y_ : List Int, y_ = (x5_1.set ((rd l1 x14_1) : Int).toNat (wrap64 ((rd x5_1 (rd l1 x14_1)) + ((rd_T45 l0 x14_1).f1)))) := ⟨_, rfl⟩
           replace H : (impl_weightsOf.l0 k1 l0 y108 l1 (l1.length : Int) (wrap64 (x14_1 + 1))) = some r := by first | (rw [hy108]; with_reducible exact H) | (have H2_ := (Option.bind_some _ _).symm.trans H; rw [hy108]; with_reducible exact H2_) | (have H2_ := (Option.bind_some _ _).symm.trans H; with_reducible exact H2_) | with_reducible exact H | (rw [hy108]; exact H) | exact H
           have Ny108 := am hy108
           clear hy108
           have H' := am H
           clear H
           have p105 : 0 ≤ (x14_1 : Int) := of_decide_eq_true (by first | (with_reducible assumption) | assumption)
           have q105 : x14_1 < (l1.length : Int) := of_decide_eq_true (by first | (with_reducible assumption) | assumption)
           obtain ⟨ad105, e105, hx105_0⟩ := Kd.at_int HR1.out x14_1 p105 q105
           cases e105
           try replace hx105_0 := (HB.out.cell (World.block_lt_of_cell? w _ hx105_0)).trans hx105_0
           replace p105 := eq_true p105
           replace q105 := eq_true q105
           try go_wp2
           replace HO_5 := am (Kd.R_drew HO_5.out)
           replace HB := am (below_drew1 HB.out)
           obtain ⟨Ao17, co17, eo17⟩ := Kd.R_slice HO_5.out
           (first | subst eo17 | (injection eo17 with f1_ f2_ f3_; have f4_ := f1_.symm; have f5_ := f3_.symm; clear f1_ f2_ f3_; subst f4_; subst f5_))
           have p106 : 0 ≤ ((rd l1 x14_1) : Int) := of_decide_eq_true (by first | (with_reducible assumption) | assumption)
           have q106 : (rd l1 x14_1) < (x5_1.length : Int) := of_decide_eq_true (by first | (with_reducible assumption) | assumption)
           obtain ⟨ad106, e106, hx106_0⟩ := Kd.at_int (Kd.R_reads' HO_5.out).2.2 (rd l1 x14_1) p106 q106
           cases e106
           replace p106 := eq_true p106
           replace q106 := eq_true q106
           have p107 : 0 ≤ (x14_1 : Int) := of_decide_eq_true (by first | (with_reducible assumption) | assumption)
           have q107 : x14_1 < (l0.length : Int) := of_decide_eq_true (by first | (with_reducible assumption) | assumption)
           obtain ⟨ad107, e107, hx107_0, hx107_1⟩ := at_T45 HR0.out x14_1 p107 q107
           have hw107_1 := hx107_1
           have hw107_0 := hx107_0
           cases e107
           try replace hx107_0 := (HB.out.cell (World.block_lt_of_cell? w _ hx107_0)).trans hx107_0
           try replace hx107_1 := (HB.out.cell (World.block_lt_of_cell? w _ hx107_1)).trans hx107_1
           replace p107 := eq_true p107
           replace q107 := eq_true q107
           have p15 : 0 ≤ ((rd l1 x14_1) : Int) := of_decide_eq_true (by first | (with_reducible assumption) | assumption)
           have q15 : ((rd l1 x14_1) : Int) < ((x5_1.length : Int) : Int) := of_decide_eq_true (by first | (with_reducible assumption) | assumption)
           obtain ⟨go15, co15, eo15, gb15, gl15, cl15, HG15⟩ := Kd.R_form HO_5.out (by omega)
           (first | cases eo15 | (injection eo15 with ea_ en_ ec_; (first | subst ea_ | (injection ea_ with ea_; subst ea_)); subst ec_; clear en_))
           have GB15 := am gb15
           have GG15 := am HG15
           clear gb15 gl15 HG15
           (first | simp only [add_plain] at hx106_0 | skip)
           obtain ⟨hx15_0, hf15_0⟩ := Kd.R_celln 0 HO_5.out ((rd l1 x14_1) : Int) p15 q15
           replace p15 := eq_true p15
           replace q15 := eq_true q15
           have HP18 := Kd.R_putn HO_5.out ((rd l1 x14_1) : Int) (wrap64 ((rd x5_1 (rd l1 x14_1)) + ((rd_T45 l0 x14_1).f1)))
           rw [← Ny108.out] at HP18
           have HQ18 := am HP18
           clear HP18
           refine start_ (n := 12) (S := fun w' => w'.cell? ⟨go15, ((rd l1 x14_1)).toNat, none⟩ = some (.int .i64 (rd x5_1 (rd l1 x14_1))) ∧ w'.cell? (ad107.add ((x14_1).toNat * 2)) = some (.int .i64 ((rd_T45 l0 x14_1).f0)) ∧ w'.cell? ⟨(ad107.add ((x14_1).toNat * 2)).block, (ad107.add ((x14_1).toNat * 2)).off + 1, none⟩ = some (.int .i64 ((rd_T45 l0 x14_1).f1))) (ds := [11]) #[false, false, false, false, false, false, false, false, false, false, false, false] (by kernel_rfl) rfl rfl ⟨hx106_0, ((HB.out.cell (World.block_lt_of_cell? w _ hw107_0)).trans hw107_0), ((HB.out.cell (World.block_lt_of_cell? w _ hw107_1)).trans hw107_1)⟩ (fun hHeld => ?_); refine with_tabW impl_weightsOf.tab5 impl_weightsOf.bits5 (fun HT_ HW_ => ?_)
           generalize wr.drew = w16 at HO_5 HB GG15 HQ18 hf15_0 hx106_0 hx107_0 hx107_1 hx15_0 hHeld ⊢
           refine uPu (i := 0) (N := some 19) #[true, false, false, false, false, false, false, false, false, false, false, false] ?_
           refine uPu (i := 1) (N := some 20) #[true, true, false, false, false, false, false, false, false, false, false, false] ?_
           refine uPu (i := 2) (N := some 21) #[true, true, true, false, false, false, false, false, false, false, false, false] ?_
           refine uPu (i := 4) (N := some 23) #[true, true, true, false, true, false, false, false, false, false, false, false] ?_
           refine uPu (i := 5) (N := some 24) #[true, true, true, false, true, true, false, false, false, false, false, false] ?_
           refine uPu (i := 6) (N := some 25) #[true, true, true, false, true, true, true, false, false, false, false, false] ?_
           refine uPu (i := 7) (N := some 26) #[true, true, true, false, true, true, true, true, false, false, false, false] ?_
           refine uTk (i := 3) (N := some 22) #[true, true, true, true, true, true, true, true, false, false, false, false] hHeld ?_
           refine uTk (i := 8) (N := some 27) #[true, true, true, true, true, true, true, true, true, false, false, false] hHeld ?_
           refine uPu (i := 9) (N := some 28) #[true, true, true, true, true, true, true, true, true, true, false, false] ?_
           refine uPu (i := 10) (N := some 29) #[true, true, true, true, true, true, true, true, true, true, true, false] ?_
           refine last_ (i := 11) (N := none) #[true, true, true, true, true, true, true, true, true, true, true, true] rfl rfl (one_of HT_.out (by kernel_rfl)) (by decide) (fun K hK => ?_)
           refine skip_ (w1 := ?_) (by rfl) rfl ?_ ?_
           rotate_left
           ·go_simp
            rfl
           refine hK.out _ _ ?_
           clear hK K
           refine done_ (done_of HT_.out (by kernel_rfl)) ?_
           try go_wp2
           go_roundg k1
           case measure => have := HK1.out; omega
           case rel => exact ⟨(y108), (wrap64 (x14_1 + 1)), (by first | rfl | (simp; done) | (simp [*]; done)), H', ⟨by have := HK1.out; omega⟩, ⟨by (with_reducible repeat (first | apply rA | apply rN | apply rD)); exact HQ18.out⟩, ⟨by repeat (first | (with_reducible first | exact HB.out | apply below_alloc | apply pw_below_drewN | apply below_drew1 | refine below_set ?_ GB15.out) | exact HB.out)⟩⟩
          ·rw [if_neg c14] at H
           exact absurd H (by simp)
         ·rw [if_neg c13] at H
          exact absurd H (by simp)
        ·rw [if_neg c12] at H
         exact absurd H (by simp)
       ·rw [if_neg c11] at H
        exact absurd H (by simp)
      ·rw [if_neg c10] at H
       exact absurd H (by simp)
     ·rw [if_neg c9] at H
      have c9b0 : decide (x14_1 < (l1.length : Int)) = false := decide_eq_false c9
      clear c9
      obtain rfl := Option.some.inj H
      go_wp2
      go_ret
      exact ⟨_, by first | rfl | (simp [errW_none, errW_some] <;> rfl) | (simp only [← hji4]; first | rfl | (simp [errW_none, errW_some] <;> rfl)) | (simp [*, errW_none, errW_some] <;> rfl), by (with_reducible repeat (first | apply rA | apply rN | apply rD)); exact HO_5.out, by exact uW⟩
  ·rw [if_neg c6] at H
   exact absurd H (by simp)
 ·rw [if_neg c5] at H
  exact absurd H (by simp)
def slices_Equal_int_int.l0 : Nat → List Int → List Int → Int → Int → Option (Bool)
 | 0, _, _, _, _ => none
 | k + 1, x0, x1, x12, x13 => if x13 < x12 then (if 0 ≤ x13 then (if x13 < (x0.length : Int) then (if x13 < (x1.length : Int) then (if (rd x0 x13) = (rd x1 x13) then (slices_Equal_int_int.l0 k x0 x1 x12 (wrap64 (x13 + 1))) else (some false)) else (none)) else (none)) else (none)) else (some true)
def slices_Equal_int_int.f (k : Nat) (l0 : List Int) (l1 : List Int) : Option (Bool) := if (l0.length : Int) = (l1.length : Int) then (slices_Equal_int_int.l0 k l0 l1 (l0.length : Int) 0) else (some false)
theorem slices_Equal_int_int.calls (k : Nat) (A0 : Option Addr) (c0 : Nat) (l0 : List Int) (A1 : Option Addr) (c1 : Nat) (l1 : List Int) (r : Bool) (w : World) (hr0 : Kd.C (Kd.int .i64) w A0 l0.length l0) (hc0 : l0.length ≤ c0) (hr1 : Kd.C (Kd.int .i64) w A1 l1.length l1) (hc1 : l1.length ≤ c1) (h : slices_Equal_int_int.f k l0 l1 = some r) :
  Calls Try.prog 87 #[.slice A0 l0.length c0, .slice A1 l1.length c1] w fun e w' => e = .returned (.bool r) ∧ Drawn0 w w' := by
 have HR0 := am hr0
 have HC0 := am hc0
 clear hr0 hc0
 have HR1 := am hr1
 have HC1 := am hc1
 clear hr1 hc1
 have H : (if (l0.length : Int) = (l1.length : Int) then (slices_Equal_int_int.l0 k l0 l1 (l0.length : Int) 0) else (some false)) = some r := h
 clear h
 by_cases c3 : (l0.length : Int) = (l1.length : Int)
 ·rw [if_pos c3] at H
  have c3b0 : ((l0.length : Int) == (l1.length : Int)) = true := beq_iff_eq.mpr c3
  have c3b1 : ((l0.length : Int) != (l1.length : Int)) = false := bne_eq_false_iff_eq.mpr c3
  have c3b2 : (l0.length == l1.length) = true := by first | simpa using c3 | (simp at c3 ⊢; omega)
  clear c3
  have H' := am H
  clear H
  go_enter Try.func87, Try.ntmps87
  go_wp2
  repeat (go_quiet (fail); try go_wp2)
  go_loopg [13] k (fun kq v13 w' => ∃ (x13_1 : Int), v13 = .int .i64 x13_1 ∧ Aside0 (slices_Equal_int_int.l0 kq l0 l1 (l0.length : Int) x13_1 = some r) ∧ Aside0 (kq ≤ k) ∧ Drawn0 w w')
  case atStart => exact ⟨(0), (by first | rfl | (simp; done) | (simp [*]; done)), H', ⟨Nat.le_refl _⟩, by repeat (first | exact Drawn0.refl _ | apply Drawn0.step)⟩
  case round =>
   clear H'
   try clear c1
   try clear p2
   try clear c3
   try clear c3b0
   try clear c3b1
   try clear c3b2
   obtain ⟨x13_1, rfl, HA, HK1, ⟨m1, rfl⟩⟩ := hrel
   cases gk with
   | zero => exact absurd HA.out (by simp [slices_Equal_int_int.l0])
   | succ k1 =>
    have H := HA.out
    clear HA
    simp only [slices_Equal_int_int.l0] at H
    by_cases c4 : x13_1 < (l0.length : Int)
    ·rw [if_pos c4] at H
     have c4b0 : decide (x13_1 < (l0.length : Int)) = true := decide_eq_true c4
     clear c4
     by_cases c5 : 0 ≤ x13_1
     ·rw [if_pos c5] at H
      have c5b0 : decide (0 ≤ x13_1) = true := decide_eq_true c5
      clear c5
      by_cases c6 : x13_1 < (l0.length : Int)
      ·rw [if_pos c6] at H
       have c6b0 : decide (x13_1 < (l0.length : Int)) = true := decide_eq_true c6
       clear c6
       by_cases c7 : x13_1 < (l1.length : Int)
       ·rw [if_pos c7] at H
        have c7b0 : decide (x13_1 < (l1.length : Int)) = true := decide_eq_true c7
        clear c7
        by_cases c8 : (rd l0 x13_1) = (rd l1 x13_1)
        ·rw [if_pos c8] at H
         have c8b0 : ((rd l0 x13_1) == (rd l1 x13_1)) = true := beq_iff_eq.mpr c8
         have c8b1 : ((rd l0 x13_1) != (rd l1 x13_1)) = false := bne_eq_false_iff_eq.mpr c8
         clear c8
         have H' := am H
         clear H
         have p101 : 0 ≤ (x13_1 : Int) := of_decide_eq_true (by first | (with_reducible assumption) | assumption)
         have q101 : x13_1 < (l0.length : Int) := of_decide_eq_true (by first | (with_reducible assumption) | assumption)
         obtain ⟨ad101, e101, hx101_0⟩ := Kd.at_int HR0.out x13_1 p101 q101
         cases e101
         replace p101 := eq_true p101
         replace q101 := eq_true q101
         have p102 : 0 ≤ (x13_1 : Int) := of_decide_eq_true (by first | (with_reducible assumption) | assumption)
         have q102 : x13_1 < (l1.length : Int) := of_decide_eq_true (by first | (with_reducible assumption) | assumption)
         obtain ⟨ad102, e102, hx102_0⟩ := Kd.at_int HR1.out x13_1 p102 q102
         cases e102
         replace p102 := eq_true p102
         replace q102 := eq_true q102
         go_wp2
         repeat (go_quiet (fail); try go_wp2)
         go_roundg k1
         case measure => have := HK1.out; omega
         case rel => exact ⟨(wrap64 (x13_1 + 1)), (by first | rfl | (simp; done) | (simp [*]; done)), H', ⟨by have := HK1.out; omega⟩, by repeat (first | exact Drawn0.refl _ | apply Drawn0.step)⟩
        ·rw [if_neg c8] at H
         have c8b0 : ((rd l0 x13_1) == (rd l1 x13_1)) = false := beq_eq_false_iff_ne.mpr c8
         have c8b1 : ((rd l0 x13_1) != (rd l1 x13_1)) = true := bne_iff_ne.mpr c8
         obtain rfl := Option.some.inj H
         have p101 : 0 ≤ (x13_1 : Int) := of_decide_eq_true (by first | (with_reducible assumption) | assumption)
         have q101 : x13_1 < (l0.length : Int) := of_decide_eq_true (by first | (with_reducible assumption) | assumption)
         obtain ⟨ad101, e101, hx101_0⟩ := Kd.at_int HR0.out x13_1 p101 q101
         cases e101
         replace p101 := eq_true p101
         replace q101 := eq_true q101
         have p102 : 0 ≤ (x13_1 : Int) := of_decide_eq_true (by first | (with_reducible assumption) | assumption)
         have q102 : x13_1 < (l1.length : Int) := of_decide_eq_true (by first | (with_reducible assumption) | assumption)
         obtain ⟨ad102, e102, hx102_0⟩ := Kd.at_int HR1.out x13_1 p102 q102
         cases e102
         replace p102 := eq_true p102
         replace q102 := eq_true q102
         go_wp2
         repeat (go_quiet (fail); try go_wp2)
         go_ret
         exact ⟨by first | rfl | (simp; done) | (simp [*]; done), by repeat (first | exact Drawn0.refl _ | apply Drawn0.step)⟩
       ·rw [if_neg c7] at H
        exact absurd H (by simp)
      ·rw [if_neg c6] at H
       exact absurd H (by simp)
     ·rw [if_neg c5] at H
      exact absurd H (by simp)
    ·rw [if_neg c4] at H
     have c4b0 : decide (x13_1 < (l0.length : Int)) = false := decide_eq_false c4
     clear c4
     obtain rfl := Option.some.inj H
     go_wp2
     repeat (go_quiet (fail); try go_wp2)
     go_ret
     exact ⟨by first | rfl | (simp; done) | (simp [*]; done), by repeat (first | exact Drawn0.refl _ | apply Drawn0.step)⟩
 ·rw [if_neg c3] at H
  have c3b0 : ((l0.length : Int) == (l1.length : Int)) = false := beq_eq_false_iff_ne.mpr c3
  have c3b1 : ((l0.length : Int) != (l1.length : Int)) = true := bne_iff_ne.mpr c3
  have c3b2 : (l0.length == l1.length) = false := by first | simpa using c3 | (simp at c3 ⊢; omega)
  obtain rfl := Option.some.inj H
  go_enter Try.func87, Try.ntmps87
  go_wp2
  repeat (go_quiet (fail); try go_wp2)
  go_ret
  exact ⟨by first | rfl | (simp; done) | (simp [*]; done), by repeat (first | exact Drawn0.refl _ | apply Drawn0.step)⟩
def impl_isBagPlan.f (k : Nat) (l0 : List (S45)) (a1 : Int) (l2 : List Int) : Option (Bool) := if (l2.length : Int) = (l0.length : Int) then ((impl_named.f k l2).bind fun t101 => ((slices_Equal_int_int.f k t101 l2).bind fun t104 => (if t104 = true then ((impl_weightsOf.f k l0 l2).bind fun t105 => ((slices_Max_int_int.f t105).bind fun t108 => (some (decide (t108 ≤ a1))))) else (some false)))) else (some false)
theorem impl_isBagPlan.calls (k : Nat) (A0 : Option Addr) (c0 : Nat) (l0 : List (S45)) (a1 : Int) (A2 : Option Addr) (c2 : Nat) (l2 : List Int) (r : Bool) (w : World) (hr0 : Kd.C k45 w A0 l0.length l0) (hc0 : l0.length ≤ c0) (hr2 : Kd.C (Kd.int .i64) w A2 l2.length l2) (hc2 : l2.length ≤ c2) (h : impl_isBagPlan.f k l0 a1 l2 = some r) :
  Calls Try.prog 61 #[.slice A0 l0.length c0, .int .i64 a1, .slice A2 l2.length c2] w fun e w' => e = .returned (.bool r) ∧ Below w.heap.size w w' := by
 have HR0 := am hr0
 have HC0 := am hc0
 clear hr0 hc0
 have HR2 := am hr2
 have HC2 := am hc2
 clear hr2 hc2
 have HB := am (Below.refl w.heap.size w)
 have H : (if (l2.length : Int) = (l0.length : Int) then ((impl_named.f k l2).bind fun t101 => ((slices_Equal_int_int.f k t101 l2).bind fun t104 => (if t104 = true then ((impl_weightsOf.f k l0 l2).bind fun t105 => ((slices_Max_int_int.f t105).bind fun t108 => (some (decide (t108 ≤ a1))))) else (some false)))) else (some false)) = some r := h
 clear h
 by_cases c4 : (l2.length : Int) = (l0.length : Int)
 ·rw [if_pos c4] at H
  have c4b0 : ((l2.length : Int) == (l0.length : Int)) = true := beq_iff_eq.mpr c4
  have c4b1 : ((l2.length : Int) != (l0.length : Int)) = false := bne_eq_false_iff_eq.mpr c4
  have c4b2 : (l2.length == l0.length) = true := by first | simpa using c4 | (simp at c4 ⊢; omega)
  clear c4
  replace H := bH H
  obtain ⟨t101, A50, H⟩ := H
  replace H : ((slices_Equal_int_int.f k t101 l2).bind fun t104 => (if t104 = true then ((impl_weightsOf.f k l0 l2).bind fun t105 => ((slices_Max_int_int.f t105).bind fun t108 => (some (decide (t108 ≤ a1))))) else (some false))) = some r := H
  have A5 := am A50
  clear A50
  replace H := bH H
  obtain ⟨t104, A60, H⟩ := H
  replace H : (if t104 = true then ((impl_weightsOf.f k l0 l2).bind fun t105 => ((slices_Max_int_int.f t105).bind fun t108 => (some (decide (t108 ≤ a1))))) else (some false)) = some r := H
  have A6 := am A60
  clear A60
  by_cases c7 : t104 = true
  ·subst c7
   have H1 : ((impl_weightsOf.f k l0 l2).bind fun t105 => ((slices_Max_int_int.f t105).bind fun t108 => (some (decide (t108 ≤ a1))))) = some r := by rw [if_pos rfl] at H; exact H
   clear H
   have H := H1
   clear H1
   replace H := bH H
   obtain ⟨t105, A80, H⟩ := H
   replace H : ((slices_Max_int_int.f t105).bind fun t108 => (some (decide (t108 ≤ a1)))) = some r := H
   have A8 := am A80
   clear A80
   replace H := bH H
   obtain ⟨t108, A90, H⟩ := H
   replace H : (some (decide (t108 ≤ a1))) = some r := H
   have A9 := am A90
   clear A90
   obtain rfl := Option.some.inj H
   go_enter Try.func61, Try.ntmps61
   go_wp2_with (first | (go_at_call 54; (with_reducible refine (impl_named.calls k _ _ l2 t101 _ ?side1 ?side2 A5.out).mono ?_); (case side1 => repeat (first | exact HR2.out | (with_reducible refine cA ?_ _) | (with_reducible refine cN ?_ _) | (with_reducible refine cD ?_))); (case side2 => exact HC2.out); rintro e w10 ⟨v102, rfl, ho0, hb⟩; have HO103 := am (Kd.R_lower ho0 (below_size uW)); replace HB := uS hb; (try clear hb); (try clear hb2); (try clear hk); (try clear hi); (try clear ho0); obtain ⟨Ao11, co11, eo11⟩ := Kd.R_slice HO103.out; subst eo11) | (go_at_call 87; (with_reducible refine (slices_Equal_int_int.calls k _ _ t101 _ _ l2 true _ ?side1 ?side2 ?side3 ?side4 A6.out).mono ?_); (case side1 => repeat (first | exact (Kd.R_reads' HO103.out).2.2 | (with_reducible refine cA ?_ _) | (with_reducible refine cN ?_ _) | (with_reducible refine cD ?_))); (case side2 => exact (Kd.R_reads' HO103.out).2.1); (case side3 => repeat (first | exact (Kd.C_below HR2.out HB.out) | (with_reducible refine cA ?_ _) | (with_reducible refine cN ?_ _) | (with_reducible refine cD ?_))); (case side4 => exact HC2.out); rintro e w' ⟨rfl, ⟨nd, rfl⟩⟩) | (go_at_call 65; (with_reducible refine (impl_weightsOf.calls k _ _ l0 _ _ l2 t105 _ ?side1 ?side2 ?side3 ?side4 A8.out).mono ?_); (case side1 => repeat (first | exact (Kd.C_below HR0.out uW) | (with_reducible refine cA ?_ _) | (with_reducible refine cN ?_ _) | (with_reducible refine cD ?_))); (case side2 => exact HC0.out); (case side3 => repeat (first | exact (Kd.C_below HR2.out uW) | (with_reducible refine cA ?_ _) | (with_reducible refine cN ?_ _) | (with_reducible refine cD ?_))); (case side4 => exact HC2.out); rintro e w12 ⟨v106, rfl, ho0, hb⟩; have HO107 := am (Kd.R_lower (Kd.R_new' ho0 (Kd.R_lt (uR HO103))) (below_size uW)); replace HO103 := am (Kd.R_elder' (uR HO103) (Kd.R_base ho0) hb); replace HB := uS hb; (try clear hb); (try clear hb2); (try clear hk); (try clear hi); (try clear ho0); obtain ⟨Ao13, co13, eo13⟩ := Kd.R_slice HO107.out; subst eo13) | (go_at_call 64; (with_reducible refine (slices_Max_int_int.calls _ _ t105 t108 _ ?side1 ?side2 A9.out).mono ?_); (case side1 => repeat (first | exact (Kd.R_reads' HO107.out).2.2 | (with_reducible refine cA ?_ _) | (with_reducible refine cN ?_ _) | (with_reducible refine cD ?_))); (case side2 => exact (Kd.R_reads' HO107.out).2.1); rintro e w' ⟨rfl, ⟨nd, rfl⟩⟩))
   go_ret
   exact ⟨uA, by exact uW⟩
  ·replace c7 := Bool.eq_false_iff.mpr c7
   subst c7
   have H1 : (some false) = some r := by rw [if_neg (show ¬ (false = true) by decide)] at H; exact H
   clear H
   have H := H1
   clear H1
   obtain rfl := Option.some.inj H
   go_enter Try.func61, Try.ntmps61
   go_wp2_with (first | (go_at_call 54; (with_reducible refine (impl_named.calls k _ _ l2 t101 _ ?side1 ?side2 A5.out).mono ?_); (case side1 => repeat (first | exact HR2.out | (with_reducible refine cA ?_ _) | (with_reducible refine cN ?_ _) | (with_reducible refine cD ?_))); (case side2 => exact HC2.out); rintro e w14 ⟨v102, rfl, ho0, hb⟩; have HO103 := am (Kd.R_lower ho0 (below_size uW)); replace HB := uS hb; (try clear hb); (try clear hb2); (try clear hk); (try clear hi); (try clear ho0); obtain ⟨Ao15, co15, eo15⟩ := Kd.R_slice HO103.out; subst eo15) | (go_at_call 87; (with_reducible refine (slices_Equal_int_int.calls k _ _ t101 _ _ l2 false _ ?side1 ?side2 ?side3 ?side4 A6.out).mono ?_); (case side1 => repeat (first | exact (Kd.R_reads' HO103.out).2.2 | (with_reducible refine cA ?_ _) | (with_reducible refine cN ?_ _) | (with_reducible refine cD ?_))); (case side2 => exact (Kd.R_reads' HO103.out).2.1); (case side3 => repeat (first | exact (Kd.C_below HR2.out HB.out) | (with_reducible refine cA ?_ _) | (with_reducible refine cN ?_ _) | (with_reducible refine cD ?_))); (case side4 => exact HC2.out); rintro e w' ⟨rfl, ⟨nd, rfl⟩⟩))
   go_ret
   exact ⟨uA, by exact uW⟩
 ·rw [if_neg c4] at H
  have c4b0 : ((l2.length : Int) == (l0.length : Int)) = false := beq_eq_false_iff_ne.mpr c4
  have c4b1 : ((l2.length : Int) != (l0.length : Int)) = true := bne_iff_ne.mpr c4
  have c4b2 : (l2.length == l0.length) = false := by first | simpa using c4 | (simp at c4 ⊢; omega)
  obtain rfl := Option.some.inj H
  go_enter Try.func61, Try.ntmps61
  go_wp2
  go_ret
  exact ⟨uA, by exact uW⟩
def impl_IsBagPlan.f (k : Nat) (l0 : List (S45)) (a1 : Int) (l2 : List Int) : Option (Bool × Bool) := (impl_fitBag.f l0 a1).bind fun t101 => (if t101 = true then ((impl_isBagPlan.f k l0 a1 l2).bind fun t102 => (some (t102, true))) else (some (false, false)))
theorem impl_IsBagPlan.calls (k : Nat) (A0 : Option Addr) (c0 : Nat) (l0 : List (S45)) (a1 : Int) (A2 : Option Addr) (c2 : Nat) (l2 : List Int) (r1 : Bool) (r2 : Bool) (w : World) (hr0 : Kd.C k45 w A0 l0.length l0) (hc0 : l0.length ≤ c0) (hr2 : Kd.C (Kd.int .i64) w A2 l2.length l2) (hc2 : l2.length ≤ c2) (h : impl_IsBagPlan.f k l0 a1 l2 = some (r1, r2)) :
  Calls Try.prog 25 #[.slice A0 l0.length c0, .int .i64 a1, .slice A2 l2.length c2] w fun e w' => e = .returned (.tuple #[.bool r1, .bool r2]) ∧ Below w.heap.size w w' := by
 have HR0 := am hr0
 have HC0 := am hc0
 clear hr0 hc0
 have HR2 := am hr2
 have HC2 := am hc2
 clear hr2 hc2
 have HB := am (Below.refl w.heap.size w)
 have H : ((impl_fitBag.f l0 a1).bind fun t101 => (if t101 = true then ((impl_isBagPlan.f k l0 a1 l2).bind fun t102 => (some (t102, true))) else (some (false, false)))) = some (r1, r2) := h
 clear h
 replace H := bH H
 obtain ⟨t101, A40, H⟩ := H
 replace H : (if t101 = true then ((impl_isBagPlan.f k l0 a1 l2).bind fun t102 => (some (t102, true))) else (some (false, false))) = some (r1, r2) := H
 have A4 := am A40
 clear A40
 by_cases c5 : t101 = true
 ·subst c5
  have H1 : ((impl_isBagPlan.f k l0 a1 l2).bind fun t102 => (some (t102, true))) = some (r1, r2) := by rw [if_pos rfl] at H; exact H
  clear H
  have H := H1
  clear H1
  replace H := bH H
  obtain ⟨t102, A60, H⟩ := H
  replace H : (some (t102, true)) = some (r1, r2) := H
  have A6 := am A60
  clear A60
  simp only [Option.some.injEq, Prod.mk.injEq] at H
  obtain ⟨rfl, rfl⟩ := H
  go_enter Try.func25, Try.ntmps25
  go_wp2_with (first | ((with_reducible refine gate_callee (f := 41) rfl ?_); refine uGo (some 10) Try.func41 #[.slice A0 l0.length c0, .int .i64 a1] ?_; (with_reducible refine (impl_fitBag.calls _ _ l0 a1 true _ ?side1 ?side2 A4.out).mono ?_); (case side1 => repeat (first | exact HR0.out | (with_reducible refine cA ?_ _) | (with_reducible refine cN ?_ _) | (with_reducible refine cD ?_))); (case side2 => exact HC0.out); rintro e w7 ⟨rfl, hb⟩; refine ⟨_, rfl, ?_⟩; replace HB := uS hb; (try clear hb); (try clear hb2); (try clear hk); (try clear hi)) | ((with_reducible refine gate_callee (f := 61) rfl ?_); refine uGo (some 15) Try.func61 #[.slice A0 l0.length c0, .int .i64 a1, .slice A2 l2.length c2] ?_; (with_reducible refine (impl_isBagPlan.calls k _ _ l0 a1 _ _ l2 t102 _ ?side1 ?side2 ?side3 ?side4 A6.out).mono ?_); (case side1 => repeat (first | exact (Kd.C_below HR0.out HB.out) | (with_reducible refine cA ?_ _) | (with_reducible refine cN ?_ _) | (with_reducible refine cD ?_))); (case side2 => exact HC0.out); (case side3 => repeat (first | exact (Kd.C_below HR2.out HB.out) | (with_reducible refine cA ?_ _) | (with_reducible refine cN ?_ _) | (with_reducible refine cD ?_))); (case side4 => exact HC2.out); rintro e w8 ⟨rfl, hb⟩; refine ⟨_, rfl, ?_⟩; replace HB := uS hb; (try clear hb); (try clear hb2); (try clear hk); (try clear hi)))
  go_ret2
  exact ⟨uA, by exact uW⟩
 ·replace c5 := Bool.eq_false_iff.mpr c5
  subst c5
  have H1 : (some (false, false)) = some (r1, r2) := by rw [if_neg (show ¬ (false = true) by decide)] at H; exact H
  clear H
  have H := H1
  clear H1
  simp only [Option.some.injEq, Prod.mk.injEq] at H
  obtain ⟨rfl, rfl⟩ := H
  go_enter Try.func25, Try.ntmps25
  go_wp2_with (first | ((with_reducible refine gate_callee (f := 41) rfl ?_); refine uGo (some 10) Try.func41 #[.slice A0 l0.length c0, .int .i64 a1] ?_; (with_reducible refine (impl_fitBag.calls _ _ l0 a1 false _ ?side1 ?side2 A4.out).mono ?_); (case side1 => repeat (first | exact HR0.out | (with_reducible refine cA ?_ _) | (with_reducible refine cN ?_ _) | (with_reducible refine cD ?_))); (case side2 => exact HC0.out); rintro e w9 ⟨rfl, hb⟩; refine ⟨_, rfl, ?_⟩; replace HB := uS hb; (try clear hb); (try clear hb2); (try clear hk); (try clear hi)))
  go_ret2
  exact ⟨uA, by exact uW⟩
def impl_LengthOfPlan.f (k : Nat) (l0 : List (S45)) (a1 : Int) (l2 : List Int) : Option (Int × Bool) := (impl_fitBag.f l0 a1).bind fun t101 => (if t101 = true then ((impl_isBagPlan.f k l0 a1 l2).bind fun t102 => (if t102 = true then ((impl_lengthOf.f k l0 l2).bind fun t103 => (some (t103, true))) else (some (0, false)))) else (some (0, false)))
theorem impl_LengthOfPlan.calls (k : Nat) (A0 : Option Addr) (c0 : Nat) (l0 : List (S45)) (a1 : Int) (A2 : Option Addr) (c2 : Nat) (l2 : List Int) (r1 : Int) (r2 : Bool) (w : World) (hr0 : Kd.C k45 w A0 l0.length l0) (hc0 : l0.length ≤ c0) (hr2 : Kd.C (Kd.int .i64) w A2 l2.length l2) (hc2 : l2.length ≤ c2) (h : impl_LengthOfPlan.f k l0 a1 l2 = some (r1, r2)) :
  Calls Try.prog 26 #[.slice A0 l0.length c0, .int .i64 a1, .slice A2 l2.length c2] w fun e w' => e = .returned (.tuple #[.int .i64 r1, .bool r2]) ∧ Below w.heap.size w w' := by
 have HR0 := am hr0
 have HC0 := am hc0
 clear hr0 hc0
 have HR2 := am hr2
 have HC2 := am hc2
 clear hr2 hc2
 have HB := am (Below.refl w.heap.size w)
 have H : ((impl_fitBag.f l0 a1).bind fun t101 => (if t101 = true then ((impl_isBagPlan.f k l0 a1 l2).bind fun t102 => (if t102 = true then ((impl_lengthOf.f k l0 l2).bind fun t103 => (some (t103, true))) else (some (0, false)))) else (some (0, false)))) = some (r1, r2) := h
 clear h
 replace H := bH H
 obtain ⟨t101, A40, H⟩ := H
 replace H : (if t101 = true then ((impl_isBagPlan.f k l0 a1 l2).bind fun t102 => (if t102 = true then ((impl_lengthOf.f k l0 l2).bind fun t103 => (some (t103, true))) else (some (0, false)))) else (some (0, false))) = some (r1, r2) := H
 have A4 := am A40
 clear A40
 by_cases c5 : t101 = true
 ·subst c5
  have H1 : ((impl_isBagPlan.f k l0 a1 l2).bind fun t102 => (if t102 = true then ((impl_lengthOf.f k l0 l2).bind fun t103 => (some (t103, true))) else (some (0, false)))) = some (r1, r2) := by rw [if_pos rfl] at H; exact H
  clear H
  have H := H1
  clear H1
  replace H := bH H
  obtain ⟨t102, A60, H⟩ := H
  replace H : (if t102 = true then ((impl_lengthOf.f k l0 l2).bind fun t103 => (some (t103, true))) else (some (0, false))) = some (r1, r2) := H
  have A6 := am A60
  clear A60
  by_cases c7 : t102 = true
  ·subst c7
   have H1 : ((impl_lengthOf.f k l0 l2).bind fun t103 => (some (t103, true))) = some (r1, r2) := by rw [if_pos rfl] at H; exact H
   clear H
   have H := H1
   clear H1
   replace H := bH H
   obtain ⟨t103, A80, H⟩ := H
   replace H : (some (t103, true)) = some (r1, r2) := H
   have A8 := am A80
   clear A80
   simp only [Option.some.injEq, Prod.mk.injEq] at H
   obtain ⟨rfl, rfl⟩ := H
   go_enter Try.func26, Try.ntmps26
   go_wp2_with (first | ((with_reducible refine gate_callee (f := 41) rfl ?_); refine uGo (some 10) Try.func41 #[.slice A0 l0.length c0, .int .i64 a1] ?_; (with_reducible refine (impl_fitBag.calls _ _ l0 a1 true _ ?side1 ?side2 A4.out).mono ?_); (case side1 => repeat (first | exact HR0.out | (with_reducible refine cA ?_ _) | (with_reducible refine cN ?_ _) | (with_reducible refine cD ?_))); (case side2 => exact HC0.out); rintro e w9 ⟨rfl, hb⟩; refine ⟨_, rfl, ?_⟩; replace HB := uS hb; (try clear hb); (try clear hb2); (try clear hk); (try clear hi)) | (go_at_call 61; (with_reducible refine (impl_isBagPlan.calls k _ _ l0 a1 _ _ l2 true _ ?side1 ?side2 ?side3 ?side4 A6.out).mono ?_); (case side1 => repeat (first | exact (Kd.C_below HR0.out HB.out) | (with_reducible refine cA ?_ _) | (with_reducible refine cN ?_ _) | (with_reducible refine cD ?_))); (case side2 => exact HC0.out); (case side3 => repeat (first | exact (Kd.C_below HR2.out HB.out) | (with_reducible refine cA ?_ _) | (with_reducible refine cN ?_ _) | (with_reducible refine cD ?_))); (case side4 => exact HC2.out); rintro e w10 ⟨rfl, hb⟩; replace HB := uS hb; (try clear hb); (try clear hb2); (try clear hk); (try clear hi)) | ((with_reducible refine gate_callee (f := 43) rfl ?_); refine uGo (some 21) Try.func43 #[.slice A0 l0.length c0, .slice A2 l2.length c2] ?_; (with_reducible refine (impl_lengthOf.calls k _ _ l0 _ _ l2 t103 _ ?side1 ?side2 ?side3 ?side4 A8.out).mono ?_); (case side1 => repeat (first | exact (Kd.C_below HR0.out HB.out) | (with_reducible refine cA ?_ _) | (with_reducible refine cN ?_ _) | (with_reducible refine cD ?_))); (case side2 => exact HC0.out); (case side3 => repeat (first | exact (Kd.C_below HR2.out HB.out) | (with_reducible refine cA ?_ _) | (with_reducible refine cN ?_ _) | (with_reducible refine cD ?_))); (case side4 => exact HC2.out); rintro e w11 ⟨rfl, hb⟩; refine ⟨_, rfl, ?_⟩; replace HB := uS hb; (try clear hb); (try clear hb2); (try clear hk); (try clear hi)))
   go_ret2
   exact ⟨uA, by exact uW⟩
  ·replace c7 := Bool.eq_false_iff.mpr c7
   subst c7
   have H1 : (some (0, false)) = some (r1, r2) := by rw [if_neg (show ¬ (false = true) by decide)] at H; exact H
   clear H
   have H := H1
   clear H1
   simp only [Option.some.injEq, Prod.mk.injEq] at H
   obtain ⟨rfl, rfl⟩ := H
   go_enter Try.func26, Try.ntmps26
   go_wp2_with (first | ((with_reducible refine gate_callee (f := 41) rfl ?_); refine uGo (some 10) Try.func41 #[.slice A0 l0.length c0, .int .i64 a1] ?_; (with_reducible refine (impl_fitBag.calls _ _ l0 a1 true _ ?side1 ?side2 A4.out).mono ?_); (case side1 => repeat (first | exact HR0.out | (with_reducible refine cA ?_ _) | (with_reducible refine cN ?_ _) | (with_reducible refine cD ?_))); (case side2 => exact HC0.out); rintro e w12 ⟨rfl, hb⟩; refine ⟨_, rfl, ?_⟩; replace HB := uS hb; (try clear hb); (try clear hb2); (try clear hk); (try clear hi)) | (go_at_call 61; (with_reducible refine (impl_isBagPlan.calls k _ _ l0 a1 _ _ l2 false _ ?side1 ?side2 ?side3 ?side4 A6.out).mono ?_); (case side1 => repeat (first | exact (Kd.C_below HR0.out HB.out) | (with_reducible refine cA ?_ _) | (with_reducible refine cN ?_ _) | (with_reducible refine cD ?_))); (case side2 => exact HC0.out); (case side3 => repeat (first | exact (Kd.C_below HR2.out HB.out) | (with_reducible refine cA ?_ _) | (with_reducible refine cN ?_ _) | (with_reducible refine cD ?_))); (case side4 => exact HC2.out); rintro e w13 ⟨rfl, hb⟩; replace HB := uS hb; (try clear hb); (try clear hb2); (try clear hk); (try clear hi)))
   go_ret2
   exact ⟨uA, by exact uW⟩
 ·replace c5 := Bool.eq_false_iff.mpr c5
  subst c5
  have H1 : (some (0, false)) = some (r1, r2) := by rw [if_neg (show ¬ (false = true) by decide)] at H; exact H
  clear H
  have H := H1
  clear H1
  simp only [Option.some.injEq, Prod.mk.injEq] at H
  obtain ⟨rfl, rfl⟩ := H
  go_enter Try.func26, Try.ntmps26
  go_wp2_with (first | ((with_reducible refine gate_callee (f := 41) rfl ?_); refine uGo (some 10) Try.func41 #[.slice A0 l0.length c0, .int .i64 a1] ?_; (with_reducible refine (impl_fitBag.calls _ _ l0 a1 false _ ?side1 ?side2 A4.out).mono ?_); (case side1 => repeat (first | exact HR0.out | (with_reducible refine cA ?_ _) | (with_reducible refine cN ?_ _) | (with_reducible refine cD ?_))); (case side2 => exact HC0.out); rintro e w14 ⟨rfl, hb⟩; refine ⟨_, rfl, ?_⟩; replace HB := uS hb; (try clear hb); (try clear hb2); (try clear hk); (try clear hi)))
  go_ret2
  exact ⟨uA, by exact uW⟩
def impl_TripsOfPlan.f (k : Nat) (l0 : List (S45)) (a1 : Int) (l2 : List Int) : Option ((List (List Int)) × Bool) := (impl_fitBag.f l0 a1).bind fun t101 => (if t101 = true then ((impl_isBagPlan.f k l0 a1 l2).bind fun t102 => (if t102 = true then ((impl_tripsOf.f k l2).bind fun t103 => (some (t103, true))) else (some (([] : List (List Int)), false)))) else (some (([] : List (List Int)), false)))
theorem impl_TripsOfPlan.calls (k : Nat) (A0 : Option Addr) (c0 : Nat) (l0 : List (S45)) (a1 : Int) (A2 : Option Addr) (c2 : Nat) (l2 : List Int) (r1 : List (List Int)) (r2 : Bool) (w : World) (hr0 : Kd.C k45 w A0 l0.length l0) (hc0 : l0.length ≤ c0) (hr2 : Kd.C (Kd.int .i64) w A2 l2.length l2) (hc2 : l2.length ≤ c2) (h : impl_TripsOfPlan.f k l0 a1 l2 = some (r1, r2)) :
  Calls Try.prog 27 #[.slice A0 l0.length c0, .int .i64 a1, .slice A2 l2.length c2] w fun e w' => ∃ v0_ : Value, e = .returned (.tuple #[v0_, .bool r2]) ∧ Kd.S (Kd.slice 3 (Kd.int .i64)) 27 w' w.heap.size (fun _ => True) v0_ r1 ∧ Below w.heap.size w w' := by
 have HR0 := am hr0
 have HC0 := am hc0
 clear hr0 hc0
 have HR2 := am hr2
 have HC2 := am hc2
 clear hr2 hc2
 have HB := am (Below.refl w.heap.size w)
 have H : ((impl_fitBag.f l0 a1).bind fun t101 => (if t101 = true then ((impl_isBagPlan.f k l0 a1 l2).bind fun t102 => (if t102 = true then ((impl_tripsOf.f k l2).bind fun t103 => (some (t103, true))) else (some (([] : List (List Int)), false)))) else (some (([] : List (List Int)), false)))) = some (r1, r2) := h
 clear h
 replace H := bH H
 obtain ⟨t101, A40, H⟩ := H
 replace H : (if t101 = true then ((impl_isBagPlan.f k l0 a1 l2).bind fun t102 => (if t102 = true then ((impl_tripsOf.f k l2).bind fun t103 => (some (t103, true))) else (some (([] : List (List Int)), false)))) else (some (([] : List (List Int)), false))) = some (r1, r2) := H
 have A4 := am A40
 clear A40
 by_cases c5 : t101 = true
 ·subst c5
  have H1 : ((impl_isBagPlan.f k l0 a1 l2).bind fun t102 => (if t102 = true then ((impl_tripsOf.f k l2).bind fun t103 => (some (t103, true))) else (some (([] : List (List Int)), false)))) = some (r1, r2) := by rw [if_pos rfl] at H; exact H
  clear H
  have H := H1
  clear H1
  replace H := bH H
  obtain ⟨t102, A60, H⟩ := H
  replace H : (if t102 = true then ((impl_tripsOf.f k l2).bind fun t103 => (some (t103, true))) else (some (([] : List (List Int)), false))) = some (r1, r2) := H
  have A6 := am A60
  clear A60
  by_cases c7 : t102 = true
  ·subst c7
   have H1 : ((impl_tripsOf.f k l2).bind fun t103 => (some (t103, true))) = some (r1, r2) := by rw [if_pos rfl] at H; exact H
   clear H
   have H := H1
   clear H1
   replace H := bH H
   obtain ⟨t103, A80, H⟩ := H
   replace H : (some (t103, true)) = some (r1, r2) := H
   have A8 := am A80
   clear A80
   simp only [Option.some.injEq, Prod.mk.injEq] at H
   obtain ⟨rfl, rfl⟩ := H
   go_enter Try.func27, Try.ntmps27
   go_wp2_with (first | ((with_reducible refine gate_callee (f := 41) rfl ?_); refine uGo (some 10) Try.func41 #[.slice A0 l0.length c0, .int .i64 a1] ?_; (with_reducible refine (impl_fitBag.calls _ _ l0 a1 true _ ?side1 ?side2 A4.out).mono ?_); (case side1 => repeat (first | exact HR0.out | (with_reducible refine cA ?_ _) | (with_reducible refine cN ?_ _) | (with_reducible refine cD ?_))); (case side2 => exact HC0.out); rintro e w9 ⟨rfl, hb⟩; refine ⟨_, rfl, ?_⟩; replace HB := uS hb; (try clear hb); (try clear hb2); (try clear hk); (try clear hi)) | (go_at_call 61; (with_reducible refine (impl_isBagPlan.calls k _ _ l0 a1 _ _ l2 true _ ?side1 ?side2 ?side3 ?side4 A6.out).mono ?_); (case side1 => repeat (first | exact (Kd.C_below HR0.out HB.out) | (with_reducible refine cA ?_ _) | (with_reducible refine cN ?_ _) | (with_reducible refine cD ?_))); (case side2 => exact HC0.out); (case side3 => repeat (first | exact (Kd.C_below HR2.out HB.out) | (with_reducible refine cA ?_ _) | (with_reducible refine cN ?_ _) | (with_reducible refine cD ?_))); (case side4 => exact HC2.out); rintro e w10 ⟨rfl, hb⟩; replace HB := uS hb; (try clear hb); (try clear hb2); (try clear hk); (try clear hi)) | ((with_reducible refine gate_callee (f := 62) rfl ?_); refine uGo (some 20) Try.func62 #[.slice A2 l2.length c2] ?_; (with_reducible refine (impl_tripsOf.calls k _ _ l2 t103 _ ?side1 ?side2 A8.out).mono ?_); (case side1 => repeat (first | exact (Kd.C_below HR2.out HB.out) | (with_reducible refine cA ?_ _) | (with_reducible refine cN ?_ _) | (with_reducible refine cD ?_))); (case side2 => exact HC2.out); rintro e w11 ⟨v104, rfl, ho0, hb⟩; refine ⟨_, rfl, ?_⟩; have HO105 := am (Kd.S_lower ho0 (below_size uW)); replace HB := uS hb; (try clear hb); (try clear hb2); (try clear hk); (try clear hi); (try clear ho0)))
   go_ret2
   exact ⟨_, uA, by (with_reducible repeat (first | apply Kd.S_alloc | apply Kd.S_drewN | apply Kd.S_drew)); exact HO105.out, by exact uW⟩
  ·replace c7 := Bool.eq_false_iff.mpr c7
   subst c7
   have H1 : (some (([] : List (List Int)), false)) = some (r1, r2) := by rw [if_neg (show ¬ (false = true) by decide)] at H; exact H
   clear H
   have H := H1
   clear H1
   simp only [Option.some.injEq, Prod.mk.injEq] at H
   obtain ⟨rfl, rfl⟩ := H
   go_enter Try.func27, Try.ntmps27
   go_wp2_with (first | ((with_reducible refine gate_callee (f := 41) rfl ?_); refine uGo (some 10) Try.func41 #[.slice A0 l0.length c0, .int .i64 a1] ?_; (with_reducible refine (impl_fitBag.calls _ _ l0 a1 true _ ?side1 ?side2 A4.out).mono ?_); (case side1 => repeat (first | exact HR0.out | (with_reducible refine cA ?_ _) | (with_reducible refine cN ?_ _) | (with_reducible refine cD ?_))); (case side2 => exact HC0.out); rintro e w12 ⟨rfl, hb⟩; refine ⟨_, rfl, ?_⟩; replace HB := uS hb; (try clear hb); (try clear hb2); (try clear hk); (try clear hi)) | (go_at_call 61; (with_reducible refine (impl_isBagPlan.calls k _ _ l0 a1 _ _ l2 false _ ?side1 ?side2 ?side3 ?side4 A6.out).mono ?_); (case side1 => repeat (first | exact (Kd.C_below HR0.out HB.out) | (with_reducible refine cA ?_ _) | (with_reducible refine cN ?_ _) | (with_reducible refine cD ?_))); (case side2 => exact HC0.out); (case side3 => repeat (first | exact (Kd.C_below HR2.out HB.out) | (with_reducible refine cA ?_ _) | (with_reducible refine cN ?_ _) | (with_reducible refine cD ?_))); (case side4 => exact HC2.out); rintro e w13 ⟨rfl, hb⟩; replace HB := uS hb; (try clear hb); (try clear hb2); (try clear hk); (try clear hi)))
   go_ret2
   exact ⟨_, uA, by first | exact Kd.S_nil _ _ _ _ _ | exact Kd.N_nil _ _ _ _ _ | exact Kd.V_nil _ _ _ _ _ | exact Kd.Q_nil _ _ _ _ _ | exact Kd.R_nil _ _ _ _ _, by exact uW⟩
 ·replace c5 := Bool.eq_false_iff.mpr c5
  subst c5
  have H1 : (some (([] : List (List Int)), false)) = some (r1, r2) := by rw [if_neg (show ¬ (false = true) by decide)] at H; exact H
  clear H
  have H := H1
  clear H1
  simp only [Option.some.injEq, Prod.mk.injEq] at H
  obtain ⟨rfl, rfl⟩ := H
  go_enter Try.func27, Try.ntmps27
  go_wp2_with (first | ((with_reducible refine gate_callee (f := 41) rfl ?_); refine uGo (some 10) Try.func41 #[.slice A0 l0.length c0, .int .i64 a1] ?_; (with_reducible refine (impl_fitBag.calls _ _ l0 a1 false _ ?side1 ?side2 A4.out).mono ?_); (case side1 => repeat (first | exact HR0.out | (with_reducible refine cA ?_ _) | (with_reducible refine cN ?_ _) | (with_reducible refine cD ?_))); (case side2 => exact HC0.out); rintro e w14 ⟨rfl, hb⟩; refine ⟨_, rfl, ?_⟩; replace HB := uS hb; (try clear hb); (try clear hb2); (try clear hk); (try clear hi)))
  go_ret2
  exact ⟨_, uA, by first | exact Kd.S_nil _ _ _ _ _ | exact Kd.N_nil _ _ _ _ _ | exact Kd.V_nil _ _ _ _ _ | exact Kd.Q_nil _ _ _ _ _ | exact Kd.R_nil _ _ _ _ _, by exact uW⟩
def cmp_isNaN_int.f (a0 : Int) : Option (Bool) := some (a0 != a0)
theorem cmp_isNaN_int.calls (a0 : Int) (r : Bool) (w : World) (h : cmp_isNaN_int.f a0 = some r) :
  Calls Try.prog 84 #[.int .i64 a0] w fun e w' => e = .returned (.bool r) ∧ Drawn0 w w' := by
 have H : (some (a0 != a0)) = some r := h
 clear h
 obtain rfl := Option.some.inj H
 go_enter Try.func84, Try.ntmps84
 go_wp2
 go_ret
 exact ⟨by first | rfl | (simp; done) | (simp [*]; done), by repeat (first | exact Drawn0.refl _ | apply Drawn0.step)⟩
def cmp_Compare_int.f (a0 : Int) (a1 : Int) : Option (Int) := (cmp_isNaN_int.f a0).bind fun t101 => ((cmp_isNaN_int.f a1).bind fun t102 => (if t101 = true then (if t102 = true then (some 0) else (some (-1))) else (if t102 = true then (some 1) else (if a0 < a1 then (some (-1)) else (if a0 > a1 then (some 1) else (some 0))))))
theorem cmp_Compare_int.calls (a0 : Int) (a1 : Int) (r : Int) (w : World) (h : cmp_Compare_int.f a0 a1 = some r) :
  Calls Try.prog 53 #[.int .i64 a0, .int .i64 a1] w fun e w' => e = .returned (.int .i64 r) ∧ Drawn0 w w' := by
 have H : ((cmp_isNaN_int.f a0).bind fun t101 => ((cmp_isNaN_int.f a1).bind fun t102 => (if t101 = true then (if t102 = true then (some 0) else (some (-1))) else (if t102 = true then (some 1) else (if a0 < a1 then (some (-1)) else (if a0 > a1 then (some 1) else (some 0))))))) = some r := h
 clear h
 replace H := bH H
 obtain ⟨t101, A30, H⟩ := H
 replace H : ((cmp_isNaN_int.f a1).bind fun t102 => (if t101 = true then (if t102 = true then (some 0) else (some (-1))) else (if t102 = true then (some 1) else (if a0 < a1 then (some (-1)) else (if a0 > a1 then (some 1) else (some 0)))))) = some r := H
 have A3 := am A30
 clear A30
 replace H := bH H
 obtain ⟨t102, A40, H⟩ := H
 replace H : (if t101 = true then (if t102 = true then (some 0) else (some (-1))) else (if t102 = true then (some 1) else (if a0 < a1 then (some (-1)) else (if a0 > a1 then (some 1) else (some 0))))) = some r := H
 have A4 := am A40
 clear A40
 by_cases c5 : t101 = true
 ·subst c5
  have H1 : (if t102 = true then (some 0) else (some (-1))) = some r := by rw [if_pos rfl] at H; exact H
  clear H
  have H := H1
  clear H1
  by_cases c6 : t102 = true
  ·subst c6
   have H1 : (some 0) = some r := by rw [if_pos rfl] at H; exact H
   clear H
   have H := H1
   clear H1
   obtain rfl := Option.some.inj H
   go_enter Try.func53, Try.ntmps53
   go_wp2_with (first | ((with_reducible refine gate_callee (f := 84) rfl ?_); refine uGo (some 8) Try.func84 #[.int .i64 a0] ?_; (with_reducible refine (cmp_isNaN_int.calls a0 true _ A3.out).mono ?_); rintro e w' ⟨rfl, ⟨nd, rfl⟩⟩; refine ⟨_, rfl, ?_⟩) | ((with_reducible refine gate_callee (f := 84) rfl ?_); refine uGo (some 10) Try.func84 #[.int .i64 a1] ?_; (with_reducible refine (cmp_isNaN_int.calls a1 true _ A4.out).mono ?_); rintro e w' ⟨rfl, ⟨nd, rfl⟩⟩; refine ⟨_, rfl, ?_⟩))
   go_ret
   exact ⟨by first | rfl | (simp; done) | (simp [*]; done), by repeat (first | exact Drawn0.refl _ | apply Drawn0.step)⟩
  ·replace c6 := Bool.eq_false_iff.mpr c6
   subst c6
   have H1 : (some (-1)) = some r := by rw [if_neg (show ¬ (false = true) by decide)] at H; exact H
   clear H
   have H := H1
   clear H1
   obtain rfl := Option.some.inj H
   go_enter Try.func53, Try.ntmps53
   go_wp2_with (first | ((with_reducible refine gate_callee (f := 84) rfl ?_); refine uGo (some 8) Try.func84 #[.int .i64 a0] ?_; (with_reducible refine (cmp_isNaN_int.calls a0 true _ A3.out).mono ?_); rintro e w' ⟨rfl, ⟨nd, rfl⟩⟩; refine ⟨_, rfl, ?_⟩) | ((with_reducible refine gate_callee (f := 84) rfl ?_); refine uGo (some 10) Try.func84 #[.int .i64 a1] ?_; (with_reducible refine (cmp_isNaN_int.calls a1 false _ A4.out).mono ?_); rintro e w' ⟨rfl, ⟨nd, rfl⟩⟩; refine ⟨_, rfl, ?_⟩))
   go_ret
   exact ⟨by first | rfl | (simp; done) | (simp [*]; done), by repeat (first | exact Drawn0.refl _ | apply Drawn0.step)⟩
 ·replace c5 := Bool.eq_false_iff.mpr c5
  subst c5
  have H1 : (if t102 = true then (some 1) else (if a0 < a1 then (some (-1)) else (if a0 > a1 then (some 1) else (some 0)))) = some r := by rw [if_neg (show ¬ (false = true) by decide)] at H; exact H
  clear H
  have H := H1
  clear H1
  by_cases c7 : t102 = true
  ·subst c7
   have H1 : (some 1) = some r := by rw [if_pos rfl] at H; exact H
   clear H
   have H := H1
   clear H1
   obtain rfl := Option.some.inj H
   go_enter Try.func53, Try.ntmps53
   go_wp2_with (first | ((with_reducible refine gate_callee (f := 84) rfl ?_); refine uGo (some 8) Try.func84 #[.int .i64 a0] ?_; (with_reducible refine (cmp_isNaN_int.calls a0 false _ A3.out).mono ?_); rintro e w' ⟨rfl, ⟨nd, rfl⟩⟩; refine ⟨_, rfl, ?_⟩) | ((with_reducible refine gate_callee (f := 84) rfl ?_); refine uGo (some 10) Try.func84 #[.int .i64 a1] ?_; (with_reducible refine (cmp_isNaN_int.calls a1 true _ A4.out).mono ?_); rintro e w' ⟨rfl, ⟨nd, rfl⟩⟩; refine ⟨_, rfl, ?_⟩))
   go_ret
   exact ⟨by first | rfl | (simp; done) | (simp [*]; done), by repeat (first | exact Drawn0.refl _ | apply Drawn0.step)⟩
  ·replace c7 := Bool.eq_false_iff.mpr c7
   subst c7
   have H1 : (if a0 < a1 then (some (-1)) else (if a0 > a1 then (some 1) else (some 0))) = some r := by rw [if_neg (show ¬ (false = true) by decide)] at H; exact H
   clear H
   have H := H1
   clear H1
   by_cases c8 : a0 < a1
   ·rw [if_pos c8] at H
    have c8b0 : decide (a0 < a1) = true := decide_eq_true c8
    clear c8
    obtain rfl := Option.some.inj H
    go_enter Try.func53, Try.ntmps53
    go_wp2_with (first | ((with_reducible refine gate_callee (f := 84) rfl ?_); refine uGo (some 8) Try.func84 #[.int .i64 a0] ?_; (with_reducible refine (cmp_isNaN_int.calls a0 false _ A3.out).mono ?_); rintro e w' ⟨rfl, ⟨nd, rfl⟩⟩; refine ⟨_, rfl, ?_⟩) | ((with_reducible refine gate_callee (f := 84) rfl ?_); refine uGo (some 10) Try.func84 #[.int .i64 a1] ?_; (with_reducible refine (cmp_isNaN_int.calls a1 false _ A4.out).mono ?_); rintro e w' ⟨rfl, ⟨nd, rfl⟩⟩; refine ⟨_, rfl, ?_⟩))
    go_ret
    exact ⟨by first | rfl | (simp; done) | (simp [*]; done), by repeat (first | exact Drawn0.refl _ | apply Drawn0.step)⟩
   ·rw [if_neg c8] at H
    have c8b0 : decide (a0 < a1) = false := decide_eq_false c8
    clear c8
    by_cases c9 : a0 > a1
    ·rw [if_pos c9] at H
     have c9b0 : decide (a1 < a0) = true := decide_eq_true c9
     clear c9
     obtain rfl := Option.some.inj H
     go_enter Try.func53, Try.ntmps53
     go_wp2_with (first | ((with_reducible refine gate_callee (f := 84) rfl ?_); refine uGo (some 8) Try.func84 #[.int .i64 a0] ?_; (with_reducible refine (cmp_isNaN_int.calls a0 false _ A3.out).mono ?_); rintro e w' ⟨rfl, ⟨nd, rfl⟩⟩; refine ⟨_, rfl, ?_⟩) | ((with_reducible refine gate_callee (f := 84) rfl ?_); refine uGo (some 10) Try.func84 #[.int .i64 a1] ?_; (with_reducible refine (cmp_isNaN_int.calls a1 false _ A4.out).mono ?_); rintro e w' ⟨rfl, ⟨nd, rfl⟩⟩; refine ⟨_, rfl, ?_⟩))
     go_ret
     exact ⟨by first | rfl | (simp; done) | (simp [*]; done), by repeat (first | exact Drawn0.refl _ | apply Drawn0.step)⟩
    ·rw [if_neg c9] at H
     have c9b0 : decide (a1 < a0) = false := decide_eq_false c9
     clear c9
     obtain rfl := Option.some.inj H
     go_enter Try.func53, Try.ntmps53
     go_wp2_with (first | ((with_reducible refine gate_callee (f := 84) rfl ?_); refine uGo (some 8) Try.func84 #[.int .i64 a0] ?_; (with_reducible refine (cmp_isNaN_int.calls a0 false _ A3.out).mono ?_); rintro e w' ⟨rfl, ⟨nd, rfl⟩⟩; refine ⟨_, rfl, ?_⟩) | ((with_reducible refine gate_callee (f := 84) rfl ?_); refine uGo (some 10) Try.func84 #[.int .i64 a1] ?_; (with_reducible refine (cmp_isNaN_int.calls a1 false _ A4.out).mono ?_); rintro e w' ⟨rfl, ⟨nd, rfl⟩⟩; refine ⟨_, rfl, ?_⟩))
     go_ret
     exact ⟨by first | rfl | (simp; done) | (simp [*]; done), by repeat (first | exact Drawn0.refl _ | apply Drawn0.step)⟩
def cmpv (a b : Int) : Int := if a < b then -1 else if a > b then 1 else 0
theorem compare_is (a b : Int) : cmp_Compare_int.f a b = some (cmpv a b) := by
 unfold cmp_Compare_int.f cmp_isNaN_int.f cmpv
 simp only [bne_self_eq_false, Option.bind_some, Bool.false_eq_true, if_false]
 by_cases h1 : a < b
 ·rw [if_pos h1, if_pos h1]
 ·rw [if_neg h1, if_neg h1]
  by_cases h2 : a > b
  ·rw [if_pos h2, if_pos h2]
  ·rw [if_neg h2, if_neg h2]
def cfH (l : List S45) (x y : Int) : Int := cmpv (rd_T45 l y).f0 (rd_T45 l x).f0
theorem pf_keep {W W' : World} {a b c : Addr} {u v z : Value} (h : W.cell? a = some u ∧ W.cell? b = some v ∧ W.cell? c = some z) (hb : Below W.heap.size W W') : W'.cell? a = some u ∧ W'.cell? b = some v ∧ W'.cell? c = some z :=
 ⟨(hb.cell (World.block_lt_of_cell? W _ h.1)).trans h.1, (hb.cell (World.block_lt_of_cell? W _ h.2.1)).trans h.2.1, (hb.cell (World.block_lt_of_cell? W _ h.2.2)).trans h.2.2⟩
theorem pf_cmp (gl : Nat) (A0 : Option Addr) (c0 : Nat) (l0 : List S45) (x y : Nat) (W : World) (hr0 : Kd.C k45 W A0 l0.length l0) (hx : x < l0.length) (hy : y < l0.length) (h0 : W.cell? ⟨gl, 0, none⟩ = some (.slice A0 l0.length c0)) :
  Calls Try.prog 52 (#[.int .i64 (x : Int), .int .i64 (y : Int)] ++ #[.pointer (some ⟨gl, 0, none⟩)]) W fun e w' => e = .returned (.int .i64 (cfH l0 (x : Int) (y : Int))) ∧ Below W.heap.size W w' := by
 obtain ⟨ad, rfl, hx0, hx1⟩ := at_T45 hr0 (x : Int) (by omega) (by omega)
 obtain ⟨ad2, e2, hy0, hy1⟩ := at_T45 hr0 (y : Int) (by omega) (by omega)
 obtain rfl := Option.some.inj e2
 rw [Int.toNat_natCast] at hx0 hy0
 unfold cfH
 generalize (rd_T45 l0 (x : Int)).f0 = u at *
 generalize (rd_T45 l0 (y : Int)).f0 = v at *
 have key := fun W1 => cmp_Compare_int.calls v u _ W1 (compare_is v u)
 have c1 : (x : Int) < (l0.length : Int) := by omega
 have c2 : (y : Int) < (l0.length : Int) := by omega
 have KY := am key
 clear key hx1 hy1 hr0
 show Calls Try.prog 52 #[.int .i64 (x : Int), .int .i64 (y : Int), .pointer (some ⟨gl, 0, none⟩)] W _
 go_enter Try.func52, Try.ntmps52
 go_wp2_with fail
 have s0 : W.cell? ⟨gl, 0, none⟩ = some (.slice (some ad) l0.length c0) ∧ W.cell? (ad.add (x * 2)) = some (.int .i64 u) ∧ W.cell? (ad.add (y * 2)) = some (.int .i64 v) := ⟨h0, hx0, hy0⟩
 go_region_held3 (fun W' => W'.cell? ⟨gl, 0, none⟩ = some (.slice (some ad) l0.length c0) ∧ W'.cell? (ad.add (x * 2)) = some (.int .i64 u) ∧ W'.cell? (ad.add (y * 2)) = some (.int .i64 v)) (first | assumption | exact s0 | exact ⟨s0.1, s0.2.1, s0.2.2⟩ | exact pf_keep (by assumption) (by assumption)) (first | (go_at_call 53; refine (KY.out _).mono ?_; rintro e w1 ⟨rfl, hd⟩; have hb := hd.below))
 have HB := am (below_step (below_drew (Below.refl W.heap.size W)) hb)
 clear hb hd
 go_wp2
 go_ret
 exact ⟨rfl, HB.out⟩
def spec_FirstShortestPlan.f (k : Nat) (l0 : List (S45)) (a1 : Int) : Option (List Int × Bool) := (spec_bgAsked.f k l0 a1).bind fun t101 => (if t101 = true then ((spec_bgShortest.f k l0 a1).bind fun bt102 => (some (bt102.1, true))) else (some (([] : List Int), false)))
theorem spec_FirstShortestPlan.calls (k : Nat) (A0 : Option Addr) (c0 : Nat) (l0 : List (S45)) (a1 : Int) (r1 : List Int) (r2 : Bool) (w : World) (hr0 : Kd.C k45 w A0 l0.length l0) (hc0 : l0.length ≤ c0) (h : spec_FirstShortestPlan.f k l0 a1 = some (r1, r2)) :
  Calls Try.prog 7 #[.slice A0 l0.length c0, .int .i64 a1] w fun e w' => ∃ v0_ : Value, e = .returned (.tuple #[v0_, .bool r2]) ∧ Kd.R (Kd.int .i64) 3 w' w.heap.size (fun _ => True) v0_ r1 ∧ Below w.heap.size w w' := by
 have HR0 := am hr0
 have HC0 := am hc0
 clear hr0 hc0
 have HB := am (Below.refl w.heap.size w)
 have H : ((spec_bgAsked.f k l0 a1).bind fun t101 => (if t101 = true then ((spec_bgShortest.f k l0 a1).bind fun bt102 => (some (bt102.1, true))) else (some (([] : List Int), false)))) = some (r1, r2) := h
 clear h
 replace H := bH H
 obtain ⟨t101, A30, H⟩ := H
 replace H : (if t101 = true then ((spec_bgShortest.f k l0 a1).bind fun bt102 => (some (bt102.1, true))) else (some (([] : List Int), false))) = some (r1, r2) := H
 have A3 := am A30
 clear A30
 by_cases c4 : t101 = true
 ·subst c4
  have H1 : ((spec_bgShortest.f k l0 a1).bind fun bt102 => (some (bt102.1, true))) = some (r1, r2) := by rw [if_pos rfl] at H; exact H
  clear H
  have H := H1
  clear H1
  replace H := bH H
  obtain ⟨⟨t102, t103, t104⟩, A50, H⟩ := H
  replace H : (some (t102, true)) = some (r1, r2) := H
  have A5 := am A50
  clear A50
  simp only [Option.some.injEq, Prod.mk.injEq] at H
  obtain ⟨rfl, rfl⟩ := H
  go_enter Try.func7, Try.ntmps7
  go_wp2_with (first | ((with_reducible refine gate_callee (f := 44) rfl ?_); refine uGo (some 11) Try.func44 #[.slice A0 l0.length c0, .int .i64 a1] ?_; (with_reducible refine (spec_bgAsked.calls k _ _ l0 a1 true _ ?side1 ?side2 A3.out).mono ?_); (case side1 => repeat (first | exact HR0.out | (with_reducible refine cA ?_ _) | (with_reducible refine cN ?_ _) | (with_reducible refine cD ?_))); (case side2 => exact HC0.out); rintro e w6 ⟨rfl, hb⟩; refine ⟨_, rfl, ?_⟩; replace HB := uS hb; (try clear hb); (try clear hb2); (try clear hk); (try clear hi)) | ((with_reducible refine gate_callee (f := 45) rfl ?_); refine uGo (some 16) Try.func45 #[.slice A0 l0.length c0, .int .i64 a1] ?_; (with_reducible refine (spec_bgShortest.calls k _ _ l0 a1 t102 t103 t104 _ ?side1 ?side2 A5.out).mono ?_); (case side1 => repeat (first | exact (Kd.C_below HR0.out HB.out) | (with_reducible refine cA ?_ _) | (with_reducible refine cN ?_ _) | (with_reducible refine cD ?_))); (case side2 => exact HC0.out); rintro e w7 ⟨v105, rfl, ho0, hb⟩; refine ⟨_, rfl, ?_⟩; have HO106 := am (Kd.R_lower ho0 (below_size uW)); replace HB := uS hb; (try clear hb); (try clear hb2); (try clear hk); (try clear hi); (try clear ho0)))
  go_ret2
  exact ⟨_, uA, by (with_reducible repeat (first | apply rA | apply rN | apply rD)); exact HO106.out, by exact uW⟩
 ·replace c4 := Bool.eq_false_iff.mpr c4
  subst c4
  have H1 : (some (([] : List Int), false)) = some (r1, r2) := by rw [if_neg (show ¬ (false = true) by decide)] at H; exact H
  clear H
  have H := H1
  clear H1
  simp only [Option.some.injEq, Prod.mk.injEq] at H
  obtain ⟨rfl, rfl⟩ := H
  go_enter Try.func7, Try.ntmps7
  go_wp2_with (first | ((with_reducible refine gate_callee (f := 44) rfl ?_); refine uGo (some 11) Try.func44 #[.slice A0 l0.length c0, .int .i64 a1] ?_; (with_reducible refine (spec_bgAsked.calls k _ _ l0 a1 false _ ?side1 ?side2 A3.out).mono ?_); (case side1 => repeat (first | exact HR0.out | (with_reducible refine cA ?_ _) | (with_reducible refine cN ?_ _) | (with_reducible refine cD ?_))); (case side2 => exact HC0.out); rintro e w8 ⟨rfl, hb⟩; refine ⟨_, rfl, ?_⟩; replace HB := uS hb; (try clear hb); (try clear hb2); (try clear hk); (try clear hi)))
  go_ret2
  exact ⟨_, uA, uN, by exact uW⟩
def slices_Clone_int_int_N.f (l0 : List Int) : Option (List Int) := some ([] : List Int)
theorem slices_Clone_int_int_N.calls (c0 : Nat) (l0 : List Int) (r : List Int) (w : World) (hr0 : Kd.C (Kd.int .i64) w (none : Option Addr) l0.length l0) (hc0 : l0.length ≤ c0) (h : slices_Clone_int_int_N.f l0 = some r) :
  Calls Try.prog 76 #[.slice (none : Option Addr) l0.length c0] w fun e w' => ∃ v0_ : Value, e = .returned (v0_) ∧ Kd.R (Kd.int .i64) 3 w' w.heap.size (fun _ => True) v0_ r ∧ Below w.heap.size w w' := by
 have hnil := fun (w : World) => Lib.run_eql_slice_nil (P := Try.prog) w 27 3 (none : Option Addr) l0.length c0 0 0 Try.underlying27
 have HR0 := am hr0
 have HC0 := am hc0
 clear hr0 hc0
 have HB := am (Below.refl w.heap.size w)
 have H : (some ([] : List Int)) = some r := h
 clear h
 obtain rfl := Option.some.inj H
 go_enter Try.func76, Try.ntmps76
 go_wp2
 go_ret
 exact ⟨_, uA, uN, by exact uW⟩
def slices_Clone_int_int_S.f (l0 : List Int) : Option (List Int) := (some (([] : List Int) : List Int)).bind fun y102 => (if y102.length + l0.length < 17592186044416 then (some (y102 ++ l0)) else (none))
theorem slices_Clone_int_int_S.calls (ad0 : Addr) (c0 : Nat) (l0 : List Int) (r : List Int) (w : World) (hr0 : Kd.C (Kd.int .i64) w (some ad0) l0.length l0) (hc0 : l0.length ≤ c0) (h : slices_Clone_int_int_S.f l0 = some r) :
  Calls Try.prog 76 #[.slice (some ad0) l0.length c0] w fun e w' => ∃ v0_ : Value, e = .returned (v0_) ∧ Kd.R (Kd.int .i64) 3 w' w.heap.size (fun _ => True) v0_ r ∧ Below w.heap.size w w' := by
 have hnil := fun (w : World) => Lib.run_eql_slice_nil (P := Try.prog) w 27 3 (some ad0) l0.length c0 0 0 Try.underlying27
 have HR0 := am hr0
 have HC0 := am hc0
 clear hr0 hc0
 have HB := am (Below.refl w.heap.size w)
 have H : ((some (([] : List Int) : List Int)).bind fun y102 => (if y102.length + l0.length < 17592186044416 then (some (y102 ++ l0)) else (none))) = some r := h
 clear h
 obtain ⟨y102, hy102⟩ : ∃ y_ : List Int, y_ = (([] : List Int)) := ⟨_, rfl⟩
 replace H : (if y102.length + l0.length < 17592186044416 then (some (y102 ++ l0)) else (none)) = some r := by first | (rw [hy102]; with_reducible exact H) | (have H2_ := (Option.bind_some _ _).symm.trans H; rw [hy102]; with_reducible exact H2_) | (have H2_ := (Option.bind_some _ _).symm.trans H; with_reducible exact H2_) | with_reducible exact H | (rw [hy102]; exact H) | exact H
 have Ny102 := am hy102
 clear hy102
 by_cases c2 : y102.length + l0.length < 17592186044416
 ·rw [if_pos c2] at H
  have LMc2 := am c2
  clear c2
  obtain ⟨y105, hy105⟩ : ∃ y_ : List Int, y_ = (y102 ++ l0) := ⟨_, rfl⟩
  replace H : (some y105) = some r := by first | (rw [hy105]; with_reducible exact H) | (have H2_ := (Option.bind_some _ _).symm.trans H; rw [hy105]; with_reducible exact H2_) | (have H2_ := (Option.bind_some _ _).symm.trans H; with_reducible exact H2_) | with_reducible exact H | (rw [hy105]; exact H) | exact H
  have Ny105 := am hy105
  clear hy105
  obtain rfl := Option.some.inj H
  go_enter Try.func76, Try.ntmps76
  go_wp2_with (first | ((with_reducible refine gate_dst (N := 5) rfl ?_); refine Kd.R_lit (Kd.int .i64) _ 3 ?hg (N := 5) ?hd (xs := ([] : List Int)) (inner := []) (ok := fun _ => True) (okp := fun _ => True) ?hr ?hp (fun _ hk => hk) trivial (Below.refl _ _) (Nat.le_refl _) (by simp) ?_; (case hd => rfl); (case hg => rfl); (case hr => first | (go_simp; done) | (go_simp; rfl)); (case hp => exact (Reps.none _ _)); intro v103 w3 ho4 hb hg_ hnew_; clear hg_ hnew_; (first | rw [← Ny102.out] at ho4 | (simp only [Int.reduceToNat] at ho4; rw [← Ny102.out] at ho4)); have HO104 := am (Kd.R_lower ho4 (below_size uW)); replace HB := uS hb; clear hb ho4) | ((with_reducible refine gate_builtin (b := .append) (xs := #[.tmp 5, .tmp 6]) rfl ?_); at_builtin; refine Kd.R_append_rows (Kd.int .i64) (w0 := w) w.heap.size rfl (.tmp 5) (.tmp 6) 27 3 (.int .i64 0) 8 rfl Try.underlying27 info3 rfl (by decide) (by omega) v103 y102 l0 _ _ _ (fun _ => True) (fun _ => False) rfl rfl ?aO ?aR (fun _ _ h => h) (fun _ h => h.elim) ?aF ?aB ?aS ?aL ?_; (case aR => repeat (first | exact (Kd.C_below HR0.out HB.out) | (with_reducible refine cA ?_ _) | (with_reducible refine cN ?_ _) | (with_reducible refine cD ?_))); (case aB => exact uW); (case aF => exact (fun _ _ => trivial)); (case aO => exact (uR HO104)); (case aS => exact (below_size uW)); (case aL => have := LMc2.out; omega); intro v106 w5 ho hb hg hat; rw [← Ny105.out] at ho; have HO107 := am (ho); replace HB := am (hb); clear HO104; clear ho hb hg hat))
  go_ret
  exact ⟨_, uA, by (with_reducible repeat (first | apply rA | apply rN | apply rD)); exact HO107.out, by exact uW⟩
 ·rw [if_neg c2] at H
  exact absurd H (by simp)
def slices_Clone_int_int.f (l0 : List Int) : Option (List Int) := if l0.length < 17592186044416 then some l0 else none
theorem slices_Clone_int_int.calls (A0 : Option Addr) (c0 : Nat) (l0 : List Int) (r : List Int) (w : World) (hr0 : Kd.C (Kd.int .i64) w A0 l0.length l0) (hc0 : l0.length ≤ c0) (h : slices_Clone_int_int.f l0 = some r) :
  Calls Try.prog 76 #[.slice A0 l0.length c0] w fun e w' => ∃ v0_ : Value, e = .returned (v0_) ∧ Kd.R (Kd.int .i64) 3 w' w.heap.size (fun _ => True) v0_ r ∧ Below w.heap.size w w' := by
 unfold slices_Clone_int_int.f at h
 by_cases hl : l0.length < 17592186044416
 ·rw [if_pos hl] at h
  obtain rfl := Option.some.inj h
  cases A0 with
  | none =>
   obtain rfl := Fun.C_none hr0
   exact slices_Clone_int_int_N.calls c0 [] [] w hr0 hc0 (by simp [slices_Clone_int_int_N.f])
  | some ad => exact slices_Clone_int_int_S.calls ad c0 l0 l0 w hr0 hc0 (by simp [slices_Clone_int_int_S.f, hl])
 ·rw [if_neg hl] at h
  cases h
section
structure BpSt where
 least : Int
 count : Int
 best : List Int
def bpLeaf (num : List Int → Option Int) (p : List Int) (s : BpSt) : Option BpSt :=
 (num p).bind fun own =>
  if s.count = 0 ∨ own < s.least then some ⟨own, 1, p⟩
  else if own = s.least then some ⟨s.least, wrap64 (s.count + 1), s.best⟩ else some s
def bpNext (ws : List Int) (t : Nat) (x : Int) : List Int := (if t < ws.length then ws else ws ++ [0]).set t (wrap64 (rd (if t < ws.length then ws else ws ++ [0]) (t : Int) + x))
theorem bpNext_old {ws : List Int} {t : Nat} {x : Int} (h : t < ws.length) : bpNext ws t x = ws.set t (wrap64 (rdOf 0 ws (t : Int) + x)) := by
 unfold bpNext
 rw [if_pos h]
 rfl
theorem bpNext_new (ws : List Int) (x : Int) : bpNext ws ws.length x = (ws ++ [0]).set ws.length (wrap64 (rdOf 0 (ws ++ [0]) (ws.length : Int) + x)) := by
 unfold bpNext
 rw [if_neg (Nat.lt_irrefl _)]
 rfl
def bpLoop (f : List Int → List Int → BpSt → Option BpSt) (bag x : Int) (p ws : List Int) : Nat → Nat → BpSt → Option BpSt
 | 0, _, s => some s
 | m + 1, t, s => if rd (bpNext ws t x) (t : Int) ≤ bag then (f (p ++ [(t : Int)]) (bpNext ws t x) s).bind fun s' => bpLoop f bag x p ws m (t + 1) s' else bpLoop f bag x p ws m (t + 1) s
def bpGo (num : List Int → Option Int) (l : List S45) (bag : Int) : Nat → List Int → List Int → BpSt → Option BpSt
 | 0, p, _, s => bpLeaf num p s
 | d + 1, p, ws, s => bpLoop (bpGo num l bag d) bag (rd_T45 l (p.length : Int)).f1 p ws (ws.length + 1) 0 s
structure BpKeep (N : Nat) (W W' : World) : Prop where
 os : W'.os = W.os
 tape : W'.tape = W.tape
 output : W'.output = W.output
 size : W.heap.size ≤ W'.heap.size
 block : ∀ k, k < W.heap.size → k ≠ N + 3 → k ≠ N + 4 → k ≠ N + 5 → W'.heap[k]? = W.heap[k]?
theorem BpKeep.refl (N : Nat) (W : World) : BpKeep N W W := ⟨rfl, rfl, rfl, Nat.le_refl _, fun _ _ _ _ _ => rfl⟩
theorem BpKeep.trans {N : Nat} {a b c : World} (h : BpKeep N a b) (k : BpKeep N b c) : BpKeep N a c :=
 ⟨k.os.trans h.os, k.tape.trans h.tape, k.output.trans h.output, Nat.le_trans h.size k.size, fun i hi h3 h4 h5 => (k.block i (Nat.lt_of_lt_of_le hi h.size) h3 h4 h5).trans (h.block i hi h3 h4 h5)⟩
theorem BpKeep.of_below {N : Nat} {a b : World} (h : Below a.heap.size a b) : BpKeep N a b := ⟨h.os, h.tape, h.output, h.size, fun i hi _ _ _ => h.block i hi⟩
theorem BpKeep.below {N : Nat} {a b c : World} (h : BpKeep N a b) (k : Below b.heap.size b c) : BpKeep N a c := h.trans (BpKeep.of_below k)
theorem BpKeep.set {N : Nat} {a b : World} (h : BpKeep N a b) (g : Nat) (hg : g = N + 3 ∨ g = N + 4 ∨ g = N + 5 ∨ a.heap.size ≤ g) (j : Nat) (u : Value) : BpKeep N a (b.setCell ⟨g, j, none⟩ u) :=
 ⟨h.os, h.tape, h.output, by simpa [World.setCell] using h.size, fun i hi h3 h4 h5 => (Below.heap_setCell _ _ _ _ (by show i ≠ g; omega)).trans (h.block i hi h3 h4 h5)⟩
theorem BpKeep.lo {N : Nat} {w0 a b : World} (h : BpKeep N a b) (hb : Below N w0 a) (hN : N + 7 ≤ a.heap.size) : Below N w0 b :=
 hb.trans ⟨h.os, h.tape, h.output, h.size, fun k hk => h.block k (by omega) (by omega) (by omega) (by omega)⟩
theorem BpKeep.cell {N : Nat} {a b : World} (h : BpKeep N a b) {g j : Nat} {v : Value} (hc : a.cell? ⟨g, j, none⟩ = some v) (h3 : g ≠ N + 3) (h4 : g ≠ N + 4) (h5 : g ≠ N + 5) : b.cell? ⟨g, j, none⟩ = some v :=
 (World.cell?_of_block (w := a) (a := ⟨g, j, none⟩) (h.block g (World.block_lt_of_cell? a _ hc) h3 h4 h5)).trans hc
theorem BpKeep.row {N : Nat} {a b : World} (h : BpKeep N a b) {e : Nat} {v : Value} {xs : List Int} (hr : Kd.R (Kd.int .i64) e a (N + 7) (fun _ => True) v xs) : Kd.R (Kd.int .i64) e b (N + 7) (fun _ => True) v xs := by
 have := Kd.R_bound hr
 exact Kd.R_mono (Kd.R_step this (fun k hk hlt => h.block k hlt (by have := hk.2.1; omega) (by have := hk.2.1; omega) (by have := hk.2.1; omega))) (fun _ _ => trivial)
theorem BpKeep.drew {N : Nat} {a b : World} (h : BpKeep N a b) : BpKeep N a b.drew := ⟨h.os, h.tape, h.output, h.size, h.block⟩
structure BpBox (N : Nat) (A0 : Option Addr) (n0 c0 : Nat) (bag : Int) (fv ev : Value) (W : World) : Prop where
 list : W.cell? ⟨N, 0, none⟩ = some (.slice A0 n0 c0)
 bag : W.cell? ⟨N + 1, 0, none⟩ = some (.int .i64 bag)
 num : W.cell? ⟨N + 2, 0, none⟩ = some fv
 ext : W.cell? ⟨N + 6, 0, none⟩ = some ev
theorem BpBox.keep {N : Nat} {A0 : Option Addr} {n0 c0 : Nat} {bag : Int} {fv ev : Value} {W W' : World} (h : BpBox N A0 n0 c0 bag fv ev W) (k : BpKeep N W W') : BpBox N A0 n0 c0 bag fv ev W' :=
 ⟨k.cell h.list (by omega) (by omega) (by omega), k.cell h.bag (by omega) (by omega) (by omega), k.cell h.num (by omega) (by omega) (by omega), k.cell h.ext (by omega) (by omega) (by omega)⟩
structure BpVar (N : Nat) (s : BpSt) (v : Value) (W : World) : Prop where
 least : W.heap[N + 3]? = some (.cells #[.int .i64 s.least] 3 (0, 0))
 count : W.heap[N + 4]? = some (.cells #[.int .i64 s.count] 3 (0, 0))
 best : W.heap[N + 5]? = some (.cells #[v] 27 (0, 0))
 row : Kd.R (Kd.int .i64) 3 W (N + 7) (fun _ => True) v s.best
theorem BpVar.below {N : Nat} {s : BpSt} {v : Value} {W W' : World} (h : BpVar N s v W) (hb : Below W.heap.size W W') : BpVar N s v W' :=
 ⟨blk_below h.least hb, blk_below h.count hb, blk_below h.best hb, Kd.R_below h.row hb⟩
theorem BpVar.drew {N : Nat} {s : BpSt} {v : Value} {W : World} (h : BpVar N s v W) : BpVar N s v W.drew := ⟨h.least, h.count, h.best, Kd.R_drew h.row⟩
theorem bp_row_set {N : Nat} {w : World} {e : Nat} {v : Value} {xs : List Int} (hr : Kd.R (Kd.int .i64) e w (N + 7) (fun _ => True) v xs) (g j : Nat) (hg : g < N + 7) (u : Value) : Kd.R (Kd.int .i64) e (w.setCell ⟨g, j, none⟩ u) (N + 7) (fun _ => True) v xs :=
 Kd.R_mono (Kd.R_far (p := ⟨g, j, none⟩) (Kd.R_bound hr) (fun k hk => (by have := hk.2.1; show k ≠ g; omega)) u) (fun _ _ => trivial)
theorem BpKeep.alloc {N : Nat} {a b : World} (h : BpKeep N a b) (o : Obj) : BpKeep N a (b.alloc o) := h.below (below_alloc (Below.refl _ _) o)
section
variable {N : Nat} {w3 W W' : World} {ev : Value}
theorem bp_S_alloc (h : W.cell? ⟨N + 6, 0, none⟩ = some ev ∧ BpKeep N w3 W) (o : Obj) : (W.alloc o).cell? ⟨N + 6, 0, none⟩ = some ev ∧ BpKeep N w3 (W.alloc o) :=
 ⟨((BpKeep.refl N W).alloc o).cell h.1 (by omega) (by omega) (by omega), h.2.alloc o⟩
theorem bp_S_below (h : W.cell? ⟨N + 6, 0, none⟩ = some ev ∧ BpKeep N w3 W) (hb : Below W.heap.size W W') : W'.cell? ⟨N + 6, 0, none⟩ = some ev ∧ BpKeep N w3 W' :=
 ⟨(BpKeep.of_below (N := N) hb).cell h.1 (by omega) (by omega) (by omega), h.2.below hb⟩
theorem bp_S_from (h : w3.drew.cell? ⟨N + 6, 0, none⟩ = some ev) (hb : Below w3.heap.size w3 W') : W'.cell? ⟨N + 6, 0, none⟩ = some ev ∧ BpKeep N w3 W' :=
 ⟨(BpKeep.of_below (N := N) hb).cell h (by omega) (by omega) (by omega), BpKeep.of_below hb⟩
theorem bp_S_keep (h : W.cell? ⟨N + 6, 0, none⟩ = some ev ∧ BpKeep N w3 W) (hk : BpKeep N W W') : W'.cell? ⟨N + 6, 0, none⟩ = some ev ∧ BpKeep N w3 W' :=
 ⟨hk.cell h.1 (by omega) (by omega) (by omega), h.2.trans hk⟩
end
theorem bp_then {w3 W W' : World} (h : Below w3.heap.size w3 W) (k : Below W.heap.size W W') : Below w3.heap.size w3 W' := below_then h h.size k
theorem lit_C (w : World) (x : Int) (e : Nat) : Kd.C (Kd.int .i64) (w.alloc (.cells #[.int .i64 x] e)) (some ⟨w.heap.size, 0, none⟩) 1 [x] :=
 Kd.C_of_reads (enc := Value.int .i64) (d := (0 : Int)) ⟨rfl, by omega, fun _ => ⟨_, rfl, fun j hj => by
  obtain rfl : j = 0 := by omega
  simp [Addr.add]⟩⟩
theorem bp_far (w : World) (g j : Nat) (u : Value) (k : Nat) (h : k ≠ g) : (w.setCell ⟨g, j, none⟩ u).heap[k]? = w.heap[k]? := Below.heap_setCell _ _ _ _ h
theorem BpVar.put1 {N : Nat} {s : BpSt} {v : Value} {w : World} (h : BpVar N s v w) (b : Int) : BpVar N ⟨s.least, b, s.best⟩ v (w.setCell ⟨N + 4, 0, none⟩ (.int .i64 b)) :=
 ⟨(bp_far _ _ _ _ _ (by omega)).trans h.least, by simpa using blk_set h.count 0 (.int .i64 b), (bp_far _ _ _ _ _ (by omega)).trans h.best, bp_row_set h.row _ _ (by omega) _⟩
theorem BpVar.put3 {N : Nat} {s : BpSt} {v0 v : Value} {w : World} {xs : List Int} (h1 : w.heap[N + 3]? = some (.cells #[.int .i64 s.least] 3 (0, 0))) (h2 : w.heap[N + 4]? = some (.cells #[.int .i64 s.count] 3 (0, 0))) (h3 : w.heap[N + 5]? = some (.cells #[v0] 27 (0, 0)))
  (hr : Kd.R (Kd.int .i64) 3 w (N + 7) (fun _ => True) v xs) (a b : Int) :
  BpVar N ⟨a, b, xs⟩ v (((w.setCell ⟨N + 3, 0, none⟩ (.int .i64 a)).setCell ⟨N + 4, 0, none⟩ (.int .i64 b)).setCell ⟨N + 5, 0, none⟩ v) := by
 have k1 := blk_set h1 0 (.int .i64 a)
 have k2 := blk_set ((bp_far w (N + 3) 0 (.int .i64 a) _ (by omega)).trans h2) 0 (.int .i64 b)
 have k3 := blk_set ((bp_far (w.setCell ⟨N + 3, 0, none⟩ (.int .i64 a)) (N + 4) 0 (.int .i64 b) _ (by omega)).trans ((bp_far w (N + 3) 0 (.int .i64 a) _ (by omega)).trans h3)) 0 v
 refine ⟨?_, ?_, by simpa using k3, bp_row_set (bp_row_set (bp_row_set hr _ _ (by omega) _) _ _ (by omega) _) _ _ (by omega) _⟩
 ·rw [bp_far _ _ _ _ _ (by omega), bp_far _ _ _ _ _ (by omega)]
  simpa using k1
 ·rw [bp_far _ _ _ _ _ (by omega)]
  simpa using k2
theorem bp_extend (num : List Int → Option Int) (gn : Nat) (lbn : Array Value) (egn : ∀ args w, (callFunc gn args).run Try.prog w = .ok (.enter gn args) w)
  (ege : ∀ args w, (callFunc 75 args).run Try.prog w = .ok (.enter 75 args) w)
  (A0 : Option Addr) (c0 : Nat) (l0 : List S45) (bag : Int) (w0 : World) (hr0 : Kd.C k45 w0 A0 l0.length l0) (hc0 : l0.length ≤ c0) (hl : l0.length ≤ 8)
  (hnum : ∀ (W : World) (p : List Int) (A : Option Addr) (c : Nat) (x : Int), Below w0.heap.size w0 W → Kd.C (Kd.int .i64) W A p.length p → p.length ≤ c → p.length = l0.length → num p = some x → Calls Try.prog gn (#[.slice A0 l0.length c0, .slice A p.length c] ++ lbn) W fun e w' => e = .returned (.int .i64 x) ∧ Below W.heap.size W w')
  (ev : Value) (hev : ev = .func (.func 75) #[] #[.pointer (some ⟨w0.heap.size, 0, none⟩), .pointer (some ⟨w0.heap.size + 2, 0, none⟩), .pointer (some ⟨w0.heap.size + 4, 0, none⟩), .pointer (some ⟨w0.heap.size + 3, 0, none⟩), .pointer (some ⟨w0.heap.size + 5, 0, none⟩), .pointer (some ⟨w0.heap.size + 1, 0, none⟩), .pointer (some ⟨w0.heap.size + 6, 0, none⟩)]) :
  ∀ (d : Nat) (p ws : List Int) (vp vw : Value) (s s' : BpSt) (v : Value) (W : World), bpGo num l0 bag d p ws s = some s' → p.length + d = l0.length → ws.length ≤ p.length →
   Below w0.heap.size w0 W → w0.heap.size + 7 ≤ W.heap.size → BpBox w0.heap.size A0 l0.length c0 bag (.func (.func gn) #[] lbn) ev W → BpVar w0.heap.size s v W →
   Kd.R (Kd.int .i64) 3 W (w0.heap.size + 7) (fun _ => True) vp p → Kd.R (Kd.int .i64) 3 W (w0.heap.size + 7) (fun _ => True) vw ws →
   Calls Try.prog 75 (#[vp, vw] ++ #[.pointer (some ⟨w0.heap.size, 0, none⟩), .pointer (some ⟨w0.heap.size + 2, 0, none⟩), .pointer (some ⟨w0.heap.size + 4, 0, none⟩), .pointer (some ⟨w0.heap.size + 3, 0, none⟩), .pointer (some ⟨w0.heap.size + 5, 0, none⟩), .pointer (some ⟨w0.heap.size + 1, 0, none⟩), .pointer (some ⟨w0.heap.size + 6, 0, none⟩)]) W
    fun e w' => e = .returned (.tuple #[]) ∧ BpKeep w0.heap.size W w' ∧ ∃ v', BpVar w0.heap.size s' v' w' := by
 intro d
 induction d with
 | zero =>
  intro p ws vp vw s s' v W h hlen hws hlo hsz hbox hvar hp hw
  subst hev
  obtain ⟨Ap, cp, rfl, hcp, hCp⟩ := Kd.R_reads hp
  obtain ⟨Aw, cw, rfl, hcw, hCw⟩ := Kd.R_reads hw
  unfold bpGo bpLeaf at h
  obtain ⟨own, hown, hh⟩ := Option.bind_eq_some_iff.1 h
  clear h
  obtain ⟨b1, b2, b3, b4⟩ := hbox
  obtain ⟨v1, v2, v3, v4⟩ := hvar
  have q1 := blk_cell v1 0
  have q2 := blk_cell v2 0
  have q3 := blk_cell v3 0
  have e1 : decide ((p.length : Int) = (l0.length : Int)) = true := decide_eq_true (by omega)
  have KN := am (hnum W p Ap cp own hlo hCp hcp (by omega) hown)
  have HP := am hp
  have CP := am hCp
  have HW := am hw
  have HH := am hh
  clear hp hw hh hnum hCp hCw ege hown hr0
  go_enter Try.func75, Try.ntmps75
  go_wp2_with fail
  refine KN.out.mono ?_
  rintro e w1 ⟨rfl, hb⟩
  have k1 : BpKeep w0.heap.size W w1 := BpKeep.of_below hb
  have q1 := blk_cell (blk_below v1 hb) 0
  have q2 := blk_cell (blk_below v2 hb) 0
  have q3 := blk_cell (blk_below v3 hb) 0
  clear egn b1 b2 b3 b4
  have KC := am (slices_Clone_int_int.calls Ap cp p p w1 (Kd.C_below CP.out hb) hcp (by unfold slices_Clone_int_int.f; rw [if_pos (by omega)]))
  by_cases hc : s.count = 0 ∨ own < s.least
  ·have hh := HH.out
   rw [if_pos hc] at hh
   obtain rfl := Option.some.inj hh
   have HV := am v4
   have V1 := am (blk_below v1 hb)
   have V2 := am (blk_below v2 hb)
   have V3 := am (blk_below v3 hb)
   have HK := am k1
   have HB1 := am hb
   clear hh HH v1 v2 v3 v4 k1 hb KN HP HW CP
   go_wp2_with fail
   all_goals
    refine KC.out.mono ?_
    rintro e w2 ⟨vb, rfl, HO, hb2⟩
    have V12 := am (blk_below V1.out hb2)
    have V22 := am (blk_below V2.out hb2)
    have V32 := am (blk_below V3.out hb2)
    have HK2 := am (HK.out.below hb2)
    have q1 := blk_cell V12.out 0
    have q2 := blk_cell V22.out 0
    have q3 := blk_cell V32.out 0
    have f1 := blk_frozen V12.out 0
    have f2 := blk_frozen V22.out 0
    have f3 := blk_frozen V32.out 0
    obtain ⟨Ab, cb, rfl⟩ := Kd.R_slice HO
    have HOO := am HO
    clear hb2 HO V1 V2 V3
    go_wp2
    first | go_end0 | ((try simp only [Exit.inBlock, Exit.then]); refine bodyPost_ret (results_none rfl _ _ _) rfl ?_)
    exact ⟨rfl, (((HK2.out.set _ (.inl rfl) 0 _).set _ (.inr (.inl rfl)) 0 _).set _ (.inr (.inr (.inl rfl))) 0 _).set _ (.inr (.inl rfl)) 0 _, _, (BpVar.put3 V12.out V22.out V32.out (Kd.R_lower HOO.out (Nat.le_trans (by omega) HB1.out.size)) own 0).put1 1⟩
  ·have hh := HH.out
   rw [if_neg hc] at hh
   have c1 : (s.count == 0) = false := by simp; omega
   have c2 : decide (own < s.least) = false := decide_eq_false (by omega)
   have VV := am (BpVar.below ⟨v1, v2, v3, v4⟩ hb)
   have f2 := blk_frozen (blk_below v2 hb) 0
   have HK := am k1
   clear HH v1 v2 v3 v4 k1 hb KN HP HW CP KC
   by_cases ho : own = s.least
   ·rw [if_pos ho] at hh
    obtain rfl := Option.some.inj hh
    have c3 : (own == s.least) = true := by simpa using ho
    clear hh hc
    go_wp2
    first | go_end0 | ((try simp only [Exit.inBlock, Exit.then]); refine bodyPost_ret (results_none rfl _ _ _) rfl ?_)
    exact ⟨rfl, HK.out.set _ (.inr (.inl rfl)) 0 _, _, VV.out.put1 _⟩
   ·rw [if_neg ho] at hh
    obtain rfl := Option.some.inj hh
    have c3 : (own == s.least) = false := by simpa using ho
    clear hh hc
    go_wp2
    first | go_end0 | ((try simp only [Exit.inBlock, Exit.then]); refine bodyPost_ret (results_none rfl _ _ _) rfl ?_)
    exact ⟨rfl, HK.out, _, VV.out⟩
 | succ d ih =>
  intro p ws vp vw s s' v W h hlen hws hlo hsz hbox hvar hp hw
  subst hev
  obtain ⟨Ap, cp, rfl, hcp, hCp⟩ := Kd.R_reads hp
  obtain ⟨Aw, cw, rfl, hcw, hCw⟩ := Kd.R_reads hw
  unfold bpGo at h
  obtain ⟨ad, ead, hx0, hx1⟩ := at_T45 (Kd.C_below hr0 hlo) (p.length : Int) (by omega) (by omega)
  have b1 := hbox.list
  have e1 : decide ((p.length : Int) = (l0.length : Int)) = false := decide_eq_false (by omega)
  have HR := am hr0
  have HP := am hp
  have HW := am hw
  have HH := am h
  have HV := am hvar
  have HX := am hbox
  have HLO := am hlo
  have HN := am hnum
  have IH := am ih
  have e2 : wrap64 ((ws.length : Int) + 1) = ((ws.length + 1 : Nat) : Int) := by unfold wrap64; omega
  clear hp hw h hnum hCp hCw hr0 hvar hbox hlo ih
  go_enter Try.func75, Try.ntmps75
  go_wp2_with fail
  generalize hx : (rd_T45 l0 (p.length : Int)).f1 = x at *
  have HX1 := am hx
  clear hx0 hx1 hx b1
  go_loopg [43] (ws.length + 1) (fun gg s43 wr => ∃ (t : Nat) (st : BpSt) (v : Value), s43 = .int .i64 (t : Int) ∧ t + gg = ws.length + 1 ∧ Aside0 (bpLoop (bpGo num l0 bag d) bag x p ws gg t st = some s') ∧ Aside0 (BpKeep w0.heap.size W wr) ∧ Aside0 (BpVar w0.heap.size st v wr))
  case atStart => exact ⟨0, s, v, rfl, by omega, HH, ⟨BpKeep.refl _ _⟩, HV⟩
  case round =>
   obtain ⟨t, st, v', rfl, hg, HL, HK, HVV⟩ := hrel
   by_cases hlt : t < ws.length + 1
   ·obtain ⟨m, rfl⟩ : ∃ m, gk = m + 1 := ⟨gk - 1, by omega⟩
    have c1 : decide ((t : Int) < (ws.length : Int) + 1) = true := decide_eq_true (by omega)
    have CW := (Kd.R_reads' (HK.out.row HW.out)).2.2
    have KC := am (slices_Clone_int_int.calls Aw cw ws ws wr CW hcw (by unfold slices_Clone_int_int.f; rw [if_pos (by omega)]))
    clear CW
    go_wp2_with fail
    refine KC.out.mono ?_
    rintro e w1 ⟨vn, rfl, hn, hb1⟩
    have HN1 := am hn
    have HB1 := am hb1
    clear hn hb1 KC
    by_cases hq : t < ws.length
    ·have cq : decide ((t : Int) < (ws.length : Int)) = true := decide_eq_true (by omega)
     go_wp2_with (first | ((with_reducible refine gate_builtin (b := .append) (xs := #[.tmp 47, .tmp 48]) rfl ?_); at_builtin; refine Kd.R_append (Kd.int .i64) (w0 := wr) wr.heap.size rfl (.tmp 47) (.tmp 48) 27 3 (.int .i64 0) 8 rfl Try.underlying27 info3 rfl (by decide) (by omega) vn ws 0 [.int .i64 0] (fun _ => True) (fun _ => False) rfl rfl ?aP (fun _ hk => hk.elim) ?aF ?aO ?aB ?aS ?aL ?_; (case aP => exact rfl); (case aF => exact fun _ _ => trivial); (case aO => exact HN1.out); (case aB => exact HB1.out); (case aS => exact HB1.out.size); (case aL => omega); intro v1 w2 ho hb hg hat; obtain ⟨g, cap, rfl, hbg, hgl, cells, hcells⟩ := Kd.R_form ho (by simp); rw [show (ws ++ [(0 : Int)]).length = ws.length + 1 from by simp] at ho ⊢; obtain ⟨i0, hi0, _, _, _⟩ := info_parts info3; have hcut := cut_to (P := Try.prog) 27 3 .i64 Try.underlying27 hi0 (some ⟨g, 0, none⟩) (ws.length + 1) cap (ws.length : Int) (by omega) (by omega) (Kd.R_reads' ho).2.1; rw [Int.toNat_natCast] at hcut; have HT := Kd.R_take (m := ws.length) ho (by simp); rw [List.take_left' rfl] at HT; have HTT := am HT; have hcl := Kd.R_celln 0 HT (t : Int) (by omega) (by omega); rw [Int.toNat_natCast] at hcl; obtain ⟨hcl, hfz⟩ := hcl; have hk2 := (HK.out.below hb); have HKK := am hk2; have HBB := am hb; have bx := (HX.out.keep hk2); have bl := bx.list; have bb := bx.bag; have be := bx.ext; clear bx; obtain ⟨ad2, ead2, _, hx2⟩ := at_T45 (Kd.C_below HR.out (hk2.lo HLO.out hsz)) (p.length : Int) (by omega) (by omega); rw [HX1.out, Int.toNat_natCast, Option.some.inj (ead2.symm.trans ead)] at hx2; clear ead2; clear ho hb hg hat hk2 HT HN1 HB1; have hg1 : w0.heap.size + 7 ≤ g := Nat.le_trans (Nat.le_trans hsz HK.out.size) hbg))
     go_region
     go_wp2_with fail
     have HV3 := HTT.out
     obtain ⟨y, hy⟩ : ∃ y, y = wrap64 (rdOf 0 ws (t : Int) + x) := ⟨_, rfl⟩
     have HT3 : Kd.R (Kd.int .i64) 3 _ _ _ _ _ := Kd.R_drew (Kd.R_putn HTT.out (t : Int) y)
     have HB3 : Below wr.heap.size wr _ := (HBB.out.setCell (p := ⟨g, t, none⟩) hbg (.int .i64 y)).drew
     have hcy : ((w2.setCell ⟨g, t, none⟩ (.int .i64 y)).drew).cell? ⟨g, t, none⟩ = some (.int .i64 y) := World.cell?_setCell_same _ _ _ hcl
     rw [Int.toNat_natCast] at HT3
     rw [← hy]
     generalize (w2.setCell ⟨g, t, none⟩ (.int .i64 y)).drew = w3 at HT3 HB3 hcy ⊢
     have hk3 := HK.out.below HB3
     have bx := HX.out.keep hk3
     have bb3 := bx.bag
     have be3 := bx.ext
     have hNX : bpNext ws t x = ws.set t y := by rw [hy]; exact bpNext_old hq
     have HNX := am hNX
     have hrd : rd (ws.set t y) (t : Int) = y := by simp [rd, List.getD, List.getElem?_set, hq]
     have HRD := am hrd
     have HTA := am HT3
     have HBA := am HB3
     have HKA := am hk3
     have HPA := am (hk3.row HP.out)
     have hL := HL.out
     unfold bpLoop at hL
     rw [hNX, hrd] at hL
     clear HV3 HT3 HB3 bx hk3 hNX hrd HTT HBB bl bb be hcl hfz hx2 hgl hcells HL hy hcut
     by_cases hle : y ≤ bag
     ·rw [if_pos hle] at hL
      obtain ⟨s2, hs2, hL2⟩ := Option.bind_eq_some_iff.1 hL
      have HS2 := am hs2
      have HL2 := am hL2
      have c3 : decide (y ≤ bag) = true := decide_eq_true hle
      clear hL hs2 hL2 hle
      go_region
      go_wp2_with fail
      have be4 : w3.drew.drew.cell? ⟨w0.heap.size + 6, 0, none⟩ = _ := be3
      have bs4 : BpKeep w0.heap.size w3 w3.drew.drew := (BpKeep.refl _ _).drew.drew
      clear bb3 be3 hcy
      go_region_held3 (fun W' => W'.cell? ⟨w0.heap.size + 6, 0, none⟩ = some (.func (.func 75) #[] #[.pointer (some ⟨w0.heap.size, 0, none⟩), .pointer (some ⟨w0.heap.size + 2, 0, none⟩), .pointer (some ⟨w0.heap.size + 4, 0, none⟩), .pointer (some ⟨w0.heap.size + 3, 0, none⟩), .pointer (some ⟨w0.heap.size + 5, 0, none⟩), .pointer (some ⟨w0.heap.size + 1, 0, none⟩), .pointer (some ⟨w0.heap.size + 6, 0, none⟩)]) ∧ BpKeep w0.heap.size w3 W') (first | assumption | exact ⟨be4, bs4⟩ | exact bp_S_alloc (by assumption) _ | exact bp_S_below (by assumption) (by assumption) | exact bp_S_from (by assumption) (by assumption) | exact bp_S_keep (by assumption) (by assumption)) (first | (go_at_call 76; refine (slices_Clone_int_int.calls Ap cp p p _ (Kd.R_reads' (BpKeep.row (by first | exact bs4 | exact bs4.alloc _) HPA.out)).2.2 hcp (by unfold slices_Clone_int_int.f; rw [if_pos (by omega)])).mono ?_; rintro e w5 ⟨vc, rfl, hc5, hb5⟩; have hb53 : Below w3.heap.size w3 w5 := (by first | exact bp_then (below_drew (below_drew (Below.refl _ _))) hb5 | exact bp_then (below_alloc (below_drew (below_drew (Below.refl _ _))) _) hb5); have ho5 : Kd.R (Kd.int .i64) 3 w5 w3.heap.size (fun _ => True) vc p := Kd.R_lower hc5 (by first | exact Nat.le_refl _ | exact Nat.le_of_lt (by simp))) | (go_at_call 75; refine (IH.out (p ++ [(t : Int)]) (ws.set t y) v6 _ st s2 v' _ HS2.out (by simp; omega) (by simp; omega) ((BpKeep.of_below hb6).lo (HKA.out.lo HLO.out hsz) (Nat.le_trans (Nat.le_trans hsz HK.out.size) HBA.out.size)) (Nat.le_trans (Nat.le_trans hsz HK.out.size) (Nat.le_trans HBA.out.size hb6.size)) (HX.out.keep (HKA.out.below hb6)) ((HVV.out.below HBA.out).below hb6) (Kd.R_lower ho6 (Nat.le_trans (Nat.le_trans hsz HK.out.size) HBA.out.size)) (BpKeep.row (BpKeep.of_below hb6) (Kd.R_lower HTA.out (Nat.le_trans hsz HK.out.size)))).mono ?_; rintro e w7 ⟨rfl, hk7, vf, hv7⟩) | (refine Kd.R_append_rows_step (Kd.int .i64) (w0 := w3) w3.heap.size (by rfl) (.tmp 77) (.tmp 79) 27 3 (.int .i64 0) 8 rfl Try.underlying27 info3 rfl (by decide) (by omega) vc p [(t : Int)] _ _ _ (fun _ => True) (fun _ => False) rfl rfl ?aO ?aR (fun _ _ h => h) (fun _ h => h.elim) (fun _ _ => trivial) ?aB ?aS ?aL ?_; (case aO => first | exact ho5 | exact Kd.R_alloc ho5 _); (case aR => first | exact lit_C _ _ _ | (have hl5 := Kd.C_below (Kd.C_drew (Kd.C_drew (lit_C _ _ _))) hb5; exact hl5)); (case aB => first | exact hb53 | exact below_alloc hb53 _); (case aS => first | exact hb53.size | exact (below_alloc hb53 _).size); (case aL => omega); intro v6 w6 ho6 hb6 hg6 hat6))
      all_goals
       go_wp2
       go_roundg m
       (case measure => omega)
       (case rel => exact ⟨t + 1, s2, vf, rfl, by omega, HL2, ⟨(HKA.out.below hb6).trans hk7⟩, ⟨hv7⟩⟩)
     ·rw [if_neg hle] at hL
      have HL2 := am hL
      have c3 : decide (y ≤ bag) = false := decide_eq_false hle
      clear hL hle
      go_region
      go_wp2
      go_roundg m
      case measure => omega
      case rel => exact ⟨t + 1, st, v', rfl, by omega, HL2, ⟨HKA.out.drew⟩, ⟨(HVV.out.below HBA.out).drew⟩⟩
    ·have cq : decide ((t : Int) < (ws.length : Int)) = false := decide_eq_false (by omega)
     obtain rfl : t = ws.length := by omega
     go_wp2_with (first | ((with_reducible refine gate_builtin (b := .append) (xs := #[.tmp 47, .tmp 48]) rfl ?_); at_builtin; refine Kd.R_append (Kd.int .i64) (w0 := wr) wr.heap.size rfl (.tmp 47) (.tmp 48) 27 3 (.int .i64 0) 8 rfl Try.underlying27 info3 rfl (by decide) (by omega) vn ws 0 [.int .i64 0] (fun _ => True) (fun _ => False) rfl rfl ?aP (fun _ hk => hk.elim) ?aF ?aO ?aB ?aS ?aL ?_; (case aP => exact rfl); (case aF => exact fun _ _ => trivial); (case aO => exact HN1.out); (case aB => exact HB1.out); (case aS => exact HB1.out.size); (case aL => omega); intro v1 w2 ho hb hg hat; obtain ⟨g, cap, rfl, hbg, hgl, cells, hcells⟩ := Kd.R_form ho (by simp); rw [show (ws ++ [(0 : Int)]).length = ws.length + 1 from by simp] at ho ⊢; have HT := ho; have HTT := am HT; have hcl := Kd.R_celln 0 HT (ws.length : Int) (by omega) (by omega); rw [Int.toNat_natCast] at hcl; obtain ⟨hcl, hfz⟩ := hcl; have hk2 := (HK.out.below hb); have HKK := am hk2; have HBB := am hb; have bx := (HX.out.keep hk2); have bl := bx.list; have bb := bx.bag; have be := bx.ext; clear bx; obtain ⟨ad2, ead2, _, hx2⟩ := at_T45 (Kd.C_below HR.out (hk2.lo HLO.out hsz)) (p.length : Int) (by omega) (by omega); rw [HX1.out, Int.toNat_natCast, Option.some.inj (ead2.symm.trans ead)] at hx2; clear ead2; clear ho hb hg hat hk2 HT HN1 HB1; have hg1 : w0.heap.size + 7 ≤ g := Nat.le_trans (Nat.le_trans hsz HK.out.size) hbg))
     go_region
     go_wp2_with fail
     have HV3 := HTT.out
     obtain ⟨y, hy⟩ : ∃ y, y = wrap64 (rdOf 0 (ws ++ [0]) (ws.length : Int) + x) := ⟨_, rfl⟩
     have HT3 : Kd.R (Kd.int .i64) 3 _ _ _ _ _ := Kd.R_drew (Kd.R_putn HTT.out (ws.length : Int) y)
     have HB3 : Below wr.heap.size wr _ := (HBB.out.setCell (p := ⟨g, ws.length, none⟩) hbg (.int .i64 y)).drew
     have hcy : ((w2.setCell ⟨g, ws.length, none⟩ (.int .i64 y)).drew).cell? ⟨g, ws.length, none⟩ = some (.int .i64 y) := World.cell?_setCell_same _ _ _ hcl
     rw [Int.toNat_natCast] at HT3
     rw [← hy]
     generalize (w2.setCell ⟨g, ws.length, none⟩ (.int .i64 y)).drew = w3 at HT3 HB3 hcy ⊢
     have hk3 := HK.out.below HB3
     have bx := HX.out.keep hk3
     have bb3 := bx.bag
     have be3 := bx.ext
     have hNX : bpNext ws ws.length x = (ws ++ [0]).set ws.length y := by rw [hy]; exact bpNext_new ws x
     have HNX := am hNX
     have hrd : rd ((ws ++ [0]).set ws.length y) (ws.length : Int) = y := by simp [rd, List.getD, List.getElem?_set]
     have HRD := am hrd
     have HTA := am HT3
     have HBA := am HB3
     have HKA := am hk3
     have HPA := am (hk3.row HP.out)
     have hL := HL.out
     unfold bpLoop at hL
     rw [hNX, hrd] at hL
     clear HV3 HT3 HB3 bx hk3 hNX hrd HTT HBB bl bb be hcl hfz hx2 hgl hcells HL hy
     by_cases hle : y ≤ bag
     ·rw [if_pos hle] at hL
      obtain ⟨s2, hs2, hL2⟩ := Option.bind_eq_some_iff.1 hL
      have HS2 := am hs2
      have HL2 := am hL2
      have c3 : decide (y ≤ bag) = true := decide_eq_true hle
      clear hL hs2 hL2 hle
      go_region
      go_wp2_with fail
      have be4 : w3.drew.drew.cell? ⟨w0.heap.size + 6, 0, none⟩ = _ := be3
      have bs4 : BpKeep w0.heap.size w3 w3.drew.drew := (BpKeep.refl _ _).drew.drew
      clear bb3 be3 hcy
      go_region_held3 (fun W' => W'.cell? ⟨w0.heap.size + 6, 0, none⟩ = some (.func (.func 75) #[] #[.pointer (some ⟨w0.heap.size, 0, none⟩), .pointer (some ⟨w0.heap.size + 2, 0, none⟩), .pointer (some ⟨w0.heap.size + 4, 0, none⟩), .pointer (some ⟨w0.heap.size + 3, 0, none⟩), .pointer (some ⟨w0.heap.size + 5, 0, none⟩), .pointer (some ⟨w0.heap.size + 1, 0, none⟩), .pointer (some ⟨w0.heap.size + 6, 0, none⟩)]) ∧ BpKeep w0.heap.size w3 W') (first | assumption | exact ⟨be4, bs4⟩ | exact bp_S_alloc (by assumption) _ | exact bp_S_below (by assumption) (by assumption) | exact bp_S_from (by assumption) (by assumption) | exact bp_S_keep (by assumption) (by assumption)) (first | (go_at_call 76; refine (slices_Clone_int_int.calls Ap cp p p _ (Kd.R_reads' (BpKeep.row (by first | exact bs4 | exact bs4.alloc _) HPA.out)).2.2 hcp (by unfold slices_Clone_int_int.f; rw [if_pos (by omega)])).mono ?_; rintro e w5 ⟨vc, rfl, hc5, hb5⟩; have hb53 : Below w3.heap.size w3 w5 := (by first | exact bp_then (below_drew (below_drew (Below.refl _ _))) hb5 | exact bp_then (below_alloc (below_drew (below_drew (Below.refl _ _))) _) hb5); have ho5 : Kd.R (Kd.int .i64) 3 w5 w3.heap.size (fun _ => True) vc p := Kd.R_lower hc5 (by first | exact Nat.le_refl _ | exact Nat.le_of_lt (by simp))) | (go_at_call 75; refine (IH.out (p ++ [(ws.length : Int)]) ((ws ++ [0]).set ws.length y) v6 _ st s2 v' _ HS2.out (by simp; omega) (by simp; omega) ((BpKeep.of_below hb6).lo (HKA.out.lo HLO.out hsz) (Nat.le_trans (Nat.le_trans hsz HK.out.size) HBA.out.size)) (Nat.le_trans (Nat.le_trans hsz HK.out.size) (Nat.le_trans HBA.out.size hb6.size)) (HX.out.keep (HKA.out.below hb6)) ((HVV.out.below HBA.out).below hb6) (Kd.R_lower ho6 (Nat.le_trans (Nat.le_trans hsz HK.out.size) HBA.out.size)) (BpKeep.row (BpKeep.of_below hb6) (Kd.R_lower HTA.out (Nat.le_trans hsz HK.out.size)))).mono ?_; rintro e w7 ⟨rfl, hk7, vf, hv7⟩) | (refine Kd.R_append_rows_step (Kd.int .i64) (w0 := w3) w3.heap.size (by rfl) (.tmp 77) (.tmp 79) 27 3 (.int .i64 0) 8 rfl Try.underlying27 info3 rfl (by decide) (by omega) vc p [(ws.length : Int)] _ _ _ (fun _ => True) (fun _ => False) rfl rfl ?aO ?aR (fun _ _ h => h) (fun _ h => h.elim) (fun _ _ => trivial) ?aB ?aS ?aL ?_; (case aO => first | exact ho5 | exact Kd.R_alloc ho5 _); (case aR => first | exact lit_C _ _ _ | (have hl5 := Kd.C_below (Kd.C_drew (Kd.C_drew (lit_C _ _ _))) hb5; exact hl5)); (case aB => first | exact hb53 | exact below_alloc hb53 _); (case aS => first | exact hb53.size | exact (below_alloc hb53 _).size); (case aL => omega); intro v6 w6 ho6 hb6 hg6 hat6))
      all_goals
       go_wp2
       go_roundg m
       (case measure => omega)
       (case rel => exact ⟨ws.length + 1, s2, vf, rfl, by omega, HL2, ⟨(HKA.out.below hb6).trans hk7⟩, ⟨hv7⟩⟩)
     ·rw [if_neg hle] at hL
      have HL2 := am hL
      have c3 : decide (y ≤ bag) = false := decide_eq_false hle
      clear hL hle
      go_region
      go_wp2
      go_roundg m
      case measure => omega
      case rel => exact ⟨ws.length + 1, st, v', rfl, by omega, HL2, ⟨HKA.out.drew⟩, ⟨(HVV.out.below HBA.out).drew⟩⟩
   ·obtain rfl : gk = 0 := by omega
    have c1 : decide ((t : Int) < (ws.length : Int) + 1) = false := decide_eq_false (by omega)
    have hL := HL.out
    unfold bpLoop at hL
    obtain rfl := Option.some.inj hL
    clear hL HL HH
    go_wp2
    first | go_end0 | ((try simp only [Exit.inBlock, Exit.then]); refine bodyPost_ret (results_none rfl _ _ _) rfl ?_)
    exact ⟨rfl, HK.out, _, HVV.out⟩
end
theorem bp_boxes {w W : World} {v0 v1 v2 v3 v4 v5 v6 : Value} {t0 t1 t2 t3 t4 t5 t6 : TypeId}
  (h : World.alloc (World.alloc (World.alloc (World.alloc (World.alloc (World.alloc (World.alloc w (.cells #[v0] t0)) (.cells #[v1] t1)) (.cells #[v2] t2)) (.cells #[v3] t3)) (.cells #[v4] t4)) (.cells #[v5] t5)) (.cells #[v6] t6) = W) :
  Below w.heap.size w W ∧ W.heap.size = w.heap.size + 7 ∧ W.heap[w.heap.size]? = some (.cells #[v0] t0 (0, 0)) ∧ W.heap[w.heap.size + 1]? = some (.cells #[v1] t1 (0, 0)) ∧ W.heap[w.heap.size + 2]? = some (.cells #[v2] t2 (0, 0)) ∧
   W.heap[w.heap.size + 3]? = some (.cells #[v3] t3 (0, 0)) ∧ W.heap[w.heap.size + 4]? = some (.cells #[v4] t4 (0, 0)) ∧ W.heap[w.heap.size + 5]? = some (.cells #[v5] t5 (0, 0)) ∧ W.heap[w.heap.size + 6]? = some (.cells #[v6] t6 (0, 0)) := by
 subst h
 refine ⟨below_alloc (below_alloc (below_alloc (below_alloc (below_alloc (below_alloc (below_alloc (Below.refl _ _) _) _) _) _) _) _) _, by simp, ?_, ?_, ?_, ?_, ?_, ?_, ?_⟩
 ·exact blk_alloc (blk_alloc (blk_alloc (blk_alloc (blk_alloc (blk_alloc (blk_new _ _) _) _) _) _) _) _
 ·have := blk_new (w.alloc (.cells #[v0] t0)) (.cells #[v1] t1)
  rw [show (w.alloc (.cells #[v0] t0)).heap.size = w.heap.size + 1 by simp] at this
  exact blk_alloc (blk_alloc (blk_alloc (blk_alloc (blk_alloc this _) _) _) _) _
 ·have := blk_new ((w.alloc (.cells #[v0] t0)).alloc (.cells #[v1] t1)) (.cells #[v2] t2)
  rw [show ((w.alloc (.cells #[v0] t0)).alloc (.cells #[v1] t1)).heap.size = w.heap.size + 2 by simp] at this
  exact blk_alloc (blk_alloc (blk_alloc (blk_alloc this _) _) _) _
 ·have := blk_new (((w.alloc (.cells #[v0] t0)).alloc (.cells #[v1] t1)).alloc (.cells #[v2] t2)) (.cells #[v3] t3)
  rw [show (((w.alloc (.cells #[v0] t0)).alloc (.cells #[v1] t1)).alloc (.cells #[v2] t2)).heap.size = w.heap.size + 3 by simp] at this
  exact blk_alloc (blk_alloc (blk_alloc this _) _) _
 ·have := blk_new ((((w.alloc (.cells #[v0] t0)).alloc (.cells #[v1] t1)).alloc (.cells #[v2] t2)).alloc (.cells #[v3] t3)) (.cells #[v4] t4)
  rw [show ((((w.alloc (.cells #[v0] t0)).alloc (.cells #[v1] t1)).alloc (.cells #[v2] t2)).alloc (.cells #[v3] t3)).heap.size = w.heap.size + 4 by simp] at this
  exact blk_alloc (blk_alloc this _) _
 ·have := blk_new (((((w.alloc (.cells #[v0] t0)).alloc (.cells #[v1] t1)).alloc (.cells #[v2] t2)).alloc (.cells #[v3] t3)).alloc (.cells #[v4] t4)) (.cells #[v5] t5)
  rw [show (((((w.alloc (.cells #[v0] t0)).alloc (.cells #[v1] t1)).alloc (.cells #[v2] t2)).alloc (.cells #[v3] t3)).alloc (.cells #[v4] t4)).heap.size = w.heap.size + 5 by simp] at this
  exact blk_alloc this _
 ·have := blk_new ((((((w.alloc (.cells #[v0] t0)).alloc (.cells #[v1] t1)).alloc (.cells #[v2] t2)).alloc (.cells #[v3] t3)).alloc (.cells #[v4] t4)).alloc (.cells #[v5] t5)) (.cells #[v6] t6)
  rw [show ((((((w.alloc (.cells #[v0] t0)).alloc (.cells #[v1] t1)).alloc (.cells #[v2] t2)).alloc (.cells #[v3] t3)).alloc (.cells #[v4] t4)).alloc (.cells #[v5] t5)).heap.size = w.heap.size + 6 by simp] at this
  exact this
theorem bp_call (num : List Int → Option Int) (gn : Nat) (lbn : Array Value) (egn : ∀ args w, (callFunc gn args).run Try.prog w = .ok (.enter gn args) w)
  (A0 : Option Addr) (c0 : Nat) (l0 : List S45) (bag : Int) (w : World) (hr0 : Kd.C k45 w A0 l0.length l0) (hc0 : l0.length ≤ c0) (hl : l0.length ≤ 8)
  (hnum : ∀ (W : World) (p : List Int) (A : Option Addr) (c : Nat) (x : Int), Below w.heap.size w W → Kd.C (Kd.int .i64) W A p.length p → p.length ≤ c → p.length = l0.length → num p = some x → Calls Try.prog gn (#[.slice A0 l0.length c0, .slice A p.length c] ++ lbn) W fun e w' => e = .returned (.int .i64 x) ∧ Below W.heap.size W w')
  (s : BpSt) (h : bpGo num l0 bag l0.length [] [] ⟨0, 0, []⟩ = some s) :
  Calls Try.prog 42 #[.slice A0 l0.length c0, .int .i64 bag, .func (.func gn) #[] lbn] w fun e w' => ∃ v, e = .returned (.tuple #[.int .i64 s.least, v, .int .i64 s.count]) ∧ Kd.R (Kd.int .i64) 3 w' w.heap.size (fun _ => True) v s.best ∧ Below w.heap.size w w' := by
 have key := fun ev hev W h1 h2 h3 h4 => bp_extend num gn lbn egn (enters_of Try.func75 (by kernel_rfl) rfl) A0 c0 l0 bag w hr0 hc0 hl hnum ev hev l0.length [] [] (.slice none 0 0) (.slice none 0 0) ⟨0, 0, []⟩ s (.slice none 0 0) W h (Nat.zero_add _) (Nat.le_refl _) h1 h2 h3 h4 (Kd.R_nil _ _ _ _ _) (Kd.R_nil _ _ _ _ _)
 have KY := am key
 clear key hr0 hnum h egn
 go_enter Try.func42, Try.ntmps42
 go_wp2_with fail
 generalize hW : World.alloc (World.alloc (World.alloc (World.alloc (World.alloc (World.alloc (World.alloc w _) _) _) _) _) _) _ = W1
 obtain ⟨hb, hs, b0, b1, b2, b3, b4, b5, b6⟩ := bp_boxes hW
 have HB := am hb
 have BX : Aside0 (BpBox w.heap.size A0 l0.length c0 bag (.func (.func gn) #[] lbn) _ W1) := ⟨⟨(blk_cell b0 0).trans rfl, (blk_cell b1 0).trans rfl, (blk_cell b2 0).trans rfl, (blk_cell b6 0).trans rfl⟩⟩
 have BV : Aside0 (BpVar w.heap.size ⟨0, 0, []⟩ (.slice none 0 0) W1) := ⟨⟨b3, b4, b5, Kd.R_nil _ _ _ _ _⟩⟩
 clear hW hb b0 b1 b2 b3 b4 b5 b6
 simp only [Nat.add_assoc, Nat.reduceAdd] at BX ⊢
 refine (KY.out _ rfl W1 HB.out (by omega) BX.out BV.out).mono ?_
 rintro e w2 ⟨rfl, hk, v', hv⟩
 have hlo := hk.lo HB.out (by omega)
 obtain ⟨Ab, cb, rfl⟩ := Kd.R_slice hv.row
 have q1 : w2.cell? ⟨w.heap.size + 3, 0, none⟩ = some (.int .i64 s.least) := blk_cell hv.least 0
 have q2 : w2.cell? ⟨w.heap.size + 4, 0, none⟩ = some (.int .i64 s.count) := blk_cell hv.count 0
 have q3 : w2.cell? ⟨w.heap.size + 5, 0, none⟩ = some (.slice Ab s.best.length cb) := blk_cell hv.best 0
 have HL := am hlo
 have HR := am (Kd.R_lower hv.row (base' := w.heap.size) (by omega))
 clear hk hv hlo KY BX BV HB hs
 go_wp2
 go_region
 go_wp2
 go_ret3
 exact ⟨_, rfl, Kd.R_drew HR.out, below_drew HL.out⟩
def impl_FirstShortestPlan.f (k : Nat) (l0 : List (S45)) (a1 : Int) : Option (List Int × Bool) := (impl_fitBag.f l0 a1).bind fun t => if t = true then (if l0.length ≤ 8 then (bpGo (fun p => impl_lengthOf.f k l0 p) l0 a1 l0.length [] [] ⟨0, 0, []⟩).bind fun s => some (s.best, true) else none) else some ([], false)
theorem impl_FirstShortestPlan.calls (k : Nat) (A0 : Option Addr) (c0 : Nat) (l0 : List (S45)) (a1 : Int) (r1 : List Int) (r2 : Bool) (w : World) (hr0 : Kd.C k45 w A0 l0.length l0) (hc0 : l0.length ≤ c0) (h : impl_FirstShortestPlan.f k l0 a1 = some (r1, r2)) :
  Calls Try.prog 6 #[.slice A0 l0.length c0, .int .i64 a1] w fun e w' => ∃ v0_ : Value, e = .returned (.tuple #[v0_, .bool r2]) ∧ Kd.R (Kd.int .i64) 3 w' w.heap.size (fun _ => True) v0_ r1 ∧ Below w.heap.size w w' := by
 unfold impl_FirstShortestPlan.f at h
 obtain ⟨t, ht, hh⟩ := Option.bind_eq_some_iff.1 h
 clear h
 have HR := am hr0
 have HC := am hc0
 have eg := enters_of Try.func43 (by kernel_rfl) rfl
 clear hr0 hc0
 have key := fun W hW => impl_fitBag.calls A0 c0 l0 a1 t W hW HC.out ht
 clear ht
 cases t with
 | false =>
  rw [if_neg (by decide)] at hh
  obtain ⟨rfl, rfl⟩ : r1 = [] ∧ r2 = false := by simpa [eq_comm] using hh
  clear hh
  go_enter Try.func6, Try.ntmps6
  go_wp2_with fail
  refine (key _ HR.out).mono ?_
  rintro e w1 ⟨rfl, hb1⟩
  go_wp2
  go_ret2
  exact ⟨_, rfl, Kd.R_nil _ _ _ _ _, hb1⟩
 | true =>
  rw [if_pos rfl] at hh
  by_cases hl : l0.length ≤ 8
  ·rw [if_pos hl] at hh
   obtain ⟨s, hs, hh⟩ := Option.bind_eq_some_iff.1 hh
   obtain ⟨rfl, rfl⟩ : r1 = s.best ∧ r2 = true := by simpa [eq_comm] using hh
   clear hh
   have HS := am hs
   clear hs
   go_enter Try.func6, Try.ntmps6
   go_wp2_with fail
   refine (key _ HR.out).mono ?_
   rintro e w1 ⟨rfl, hb1⟩
   have HB := am hb1
   clear hb1 key
   go_wp2_with fail
   refine (bp_call (fun p => impl_lengthOf.f k l0 p) 43 #[] eg A0 c0 l0 a1 w1 (Kd.C_below HR.out HB.out) HC.out hl (fun W p A c x hW hC hc _ hx => (impl_lengthOf.calls k A0 c0 l0 A c p x W (Kd.C_below HR.out (HB.out.trans (hW.mono HB.out.size))) HC.out hC hc hx).mono fun e w' h => ⟨h.1, h.2⟩) s HS.out).mono ?_
   rintro e w2 ⟨v, rfl, ho, hb2⟩
   obtain ⟨Ab, cb, rfl⟩ := Kd.R_slice ho
   have HO := am ho
   have HB2 := am hb2
   clear ho hb2
   go_wp2
   go_ret2
   exact ⟨_, rfl, Kd.R_lower HO.out HB.out.size, HB.out.trans (HB2.out.mono HB.out.size)⟩
  ·rw [if_neg hl] at hh
   cases hh
def insJ (cf : Int → Int → Int) : Nat → List Int → List Int
 | 0, xs => xs
 | j + 1, xs => if cf (rd xs ((j + 1 : Nat) : Int)) (rd xs (j : Int)) < 0 then insJ cf j ((xs.set (j + 1) (rd xs (j : Int))).set j (rd xs ((j + 1 : Nat) : Int))) else xs
def insI (cf : Int → Int → Int) : Nat → Nat → List Int → List Int
 | 0, _, xs => xs
 | m + 1, i, xs => insI cf m (i + 1) (insJ cf i xs)
theorem rd_set {P : Int → Prop} {xs : List Int} (h : ∀ j : Nat, j < xs.length → P (rd xs (j : Int))) (i : Nat) {y : Int} (hy : P y) : ∀ j : Nat, j < (xs.set i y).length → P (rd (xs.set i y) (j : Int)) := fun j hj => by
 rw [List.length_set] at hj
 have := h j hj
 simp only [rd, Int.toNat_natCast, List.getD] at this ⊢
 by_cases e : i = j
 ·subst e
  simpa [hj] using hy
 ·rw [List.getElem?_set_ne e]
  exact this
theorem ins_grow {w wr w2 : World} {g : Nat} (hG : w.grownBy wr (some g)) (hb : Below wr.drew.heap.size wr.drew w2) : w.grownBy w2 (some g) :=
 ⟨hb.os.trans hG.os, hb.tape.trans hG.tape, hb.output.trans hG.output, Nat.le_trans hG.size hb.size, fun k hk hne => (hb.block k (Nat.lt_of_lt_of_le hk hG.size)).trans (hG.block k hk hne)⟩
theorem ins_set {w w2 : World} {g : Nat} (hG : w.grownBy w2 (some g)) (j : Nat) (v : Value) : w.grownBy (w2.setCell ⟨g, j, none⟩ v) (some g) :=
 ⟨hG.os, hG.tape, hG.output, by simpa [World.setCell] using hG.size, fun k hk hne => (Below.heap_setCell _ ⟨g, j, none⟩ _ _ (fun e => hne (by rw [e]))).trans (hG.block k hk hne)⟩
theorem ins_drew {w w2 : World} {g : Nat} (hG : w.grownBy w2 (some g)) : w.grownBy w2.drew (some g) := ⟨hG.os, hG.tape, hG.output, hG.size, hG.block⟩
theorem ins_keep {W W' : World} {a b : Addr} {u v : Value} (h : W.cell? a = some u ∧ W.cell? b = some v) (hb : Below W.drew.heap.size W.drew W') : W'.cell? a = some u ∧ W'.cell? b = some v :=
 ⟨(hb.cell (World.block_lt_of_cell? W _ h.1)).trans h.1, (hb.cell (World.block_lt_of_cell? W _ h.2)).trans h.2⟩
theorem ins_sort (cf : Int → Int → Int) (P : Int → Prop) (gc : Nat) (lb : Array Value) (egc : ∀ args w, (callFunc gc args).run Try.prog w = .ok (.enter gc args) w) (g c base : Nat) (xs0 : List Int) (w : World)
  (hr : Kd.R (Kd.int .i64) 3 w base (fun _ => True) (.slice (some ⟨g, 0, none⟩) xs0.length c) xs0) (h1 : 1 ≤ xs0.length) (h8 : xs0.length ≤ 1000) (hP : ∀ m : Nat, m < xs0.length → P (rd xs0 (m : Int)))
  (hc : ∀ (W : World) (x y : Int), w.grownBy W (some g) → P x → P y → Calls Try.prog gc (#[.int .i64 x, .int .i64 y] ++ lb) W fun e w' => e = .returned (.int .i64 (cf x y)) ∧ Below W.heap.size W w') :
  Calls Try.prog 97 #[.slice (some ⟨g, 0, none⟩) xs0.length c, .int .i64 0, .int .i64 (xs0.length : Int), .func (.func gc) #[] lb] w
   fun e w' => e = .returned (.tuple #[]) ∧ Kd.R (Kd.int .i64) 3 w' base (fun _ => True) (.slice (some ⟨g, 0, none⟩) xs0.length c) (insI cf (xs0.length - 1) 1 xs0) ∧ w.grownBy w' (some g) := by
 have HR := am hr
 have HP := am hP
 have HC := am hc
 generalize hn : xs0.length = n at *
 clear hr hP hc
 go_enter Try.func97, Try.ntmps97
 go_wp2_with fail
 go_loopg [8] (n - 1) (fun gg s8 wr => ∃ (i : Nat) (xs : List Int), s8 = .int .i64 (i : Int) ∧ 1 ≤ i ∧ i + gg = n ∧ xs.length = n ∧ Aside0 (insI cf gg i xs = insI cf (n - 1) 1 xs0) ∧ Aside0 (Kd.R (Kd.int .i64) 3 wr base (fun _ => True) (.slice (some ⟨g, 0, none⟩) n c) xs) ∧ Aside0 (w.grownBy wr (some g)) ∧ Aside0 (∀ m : Nat, m < xs.length → P (rd xs (m : Int))))
 case atStart => exact ⟨1, xs0, rfl, Nat.le_refl _, by omega, hn, ⟨rfl⟩, HR, ⟨⟨rfl, rfl, rfl, Nat.le_refl _, fun _ _ _ => rfl⟩⟩, by rw [hn]; exact HP⟩
 case round =>
  obtain ⟨i, xs, rfl, hi1, hg, hxl, HI, HO, HG, HA⟩ := hrel
  by_cases hlt : i < n
  ·obtain ⟨m, rfl⟩ : ∃ m, gk = m + 1 := ⟨gk - 1, by omega⟩
   have c1 : decide ((i : Int) < (n : Int)) = true := decide_eq_true (by omega)
   go_wp2_with fail
   go_loopg [9] i (fun gg s9 wr2 => ∃ (ys : List Int), s9 = .int .i64 (gg : Int) ∧ gg ≤ i ∧ ys.length = n ∧ Aside0 (insJ cf gg ys = insJ cf i xs) ∧ Aside0 (Kd.R (Kd.int .i64) 3 wr2 base (fun _ => True) (.slice (some ⟨g, 0, none⟩) n c) ys) ∧ Aside0 (w.grownBy wr2 (some g)) ∧ Aside0 (∀ m : Nat, m < ys.length → P (rd ys (m : Int))))
   case atStart => exact ⟨xs, rfl, Nat.le_refl _, hxl, ⟨rfl⟩, HO, HG, HA⟩
   case round =>
    obtain ⟨ys, rfl, hgi, hyl, HJ, HO2, HG2, HA2⟩ := hrel
    rcases Nat.eq_zero_or_pos gk with rfl | hpos
    ·have c2 : decide ((((0 : Nat) : Int)) > 0) = false := rfl
     go_wp2_with fail
     go_region
     go_wp2
     go_roundg m
     case measure => omega
     case rel => exact ⟨i + 1, ys, rfl, by omega, by omega, hyl, ⟨by have h1 := HI.out; have h2 := HJ.out; simp only [insI] at h1; rw [← h2] at h1; exact h1⟩, ⟨Kd.R_drew HO2.out⟩, ⟨⟨HG2.out.os, HG2.out.tape, HG2.out.output, HG2.out.size, HG2.out.block⟩⟩, HA2⟩
    ·obtain ⟨j, rfl⟩ : ∃ j, gk = j + 1 := ⟨gk - 1, by omega⟩
     have KC := am (HC.out wr.drew _ _ ⟨HG2.out.os, HG2.out.tape, HG2.out.output, HG2.out.size, HG2.out.block⟩ (HA2.out (j + 1) (by omega)) (HA2.out j (by omega)))
     have hj1 : ((j + 1 : Nat) : Int) = (j : Int) + 1 := rfl
     generalize hz : ((j + 1 : Nat) : Int) = z at *
     have hx1 := Kd.R_celln 0 HO2.out z (by omega) (by omega)
     have e1 : wrap64 (z - 1) = (j : Int) := by unfold wrap64; omega
     have hx0 := Kd.R_celln 0 HO2.out (j : Int) (by omega) (by omega)
     rw [Int.toNat_natCast] at hx0
     obtain ⟨hx1, hf1⟩ := hx1
     obtain ⟨hx0, hf0⟩ := hx0
     have e1w : IntKind.i64.wrap (z - 1) = (j : Int) := (IntKind.wrap_i64 _).trans (by unfold wrap64 at e1; exact e1)
     have c2 : decide (z > 0) = true := decide_eq_true (by omega)
     have q1 : (z < (n : Int)) = True := eq_true (by omega)
     have q2 : ((0 : Int) ≤ z) = True := eq_true (by omega)
     have q3 : ((j : Int) < (n : Int)) = True := eq_true (by omega)
     have q4 : (j < n) = True := eq_true (by omega)
     have HZ := am hz
     clear hj1 hz
     have s0 : wr.cell? ⟨g, z.toNat, none⟩ = some (.int .i64 (rdOf 0 ys z)) ∧ wr.cell? ⟨g, j, none⟩ = some (.int .i64 (rdOf 0 ys (j : Int))) := ⟨hx1, hx0⟩
     go_wp2_with fail
     go_region_held3 (fun W' => W'.cell? ⟨g, z.toNat, none⟩ = some (.int .i64 (rdOf 0 ys z)) ∧ W'.cell? ⟨g, j, none⟩ = some (.int .i64 (rdOf 0 ys (j : Int)))) (first | assumption | exact s0 | exact ⟨s0.1, s0.2⟩ | exact ins_keep s0 (by assumption)) (first | (go_at_fn gc; refine (KC.out.mono ?_); rintro e w2 ⟨rfl, hb⟩))
     have hGw := ins_grow HG2.out hb
     have hO2 := Kd.R_below (Kd.R_drew HO2.out) hb
     have HG3 := am hGw
     have HO3 := am hO2
     have hy1 := Kd.R_celln 0 hO2 z (by have := HZ.out; omega) (by have := HZ.out; omega)
     have hy0 := Kd.R_celln 0 hO2 (j : Int) (by omega) (by have := HZ.out; omega)
     rw [Int.toNat_natCast] at hy0
     obtain ⟨hy1, hz1⟩ := hy1
     obtain ⟨hy0, hz0⟩ := hy0
     have n1 : (z.toNat = j) = False := eq_false (by have := HZ.out; omega)
     have n2 : (j = z.toNat) = False := eq_false (by have := HZ.out; omega)
     clear hb hGw hO2 KC s0 hx1 hx0 hf1 hf0
     by_cases hcf : cf (rd ys z) (rd ys (j : Int)) < 0
     ·have c3 : decide (cf (rd ys z) (rd ys (j : Int)) < 0) = true := decide_eq_true hcf
      have HCF := am hcf
      clear hcf
      go_wp2_with fail
      rotate_left
      (exfalso; have := HCF.out; omega)
      go_region
      go_wp2
      have hz := HZ.out
      have hzn : z.toNat = j + 1 := by omega
      have r1 : insJ cf j ((ys.set z.toNat (rd ys (j : Int))).set j (rd ys z)) = insJ cf i xs := by
       have h2 := HJ.out
       have h4 := HCF.out
       simp only [insJ] at h2
       rw [hz, if_pos h4, ← hzn] at h2
       exact h2
      have r2 : ∀ m : Nat, m < ((ys.set z.toNat (rd ys (j : Int))).set j (rd ys z)).length → P (rd ((ys.set z.toNat (rd ys (j : Int))).set j (rd ys z)) (m : Int)) := by
       have h5 := HA2.out (j + 1) (by omega)
       rw [hz] at h5
       exact rd_set (rd_set HA2.out _ (HA2.out j (by omega))) _ h5
      have r3 := Kd.R_putn (Kd.R_putn HO3.out z (rd ys (j : Int))) (j : Int) (rd ys z)
      rw [Int.toNat_natCast] at r3
      have r4 := ins_drew (ins_set (ins_set HG3.out z.toNat (.int .i64 (rd ys (j : Int)))) j (.int .i64 (rd ys z)))
      go_roundg j
      case measure => omega
      case rel => exact ⟨(ys.set z.toNat (rd ys (j : Int))).set j (rd ys z), rfl, by omega, by rw [List.length_set, List.length_set]; exact hyl, ⟨r1⟩, ⟨Kd.R_drew r3⟩, ⟨r4⟩, ⟨r2⟩⟩
     ·have c3 : decide (cf (rd ys z) (rd ys (j : Int)) < 0) = false := decide_eq_false hcf
      have HCF := am hcf
      clear hcf
      go_wp2_with fail
      (exfalso; have := HCF.out; omega)
      go_roundg m
      case measure => omega
      case rel => exact ⟨i + 1, ys, rfl, by omega, by omega, hyl, ⟨by
       have h1 := HI.out
       have h2 := HJ.out
       have h3 := HZ.out
       have h4 := HCF.out
       rw [← h3] at h4
       simp only [insI] at h1
       simp only [insJ] at h2
       rw [if_neg (Int.not_lt.2 h4)] at h2
       rw [← h2] at h1
       exact h1⟩, HO3, HG3, HA2⟩
  ·obtain rfl : gk = 0 := by omega
   have c1 : decide ((i : Int) < (n : Int)) = false := decide_eq_false (by omega)
   have hI : xs = insI cf (n - 1) 1 xs0 := HI.out
   subst hI
   go_wp2
   first | go_end0 | ((try simp only [Exit.inBlock, Exit.then]); refine bodyPost_ret (results_none rfl _ _ _) rfl ?_)
   exact ⟨rfl, HO.out, HG.out⟩
theorem stable_sort (cf : Int → Int → Int) (P : Int → Prop) (gc : Nat) (lb : Array Value) (egc : ∀ args w, (callFunc gc args).run Try.prog w = .ok (.enter gc args) w) (g c base : Nat) (xs0 : List Int) (w : World)
  (hr : Kd.R (Kd.int .i64) 3 w base (fun _ => True) (.slice (some ⟨g, 0, none⟩) xs0.length c) xs0) (h1 : 1 ≤ xs0.length) (h8 : xs0.length ≤ 19) (hP : ∀ m : Nat, m < xs0.length → P (rd xs0 (m : Int)))
  (hc : ∀ (W : World) (x y : Int), w.grownBy W (some g) → P x → P y → Calls Try.prog gc (#[.int .i64 x, .int .i64 y] ++ lb) W fun e w' => e = .returned (.int .i64 (cf x y)) ∧ Below W.heap.size W w') :
  Calls Try.prog 83 #[.slice (some ⟨g, 0, none⟩) xs0.length c, .int .i64 (xs0.length : Int), .func (.func gc) #[] lb] w
   fun e w' => e = .returned (.tuple #[]) ∧ Kd.R (Kd.int .i64) 3 w' base (fun _ => True) (.slice (some ⟨g, 0, none⟩) xs0.length c) (insI cf (xs0.length - 1) 1 xs0) ∧ w.grownBy w' (some g) := by
 have KI := am (ins_sort cf P gc lb egc g c base xs0 w hr h1 (by omega) hP hc)
 have c1 : decide ((20 : Int) ≤ (xs0.length : Int)) = false := decide_eq_false (by omega)
 have c2 : decide ((20 : Int) < (xs0.length : Int)) = false := decide_eq_false (by omega)
 clear hr hP hc egc
 generalize hn : xs0.length = n at *
 go_enter Try.func83, Try.ntmps83
 go_wp2_with fail
 go_loopg [7, 8] 0 (fun gg s7 s8 wr => s7 = .int .i64 0 ∧ s8 = .int .i64 20 ∧ wr = w)
 case atStart => exact ⟨rfl, rfl, rfl⟩
 case round =>
  obtain ⟨rfl, rfl, rfl⟩ := hrel
  go_wp2_with fail
  refine KI.out.mono ?_
  rintro e w2 ⟨rfl, ho, hg⟩
  have HO := am ho
  have HG := am hg
  clear ho hg KI
  go_wp2_with fail
  go_loopg [6] 0 (fun gg s6 wr => s6 = .int .i64 20 ∧ wr = w2)
  case atStart => exact ⟨rfl, rfl⟩
  case round =>
   obtain ⟨rfl, rfl⟩ := hrel
   go_wp2
   first | go_end0 | ((try simp only [Exit.inBlock, Exit.then]); refine bodyPost_ret (results_none rfl _ _ _) rfl ?_)
   exact ⟨rfl, HO.out, HG.out⟩
theorem sort_stable (cf : Int → Int → Int) (P : Int → Prop) (gc : Nat) (lb : Array Value) (egc : ∀ args w, (callFunc gc args).run Try.prog w = .ok (.enter gc args) w) (g c base : Nat) (xs0 : List Int) (w : World)
  (hr : Kd.R (Kd.int .i64) 3 w base (fun _ => True) (.slice (some ⟨g, 0, none⟩) xs0.length c) xs0) (h1 : 1 ≤ xs0.length) (h8 : xs0.length ≤ 19) (hP : ∀ m : Nat, m < xs0.length → P (rd xs0 (m : Int)))
  (hc : ∀ (W : World) (x y : Int), w.grownBy W (some g) → P x → P y → Calls Try.prog gc (#[.int .i64 x, .int .i64 y] ++ lb) W fun e w' => e = .returned (.int .i64 (cf x y)) ∧ Below W.heap.size W w') :
  Calls Try.prog 51 #[.slice (some ⟨g, 0, none⟩) xs0.length c, .func (.func gc) #[] lb] w
   fun e w' => e = .returned (.tuple #[]) ∧ Kd.R (Kd.int .i64) 3 w' base (fun _ => True) (.slice (some ⟨g, 0, none⟩) xs0.length c) (insI cf (xs0.length - 1) 1 xs0) ∧ w.grownBy w' (some g) := by
 have KI := am (stable_sort cf P gc lb egc g c base xs0 w hr h1 h8 hP hc)
 clear hr hP hc egc
 generalize hn : xs0.length = n at *
 go_enter Try.func51, Try.ntmps51
 go_wp2_with fail
 refine KI.out.mono ?_
 rintro e w2 ⟨rfl, ho, hg⟩
 have HO := am ho
 have HG := am hg
 clear ho hg KI
 go_wp2_with fail
 first | go_end0 | ((try simp only [Exit.inBlock, Exit.then]); refine bodyPost_ret (results_none rfl _ _ _) rfl ?_)
 exact ⟨rfl, HO.out, HG.out⟩
def impl_WeightsOfTrips.f (k : Nat) (l0 : List (S45)) (a1 : Int) (l2 : List Int) : Option (List Int × Bool) := (impl_fitBag.f l0 a1).bind fun t101 => (if t101 = true then ((impl_isBagPlan.f k l0 a1 l2).bind fun t102 => (if t102 = true then ((impl_weightsOf.f k l0 l2).bind fun t103 => (some (t103, true))) else (some (([] : List Int), false)))) else (some (([] : List Int), false)))
theorem impl_WeightsOfTrips.calls (k : Nat) (A0 : Option Addr) (c0 : Nat) (l0 : List (S45)) (a1 : Int) (A2 : Option Addr) (c2 : Nat) (l2 : List Int) (r1 : List Int) (r2 : Bool) (w : World) (hr0 : Kd.C k45 w A0 l0.length l0) (hc0 : l0.length ≤ c0) (hr2 : Kd.C (Kd.int .i64) w A2 l2.length l2) (hc2 : l2.length ≤ c2) (h : impl_WeightsOfTrips.f k l0 a1 l2 = some (r1, r2)) :
  Calls Try.prog 32 #[.slice A0 l0.length c0, .int .i64 a1, .slice A2 l2.length c2] w fun e w' => ∃ v0_ : Value, e = .returned (.tuple #[v0_, .bool r2]) ∧ Kd.R (Kd.int .i64) 3 w' w.heap.size (fun _ => True) v0_ r1 ∧ Below w.heap.size w w' := by
 have HR0 := am hr0
 have HC0 := am hc0
 clear hr0 hc0
 have HR2 := am hr2
 have HC2 := am hc2
 clear hr2 hc2
 have HB := am (Below.refl w.heap.size w)
 have H : ((impl_fitBag.f l0 a1).bind fun t101 => (if t101 = true then ((impl_isBagPlan.f k l0 a1 l2).bind fun t102 => (if t102 = true then ((impl_weightsOf.f k l0 l2).bind fun t103 => (some (t103, true))) else (some (([] : List Int), false)))) else (some (([] : List Int), false)))) = some (r1, r2) := h
 clear h
 replace H := bH H
 obtain ⟨t101, A40, H⟩ := H
 replace H : (if t101 = true then ((impl_isBagPlan.f k l0 a1 l2).bind fun t102 => (if t102 = true then ((impl_weightsOf.f k l0 l2).bind fun t103 => (some (t103, true))) else (some (([] : List Int), false)))) else (some (([] : List Int), false))) = some (r1, r2) := H
 have A4 := am A40
 clear A40
 by_cases c5 : t101 = true
 ·subst c5
  have H1 : ((impl_isBagPlan.f k l0 a1 l2).bind fun t102 => (if t102 = true then ((impl_weightsOf.f k l0 l2).bind fun t103 => (some (t103, true))) else (some (([] : List Int), false)))) = some (r1, r2) := by rw [if_pos rfl] at H; exact H
  clear H
  have H := H1
  clear H1
  replace H := bH H
  obtain ⟨t102, A60, H⟩ := H
  replace H : (if t102 = true then ((impl_weightsOf.f k l0 l2).bind fun t103 => (some (t103, true))) else (some (([] : List Int), false))) = some (r1, r2) := H
  have A6 := am A60
  clear A60
  by_cases c7 : t102 = true
  ·subst c7
   have H1 : ((impl_weightsOf.f k l0 l2).bind fun t103 => (some (t103, true))) = some (r1, r2) := by rw [if_pos rfl] at H; exact H
   clear H
   have H := H1
   clear H1
   replace H := bH H
   obtain ⟨t103, A80, H⟩ := H
   replace H : (some (t103, true)) = some (r1, r2) := H
   have A8 := am A80
   clear A80
   simp only [Option.some.injEq, Prod.mk.injEq] at H
   obtain ⟨rfl, rfl⟩ := H
   go_enter Try.func32, Try.ntmps32
   go_wp2_with (first | ((with_reducible refine gate_callee (f := 41) rfl ?_); refine uGo (some 10) Try.func41 #[.slice A0 l0.length c0, .int .i64 a1] ?_; (with_reducible refine (impl_fitBag.calls _ _ l0 a1 true _ ?side1 ?side2 A4.out).mono ?_); (case side1 => repeat (first | exact HR0.out | (with_reducible refine cA ?_ _) | (with_reducible refine cN ?_ _) | (with_reducible refine cD ?_))); (case side2 => exact HC0.out); rintro e w9 ⟨rfl, hb⟩; refine ⟨_, rfl, ?_⟩; replace HB := uS hb; (try clear hb); (try clear hb2); (try clear hk); (try clear hi)) | (go_at_call 61; (with_reducible refine (impl_isBagPlan.calls k _ _ l0 a1 _ _ l2 true _ ?side1 ?side2 ?side3 ?side4 A6.out).mono ?_); (case side1 => repeat (first | exact (Kd.C_below HR0.out HB.out) | (with_reducible refine cA ?_ _) | (with_reducible refine cN ?_ _) | (with_reducible refine cD ?_))); (case side2 => exact HC0.out); (case side3 => repeat (first | exact (Kd.C_below HR2.out HB.out) | (with_reducible refine cA ?_ _) | (with_reducible refine cN ?_ _) | (with_reducible refine cD ?_))); (case side4 => exact HC2.out); rintro e w10 ⟨rfl, hb⟩; replace HB := uS hb; (try clear hb); (try clear hb2); (try clear hk); (try clear hi)) | ((with_reducible refine gate_callee (f := 65) rfl ?_); refine uGo (some 21) Try.func65 #[.slice A0 l0.length c0, .slice A2 l2.length c2] ?_; (with_reducible refine (impl_weightsOf.calls k _ _ l0 _ _ l2 t103 _ ?side1 ?side2 ?side3 ?side4 A8.out).mono ?_); (case side1 => repeat (first | exact (Kd.C_below HR0.out HB.out) | (with_reducible refine cA ?_ _) | (with_reducible refine cN ?_ _) | (with_reducible refine cD ?_))); (case side2 => exact HC0.out); (case side3 => repeat (first | exact (Kd.C_below HR2.out HB.out) | (with_reducible refine cA ?_ _) | (with_reducible refine cN ?_ _) | (with_reducible refine cD ?_))); (case side4 => exact HC2.out); rintro e w11 ⟨v104, rfl, ho0, hb⟩; refine ⟨_, rfl, ?_⟩; have HO105 := am (Kd.R_lower ho0 (below_size uW)); replace HB := uS hb; (try clear hb); (try clear hb2); (try clear hk); (try clear hi); (try clear ho0)))
   go_ret2
   exact ⟨_, uA, by (with_reducible repeat (first | apply rA | apply rN | apply rD)); exact HO105.out, by exact uW⟩
  ·replace c7 := Bool.eq_false_iff.mpr c7
   subst c7
   have H1 : (some (([] : List Int), false)) = some (r1, r2) := by rw [if_neg (show ¬ (false = true) by decide)] at H; exact H
   clear H
   have H := H1
   clear H1
   simp only [Option.some.injEq, Prod.mk.injEq] at H
   obtain ⟨rfl, rfl⟩ := H
   go_enter Try.func32, Try.ntmps32
   go_wp2_with (first | ((with_reducible refine gate_callee (f := 41) rfl ?_); refine uGo (some 10) Try.func41 #[.slice A0 l0.length c0, .int .i64 a1] ?_; (with_reducible refine (impl_fitBag.calls _ _ l0 a1 true _ ?side1 ?side2 A4.out).mono ?_); (case side1 => repeat (first | exact HR0.out | (with_reducible refine cA ?_ _) | (with_reducible refine cN ?_ _) | (with_reducible refine cD ?_))); (case side2 => exact HC0.out); rintro e w12 ⟨rfl, hb⟩; refine ⟨_, rfl, ?_⟩; replace HB := uS hb; (try clear hb); (try clear hb2); (try clear hk); (try clear hi)) | (go_at_call 61; (with_reducible refine (impl_isBagPlan.calls k _ _ l0 a1 _ _ l2 false _ ?side1 ?side2 ?side3 ?side4 A6.out).mono ?_); (case side1 => repeat (first | exact (Kd.C_below HR0.out HB.out) | (with_reducible refine cA ?_ _) | (with_reducible refine cN ?_ _) | (with_reducible refine cD ?_))); (case side2 => exact HC0.out); (case side3 => repeat (first | exact (Kd.C_below HR2.out HB.out) | (with_reducible refine cA ?_ _) | (with_reducible refine cN ?_ _) | (with_reducible refine cD ?_))); (case side4 => exact HC2.out); rintro e w13 ⟨rfl, hb⟩; replace HB := uS hb; (try clear hb); (try clear hb2); (try clear hk); (try clear hi)))
   go_ret2
   exact ⟨_, uA, uN, by exact uW⟩
 ·replace c5 := Bool.eq_false_iff.mpr c5
  subst c5
  have H1 : (some (([] : List Int), false)) = some (r1, r2) := by rw [if_neg (show ¬ (false = true) by decide)] at H; exact H
  clear H
  have H := H1
  clear H1
  simp only [Option.some.injEq, Prod.mk.injEq] at H
  obtain ⟨rfl, rfl⟩ := H
  go_enter Try.func32, Try.ntmps32
  go_wp2_with (first | ((with_reducible refine gate_callee (f := 41) rfl ?_); refine uGo (some 10) Try.func41 #[.slice A0 l0.length c0, .int .i64 a1] ?_; (with_reducible refine (impl_fitBag.calls _ _ l0 a1 false _ ?side1 ?side2 A4.out).mono ?_); (case side1 => repeat (first | exact HR0.out | (with_reducible refine cA ?_ _) | (with_reducible refine cN ?_ _) | (with_reducible refine cD ?_))); (case side2 => exact HC0.out); rintro e w14 ⟨rfl, hb⟩; refine ⟨_, rfl, ?_⟩; replace HB := uS hb; (try clear hb); (try clear hb2); (try clear hk); (try clear hi)))
  go_ret2
  exact ⟨_, uA, uN, by exact uW⟩
def spec_WeightsOfTrips.f (k : Nat) (l0 : List (S45)) (a1 : Int) (l2 : List Int) : Option (List Int × Bool) := (spec_bgBoth.f k l0 a1 l2).bind fun t101 => (if t101 = true then ((spec_bgWeights.f k l0 l2).bind fun t102 => (some (t102, true))) else (some (([] : List Int), false)))
theorem spec_WeightsOfTrips.calls (k : Nat) (A0 : Option Addr) (c0 : Nat) (l0 : List (S45)) (a1 : Int) (A2 : Option Addr) (c2 : Nat) (l2 : List Int) (r1 : List Int) (r2 : Bool) (w : World) (hr0 : Kd.C k45 w A0 l0.length l0) (hc0 : l0.length ≤ c0) (hr2 : Kd.C (Kd.int .i64) w A2 l2.length l2) (hc2 : l2.length ≤ c2) (h : spec_WeightsOfTrips.f k l0 a1 l2 = some (r1, r2)) :
  Calls Try.prog 33 #[.slice A0 l0.length c0, .int .i64 a1, .slice A2 l2.length c2] w fun e w' => ∃ v0_ : Value, e = .returned (.tuple #[v0_, .bool r2]) ∧ Kd.R (Kd.int .i64) 3 w' w.heap.size (fun _ => True) v0_ r1 ∧ Below w.heap.size w w' := by
 have HR0 := am hr0
 have HC0 := am hc0
 clear hr0 hc0
 have HR2 := am hr2
 have HC2 := am hc2
 clear hr2 hc2
 have HB := am (Below.refl w.heap.size w)
 have H : ((spec_bgBoth.f k l0 a1 l2).bind fun t101 => (if t101 = true then ((spec_bgWeights.f k l0 l2).bind fun t102 => (some (t102, true))) else (some (([] : List Int), false)))) = some (r1, r2) := h
 clear h
 replace H := bH H
 obtain ⟨t101, A40, H⟩ := H
 replace H : (if t101 = true then ((spec_bgWeights.f k l0 l2).bind fun t102 => (some (t102, true))) else (some (([] : List Int), false))) = some (r1, r2) := H
 have A4 := am A40
 clear A40
 by_cases c5 : t101 = true
 ·subst c5
  have H1 : ((spec_bgWeights.f k l0 l2).bind fun t102 => (some (t102, true))) = some (r1, r2) := by rw [if_pos rfl] at H; exact H
  clear H
  have H := H1
  clear H1
  replace H := bH H
  obtain ⟨t102, A60, H⟩ := H
  replace H : (some (t102, true)) = some (r1, r2) := H
  have A6 := am A60
  clear A60
  simp only [Option.some.injEq, Prod.mk.injEq] at H
  obtain ⟨rfl, rfl⟩ := H
  go_enter Try.func33, Try.ntmps33
  go_wp2_with (first | ((with_reducible refine gate_callee (f := 67) rfl ?_); refine uGo (some 11) Try.func67 #[.slice A0 l0.length c0, .int .i64 a1, .slice A2 l2.length c2] ?_; (with_reducible refine (spec_bgBoth.calls k _ _ l0 a1 _ _ l2 true _ ?side1 ?side2 ?side3 ?side4 A4.out).mono ?_); (case side1 => repeat (first | exact HR0.out | (with_reducible refine cA ?_ _) | (with_reducible refine cN ?_ _) | (with_reducible refine cD ?_))); (case side2 => exact HC0.out); (case side3 => repeat (first | exact HR2.out | (with_reducible refine cA ?_ _) | (with_reducible refine cN ?_ _) | (with_reducible refine cD ?_))); (case side4 => exact HC2.out); rintro e w7 ⟨rfl, hb⟩; refine ⟨_, rfl, ?_⟩; replace HB := uS hb; (try clear hb); (try clear hb2); (try clear hk); (try clear hi)) | ((with_reducible refine gate_callee (f := 68) rfl ?_); refine uGo (some 15) Try.func68 #[.slice A0 l0.length c0, .slice A2 l2.length c2] ?_; (with_reducible refine (spec_bgWeights.calls k _ _ l0 _ _ l2 t102 _ ?side1 ?side2 ?side3 ?side4 A6.out).mono ?_); (case side1 => repeat (first | exact (Kd.C_below HR0.out HB.out) | (with_reducible refine cA ?_ _) | (with_reducible refine cN ?_ _) | (with_reducible refine cD ?_))); (case side2 => exact HC0.out); (case side3 => repeat (first | exact (Kd.C_below HR2.out HB.out) | (with_reducible refine cA ?_ _) | (with_reducible refine cN ?_ _) | (with_reducible refine cD ?_))); (case side4 => exact HC2.out); rintro e w8 ⟨v103, rfl, ho0, hb⟩; refine ⟨_, rfl, ?_⟩; have HO104 := am (Kd.R_lower ho0 (below_size uW)); replace HB := uS hb; (try clear hb); (try clear hb2); (try clear hk); (try clear hi); (try clear ho0)))
  go_ret2
  exact ⟨_, uA, by (with_reducible repeat (first | apply rA | apply rN | apply rD)); exact HO104.out, by exact uW⟩
 ·replace c5 := Bool.eq_false_iff.mpr c5
  subst c5
  have H1 : (some (([] : List Int), false)) = some (r1, r2) := by rw [if_neg (show ¬ (false = true) by decide)] at H; exact H
  clear H
  have H := H1
  clear H1
  simp only [Option.some.injEq, Prod.mk.injEq] at H
  obtain ⟨rfl, rfl⟩ := H
  go_enter Try.func33, Try.ntmps33
  go_wp2_with (first | ((with_reducible refine gate_callee (f := 67) rfl ?_); refine uGo (some 11) Try.func67 #[.slice A0 l0.length c0, .int .i64 a1, .slice A2 l2.length c2] ?_; (with_reducible refine (spec_bgBoth.calls k _ _ l0 a1 _ _ l2 false _ ?side1 ?side2 ?side3 ?side4 A4.out).mono ?_); (case side1 => repeat (first | exact HR0.out | (with_reducible refine cA ?_ _) | (with_reducible refine cN ?_ _) | (with_reducible refine cD ?_))); (case side2 => exact HC0.out); (case side3 => repeat (first | exact HR2.out | (with_reducible refine cA ?_ _) | (with_reducible refine cN ?_ _) | (with_reducible refine cD ?_))); (case side4 => exact HC2.out); rintro e w9 ⟨rfl, hb⟩; refine ⟨_, rfl, ?_⟩; replace HB := uS hb; (try clear hb); (try clear hb2); (try clear hk); (try clear hi)))
  go_ret2
  exact ⟨_, uA, uN, by exact uW⟩
def spec_LengthOfPlan.f (k : Nat) (l0 : List (S45)) (a1 : Int) (l2 : List Int) : Option (Int × Bool) := (spec_bgBoth.f k l0 a1 l2).bind fun t101 => (if t101 = true then ((spec_bgLength.f k l0 l2).bind fun bt102 => (some (bt102.1, true))) else (some (0, false)))
theorem spec_LengthOfPlan.calls (k : Nat) (A0 : Option Addr) (c0 : Nat) (l0 : List (S45)) (a1 : Int) (A2 : Option Addr) (c2 : Nat) (l2 : List Int) (r1 : Int) (r2 : Bool) (w : World) (hr0 : Kd.C k45 w A0 l0.length l0) (hc0 : l0.length ≤ c0) (hr2 : Kd.C (Kd.int .i64) w A2 l2.length l2) (hc2 : l2.length ≤ c2) (h : spec_LengthOfPlan.f k l0 a1 l2 = some (r1, r2)) :
  Calls Try.prog 34 #[.slice A0 l0.length c0, .int .i64 a1, .slice A2 l2.length c2] w fun e w' => e = .returned (.tuple #[.int .i64 r1, .bool r2]) ∧ Below w.heap.size w w' := by
 have HR0 := am hr0
 have HC0 := am hc0
 clear hr0 hc0
 have HR2 := am hr2
 have HC2 := am hc2
 clear hr2 hc2
 have HB := am (Below.refl w.heap.size w)
 have H : ((spec_bgBoth.f k l0 a1 l2).bind fun t101 => (if t101 = true then ((spec_bgLength.f k l0 l2).bind fun bt102 => (some (bt102.1, true))) else (some (0, false)))) = some (r1, r2) := h
 clear h
 replace H := bH H
 obtain ⟨t101, A40, H⟩ := H
 replace H : (if t101 = true then ((spec_bgLength.f k l0 l2).bind fun bt102 => (some (bt102.1, true))) else (some (0, false))) = some (r1, r2) := H
 have A4 := am A40
 clear A40
 by_cases c5 : t101 = true
 ·subst c5
  have H1 : ((spec_bgLength.f k l0 l2).bind fun bt102 => (some (bt102.1, true))) = some (r1, r2) := by rw [if_pos rfl] at H; exact H
  clear H
  have H := H1
  clear H1
  replace H := bH H
  obtain ⟨⟨t102, t103⟩, A60, H⟩ := H
  replace H : (some (t102, true)) = some (r1, r2) := H
  have A6 := am A60
  clear A60
  simp only [Option.some.injEq, Prod.mk.injEq] at H
  obtain ⟨rfl, rfl⟩ := H
  go_enter Try.func34, Try.ntmps34
  go_wp2_with (first | ((with_reducible refine gate_callee (f := 67) rfl ?_); refine uGo (some 13) Try.func67 #[.slice A0 l0.length c0, .int .i64 a1, .slice A2 l2.length c2] ?_; (with_reducible refine (spec_bgBoth.calls k _ _ l0 a1 _ _ l2 true _ ?side1 ?side2 ?side3 ?side4 A4.out).mono ?_); (case side1 => repeat (first | exact HR0.out | (with_reducible refine cA ?_ _) | (with_reducible refine cN ?_ _) | (with_reducible refine cD ?_))); (case side2 => exact HC0.out); (case side3 => repeat (first | exact HR2.out | (with_reducible refine cA ?_ _) | (with_reducible refine cN ?_ _) | (with_reducible refine cD ?_))); (case side4 => exact HC2.out); rintro e w7 ⟨rfl, hb⟩; refine ⟨_, rfl, ?_⟩; replace HB := uS hb; (try clear hb); (try clear hb2); (try clear hk); (try clear hi)) | ((with_reducible refine gate_callee (f := 69) rfl ?_); refine uGo (some 18) Try.func69 #[.slice A0 l0.length c0, .slice A2 l2.length c2] ?_; (with_reducible refine (spec_bgLength.calls k _ _ l0 _ _ l2 t102 t103 _ ?side1 ?side2 ?side3 ?side4 A6.out).mono ?_); (case side1 => repeat (first | exact (Kd.C_below HR0.out HB.out) | (with_reducible refine cA ?_ _) | (with_reducible refine cN ?_ _) | (with_reducible refine cD ?_))); (case side2 => exact HC0.out); (case side3 => repeat (first | exact (Kd.C_below HR2.out HB.out) | (with_reducible refine cA ?_ _) | (with_reducible refine cN ?_ _) | (with_reducible refine cD ?_))); (case side4 => exact HC2.out); rintro e w8 ⟨rfl, hb⟩; refine ⟨_, rfl, ?_⟩; replace HB := uS hb; (try clear hb); (try clear hb2); (try clear hk); (try clear hi)))
  go_ret2
  exact ⟨uA, by exact uW⟩
 ·replace c5 := Bool.eq_false_iff.mpr c5
  subst c5
  have H1 : (some (0, false)) = some (r1, r2) := by rw [if_neg (show ¬ (false = true) by decide)] at H; exact H
  clear H
  have H := H1
  clear H1
  simp only [Option.some.injEq, Prod.mk.injEq] at H
  obtain ⟨rfl, rfl⟩ := H
  go_enter Try.func34, Try.ntmps34
  go_wp2_with (first | ((with_reducible refine gate_callee (f := 67) rfl ?_); refine uGo (some 13) Try.func67 #[.slice A0 l0.length c0, .int .i64 a1, .slice A2 l2.length c2] ?_; (with_reducible refine (spec_bgBoth.calls k _ _ l0 a1 _ _ l2 false _ ?side1 ?side2 ?side3 ?side4 A4.out).mono ?_); (case side1 => repeat (first | exact HR0.out | (with_reducible refine cA ?_ _) | (with_reducible refine cN ?_ _) | (with_reducible refine cD ?_))); (case side2 => exact HC0.out); (case side3 => repeat (first | exact HR2.out | (with_reducible refine cA ?_ _) | (with_reducible refine cN ?_ _) | (with_reducible refine cD ?_))); (case side4 => exact HC2.out); rintro e w9 ⟨rfl, hb⟩; refine ⟨_, rfl, ?_⟩; replace HB := uS hb; (try clear hb); (try clear hb2); (try clear hk); (try clear hi)))
  go_ret2
  exact ⟨uA, by exact uW⟩
mutual
def impl_LengthWithoutBack.j0 : Nat → List (S45) → List Int → Bool → Option (Int × Bool)
 | 0, _, _, _ => none
 | k + 1, x0, x2, x21 => if x21 = true then (some (0, false)) else (impl_LengthWithoutBack.l0 k x0 x2 0 x0 (x0.length : Int) 0)
def impl_LengthWithoutBack.l0 : Nat → List (S45) → List Int → Int → List (S45) → Int → Int → Option (Int × Bool)
 | 0, _, _, _, _, _, _ => none
 | k + 1, x0, x2, x8, x22, x23, x24 => if x24 < x23 then (if 0 ≤ x24 then (if x24 < (x22.length : Int) then (impl_LengthWithoutBack.l0 k x0 x2 (mx x8 ((rd_T45 x22 x24).f0)) x22 x23 (wrap64 (x24 + 1))) else (none)) else (none)) else ((impl_lengthOf.f k x0 x2).bind fun t105 => (some (wrap64 (t105 - x8), true)))
end
def impl_LengthWithoutBack.f (k : Nat) (l0 : List (S45)) (a1 : Int) (l2 : List Int) : Option (Int × Bool) := (impl_fitBag.f l0 a1).bind fun t101 => (if t101 = true then ((impl_isBagPlan.f k l0 a1 l2).bind fun t102 => (impl_LengthWithoutBack.j0 k l0 l2 (!t102))) else (impl_LengthWithoutBack.j0 k l0 l2 true))
theorem impl_LengthWithoutBack.calls (k : Nat) (A0 : Option Addr) (c0 : Nat) (l0 : List (S45)) (a1 : Int) (A2 : Option Addr) (c2 : Nat) (l2 : List Int) (r1 : Int) (r2 : Bool) (w : World) (hr0 : Kd.C k45 w A0 l0.length l0) (hc0 : l0.length ≤ c0) (hr2 : Kd.C (Kd.int .i64) w A2 l2.length l2) (hc2 : l2.length ≤ c2) (h : impl_LengthWithoutBack.f k l0 a1 l2 = some (r1, r2)) :
  Calls Try.prog 35 #[.slice A0 l0.length c0, .int .i64 a1, .slice A2 l2.length c2] w fun e w' => e = .returned (.tuple #[.int .i64 r1, .bool r2]) ∧ Below w.heap.size w w' := by
 have hu45 := Try.underlying45
 have HR0 := am hr0
 have HC0 := am hc0
 clear hr0 hc0
 have HR2 := am hr2
 have HC2 := am hc2
 clear hr2 hc2
 have HB := am (Below.refl w.heap.size w)
 have H : ((impl_fitBag.f l0 a1).bind fun t101 => (if t101 = true then ((impl_isBagPlan.f k l0 a1 l2).bind fun t102 => (impl_LengthWithoutBack.j0 k l0 l2 (!t102))) else (impl_LengthWithoutBack.j0 k l0 l2 true))) = some (r1, r2) := h
 clear h
 have HC4 := am H
 clear H
 go_enter Try.func35, Try.ntmps35
 go_upto_region 1 with (fail)
 go_cut [21] (fun v21 wc => ∃ (kq : Nat) (x21_3 : Bool), v21 = .bool x21_3 ∧ Aside0 (impl_LengthWithoutBack.j0 kq l0 l2 x21_3 = some (r1, r2)) ∧ Aside0 (kq ≤ k) ∧ Aside0 (Below w.heap.size w wc))
 case first =>
  have H := HC4.out
  clear HC4
  replace H := bH H
  obtain ⟨t101, A50, H⟩ := H
  replace H : (if t101 = true then ((impl_isBagPlan.f k l0 a1 l2).bind fun t102 => (impl_LengthWithoutBack.j0 k l0 l2 (!t102))) else (impl_LengthWithoutBack.j0 k l0 l2 true)) = some (r1, r2) := H
  have A5 := am A50
  clear A50
  by_cases c6 : t101 = true
  ·subst c6
   have H1 : ((impl_isBagPlan.f k l0 a1 l2).bind fun t102 => (impl_LengthWithoutBack.j0 k l0 l2 (!t102))) = some (r1, r2) := by rw [if_pos rfl] at H; exact H
   clear H
   have H := H1
   clear H1
   replace H := bH H
   obtain ⟨t102, A70, H⟩ := H
   replace H : (impl_LengthWithoutBack.j0 k l0 l2 (!t102)) = some (r1, r2) := H
   have A7 := am A70
   clear A70
   have H' := am H
   clear H
   go_wp2_with (first | ((with_reducible refine gate_callee (f := 41) rfl ?_); refine uGo (some 13) Try.func41 #[.slice A0 l0.length c0, .int .i64 a1] ?_; (with_reducible refine (impl_fitBag.calls _ _ l0 a1 true _ ?side1 ?side2 A5.out).mono ?_); (case side1 => repeat (first | exact (Kd.C_below HR0.out HB.out) | (with_reducible refine cA ?_ _) | (with_reducible refine cN ?_ _) | (with_reducible refine cD ?_))); (case side2 => exact HC0.out); rintro e w8 ⟨rfl, hb⟩; refine ⟨_, rfl, ?_⟩; replace HB := uS hb; (try clear hb); (try clear hb2); (try clear hk); (try clear hi)) | (go_at_call 61; (with_reducible refine (impl_isBagPlan.calls k _ _ l0 a1 _ _ l2 t102 _ ?side1 ?side2 ?side3 ?side4 A7.out).mono ?_); (case side1 => repeat (first | exact (Kd.C_below HR0.out HB.out) | (with_reducible refine cA ?_ _) | (with_reducible refine cN ?_ _) | (with_reducible refine cD ?_))); (case side2 => exact HC0.out); (case side3 => repeat (first | exact (Kd.C_below HR2.out HB.out) | (with_reducible refine cA ?_ _) | (with_reducible refine cN ?_ _) | (with_reducible refine cD ?_))); (case side4 => exact HC2.out); rintro e w9 ⟨rfl, hb⟩; replace HB := uS hb; (try clear hb); (try clear hb2); (try clear hk); (try clear hi)))
   go_meet
   case rel => exact ⟨_, (!t102), (by first | rfl | (simp; done) | (simp [*]; done)), H', ⟨by first | omega | exact Nat.le_refl _⟩, ⟨by exact uW⟩⟩
  ·replace c6 := Bool.eq_false_iff.mpr c6
   subst c6
   have H1 : (impl_LengthWithoutBack.j0 k l0 l2 true) = some (r1, r2) := by rw [if_neg (show ¬ (false = true) by decide)] at H; exact H
   clear H
   have H := H1
   clear H1
   have H' := am H
   clear H
   go_wp2_with (first | ((with_reducible refine gate_callee (f := 41) rfl ?_); refine uGo (some 13) Try.func41 #[.slice A0 l0.length c0, .int .i64 a1] ?_; (with_reducible refine (impl_fitBag.calls _ _ l0 a1 false _ ?side1 ?side2 A5.out).mono ?_); (case side1 => repeat (first | exact (Kd.C_below HR0.out HB.out) | (with_reducible refine cA ?_ _) | (with_reducible refine cN ?_ _) | (with_reducible refine cD ?_))); (case side2 => exact HC0.out); rintro e w10 ⟨rfl, hb⟩; refine ⟨_, rfl, ?_⟩; replace HB := uS hb; (try clear hb); (try clear hb2); (try clear hk); (try clear hi)))
   go_meet
   case rel => exact ⟨_, (true), (by first | rfl | (simp; done) | (simp [*]; done)), H', ⟨by first | omega | exact Nat.le_refl _⟩, ⟨by exact uW⟩⟩
 case rest =>
  clear HC4
  try clear c2
  try clear p2
  try clear c3
  try clear c4
  try clear c6
  obtain ⟨kq, x21_3, rfl, HA, HJ3, HB⟩ := hcut
  cases kq with
  | zero => exact absurd HA.out (by simp [impl_LengthWithoutBack.j0])
  | succ kj3 =>
   have H := HA.out
   clear HA
   simp only [impl_LengthWithoutBack.j0] at H
   by_cases c11 : x21_3 = true
   ·subst c11
    have H1 : (some (0, false)) = some (r1, r2) := by rw [if_pos rfl] at H; exact H
    clear H
    have H := H1
    clear H1
    simp only [Option.some.injEq, Prod.mk.injEq] at H
    obtain ⟨rfl, rfl⟩ := H
    go_wp2
    go_ret2
    exact ⟨uA, by exact uW⟩
   ·replace c11 := Bool.eq_false_iff.mpr c11
    subst c11
    have H1 : (impl_LengthWithoutBack.l0 kj3 l0 l2 0 l0 (l0.length : Int) 0) = some (r1, r2) := by rw [if_neg (show ¬ (false = true) by decide)] at H; exact H
    clear H
    have H := H1
    clear H1
    have H' := am H
    clear H
    go_wp2
    go_loopg [8, 24] kj3 (fun kq v8 v24 w' => ∃ (x8_2 : Int) (x24_2 : Int), v8 = .int .i64 x8_2 ∧ v24 = .int .i64 x24_2 ∧ Aside0 (impl_LengthWithoutBack.l0 kq l0 l2 x8_2 l0 (l0.length : Int) x24_2 = some (r1, r2)) ∧ Aside0 (kq ≤ kj3) ∧ Aside0 (Below w.heap.size w w'))
    case atStart => exact ⟨(0), (0), (by first | rfl | (simp; done) | (simp [*]; done)), (by first | rfl | (simp; done) | (simp [*]; done)), H', ⟨Nat.le_refl _⟩, ⟨by exact uW⟩⟩
    case round =>
     clear H'
     try clear c1
     try clear c2
     try clear p2
     try clear c3
     try clear c4
     try clear c6
     try clear c11
     try clear p2
     obtain ⟨x8_2, x24_2, rfl, rfl, HA, HK2, HB⟩ := hrel
     cases gk with
     | zero => exact absurd HA.out (by simp [impl_LengthWithoutBack.l0])
     | succ k2 =>
      have H := HA.out
      clear HA
      simp only [impl_LengthWithoutBack.l0] at H
      by_cases c12 : x24_2 < (l0.length : Int)
      ·rw [if_pos c12] at H
       have c12b0 : decide (x24_2 < (l0.length : Int)) = true := decide_eq_true c12
       clear c12
       by_cases c13 : 0 ≤ x24_2
       ·rw [if_pos c13] at H
        have c13b0 : decide (0 ≤ x24_2) = true := decide_eq_true c13
        clear c13
        by_cases c14 : x24_2 < (l0.length : Int)
        ·rw [if_pos c14] at H
         have c14b0 : decide (x24_2 < (l0.length : Int)) = true := decide_eq_true c14
         clear c14
         obtain ⟨ji15, hji15⟩ : ∃ j_ : Int, (mx x8_2 ((rd_T45 l0 x24_2).f0)) = j_ := ⟨_, rfl⟩
         replace H : (impl_LengthWithoutBack.l0 k2 l0 l2 ji15 l0 (l0.length : Int) (wrap64 (x24_2 + 1))) = some (r1, r2) := by first | (rw [hji15] at H; exact H) | (simp only [hji15] at H ⊢; exact H)
         have hji15_ : (if x8_2 < ((rd_T45 l0 x24_2).f0) then ((rd_T45 l0 x24_2).f0) else x8_2) = ji15 := hji15
         have H' := am H
         clear H
         have p103 : 0 ≤ (x24_2 : Int) := of_decide_eq_true (by first | (with_reducible assumption) | assumption)
         have q103 : x24_2 < (l0.length : Int) := of_decide_eq_true (by first | (with_reducible assumption) | assumption)
         obtain ⟨ad103, e103, hx103_0, hx103_1⟩ := at_T45 HR0.out x24_2 p103 q103
         cases e103
         try replace hx103_0 := (HB.out.cell (World.block_lt_of_cell? w _ hx103_0)).trans hx103_0
         try replace hx103_1 := (HB.out.cell (World.block_lt_of_cell? w _ hx103_1)).trans hx103_1
         replace p103 := eq_true p103
         replace q103 := eq_true q103
         go_wp2_with (first | ((with_reducible refine gate_dst (N := 10) rfl ?_); refine uX (N := 10) (cs := #[.int .i64 0, .int .i64 0]) (t := 45) ?_; intro gb104 hg w16 hbox hb; have BK104 := am (hbox); have GW104 := uE hg; have GE104 := GW104; replace HB := uS hb; clear hb hbox hg; obtain ⟨hcz17_0, hcz17_1, hfz17_0, hfz17_1⟩ := uZ2 BK104))
         go_roundg k2
         case measure => have := HJ3.out; have := HK2.out; omega
         case rel => exact ⟨(ji15), (wrap64 (x24_2 + 1)), (by first | rfl | (simp; done) | (simp only [← hji15] <;> (first | rfl | simp)) | (simp [*]; done)), (by first | rfl | (simp; done) | (simp [*]; done)), H', ⟨by have := HJ3.out; have := HK2.out; omega⟩, ⟨by exact uW⟩⟩
        ·rw [if_neg c14] at H
         exact absurd H (by simp)
       ·rw [if_neg c13] at H
        exact absurd H (by simp)
      ·rw [if_neg c12] at H
       have c12b0 : decide (x24_2 < (l0.length : Int)) = false := decide_eq_false c12
       clear c12
       replace H := bH H
       obtain ⟨t105, A180, H⟩ := H
       replace H : (some (wrap64 (t105 - x8_2), true)) = some (r1, r2) := H
       have A18 := am A180
       clear A180
       simp only [Option.some.injEq, Prod.mk.injEq] at H
       obtain ⟨rfl, rfl⟩ := H
       go_wp2_with (first | ((with_reducible refine gate_callee (f := 43) rfl ?_); refine uGo (some 35) Try.func43 #[.slice A0 l0.length c0, .slice A2 l2.length c2] ?_; (with_reducible refine (impl_lengthOf.calls k2 _ _ l0 _ _ l2 t105 _ ?side1 ?side2 ?side3 ?side4 A18.out).mono ?_); (case side1 => repeat (first | exact (Kd.C_below HR0.out HB.out) | (with_reducible refine cA ?_ _) | (with_reducible refine cN ?_ _) | (with_reducible refine cD ?_))); (case side2 => exact HC0.out); (case side3 => repeat (first | exact (Kd.C_below HR2.out HB.out) | (with_reducible refine cA ?_ _) | (with_reducible refine cN ?_ _) | (with_reducible refine cD ?_))); (case side4 => exact HC2.out); rintro e w19 ⟨rfl, hb⟩; refine ⟨_, rfl, ?_⟩; replace HB := uS hb; (try clear hb); (try clear hb2); (try clear hk); (try clear hi)))
       go_ret2
       exact ⟨uA, by exact uW⟩
def spec_LeastLength.f (k : Nat) (l0 : List (S45)) (a1 : Int) : Option (Int × Bool) := (spec_bgAsked.f k l0 a1).bind fun t101 => (if t101 = true then ((spec_bgShortest.f k l0 a1).bind fun bt102 => (some (bt102.2.1, true))) else (some (0, false)))
theorem spec_LeastLength.calls (k : Nat) (A0 : Option Addr) (c0 : Nat) (l0 : List (S45)) (a1 : Int) (r1 : Int) (r2 : Bool) (w : World) (hr0 : Kd.C k45 w A0 l0.length l0) (hc0 : l0.length ≤ c0) (h : spec_LeastLength.f k l0 a1 = some (r1, r2)) :
  Calls Try.prog 9 #[.slice A0 l0.length c0, .int .i64 a1] w fun e w' => e = .returned (.tuple #[.int .i64 r1, .bool r2]) ∧ Below w.heap.size w w' := by
 have HR0 := am hr0
 have HC0 := am hc0
 clear hr0 hc0
 have HB := am (Below.refl w.heap.size w)
 have H : ((spec_bgAsked.f k l0 a1).bind fun t101 => (if t101 = true then ((spec_bgShortest.f k l0 a1).bind fun bt102 => (some (bt102.2.1, true))) else (some (0, false)))) = some (r1, r2) := h
 clear h
 replace H := bH H
 obtain ⟨t101, A30, H⟩ := H
 replace H : (if t101 = true then ((spec_bgShortest.f k l0 a1).bind fun bt102 => (some (bt102.2.1, true))) else (some (0, false))) = some (r1, r2) := H
 have A3 := am A30
 clear A30
 by_cases c4 : t101 = true
 ·subst c4
  have H1 : ((spec_bgShortest.f k l0 a1).bind fun bt102 => (some (bt102.2.1, true))) = some (r1, r2) := by rw [if_pos rfl] at H; exact H
  clear H
  have H := H1
  clear H1
  replace H := bH H
  obtain ⟨⟨t102, t103, t104⟩, A50, H⟩ := H
  replace H : (some (t103, true)) = some (r1, r2) := H
  have A5 := am A50
  clear A50
  simp only [Option.some.injEq, Prod.mk.injEq] at H
  obtain ⟨rfl, rfl⟩ := H
  go_enter Try.func9, Try.ntmps9
  go_wp2_with (first | ((with_reducible refine gate_callee (f := 44) rfl ?_); refine uGo (some 11) Try.func44 #[.slice A0 l0.length c0, .int .i64 a1] ?_; (with_reducible refine (spec_bgAsked.calls k _ _ l0 a1 true _ ?side1 ?side2 A3.out).mono ?_); (case side1 => repeat (first | exact HR0.out | (with_reducible refine cA ?_ _) | (with_reducible refine cN ?_ _) | (with_reducible refine cD ?_))); (case side2 => exact HC0.out); rintro e w6 ⟨rfl, hb⟩; refine ⟨_, rfl, ?_⟩; replace HB := uS hb; (try clear hb); (try clear hb2); (try clear hk); (try clear hi)) | ((with_reducible refine gate_callee (f := 45) rfl ?_); refine uGo (some 16) Try.func45 #[.slice A0 l0.length c0, .int .i64 a1] ?_; (with_reducible refine (spec_bgShortest.calls k _ _ l0 a1 t102 t103 t104 _ ?side1 ?side2 A5.out).mono ?_); (case side1 => repeat (first | exact (Kd.C_below HR0.out HB.out) | (with_reducible refine cA ?_ _) | (with_reducible refine cN ?_ _) | (with_reducible refine cD ?_))); (case side2 => exact HC0.out); rintro e w7 ⟨v105, rfl, ho0, hb⟩; refine ⟨_, rfl, ?_⟩; have HO106 := am (Kd.R_lower ho0 (below_size uW)); replace HB := uS hb; (try clear hb); (try clear hb2); (try clear hk); (try clear hi); (try clear ho0)))
  go_ret2
  exact ⟨uA, by exact uW⟩
 ·replace c4 := Bool.eq_false_iff.mpr c4
  subst c4
  have H1 : (some (0, false)) = some (r1, r2) := by rw [if_neg (show ¬ (false = true) by decide)] at H; exact H
  clear H
  have H := H1
  clear H1
  simp only [Option.some.injEq, Prod.mk.injEq] at H
  obtain ⟨rfl, rfl⟩ := H
  go_enter Try.func9, Try.ntmps9
  go_wp2_with (first | ((with_reducible refine gate_callee (f := 44) rfl ?_); refine uGo (some 11) Try.func44 #[.slice A0 l0.length c0, .int .i64 a1] ?_; (with_reducible refine (spec_bgAsked.calls k _ _ l0 a1 false _ ?side1 ?side2 A3.out).mono ?_); (case side1 => repeat (first | exact HR0.out | (with_reducible refine cA ?_ _) | (with_reducible refine cN ?_ _) | (with_reducible refine cD ?_))); (case side2 => exact HC0.out); rintro e w8 ⟨rfl, hb⟩; refine ⟨_, rfl, ?_⟩; replace HB := uS hb; (try clear hb); (try clear hb2); (try clear hk); (try clear hi)))
  go_ret2
  exact ⟨uA, by exact uW⟩
def upTo (n : Nat) : List Int := (List.range n).map fun j : Nat => (j : Int)
theorem upTo_len (n : Nat) : (upTo n).length = n := by simp [upTo]
theorem upTo_get {n m : Nat} (h : m < n) : rd (upTo n) (m : Int) = (m : Int) := by simp [upTo, rd, List.getD, h]
theorem upTo_set (i d : Nat) : (upTo i ++ List.replicate (d + 1) 0).set i (i : Int) = upTo (i + 1) ++ List.replicate d 0 := by
 have h := upTo_len i
 rw [List.set_append_right _ _ (by omega), h, Nat.sub_self]
 simp [upTo, List.range_succ, List.replicate_succ]
def impl_PackFarthestFirst.f (k : Nat) (l0 : List (S45)) (a1 : Int) : Option (List Int × Bool) := (impl_fitBag.f l0 a1).bind fun t => if t = true then (if 1 ≤ l0.length ∧ l0.length ≤ 19 then (impl_packed.f l0 a1 (insI (cfH l0) (l0.length - 1) 1 (upTo l0.length))).bind fun p => (impl_named.f k p).bind fun q => some (q, true) else none) else some ([], false)
theorem impl_PackFarthestFirst.calls (k : Nat) (A0 : Option Addr) (c0 : Nat) (l0 : List (S45)) (a1 : Int) (r1 : List Int) (r2 : Bool) (w : World) (hr0 : Kd.C k45 w A0 l0.length l0) (hc0 : l0.length ≤ c0) (h : impl_PackFarthestFirst.f k l0 a1 = some (r1, r2)) :
  Calls Try.prog 18 #[.slice A0 l0.length c0, .int .i64 a1] w fun e w' => ∃ v0_ : Value, e = .returned (.tuple #[v0_, .bool r2]) ∧ Kd.R (Kd.int .i64) 3 w' w.heap.size (fun _ => True) v0_ r1 ∧ Below w.heap.size w w' := by
 unfold impl_PackFarthestFirst.f at h
 obtain ⟨t, ht, hh⟩ := Option.bind_eq_some_iff.1 h
 clear h
 have hb0 : Below w.heap.size w (w.alloc (.cells #[.slice A0 l0.length c0] 24 (0, 0))) := (Below.refl _ _).alloc (Nat.le_refl _) _
 have HB0 := am hb0
 have HX0 := am (blk_new w (.cells #[.slice A0 l0.length c0] 24 (0, 0)))
 have HR := am hr0
 have HC := am hc0
 have eg := am (enters_of Try.func52 (by kernel_rfl) rfl)
 clear hr0 hc0
 have key := am fun W hW => impl_fitBag.calls A0 c0 l0 a1 t W hW HC.out ht
 clear ht
 cases t with
 | false =>
  rw [if_neg (by decide)] at hh
  obtain ⟨rfl, rfl⟩ : r1 = [] ∧ r2 = false := by simpa [eq_comm] using hh
  clear hh hb0
  go_enter Try.func18, Try.ntmps18
  go_wp2_with fail
  refine (key.out _ (Kd.C_below HR.out HB0.out)).mono ?_
  rintro e w1 ⟨rfl, hb1⟩
  have HB1 := am (below_step HB0.out hb1)
  clear hb1 key
  go_wp2
  go_ret2
  exact ⟨_, rfl, Kd.R_nil _ _ _ _ _, HB1.out⟩
 | true =>
  rw [if_pos rfl] at hh
  by_cases hl : 1 ≤ l0.length ∧ l0.length ≤ 19
  ·rw [if_pos hl] at hh
   obtain ⟨hl1, hl2⟩ := hl
   obtain ⟨p, hp, hh⟩ := Option.bind_eq_some_iff.1 hh
   obtain ⟨q, hq, hh⟩ := Option.bind_eq_some_iff.1 hh
   obtain ⟨rfl, rfl⟩ : r1 = q ∧ r2 = true := by simpa [eq_comm] using hh
   obtain ⟨ad, rfl, _, _⟩ := at_T45 HR.out 0 (by omega) (by omega)
   have KP := am fun A c W h0 h1 h2 => impl_packed.calls (some ad) c0 l0 a1 A c _ p W h0 HC.out h1 h2 hp
   have KN := am fun A c W h1 h2 => impl_named.calls k A c p _ W h1 h2 hq
   clear hh hb0 hp hq
   go_enter Try.func18, Try.ntmps18
   go_wp2_with fail
   refine (key.out _ (Kd.C_below HR.out HB0.out)).mono ?_
   rintro e w1 ⟨rfl, hb1⟩
   have HB1 := am (below_step HB0.out hb1)
   have HX1 := am (blk_below HX0.out hb1)
   have hcl : w1.cell? ⟨w.heap.size, 0, none⟩ = some (.slice (some ad) l0.length c0) := blk_cell HX1.out 0
   clear hb1 key
   go_wp2_with (first | ((with_reducible refine gate_dst (N := 14) rfl ?_); refine Kd.R_make (Kd.int .i64) _ 3 rfl (N := 14) rfl 27 _ _ rfl (l0.length : Int) rfl rfl Try.underlying27 (.int .i64 0) 8 info3 rfl (by decide) (by omega) 0 (ok := fun _ => True) (okp := fun _ => True) rfl (fun _ hk => hk) trivial (by omega) (by omega) (Below.refl _ _) (Nat.le_refl _) ?_; intro v2 w2 ho hb hg hnew; rw [Int.toNat_natCast] at ho; obtain ⟨gp, cp, rfl, hbg, hgl, cells, hcells⟩ := Kd.R_form ho (by simp; omega); rw [List.length_replicate] at ho ⊢; have HP := am ho; have HB2 := am (below_step HB1.out hb); have HX2 := am (blk_below HX1.out hb); have hgp : w.heap.size + 1 ≤ gp := (Nat.le_trans (blk_lt HX1.out) hbg); clear ho hb hg hnew hbg hcells hcl))
   have HP0 : Aside0 (Kd.R (Kd.int .i64) 3 w2 (w.heap.size + 1) (fun _ => True) (.slice (some ⟨gp, 0, none⟩) l0.length cp) (upTo 0 ++ List.replicate l0.length 0)) := ⟨by
    have := Kd.R_lower (base' := w.heap.size + 1) HP.out (blk_lt HX1.out)
    simpa [upTo] using this⟩
   go_loopg [17] l0.length (fun gg s17 wr => ∃ i : Nat, s17 = .int .i64 (i : Int) ∧ i + gg = l0.length ∧ Aside0 (Below w.heap.size w wr) ∧ Aside0 (wr.heap[w.heap.size]? = some (.cells #[.slice (some ad) l0.length c0] 24 (0, 0))) ∧ Aside0 (Kd.R (Kd.int .i64) 3 wr (w.heap.size + 1) (fun _ => True) (.slice (some ⟨gp, 0, none⟩) l0.length cp) (upTo i ++ List.replicate gg 0)))
   case atStart => exact ⟨0, rfl, by omega, HB2, HX2, HP0⟩
   case round =>
    obtain ⟨i, rfl, hg, HB3, HX3, HO⟩ := hrel
    by_cases hlt : i < l0.length
    ·obtain ⟨m, rfl⟩ : ∃ m, gk = m + 1 := ⟨gk - 1, by omega⟩
     have c1 : decide ((i : Int) < (l0.length : Int)) = true := decide_eq_true (by omega)
     have hcl := Kd.R_celln 0 HO.out (i : Int) (by omega) (by omega)
     rw [Int.toNat_natCast] at hcl
     obtain ⟨hcl, hfz⟩ := hcl
     have q1 : ((i : Int) < (l0.length : Int)) = True := eq_true (by omega)
     have r3 := Kd.R_putn HO.out (i : Int) (i : Int)
     rw [Int.toNat_natCast, upTo_set] at r3
     have R3 := am r3
     clear r3
     go_wp2
     go_roundg m
     case measure => omega
     case rel => exact ⟨i + 1, rfl, by omega, ⟨HB3.out.setCell (p := ⟨gp, i, none⟩) (by show w.heap.size ≤ gp; omega) _⟩, ⟨(Below.heap_setCell _ ⟨gp, i, none⟩ _ _ (by show w.heap.size ≠ gp; omega)).trans HX3.out⟩, R3⟩
    ·obtain rfl : gk = 0 := by omega
     obtain rfl : i = l0.length := by omega
     have c1 : decide ((l0.length : Int) < (l0.length : Int)) = false := decide_eq_false (by omega)
     have hO := HO.out
     rw [List.replicate_zero, List.append_nil] at hO
     have hs := sort_stable (cfH l0) (fun x => ∃ a : Nat, x = (a : Int) ∧ a < l0.length) 52 #[.pointer (some ⟨w.heap.size, 0, none⟩)] eg.out gp cp (w.heap.size + 1) (upTo l0.length) wr (by rw [upTo_len]; exact hO) (by rw [upTo_len]; exact hl1) (by rw [upTo_len]; exact hl2) (fun m hm => by
      rw [upTo_len] at hm
      exact ⟨m, upTo_get hm, hm⟩) (fun W x y hgb hx hy => by
      obtain ⟨a, rfl, ha⟩ := hx
      obtain ⟨b, rfl, hb⟩ := hy
      exact pf_cmp w.heap.size (some ad) c0 l0 a b W (Kd.C_below HR.out (HB3.out.grown hgb HB3.out.size (fun k hk => by injection hk with hk; omega))) ha hb ((blk_cell (blk_grown HX3.out hgb (fun e => by injection e with e; omega)) 0).trans rfl))
     rw [upTo_len] at hs
     have HS := am hs
     clear hs hO
     go_wp2_with fail
     refine HS.out.mono ?_
     rintro e w4 ⟨rfl, ho4, hg4⟩
     have HB4 := am (HB3.out.grown hg4 HB3.out.size (fun k hk => by injection hk with hk; omega))
     have HX4 := am (blk_grown HX3.out hg4 (fun e => by injection e with e; omega))
     have hlen : (insI (cfH l0) (l0.length - 1) 1 (upTo l0.length)).length = l0.length := (Kd.R_reads' ho4).1.symm
     have hp := KP.out (some ⟨gp, 0, none⟩) cp w4 (Kd.C_below HR.out HB4.out) (Kd.R_reads' ho4).2.2 (by rw [hlen]; exact (Kd.R_reads' ho4).2.1)
     rw [hlen] at hp
     have HPK := am hp
     have hcl : w4.cell? ⟨w.heap.size, 0, none⟩ = some (.slice (some ad) l0.length c0) := blk_cell HX4.out 0
     clear hp ho4 hg4 HS KP
     go_wp2_with fail
     refine HPK.out.mono ?_
     rintro e w5 ⟨v5, rfl, ho5, hb5⟩
     obtain ⟨A5, c5, rfl, hc5, hC5⟩ := Kd.R_reads ho5
     have HKN := am (KN.out A5 c5 w5 hC5 hc5)
     have HB5 := am (below_step HB4.out hb5)
     clear ho5 hb5 hC5 HPK KN hcl
     go_wp2_with fail
     refine HKN.out.mono ?_
     rintro e w6 ⟨v6, rfl, ho6, hb6⟩
     obtain ⟨A6, c6, rfl⟩ := Kd.R_slice ho6
     have HO6 := am (Kd.R_lower ho6 HB5.out.size)
     have HB6 := am (below_step HB5.out hb6)
     clear ho6 hb6 HKN
     go_wp2
     go_ret2
     exact ⟨_, rfl, HO6.out, HB6.out⟩
  ·rw [if_neg hl] at hh
   cases hh
def lbNum (k : Nat) (l : List S45) (trips : Int) (p : List Int) : Option Int :=
 (impl_countTrips.f l p).bind fun n => if n > trips then some 1000000 else (impl_weightsOf.f k l p).bind fun ws => slices_Max_int_int.f ws
theorem lb_keep {gt : Nat} {v : Value} {w W W' : World} (h : W.cell? ⟨gt, 0, none⟩ = some v ∧ Below w.heap.size w W) (hb : Below W.heap.size W W') : W'.cell? ⟨gt, 0, none⟩ = some v ∧ Below w.heap.size w W' :=
 ⟨(hb.cell (World.block_lt_of_cell? W _ h.1)).trans h.1, below_step h.2 hb⟩
theorem lb_calls (k gt : Nat) (trips : Int) (A0 : Option Addr) (c0 : Nat) (l0 : List S45) (A : Option Addr) (c : Nat) (p : List Int) (x : Int) (W : World) (hr0 : Kd.C k45 W A0 l0.length l0) (hc0 : l0.length ≤ c0) (hr1 : Kd.C (Kd.int .i64) W A p.length p) (hc1 : p.length ≤ c)
  (hg : W.cell? ⟨gt, 0, none⟩ = some (.int .i64 trips)) (h : lbNum k l0 trips p = some x) :
  Calls Try.prog 63 (#[.slice A0 l0.length c0, .slice A p.length c] ++ #[.pointer (some ⟨gt, 0, none⟩)]) W fun e w' => e = .returned (.int .i64 x) ∧ Below W.heap.size W w' := by
 unfold lbNum at h
 obtain ⟨n, hn, hh⟩ := Option.bind_eq_some_iff.1 h
 clear h
 have K1 := am fun W1 h0 h1 => impl_countTrips.calls A0 c0 l0 A c p n W1 h0 hc0 h1 hc1 hn
 have HR0 := am hr0
 have HR1 := am hr1
 have HC0 := am hc0
 have HC1 := am hc1
 clear hn hr0 hr1 hc0 hc1
 by_cases hgt : n > trips
 ·rw [if_pos hgt] at hh
  obtain rfl := Option.some.inj hh
  have c1 : decide (n > trips) = true := decide_eq_true hgt
  clear hh hgt
  go_enter Try.func63, Try.ntmps63
  go_wp2_with fail
  have s0 : W.cell? ⟨gt, 0, none⟩ = some (.int .i64 trips) ∧ Below W.heap.size W W := ⟨hg, Below.refl _ _⟩
  go_region_held3 (fun W' => W'.cell? ⟨gt, 0, none⟩ = some (.int .i64 trips) ∧ Below W.heap.size W W') (first | assumption | exact ⟨s0.1, s0.2.drew⟩ | exact lb_keep (by assumption) (by assumption)) (first | (go_at_call 46; refine (K1.out _ (Kd.C_drew HR0.out) (Kd.C_drew HR1.out)).mono ?_; rintro e w1 ⟨rfl, hd⟩; have hb := hd.below))
  have HB1 := am (below_step ((Below.refl W.heap.size W).drew) hb)
  clear s0 hb hd hg
  go_wp2
  go_ret
  exact ⟨rfl, HB1.out⟩
 ·rw [if_neg hgt] at hh
  obtain ⟨ws, hws, hh⟩ := Option.bind_eq_some_iff.1 hh
  have K2 := am fun W1 h0 h1 => impl_weightsOf.calls k A0 c0 l0 A c p ws W1 h0 HC0.out h1 HC1.out hws
  have K3 := am fun A c W1 h0 h1 => slices_Max_int_int.calls A c ws x W1 h0 h1 hh
  have c1 : decide (n > trips) = false := decide_eq_false hgt
  clear hh hgt hws
  go_enter Try.func63, Try.ntmps63
  go_wp2_with fail
  have s0 : W.cell? ⟨gt, 0, none⟩ = some (.int .i64 trips) ∧ Below W.heap.size W W := ⟨hg, Below.refl _ _⟩
  go_region_held3 (fun W' => W'.cell? ⟨gt, 0, none⟩ = some (.int .i64 trips) ∧ Below W.heap.size W W') (first | assumption | exact ⟨s0.1, s0.2.drew⟩ | exact lb_keep (by assumption) (by assumption)) (first | (go_at_call 46; refine (K1.out _ (Kd.C_drew HR0.out) (Kd.C_drew HR1.out)).mono ?_; rintro e w1 ⟨rfl, hd⟩; have hb := hd.below))
  have HB1 := am (below_step ((Below.refl W.heap.size W).drew) hb)
  clear s0 hb hd hg
  go_wp2_with fail
  refine (K2.out _ (Kd.C_below HR0.out HB1.out) (Kd.C_below HR1.out HB1.out)).mono ?_
  rintro e w2 ⟨v, rfl, ho, hb2⟩
  obtain ⟨Ab, cb, rfl, hcb, hC⟩ := Kd.R_reads ho
  have HB2 := am (below_step HB1.out hb2)
  clear ho hb2
  go_wp2_with fail
  refine (K3.out _ _ _ hC hcb).mono ?_
  rintro e w3 ⟨rfl, hd3⟩
  have HB3 := am (below_step HB2.out hd3.below)
  clear hd3
  go_wp2
  go_ret
  exact ⟨rfl, HB3.out⟩
def impl_CountShortestPlans.f (k : Nat) (l0 : List (S45)) (a1 : Int) : Option (Int × Bool) := (impl_fitBag.f l0 a1).bind fun t => if t = true then (if l0.length ≤ 8 then (bpGo (fun p => impl_lengthOf.f k l0 p) l0 a1 l0.length [] [] ⟨0, 0, []⟩).bind fun s => some (s.count, true) else none) else some (0, false)
theorem impl_CountShortestPlans.calls (k : Nat) (A0 : Option Addr) (c0 : Nat) (l0 : List (S45)) (a1 : Int) (r1 : Int) (r2 : Bool) (w : World) (hr0 : Kd.C k45 w A0 l0.length l0) (hc0 : l0.length ≤ c0) (h : impl_CountShortestPlans.f k l0 a1 = some (r1, r2)) :
  Calls Try.prog 10 #[.slice A0 l0.length c0, .int .i64 a1] w fun e w' => e = .returned (.tuple #[.int .i64 r1, .bool r2]) ∧ Below w.heap.size w w' := by
 unfold impl_CountShortestPlans.f at h
 obtain ⟨t, ht, hh⟩ := Option.bind_eq_some_iff.1 h
 clear h
 have HR := am hr0
 have HC := am hc0
 have eg := enters_of Try.func43 (by kernel_rfl) rfl
 clear hr0 hc0
 have key := fun W hW => impl_fitBag.calls A0 c0 l0 a1 t W hW HC.out ht
 clear ht
 cases t with
 | false =>
  rw [if_neg (by decide)] at hh
  obtain ⟨rfl, rfl⟩ : r1 = 0 ∧ r2 = false := by simpa [eq_comm] using hh
  clear hh
  go_enter Try.func10, Try.ntmps10
  go_wp2_with fail
  refine (key _ HR.out).mono ?_
  rintro e w1 ⟨rfl, hb1⟩
  go_wp2
  go_ret2
  exact ⟨rfl, hb1⟩
 | true =>
  rw [if_pos rfl] at hh
  by_cases hl : l0.length ≤ 8
  ·rw [if_pos hl] at hh
   obtain ⟨s, hs, hh⟩ := Option.bind_eq_some_iff.1 hh
   obtain ⟨rfl, rfl⟩ : r1 = s.count ∧ r2 = true := by simpa [eq_comm] using hh
   clear hh
   have HS := am hs
   clear hs
   go_enter Try.func10, Try.ntmps10
   go_wp2_with fail
   refine (key _ HR.out).mono ?_
   rintro e w1 ⟨rfl, hb1⟩
   have HB := am hb1
   clear hb1 key
   go_wp2_with fail
   refine (bp_call (fun p => impl_lengthOf.f k l0 p) 43 #[] eg A0 c0 l0 a1 w1 (Kd.C_below HR.out HB.out) HC.out hl (fun W p A c x hW hC hc _ hx => (impl_lengthOf.calls k A0 c0 l0 A c p x W (Kd.C_below HR.out (HB.out.trans (hW.mono HB.out.size))) HC.out hC hc hx).mono fun e w' h => ⟨h.1, h.2⟩) s HS.out).mono ?_
   rintro e w2 ⟨v, rfl, ho, hb2⟩
   obtain ⟨Ab, cb, rfl⟩ := Kd.R_slice ho
   have HO := am ho
   have HB2 := am hb2
   clear ho hb2
   go_wp2
   go_ret2
   exact ⟨rfl, HB.out.trans (HB2.out.mono HB.out.size)⟩
  ·rw [if_neg hl] at hh
   cases hh
def laws_aFirst.l0 : Nat → List Int → List Int → Int → Int → Option (Bool)
 | 0, _, _, _, _ => none
 | k + 1, x1, x7, x8, x9 => if x9 < x8 then (if 0 ≤ x9 then (if x9 < (x7.length : Int) then (if x9 = (x1.length : Int) then (some false) else (if x9 < (x1.length : Int) then (if (rd x7 x9) = (rd x1 x9) then (laws_aFirst.l0 k x1 x7 x8 (wrap64 (x9 + 1))) else (some (decide ((rd x7 x9) < (rd x1 x9))))) else (none))) else (none)) else (none)) else (some true)
def laws_aFirst.f (k : Nat) (l0 : List Int) (l1 : List Int) : Option (Bool) := laws_aFirst.l0 k l1 l0 (l0.length : Int) 0
theorem laws_aFirst.calls (k : Nat) (A0 : Option Addr) (c0 : Nat) (l0 : List Int) (A1 : Option Addr) (c1 : Nat) (l1 : List Int) (r : Bool) (w : World) (hr0 : Kd.C (Kd.int .i64) w A0 l0.length l0) (hc0 : l0.length ≤ c0) (hr1 : Kd.C (Kd.int .i64) w A1 l1.length l1) (hc1 : l1.length ≤ c1) (h : laws_aFirst.f k l0 l1 = some r) :
  Calls Try.prog 28 #[.slice A0 l0.length c0, .slice A1 l1.length c1] w fun e w' => e = .returned (.bool r) ∧ Drawn0 w w' := by
 have HR0 := am hr0
 have HC0 := am hc0
 clear hr0 hc0
 have HR1 := am hr1
 have HC1 := am hc1
 clear hr1 hc1
 have H : (laws_aFirst.l0 k l1 l0 (l0.length : Int) 0) = some r := h
 clear h
 have H' := am H
 clear H
 go_enter Try.func28, Try.ntmps28
 go_wp2
 go_loopg [9] k (fun kq v9 w' => ∃ (x9_1 : Int), v9 = .int .i64 x9_1 ∧ Aside0 (laws_aFirst.l0 kq l1 l0 (l0.length : Int) x9_1 = some r) ∧ Aside0 (kq ≤ k) ∧ Drawn0 w w')
 case atStart => exact ⟨(0), (by first | rfl | (simp; done) | (simp [*]; done)), H', ⟨Nat.le_refl _⟩, by repeat (first | exact Drawn0.refl _ | apply Drawn0.step)⟩
 case round =>
  clear H'
  try clear c1
  try clear c2
  try clear p2
  obtain ⟨x9_1, rfl, HA, HK1, ⟨m1, rfl⟩⟩ := hrel
  cases gk with
  | zero => exact absurd HA.out (by simp [laws_aFirst.l0])
  | succ k1 =>
   have H := HA.out
   clear HA
   simp only [laws_aFirst.l0] at H
   by_cases c3 : x9_1 < (l0.length : Int)
   ·rw [if_pos c3] at H
    have c3b0 : decide (x9_1 < (l0.length : Int)) = true := decide_eq_true c3
    clear c3
    by_cases c4 : 0 ≤ x9_1
    ·rw [if_pos c4] at H
     have c4b0 : decide (0 ≤ x9_1) = true := decide_eq_true c4
     clear c4
     by_cases c5 : x9_1 < (l0.length : Int)
     ·rw [if_pos c5] at H
      have c5b0 : decide (x9_1 < (l0.length : Int)) = true := decide_eq_true c5
      clear c5
      by_cases c6 : x9_1 = (l1.length : Int)
      ·rw [if_pos c6] at H
       have c6b0 : (x9_1 == (l1.length : Int)) = true := beq_iff_eq.mpr c6
       have c6b1 : (x9_1 != (l1.length : Int)) = false := bne_eq_false_iff_eq.mpr c6
       clear c6
       obtain rfl := Option.some.inj H
       have p101 : 0 ≤ (x9_1 : Int) := of_decide_eq_true (by first | (with_reducible assumption) | assumption)
       have q101 : x9_1 < (l0.length : Int) := of_decide_eq_true (by first | (with_reducible assumption) | assumption)
       obtain ⟨ad101, e101, hx101_0⟩ := Kd.at_int HR0.out x9_1 p101 q101
       cases e101
       replace p101 := eq_true p101
       replace q101 := eq_true q101
       go_wp2
       go_ret
       exact ⟨by first | rfl | (simp; done) | (simp [*]; done), by repeat (first | exact Drawn0.refl _ | apply Drawn0.step)⟩
      ·rw [if_neg c6] at H
       have c6b0 : (x9_1 == (l1.length : Int)) = false := beq_eq_false_iff_ne.mpr c6
       have c6b1 : (x9_1 != (l1.length : Int)) = true := bne_iff_ne.mpr c6
       by_cases c7 : x9_1 < (l1.length : Int)
       ·rw [if_pos c7] at H
        have c7b0 : decide (x9_1 < (l1.length : Int)) = true := decide_eq_true c7
        clear c7
        by_cases c8 : (rd l0 x9_1) = (rd l1 x9_1)
        ·rw [if_pos c8] at H
         have c8b0 : ((rd l0 x9_1) == (rd l1 x9_1)) = true := beq_iff_eq.mpr c8
         have c8b1 : ((rd l0 x9_1) != (rd l1 x9_1)) = false := bne_eq_false_iff_eq.mpr c8
         clear c8
         have H' := am H
         clear H
         have p101 : 0 ≤ (x9_1 : Int) := of_decide_eq_true (by first | (with_reducible assumption) | assumption)
         have q101 : x9_1 < (l0.length : Int) := of_decide_eq_true (by first | (with_reducible assumption) | assumption)
         obtain ⟨ad101, e101, hx101_0⟩ := Kd.at_int HR0.out x9_1 p101 q101
         cases e101
         replace p101 := eq_true p101
         replace q101 := eq_true q101
         have p102 : 0 ≤ (x9_1 : Int) := of_decide_eq_true (by first | (with_reducible assumption) | assumption)
         have q102 : x9_1 < (l1.length : Int) := of_decide_eq_true (by first | (with_reducible assumption) | assumption)
         obtain ⟨ad102, e102, hx102_0⟩ := Kd.at_int HR1.out x9_1 p102 q102
         cases e102
         replace p102 := eq_true p102
         replace q102 := eq_true q102
         go_wp2
         go_roundg k1
         case measure => have := HK1.out; omega
         case rel => exact ⟨(wrap64 (x9_1 + 1)), (by first | rfl | (simp; done) | (simp [*]; done)), H', ⟨by have := HK1.out; omega⟩, by repeat (first | exact Drawn0.refl _ | apply Drawn0.step)⟩
        ·rw [if_neg c8] at H
         have c8b0 : ((rd l0 x9_1) == (rd l1 x9_1)) = false := beq_eq_false_iff_ne.mpr c8
         have c8b1 : ((rd l0 x9_1) != (rd l1 x9_1)) = true := bne_iff_ne.mpr c8
         obtain rfl := Option.some.inj H
         have p101 : 0 ≤ (x9_1 : Int) := of_decide_eq_true (by first | (with_reducible assumption) | assumption)
         have q101 : x9_1 < (l0.length : Int) := of_decide_eq_true (by first | (with_reducible assumption) | assumption)
         obtain ⟨ad101, e101, hx101_0⟩ := Kd.at_int HR0.out x9_1 p101 q101
         cases e101
         replace p101 := eq_true p101
         replace q101 := eq_true q101
         have p102 : 0 ≤ (x9_1 : Int) := of_decide_eq_true (by first | (with_reducible assumption) | assumption)
         have q102 : x9_1 < (l1.length : Int) := of_decide_eq_true (by first | (with_reducible assumption) | assumption)
         obtain ⟨ad102, e102, hx102_0⟩ := Kd.at_int HR1.out x9_1 p102 q102
         cases e102
         replace p102 := eq_true p102
         replace q102 := eq_true q102
         have p103 : 0 ≤ (x9_1 : Int) := of_decide_eq_true (by first | (with_reducible assumption) | assumption)
         have q103 : x9_1 < (l1.length : Int) := of_decide_eq_true (by first | (with_reducible assumption) | assumption)
         obtain ⟨ad103, e103, hx103_0⟩ := Kd.at_int HR1.out x9_1 p103 q103
         obtain rfl : ad102 = ad103 := (by injection e103)
         replace p103 := eq_true p103
         replace q103 := eq_true q103
         go_wp2
         go_ret
         exact ⟨by first | rfl | (simp; done) | (simp [*]; done), by repeat (first | exact Drawn0.refl _ | apply Drawn0.step)⟩
       ·rw [if_neg c7] at H
        exact absurd H (by simp)
     ·rw [if_neg c5] at H
      exact absurd H (by simp)
    ·rw [if_neg c4] at H
     exact absurd H (by simp)
   ·rw [if_neg c3] at H
    have c3b0 : decide (x9_1 < (l0.length : Int)) = false := decide_eq_false c3
    clear c3
    obtain rfl := Option.some.inj H
    go_wp2
    go_ret
    exact ⟨by first | rfl | (simp; done) | (simp [*]; done), by repeat (first | exact Drawn0.refl _ | apply Drawn0.step)⟩
def impl_FirstFewestPlan.f (l0 : List (S45)) (a1 : Int) : Option (List Int × Bool) := (impl_fitBag.f l0 a1).bind fun t => if t = true then (if l0.length ≤ 8 then (bpGo (fun p => impl_countTrips.f l0 p) l0 a1 l0.length [] [] ⟨0, 0, []⟩).bind fun s => some (s.best, true) else none) else some ([], false)
theorem impl_FirstFewestPlan.calls (A0 : Option Addr) (c0 : Nat) (l0 : List (S45)) (a1 : Int) (r1 : List Int) (r2 : Bool) (w : World) (hr0 : Kd.C k45 w A0 l0.length l0) (hc0 : l0.length ≤ c0) (h : impl_FirstFewestPlan.f l0 a1 = some (r1, r2)) :
  Calls Try.prog 12 #[.slice A0 l0.length c0, .int .i64 a1] w fun e w' => ∃ v0_ : Value, e = .returned (.tuple #[v0_, .bool r2]) ∧ Kd.R (Kd.int .i64) 3 w' w.heap.size (fun _ => True) v0_ r1 ∧ Below w.heap.size w w' := by
 unfold impl_FirstFewestPlan.f at h
 obtain ⟨t, ht, hh⟩ := Option.bind_eq_some_iff.1 h
 clear h
 have HR := am hr0
 have HC := am hc0
 have eg := enters_of Try.func46 (by kernel_rfl) rfl
 clear hr0 hc0
 have key := fun W hW => impl_fitBag.calls A0 c0 l0 a1 t W hW HC.out ht
 clear ht
 cases t with
 | false =>
  rw [if_neg (by decide)] at hh
  obtain ⟨rfl, rfl⟩ : r1 = [] ∧ r2 = false := by simpa [eq_comm] using hh
  clear hh
  go_enter Try.func12, Try.ntmps12
  go_wp2_with fail
  refine (key _ HR.out).mono ?_
  rintro e w1 ⟨rfl, hb1⟩
  go_wp2
  go_ret2
  exact ⟨_, rfl, Kd.R_nil _ _ _ _ _, hb1⟩
 | true =>
  rw [if_pos rfl] at hh
  by_cases hl : l0.length ≤ 8
  ·rw [if_pos hl] at hh
   obtain ⟨s, hs, hh⟩ := Option.bind_eq_some_iff.1 hh
   obtain ⟨rfl, rfl⟩ : r1 = s.best ∧ r2 = true := by simpa [eq_comm] using hh
   clear hh
   have HS := am hs
   clear hs
   go_enter Try.func12, Try.ntmps12
   go_wp2_with fail
   refine (key _ HR.out).mono ?_
   rintro e w1 ⟨rfl, hb1⟩
   have HB := am hb1
   clear hb1 key
   go_wp2_with fail
   refine (bp_call (fun p => impl_countTrips.f l0 p) 46 #[] eg A0 c0 l0 a1 w1 (Kd.C_below HR.out HB.out) HC.out hl (fun W p A c x hW hC hc _ hx => (impl_countTrips.calls A0 c0 l0 A c p x W (Kd.C_below HR.out (HB.out.trans (hW.mono HB.out.size))) HC.out hC hc hx).mono fun e w' h => ⟨h.1, h.2.below⟩) s HS.out).mono ?_
   rintro e w2 ⟨v, rfl, ho, hb2⟩
   obtain ⟨Ab, cb, rfl⟩ := Kd.R_slice ho
   have HO := am ho
   have HB2 := am hb2
   clear ho hb2
   go_wp2
   go_ret2
   exact ⟨_, rfl, Kd.R_lower HO.out HB.out.size, HB.out.trans (HB2.out.mono HB.out.size)⟩
  ·rw [if_neg hl] at hh
   cases hh
def spec_PackFarthestFirst.f (k : Nat) (l0 : List (S45)) (a1 : Int) : Option (List Int × Bool) := (spec_bgAsked.f k l0 a1).bind fun t101 => (if t101 = true then ((spec_bgOrder.f k l0 true).bind fun t102 => ((spec_bgPack.f k l0 a1 t102).bind fun t105 => (some (t105, true)))) else (some (([] : List Int), false)))
theorem spec_PackFarthestFirst.calls (k : Nat) (A0 : Option Addr) (c0 : Nat) (l0 : List (S45)) (a1 : Int) (r1 : List Int) (r2 : Bool) (w : World) (hr0 : Kd.C k45 w A0 l0.length l0) (hc0 : l0.length ≤ c0) (h : spec_PackFarthestFirst.f k l0 a1 = some (r1, r2)) :
  Calls Try.prog 19 #[.slice A0 l0.length c0, .int .i64 a1] w fun e w' => ∃ v0_ : Value, e = .returned (.tuple #[v0_, .bool r2]) ∧ Kd.R (Kd.int .i64) 3 w' w.heap.size (fun _ => True) v0_ r1 ∧ Below w.heap.size w w' := by
 have HR0 := am hr0
 have HC0 := am hc0
 clear hr0 hc0
 have HB := am (Below.refl w.heap.size w)
 have H : ((spec_bgAsked.f k l0 a1).bind fun t101 => (if t101 = true then ((spec_bgOrder.f k l0 true).bind fun t102 => ((spec_bgPack.f k l0 a1 t102).bind fun t105 => (some (t105, true)))) else (some (([] : List Int), false)))) = some (r1, r2) := h
 clear h
 replace H := bH H
 obtain ⟨t101, A30, H⟩ := H
 replace H : (if t101 = true then ((spec_bgOrder.f k l0 true).bind fun t102 => ((spec_bgPack.f k l0 a1 t102).bind fun t105 => (some (t105, true)))) else (some (([] : List Int), false))) = some (r1, r2) := H
 have A3 := am A30
 clear A30
 by_cases c4 : t101 = true
 ·subst c4
  have H1 : ((spec_bgOrder.f k l0 true).bind fun t102 => ((spec_bgPack.f k l0 a1 t102).bind fun t105 => (some (t105, true)))) = some (r1, r2) := by rw [if_pos rfl] at H; exact H
  clear H
  have H := H1
  clear H1
  replace H := bH H
  obtain ⟨t102, A50, H⟩ := H
  replace H : ((spec_bgPack.f k l0 a1 t102).bind fun t105 => (some (t105, true))) = some (r1, r2) := H
  have A5 := am A50
  clear A50
  replace H := bH H
  obtain ⟨t105, A60, H⟩ := H
  replace H : (some (t105, true)) = some (r1, r2) := H
  have A6 := am A60
  clear A60
  simp only [Option.some.injEq, Prod.mk.injEq] at H
  obtain ⟨rfl, rfl⟩ := H
  go_enter Try.func19, Try.ntmps19
  go_wp2_with (first | ((with_reducible refine gate_callee (f := 44) rfl ?_); refine uGo (some 8) Try.func44 #[.slice A0 l0.length c0, .int .i64 a1] ?_; (with_reducible refine (spec_bgAsked.calls k _ _ l0 a1 true _ ?side1 ?side2 A3.out).mono ?_); (case side1 => repeat (first | exact HR0.out | (with_reducible refine cA ?_ _) | (with_reducible refine cN ?_ _) | (with_reducible refine cD ?_))); (case side2 => exact HC0.out); rintro e w7 ⟨rfl, hb⟩; refine ⟨_, rfl, ?_⟩; replace HB := uS hb; (try clear hb); (try clear hb2); (try clear hk); (try clear hi)) | ((with_reducible refine gate_callee (f := 50) rfl ?_); refine uGo (some 13) Try.func50 #[.slice A0 l0.length c0, .bool true] ?_; (with_reducible refine (spec_bgOrder.calls k _ _ l0 true t102 _ ?side1 ?side2 A5.out).mono ?_); (case side1 => repeat (first | exact (Kd.C_below HR0.out HB.out) | (with_reducible refine cA ?_ _) | (with_reducible refine cN ?_ _) | (with_reducible refine cD ?_))); (case side2 => exact HC0.out); rintro e w8 ⟨v103, rfl, ho0, hb⟩; refine ⟨_, rfl, ?_⟩; have HO104 := am (Kd.R_lower ho0 (below_size uW)); replace HB := uS hb; (try clear hb); (try clear hb2); (try clear hk); (try clear hi); (try clear ho0); obtain ⟨Ao9, co9, eo9⟩ := Kd.R_slice HO104.out; subst eo9) | ((with_reducible refine gate_callee (f := 49) rfl ?_); refine uGo (some 14) Try.func49 #[.slice A0 l0.length c0, .int .i64 a1, .slice Ao9 t102.length co9] ?_; (with_reducible refine (spec_bgPack.calls k _ _ l0 a1 _ _ t102 t105 _ ?side1 ?side2 ?side3 ?side4 A6.out).mono ?_); (case side1 => repeat (first | exact (Kd.C_below HR0.out HB.out) | (with_reducible refine cA ?_ _) | (with_reducible refine cN ?_ _) | (with_reducible refine cD ?_))); (case side2 => exact HC0.out); (case side3 => repeat (first | exact (Kd.R_reads' HO104.out).2.2 | (with_reducible refine cA ?_ _) | (with_reducible refine cN ?_ _) | (with_reducible refine cD ?_))); (case side4 => exact (Kd.R_reads' HO104.out).2.1); rintro e w10 ⟨v106, rfl, ho0, hb⟩; refine ⟨_, rfl, ?_⟩; have HO107 := am (Kd.R_lower (Kd.R_new' ho0 (Kd.R_lt (uR HO104))) (below_size uW)); replace HO104 := am (Kd.R_elder' (uR HO104) (Kd.R_base ho0) hb); replace HB := uS hb; (try clear hb); (try clear hb2); (try clear hk); (try clear hi); (try clear ho0)))
  go_ret2
  exact ⟨_, uA, by (with_reducible repeat (first | apply rA | apply rN | apply rD)); exact Kd.R_mono HO107.out (fun _ hk => trivial), by exact uW⟩
 ·replace c4 := Bool.eq_false_iff.mpr c4
  subst c4
  have H1 : (some (([] : List Int), false)) = some (r1, r2) := by rw [if_neg (show ¬ (false = true) by decide)] at H; exact H
  clear H
  have H := H1
  clear H1
  simp only [Option.some.injEq, Prod.mk.injEq] at H
  obtain ⟨rfl, rfl⟩ := H
  go_enter Try.func19, Try.ntmps19
  go_wp2_with (first | ((with_reducible refine gate_callee (f := 44) rfl ?_); refine uGo (some 8) Try.func44 #[.slice A0 l0.length c0, .int .i64 a1] ?_; (with_reducible refine (spec_bgAsked.calls k _ _ l0 a1 false _ ?side1 ?side2 A3.out).mono ?_); (case side1 => repeat (first | exact HR0.out | (with_reducible refine cA ?_ _) | (with_reducible refine cN ?_ _) | (with_reducible refine cD ?_))); (case side2 => exact HC0.out); rintro e w11 ⟨rfl, hb⟩; refine ⟨_, rfl, ?_⟩; replace HB := uS hb; (try clear hb); (try clear hb2); (try clear hk); (try clear hi)))
  go_ret2
  exact ⟨_, uA, uN, by exact uW⟩
def impl_weightOf.l0 : Nat → Int → List (S45) → Int → Int → Option (Int)
 | 0, _, _, _, _ => none
 | k + 1, x3, x6, x7, x8 => if x8 < x7 then (if 0 ≤ x8 then (if x8 < (x6.length : Int) then (impl_weightOf.l0 k (wrap64 (x3 + ((rd_T45 x6 x8).f1))) x6 x7 (wrap64 (x8 + 1))) else (none)) else (none)) else (some x3)
def impl_weightOf.f (k : Nat) (l0 : List (S45)) : Option (Int) := impl_weightOf.l0 k 0 l0 (l0.length : Int) 0
theorem impl_weightOf.calls (k : Nat) (A0 : Option Addr) (c0 : Nat) (l0 : List (S45)) (r : Int) (w : World) (hr0 : Kd.C k45 w A0 l0.length l0) (hc0 : l0.length ≤ c0) (h : impl_weightOf.f k l0 = some r) :
  Calls Try.prog 55 #[.slice A0 l0.length c0] w fun e w' => e = .returned (.int .i64 r) ∧ Below w.heap.size w w' := by
 have hu45 := Try.underlying45
 have HR0 := am hr0
 have HC0 := am hc0
 clear hr0 hc0
 have HB := am (Below.refl w.heap.size w)
 have H : (impl_weightOf.l0 k 0 l0 (l0.length : Int) 0) = some r := h
 clear h
 have H' := am H
 clear H
 go_enter Try.func55, Try.ntmps55
 go_wp2
 go_loopg [3, 8] k (fun kq v3 v8 w' => ∃ (x3_1 : Int) (x8_1 : Int), v3 = .int .i64 x3_1 ∧ v8 = .int .i64 x8_1 ∧ Aside0 (impl_weightOf.l0 kq x3_1 l0 (l0.length : Int) x8_1 = some r) ∧ Aside0 (kq ≤ k) ∧ Aside0 (Below w.heap.size w w'))
 case atStart => exact ⟨(0), (0), (by first | rfl | (simp; done) | (simp [*]; done)), (by first | rfl | (simp; done) | (simp [*]; done)), H', ⟨Nat.le_refl _⟩, ⟨by exact uW⟩⟩
 case round =>
  clear H'
  obtain ⟨x3_1, x8_1, rfl, rfl, HA, HK1, HB⟩ := hrel
  cases gk with
  | zero => exact absurd HA.out (by simp [impl_weightOf.l0])
  | succ k1 =>
   have H := HA.out
   clear HA
   simp only [impl_weightOf.l0] at H
   by_cases c2 : x8_1 < (l0.length : Int)
   ·rw [if_pos c2] at H
    have c2b0 : decide (x8_1 < (l0.length : Int)) = true := decide_eq_true c2
    clear c2
    by_cases c3 : 0 ≤ x8_1
    ·rw [if_pos c3] at H
     have c3b0 : decide (0 ≤ x8_1) = true := decide_eq_true c3
     clear c3
     by_cases c4 : x8_1 < (l0.length : Int)
     ·rw [if_pos c4] at H
      have c4b0 : decide (x8_1 < (l0.length : Int)) = true := decide_eq_true c4
      clear c4
      have H' := am H
      clear H
      have p101 : 0 ≤ (x8_1 : Int) := of_decide_eq_true (by first | (with_reducible assumption) | assumption)
      have q101 : x8_1 < (l0.length : Int) := of_decide_eq_true (by first | (with_reducible assumption) | assumption)
      obtain ⟨ad101, e101, hx101_0, hx101_1⟩ := at_T45 HR0.out x8_1 p101 q101
      cases e101
      try replace hx101_0 := (HB.out.cell (World.block_lt_of_cell? w _ hx101_0)).trans hx101_0
      try replace hx101_1 := (HB.out.cell (World.block_lt_of_cell? w _ hx101_1)).trans hx101_1
      replace p101 := eq_true p101
      replace q101 := eq_true q101
      go_wp2_with (first | ((with_reducible refine gate_dst (N := 5) rfl ?_); refine uX (N := 5) (cs := #[.int .i64 0, .int .i64 0]) (t := 45) ?_; intro gb102 hg w5 hbox hb; have BK102 := am (hbox); have GW102 := uE hg; have GE102 := GW102; replace HB := uS hb; clear hb hbox hg; obtain ⟨hcz6_0, hcz6_1, hfz6_0, hfz6_1⟩ := uZ2 BK102))
      go_roundg k1
      case measure => have := HK1.out; omega
      case rel => exact ⟨(wrap64 (x3_1 + ((rd_T45 l0 x8_1).f1))), (wrap64 (x8_1 + 1)), (by first | rfl | (simp; done) | (simp [*]; done)), (by first | rfl | (simp; done) | (simp [*]; done)), H', ⟨by have := HK1.out; omega⟩, ⟨by exact uW⟩⟩
     ·rw [if_neg c4] at H
      exact absurd H (by simp)
    ·rw [if_neg c3] at H
     exact absurd H (by simp)
   ·rw [if_neg c2] at H
    have c2b0 : decide (x8_1 < (l0.length : Int)) = false := decide_eq_false c2
    clear c2
    obtain rfl := Option.some.inj H
    go_wp2
    go_ret
    exact ⟨uA, by exact uW⟩
def impl_TripsBound.f (k : Nat) (l0 : List (S45)) (a1 : Int) : Option (Int × Bool) := (impl_fitBag.f l0 a1).bind fun t101 => (if t101 = true then ((impl_weightOf.f k l0).bind fun t102 => (if a1 = 0 then (none) else (some (wrap64 (Int.tdiv (wrap64 ((wrap64 (t102 + a1)) - 1)) a1), true)))) else (some (0, false)))
theorem impl_TripsBound.calls (k : Nat) (A0 : Option Addr) (c0 : Nat) (l0 : List (S45)) (a1 : Int) (r1 : Int) (r2 : Bool) (w : World) (hr0 : Kd.C k45 w A0 l0.length l0) (hc0 : l0.length ≤ c0) (h : impl_TripsBound.f k l0 a1 = some (r1, r2)) :
  Calls Try.prog 20 #[.slice A0 l0.length c0, .int .i64 a1] w fun e w' => e = .returned (.tuple #[.int .i64 r1, .bool r2]) ∧ Below w.heap.size w w' := by
 have HR0 := am hr0
 have HC0 := am hc0
 clear hr0 hc0
 have HB := am (Below.refl w.heap.size w)
 have H : ((impl_fitBag.f l0 a1).bind fun t101 => (if t101 = true then ((impl_weightOf.f k l0).bind fun t102 => (if a1 = 0 then (none) else (some (wrap64 (Int.tdiv (wrap64 ((wrap64 (t102 + a1)) - 1)) a1), true)))) else (some (0, false)))) = some (r1, r2) := h
 clear h
 replace H := bH H
 obtain ⟨t101, A30, H⟩ := H
 replace H : (if t101 = true then ((impl_weightOf.f k l0).bind fun t102 => (if a1 = 0 then (none) else (some (wrap64 (Int.tdiv (wrap64 ((wrap64 (t102 + a1)) - 1)) a1), true)))) else (some (0, false))) = some (r1, r2) := H
 have A3 := am A30
 clear A30
 by_cases c4 : t101 = true
 ·subst c4
  have H1 : ((impl_weightOf.f k l0).bind fun t102 => (if a1 = 0 then (none) else (some (wrap64 (Int.tdiv (wrap64 ((wrap64 (t102 + a1)) - 1)) a1), true)))) = some (r1, r2) := by rw [if_pos rfl] at H; exact H
  clear H
  have H := H1
  clear H1
  replace H := bH H
  obtain ⟨t102, A50, H⟩ := H
  replace H : (if a1 = 0 then (none) else (some (wrap64 (Int.tdiv (wrap64 ((wrap64 (t102 + a1)) - 1)) a1), true))) = some (r1, r2) := H
  have A5 := am A50
  clear A50
  by_cases c6 : a1 = 0
  ·rw [if_pos c6] at H
   exact absurd H (by simp)
  ·rw [if_neg c6] at H
   have c6b0 : (a1 == 0) = false := beq_eq_false_iff_ne.mpr c6
   have c6b1 : (a1 != 0) = true := bne_iff_ne.mpr c6
   simp only [Option.some.injEq, Prod.mk.injEq] at H
   obtain ⟨rfl, rfl⟩ := H
   go_enter Try.func20, Try.ntmps20
   go_wp2_with (first | ((with_reducible refine gate_callee (f := 41) rfl ?_); refine uGo (some 8) Try.func41 #[.slice A0 l0.length c0, .int .i64 a1] ?_; (with_reducible refine (impl_fitBag.calls _ _ l0 a1 true _ ?side1 ?side2 A3.out).mono ?_); (case side1 => repeat (first | exact HR0.out | (with_reducible refine cA ?_ _) | (with_reducible refine cN ?_ _) | (with_reducible refine cD ?_))); (case side2 => exact HC0.out); rintro e w7 ⟨rfl, hb⟩; refine ⟨_, rfl, ?_⟩; replace HB := uS hb; (try clear hb); (try clear hb2); (try clear hk); (try clear hi)) | ((with_reducible refine gate_callee (f := 55) rfl ?_); refine uGo (some 11) Try.func55 #[.slice A0 l0.length c0] ?_; (with_reducible refine (impl_weightOf.calls k _ _ l0 t102 _ ?side1 ?side2 A5.out).mono ?_); (case side1 => repeat (first | exact (Kd.C_below HR0.out HB.out) | (with_reducible refine cA ?_ _) | (with_reducible refine cN ?_ _) | (with_reducible refine cD ?_))); (case side2 => exact HC0.out); rintro e w8 ⟨rfl, hb⟩; refine ⟨_, rfl, ?_⟩; replace HB := uS hb; (try clear hb); (try clear hb2); (try clear hk); (try clear hi)))
   go_ret2
   exact ⟨uA, by exact uW⟩
 ·replace c4 := Bool.eq_false_iff.mpr c4
  subst c4
  have H1 : (some (0, false)) = some (r1, r2) := by rw [if_neg (show ¬ (false = true) by decide)] at H; exact H
  clear H
  have H := H1
  clear H1
  simp only [Option.some.injEq, Prod.mk.injEq] at H
  obtain ⟨rfl, rfl⟩ := H
  go_enter Try.func20, Try.ntmps20
  go_wp2_with (first | ((with_reducible refine gate_callee (f := 41) rfl ?_); refine uGo (some 8) Try.func41 #[.slice A0 l0.length c0, .int .i64 a1] ?_; (with_reducible refine (impl_fitBag.calls _ _ l0 a1 false _ ?side1 ?side2 A3.out).mono ?_); (case side1 => repeat (first | exact HR0.out | (with_reducible refine cA ?_ _) | (with_reducible refine cN ?_ _) | (with_reducible refine cD ?_))); (case side2 => exact HC0.out); rintro e w9 ⟨rfl, hb⟩; refine ⟨_, rfl, ?_⟩; replace HB := uS hb; (try clear hb); (try clear hb2); (try clear hk); (try clear hi)))
  go_ret2
  exact ⟨uA, by exact uW⟩
def spec_bgSum.l0 : Nat → Int → List (S45) → Int → Int → Option (Int)
 | 0, _, _, _, _ => none
 | k + 1, x3, x6, x7, x8 => if x8 < x7 then (if 0 ≤ x8 then (if x8 < (x6.length : Int) then (spec_bgSum.l0 k (wrap64 (x3 + ((rd_T45 x6 x8).f1))) x6 x7 (wrap64 (x8 + 1))) else (none)) else (none)) else (some x3)
def spec_bgSum.f (k : Nat) (l0 : List (S45)) : Option (Int) := spec_bgSum.l0 k 0 l0 (l0.length : Int) 0
theorem spec_bgSum.calls (k : Nat) (A0 : Option Addr) (c0 : Nat) (l0 : List (S45)) (r : Int) (w : World) (hr0 : Kd.C k45 w A0 l0.length l0) (hc0 : l0.length ≤ c0) (h : spec_bgSum.f k l0 = some r) :
  Calls Try.prog 56 #[.slice A0 l0.length c0] w fun e w' => e = .returned (.int .i64 r) ∧ Below w.heap.size w w' := by
 have hu45 := Try.underlying45
 have HR0 := am hr0
 have HC0 := am hc0
 clear hr0 hc0
 have HB := am (Below.refl w.heap.size w)
 have H : (spec_bgSum.l0 k 0 l0 (l0.length : Int) 0) = some r := h
 clear h
 have H' := am H
 clear H
 go_enter Try.func56, Try.ntmps56
 go_wp2
 go_loopg [3, 8] k (fun kq v3 v8 w' => ∃ (x3_1 : Int) (x8_1 : Int), v3 = .int .i64 x3_1 ∧ v8 = .int .i64 x8_1 ∧ Aside0 (spec_bgSum.l0 kq x3_1 l0 (l0.length : Int) x8_1 = some r) ∧ Aside0 (kq ≤ k) ∧ Aside0 (Below w.heap.size w w'))
 case atStart => exact ⟨(0), (0), (by first | rfl | (simp; done) | (simp [*]; done)), (by first | rfl | (simp; done) | (simp [*]; done)), H', ⟨Nat.le_refl _⟩, ⟨by exact uW⟩⟩
 case round =>
  clear H'
  obtain ⟨x3_1, x8_1, rfl, rfl, HA, HK1, HB⟩ := hrel
  cases gk with
  | zero => exact absurd HA.out (by simp [spec_bgSum.l0])
  | succ k1 =>
   have H := HA.out
   clear HA
   simp only [spec_bgSum.l0] at H
   by_cases c2 : x8_1 < (l0.length : Int)
   ·rw [if_pos c2] at H
    have c2b0 : decide (x8_1 < (l0.length : Int)) = true := decide_eq_true c2
    clear c2
    by_cases c3 : 0 ≤ x8_1
    ·rw [if_pos c3] at H
     have c3b0 : decide (0 ≤ x8_1) = true := decide_eq_true c3
     clear c3
     by_cases c4 : x8_1 < (l0.length : Int)
     ·rw [if_pos c4] at H
      have c4b0 : decide (x8_1 < (l0.length : Int)) = true := decide_eq_true c4
      clear c4
      have H' := am H
      clear H
      have p101 : 0 ≤ (x8_1 : Int) := of_decide_eq_true (by first | (with_reducible assumption) | assumption)
      have q101 : x8_1 < (l0.length : Int) := of_decide_eq_true (by first | (with_reducible assumption) | assumption)
      obtain ⟨ad101, e101, hx101_0, hx101_1⟩ := at_T45 HR0.out x8_1 p101 q101
      cases e101
      try replace hx101_0 := (HB.out.cell (World.block_lt_of_cell? w _ hx101_0)).trans hx101_0
      try replace hx101_1 := (HB.out.cell (World.block_lt_of_cell? w _ hx101_1)).trans hx101_1
      replace p101 := eq_true p101
      replace q101 := eq_true q101
      go_wp2_with (first | ((with_reducible refine gate_dst (N := 5) rfl ?_); refine uX (N := 5) (cs := #[.int .i64 0, .int .i64 0]) (t := 45) ?_; intro gb102 hg w5 hbox hb; have BK102 := am (hbox); have GW102 := uE hg; have GE102 := GW102; replace HB := uS hb; clear hb hbox hg; obtain ⟨hcz6_0, hcz6_1, hfz6_0, hfz6_1⟩ := uZ2 BK102))
      go_roundg k1
      case measure => have := HK1.out; omega
      case rel => exact ⟨(wrap64 (x3_1 + ((rd_T45 l0 x8_1).f1))), (wrap64 (x8_1 + 1)), (by first | rfl | (simp; done) | (simp [*]; done)), (by first | rfl | (simp; done) | (simp [*]; done)), H', ⟨by have := HK1.out; omega⟩, ⟨by exact uW⟩⟩
     ·rw [if_neg c4] at H
      exact absurd H (by simp)
    ·rw [if_neg c3] at H
     exact absurd H (by simp)
   ·rw [if_neg c2] at H
    have c2b0 : decide (x8_1 < (l0.length : Int)) = false := decide_eq_false c2
    clear c2
    obtain rfl := Option.some.inj H
    go_wp2
    go_ret
    exact ⟨uA, by exact uW⟩
def spec_TripsBound.f (k : Nat) (l0 : List (S45)) (a1 : Int) : Option (Int × Bool) := (spec_bgAsked.f k l0 a1).bind fun t101 => (if t101 = true then ((spec_bgSum.f k l0).bind fun t102 => (if a1 = 0 then (none) else (some (wrap64 (Int.tdiv (wrap64 ((wrap64 (t102 + a1)) - 1)) a1), true)))) else (some (0, false)))
theorem spec_TripsBound.calls (k : Nat) (A0 : Option Addr) (c0 : Nat) (l0 : List (S45)) (a1 : Int) (r1 : Int) (r2 : Bool) (w : World) (hr0 : Kd.C k45 w A0 l0.length l0) (hc0 : l0.length ≤ c0) (h : spec_TripsBound.f k l0 a1 = some (r1, r2)) :
  Calls Try.prog 21 #[.slice A0 l0.length c0, .int .i64 a1] w fun e w' => e = .returned (.tuple #[.int .i64 r1, .bool r2]) ∧ Below w.heap.size w w' := by
 have HR0 := am hr0
 have HC0 := am hc0
 clear hr0 hc0
 have HB := am (Below.refl w.heap.size w)
 have H : ((spec_bgAsked.f k l0 a1).bind fun t101 => (if t101 = true then ((spec_bgSum.f k l0).bind fun t102 => (if a1 = 0 then (none) else (some (wrap64 (Int.tdiv (wrap64 ((wrap64 (t102 + a1)) - 1)) a1), true)))) else (some (0, false)))) = some (r1, r2) := h
 clear h
 replace H := bH H
 obtain ⟨t101, A30, H⟩ := H
 replace H : (if t101 = true then ((spec_bgSum.f k l0).bind fun t102 => (if a1 = 0 then (none) else (some (wrap64 (Int.tdiv (wrap64 ((wrap64 (t102 + a1)) - 1)) a1), true)))) else (some (0, false))) = some (r1, r2) := H
 have A3 := am A30
 clear A30
 by_cases c4 : t101 = true
 ·subst c4
  have H1 : ((spec_bgSum.f k l0).bind fun t102 => (if a1 = 0 then (none) else (some (wrap64 (Int.tdiv (wrap64 ((wrap64 (t102 + a1)) - 1)) a1), true)))) = some (r1, r2) := by rw [if_pos rfl] at H; exact H
  clear H
  have H := H1
  clear H1
  replace H := bH H
  obtain ⟨t102, A50, H⟩ := H
  replace H : (if a1 = 0 then (none) else (some (wrap64 (Int.tdiv (wrap64 ((wrap64 (t102 + a1)) - 1)) a1), true))) = some (r1, r2) := H
  have A5 := am A50
  clear A50
  by_cases c6 : a1 = 0
  ·rw [if_pos c6] at H
   exact absurd H (by simp)
  ·rw [if_neg c6] at H
   have c6b0 : (a1 == 0) = false := beq_eq_false_iff_ne.mpr c6
   have c6b1 : (a1 != 0) = true := bne_iff_ne.mpr c6
   simp only [Option.some.injEq, Prod.mk.injEq] at H
   obtain ⟨rfl, rfl⟩ := H
   go_enter Try.func21, Try.ntmps21
   go_wp2_with (first | ((with_reducible refine gate_callee (f := 44) rfl ?_); refine uGo (some 8) Try.func44 #[.slice A0 l0.length c0, .int .i64 a1] ?_; (with_reducible refine (spec_bgAsked.calls k _ _ l0 a1 true _ ?side1 ?side2 A3.out).mono ?_); (case side1 => repeat (first | exact HR0.out | (with_reducible refine cA ?_ _) | (with_reducible refine cN ?_ _) | (with_reducible refine cD ?_))); (case side2 => exact HC0.out); rintro e w7 ⟨rfl, hb⟩; refine ⟨_, rfl, ?_⟩; replace HB := uS hb; (try clear hb); (try clear hb2); (try clear hk); (try clear hi)) | ((with_reducible refine gate_callee (f := 56) rfl ?_); refine uGo (some 11) Try.func56 #[.slice A0 l0.length c0] ?_; (with_reducible refine (spec_bgSum.calls k _ _ l0 t102 _ ?side1 ?side2 A5.out).mono ?_); (case side1 => repeat (first | exact (Kd.C_below HR0.out HB.out) | (with_reducible refine cA ?_ _) | (with_reducible refine cN ?_ _) | (with_reducible refine cD ?_))); (case side2 => exact HC0.out); rintro e w8 ⟨rfl, hb⟩; refine ⟨_, rfl, ?_⟩; replace HB := uS hb; (try clear hb); (try clear hb2); (try clear hk); (try clear hi)))
   go_ret2
   exact ⟨uA, by exact uW⟩
 ·replace c4 := Bool.eq_false_iff.mpr c4
  subst c4
  have H1 : (some (0, false)) = some (r1, r2) := by rw [if_neg (show ¬ (false = true) by decide)] at H; exact H
  clear H
  have H := H1
  clear H1
  simp only [Option.some.injEq, Prod.mk.injEq] at H
  obtain ⟨rfl, rfl⟩ := H
  go_enter Try.func21, Try.ntmps21
  go_wp2_with (first | ((with_reducible refine gate_callee (f := 44) rfl ?_); refine uGo (some 8) Try.func44 #[.slice A0 l0.length c0, .int .i64 a1] ?_; (with_reducible refine (spec_bgAsked.calls k _ _ l0 a1 false _ ?side1 ?side2 A3.out).mono ?_); (case side1 => repeat (first | exact HR0.out | (with_reducible refine cA ?_ _) | (with_reducible refine cN ?_ _) | (with_reducible refine cD ?_))); (case side2 => exact HC0.out); rintro e w9 ⟨rfl, hb⟩; refine ⟨_, rfl, ?_⟩; replace HB := uS hb; (try clear hb); (try clear hb2); (try clear hk); (try clear hi)))
  go_ret2
  exact ⟨uA, by exact uW⟩
def impl_LightestBag.f (k : Nat) (l0 : List (S45)) (a1 : Int) : Option (Int × Bool) := (impl_AreParcels.f l0).bind fun t => if t = true then (impl_within.f a1 1 8).bind fun u => if u = true then (impl_weightOf.f k l0).bind fun b => (if l0.length ≤ 8 then (bpGo (lbNum k l0 a1) l0 b l0.length [] [] ⟨0, 0, []⟩).bind fun s => some (s.least, true) else none) else some (0, false) else some (0, false)
theorem impl_LightestBag.calls (k : Nat) (A0 : Option Addr) (c0 : Nat) (l0 : List (S45)) (a1 : Int) (r1 : Int) (r2 : Bool) (w : World) (hr0 : Kd.C k45 w A0 l0.length l0) (hc0 : l0.length ≤ c0) (h : impl_LightestBag.f k l0 a1 = some (r1, r2)) :
  Calls Try.prog 29 #[.slice A0 l0.length c0, .int .i64 a1] w fun e w' => e = .returned (.tuple #[.int .i64 r1, .bool r2]) ∧ Below w.heap.size w w' := by
 unfold impl_LightestBag.f at h
 obtain ⟨t, ht, hh⟩ := Option.bind_eq_some_iff.1 h
 clear h
 have HR := am hr0
 have HC := am hc0
 have eg := enters_of Try.func63 (by kernel_rfl) rfl
 clear hr0 hc0
 have hb0 : Below w.heap.size w (w.alloc (.cells #[.int .i64 a1] 3 (0, 0))) := (Below.refl _ _).alloc (Nat.le_refl _) _
 have key := fun W hW => impl_AreParcels.calls A0 c0 l0 t W hW HC.out ht
 clear ht
 cases t with
 | false =>
  rw [if_neg (by decide)] at hh
  obtain ⟨rfl, rfl⟩ : r1 = 0 ∧ r2 = false := by simpa [eq_comm] using hh
  clear hh
  go_enter Try.func29, Try.ntmps29
  go_wp2_with fail
  refine (key _ (Kd.C_below HR.out hb0)).mono ?_
  rintro e w1 ⟨rfl, hb1⟩
  go_wp2
  go_ret2
  exact ⟨rfl, Fun.below_box hb1⟩
 | true =>
  rw [if_pos rfl] at hh
  obtain ⟨u, hu, hh⟩ := Option.bind_eq_some_iff.1 hh
  have key2 := fun W => impl_within.calls a1 1 8 u W hu
  clear hu
  cases u with
  | false =>
   rw [if_neg (by decide)] at hh
   obtain ⟨rfl, rfl⟩ : r1 = 0 ∧ r2 = false := by simpa [eq_comm] using hh
   clear hh
   go_enter Try.func29, Try.ntmps29
   go_wp2_with fail
   refine (key _ (Kd.C_below HR.out hb0)).mono ?_
   rintro e w1 ⟨rfl, hb1⟩
   obtain ⟨hc, hf⟩ := Fun.bcell hb1
   have hb2 := Fun.below_box hb1
   have c0 := (hc w.heap.size 0 (by simp)).trans (show _ = some (.int .i64 a1) by simp)
   clear hc hf hb1
   go_wp2_with fail
   refine (key2 _).mono ?_
   rintro e w2 ⟨rfl, hd3⟩
   have hb3 := hd3.below
   clear hd3
   go_wp2
   go_ret2
   exact ⟨rfl, hb2.trans (hb3.mono hb2.size)⟩
  | true =>
   rw [if_pos rfl] at hh
   obtain ⟨b, hbw, hh⟩ := Option.bind_eq_some_iff.1 hh
   by_cases hl : l0.length ≤ 8
   ·rw [if_pos hl] at hh
    obtain ⟨s, hs, hh⟩ := Option.bind_eq_some_iff.1 hh
    obtain ⟨rfl, rfl⟩ : r1 = s.least ∧ r2 = true := by simpa [eq_comm] using hh
    clear hh
    have HS := am hs
    have key3 := am fun W hW => impl_weightOf.calls k A0 c0 l0 b W hW HC.out hbw
    clear hs hbw
    go_enter Try.func29, Try.ntmps29
    go_wp2_with fail
    refine (key _ (Kd.C_below HR.out hb0)).mono ?_
    rintro e w1 ⟨rfl, hb1⟩
    obtain ⟨hc, hf⟩ := Fun.bcell hb1
    have hb2 := Fun.below_box hb1
    have c0 := (hc w.heap.size 0 (by simp)).trans (show _ = some (.int .i64 a1) by simp)
    have hs1 : w.heap.size < w1.heap.size := Nat.lt_of_lt_of_le (by simp) hb1.size
    clear hc hf hb1 key
    go_wp2_with fail
    refine (key2 _).mono ?_
    rintro e w2 ⟨rfl, hd3⟩
    have hb3 := hd3.below
    clear hd3
    have c1 := (hb3.cell (p := ⟨w.heap.size, 0, none⟩) hs1).trans c0
    have hs2 : w.heap.size < w2.heap.size := Nat.lt_of_lt_of_le hs1 hb3.size
    have hb4 := hb2.trans (hb3.mono hb2.size)
    clear hb2 hb3 c0 hs1 key2 hb0
    go_wp2_with fail
    refine (key3.out _ (Kd.C_below HR.out hb4)).mono ?_
    rintro e w3 ⟨rfl, hb5⟩
    have hb5 : Below w2.heap.size w2 w3 := by first | exact hb5 | exact hb5.below
    have C2 := am ((hb5.cell (p := ⟨w.heap.size, 0, none⟩) hs2).trans c1)
    have hs3 : w.heap.size < w3.heap.size := Nat.lt_of_lt_of_le hs2 hb5.size
    have HB := am (below_step hb4 hb5)
    clear hb4 hb5 c1 hs2 key3
    go_wp2_with fail
    refine (bp_call (lbNum k l0 a1) 63 #[.pointer (some ⟨w.heap.size, 0, none⟩)] eg A0 c0 l0 b w3 (Kd.C_below HR.out HB.out) HC.out hl (fun W p A c x hW hC hc _ hx => lb_calls k w.heap.size a1 A0 c0 l0 A c p x W (Kd.C_below HR.out (HB.out.trans (hW.mono HB.out.size))) HC.out hC hc ((hW.cell (p := ⟨w.heap.size, 0, none⟩) hs3).trans C2.out) hx) s HS.out).mono ?_
    rintro e w4 ⟨v, rfl, ho, hb6⟩
    obtain ⟨Ab, cb, rfl⟩ := Kd.R_slice ho
    have HB2 := am hb6
    clear ho hb6
    go_wp2
    go_ret2
    exact ⟨rfl, HB.out.trans (HB2.out.mono HB.out.size)⟩
   ·rw [if_neg hl] at hh
    cases hh
end Go.Proofs.Ytmninaoedoonbaa.G
end

/- Texts of this seat's proofs: contracts of its functions and plain laws about them, with no condition beyond those that each theorem states. -/
import Derived.Deep.RegionHeld3
import Derived.Shelf.Abstract
import Derived.Test.YtagbpiofphgjlaaQ742fc60f
import Derived.Test.YtagbpiofphgjlaaQdc6e411d
namespace Go.Proofs.Ytagbpiofphgjlaa.G
open Go.RowKit Go.Proofs.YtagbpiofphgjlaaW.PrintWords Go.Proofs.YtagbpiofphgjlaaW.PrintLast Go.Proofs.YtagbpiofphgjlaaW.PrintMore
attribute [local go_sem] max2_int min2_int max_two min_two max_three min_three max_four min_four
set_option linter.unusedVariables false
set_option linter.unusedSimpArgs false
def insJ (cf : Int → Int → Int) : Nat → List Int → List Int
  | 0, xs => xs
  | j + 1, xs => if cf (rd xs ((j + 1 : Nat) : Int)) (rd xs (j : Int)) < 0 then insJ cf j ((xs.set (j + 1) (rd xs (j : Int))).set j (rd xs ((j + 1 : Nat) : Int))) else xs
def insI (cf : Int → Int → Int) : Nat → Nat → List Int → List Int
  | 0, _, xs => xs
  | m + 1, i, xs => insI cf m (i + 1) (insJ cf i xs)
theorem rd_set {P : Int → Prop} {xs : List Int} (h : ∀ j : Nat, j < xs.length → P (rd xs (j : Int))) (i : Nat) {y : Int} (hy : P y) : ∀ j : Nat, j < (xs.set i y).length → P (rd (xs.set i y) (j : Int)) := fun j hj => by
  rw [List.length_set] at hj
  have := h j hj
  simp only [rd, Int.toNat_natCast, List.getD] at this ⊢
  by_cases e : i = j
  · subst e
    simpa [hj] using hy
  · rw [List.getElem?_set_ne e]
    exact this
theorem ins_grow {w wr w2 : World} {g : Nat} (hG : w.grownBy wr (some g)) (hb : Below wr.drew.heap.size wr.drew w2) : w.grownBy w2 (some g) :=
  ⟨hb.os.trans hG.os, hb.tape.trans hG.tape, hb.output.trans hG.output, Nat.le_trans hG.size hb.size, fun k hk hne => (hb.block k (Nat.lt_of_lt_of_le hk hG.size)).trans (hG.block k hk hne)⟩
theorem ins_set {w w2 : World} {g : Nat} (hG : w.grownBy w2 (some g)) (j : Nat) (v : Value) : w.grownBy (w2.setCell ⟨g, j, none⟩ v) (some g) :=
  ⟨hG.os, hG.tape, hG.output, by simpa [World.setCell] using hG.size, fun k hk hne => (Below.heap_setCell _ ⟨g, j, none⟩ _ _ (fun e => hne (by rw [e]))).trans (hG.block k hk hne)⟩
theorem ins_drew {w w2 : World} {g : Nat} (hG : w.grownBy w2 (some g)) : w.grownBy w2.drew (some g) := ⟨hG.os, hG.tape, hG.output, hG.size, hG.block⟩
theorem ins_keep {W W' : World} {a b : Addr} {u v : Value} (h : W.cell? a = some u ∧ W.cell? b = some v) (hb : Below W.drew.heap.size W.drew W') : W'.cell? a = some u ∧ W'.cell? b = some v :=
  ⟨(hb.cell (World.block_lt_of_cell? W _ h.1)).trans h.1, (hb.cell (World.block_lt_of_cell? W _ h.2)).trans h.2⟩
set_option maxHeartbeats 4000000 in
set_option maxRecDepth 100000 in
theorem ins_sort (cf : Int → Int → Int) (P : Int → Prop) (gc : Nat) (lb : Array Value) (egc : ∀ args w, (callFunc gc args).run Try.prog w = .ok (.enter gc args) w) (g c base : Nat) (xs0 : List Int) (w : World)
    (hr : Kd.R (Kd.int .i64) 3 w base (fun _ => True) (.slice (some ⟨g, 0, none⟩) xs0.length c) xs0) (h1 : 1 ≤ xs0.length) (h8 : xs0.length ≤ 1000) (hP : ∀ m : Nat, m < xs0.length → P (rd xs0 (m : Int)))
    (hc : ∀ (W : World) (x y : Int), w.grownBy W (some g) → P x → P y → Calls Try.prog gc (#[.int .i64 x, .int .i64 y] ++ lb) W fun e w' => e = .returned (.int .i64 (cf x y)) ∧ Below W.heap.size W w') :
    Calls Try.prog 139 #[.slice (some ⟨g, 0, none⟩) xs0.length c, .int .i64 0, .int .i64 (xs0.length : Int), .func (.func gc) #[] lb] w
      fun e w' => e = .returned (.tuple #[]) ∧ Kd.R (Kd.int .i64) 3 w' base (fun _ => True) (.slice (some ⟨g, 0, none⟩) xs0.length c) (insI cf (xs0.length - 1) 1 xs0) ∧ w.grownBy w' (some g) := by
  have HR := Aside0.mk hr
  have HP := Aside0.mk hP
  have HC := Aside0.mk hc
  generalize hn : xs0.length = n at *
  clear hr hP hc
  go_enter Try.func139, Try.ntmps139
  go_wp2_with fail
  go_loopg [8] (n - 1) (fun gg s8 wr => ∃ (i : Nat) (xs : List Int), s8 = .int .i64 (i : Int) ∧ 1 ≤ i ∧ i + gg = n ∧ xs.length = n ∧ Aside0 (insI cf gg i xs = insI cf (n - 1) 1 xs0) ∧ Aside0 (Kd.R (Kd.int .i64) 3 wr base (fun _ => True) (.slice (some ⟨g, 0, none⟩) n c) xs) ∧ Aside0 (w.grownBy wr (some g)) ∧ Aside0 (∀ m : Nat, m < xs.length → P (rd xs (m : Int))))
  case atStart => exact ⟨1, xs0, rfl, Nat.le_refl _, by omega, hn, ⟨rfl⟩, HR, ⟨⟨rfl, rfl, rfl, Nat.le_refl _, fun _ _ _ => rfl⟩⟩, by rw [hn]; exact HP⟩
  case round =>
    obtain ⟨i, xs, rfl, hi1, hg, hxl, HI, HO, HG, HA⟩ := hrel
    by_cases hlt : i < n
    · obtain ⟨m, rfl⟩ : ∃ m, gk = m + 1 := ⟨gk - 1, by omega⟩
      have c1 : decide ((i : Int) < (n : Int)) = true := decide_eq_true (by omega)
      go_wp2_with fail
      go_loopg [9] i (fun gg s9 wr2 => ∃ (ys : List Int), s9 = .int .i64 (gg : Int) ∧ gg ≤ i ∧ ys.length = n ∧ Aside0 (insJ cf gg ys = insJ cf i xs) ∧ Aside0 (Kd.R (Kd.int .i64) 3 wr2 base (fun _ => True) (.slice (some ⟨g, 0, none⟩) n c) ys) ∧ Aside0 (w.grownBy wr2 (some g)) ∧ Aside0 (∀ m : Nat, m < ys.length → P (rd ys (m : Int))))
      case atStart => exact ⟨xs, rfl, Nat.le_refl _, hxl, ⟨rfl⟩, HO, HG, HA⟩
      case round =>
        obtain ⟨ys, rfl, hgi, hyl, HJ, HO2, HG2, HA2⟩ := hrel
        rcases Nat.eq_zero_or_pos gk with rfl | hpos
        · have c2 : decide ((((0 : Nat) : Int)) > 0) = false := rfl
          go_wp2_with fail
          go_region
          go_wp2
          go_roundg m
          case measure => omega
          case rel => exact ⟨i + 1, ys, rfl, by omega, by omega, hyl, ⟨by have h1 := HI.out; have h2 := HJ.out; simp only [insI] at h1; rw [← h2] at h1; exact h1⟩, ⟨Kd.R_drew HO2.out⟩, ⟨⟨HG2.out.os, HG2.out.tape, HG2.out.output, HG2.out.size, HG2.out.block⟩⟩, HA2⟩
        · obtain ⟨j, rfl⟩ : ∃ j, gk = j + 1 := ⟨gk - 1, by omega⟩
          have KC := Aside0.mk (HC.out wr.drew _ _ ⟨HG2.out.os, HG2.out.tape, HG2.out.output, HG2.out.size, HG2.out.block⟩ (HA2.out (j + 1) (by omega)) (HA2.out j (by omega)))
          have hj1 : ((j + 1 : Nat) : Int) = (j : Int) + 1 := rfl
          generalize hz : ((j + 1 : Nat) : Int) = z at *
          have hx1 := Kd.R_celln 0 HO2.out z (by omega) (by omega)
          have e1 : wrap64 (z - 1) = (j : Int) := by unfold wrap64; omega
          have hx0 := Kd.R_celln 0 HO2.out (j : Int) (by omega) (by omega)
          rw [Int.toNat_natCast] at hx0
          obtain ⟨hx1, hf1⟩ := hx1
          obtain ⟨hx0, hf0⟩ := hx0
          have e1w : IntKind.i64.wrap (z - 1) = (j : Int) := (IntKind.wrap_i64 _).trans (by unfold wrap64 at e1; exact e1)
          have c2 : decide (z > 0) = true := decide_eq_true (by omega)
          have q1 : (z < (n : Int)) = True := eq_true (by omega)
          have q2 : ((0 : Int) ≤ z) = True := eq_true (by omega)
          have q3 : ((j : Int) < (n : Int)) = True := eq_true (by omega)
          have q4 : (j < n) = True := eq_true (by omega)
          have HZ := Aside0.mk hz
          clear hj1 hz
          have s0 : wr.cell? ⟨g, z.toNat, none⟩ = some (.int .i64 (rdOf 0 ys z)) ∧ wr.cell? ⟨g, j, none⟩ = some (.int .i64 (rdOf 0 ys (j : Int))) := ⟨hx1, hx0⟩
          go_wp2_with fail
          go_region_held3 (fun W' => W'.cell? ⟨g, z.toNat, none⟩ = some (.int .i64 (rdOf 0 ys z)) ∧ W'.cell? ⟨g, j, none⟩ = some (.int .i64 (rdOf 0 ys (j : Int)))) (first | assumption | exact s0 | exact ⟨s0.1, s0.2⟩ | exact ins_keep s0 (by assumption)) (first | (go_at_fn gc; refine (KC.out.mono ?_); rintro e w2 ⟨rfl, hb⟩))
          have hGw := ins_grow HG2.out hb
          have hO2 := Kd.R_below (Kd.R_drew HO2.out) hb
          have HG3 := Aside0.mk hGw
          have HO3 := Aside0.mk hO2
          have hy1 := Kd.R_celln 0 hO2 z (by have := HZ.out; omega) (by have := HZ.out; omega)
          have hy0 := Kd.R_celln 0 hO2 (j : Int) (by omega) (by have := HZ.out; omega)
          rw [Int.toNat_natCast] at hy0
          obtain ⟨hy1, hz1⟩ := hy1
          obtain ⟨hy0, hz0⟩ := hy0
          have n1 : (z.toNat = j) = False := eq_false (by have := HZ.out; omega)
          have n2 : (j = z.toNat) = False := eq_false (by have := HZ.out; omega)
          clear hb hGw hO2 KC s0 hx1 hx0 hf1 hf0
          by_cases hcf : cf (rd ys z) (rd ys (j : Int)) < 0
          · have c3 : decide (cf (rd ys z) (rd ys (j : Int)) < 0) = true := decide_eq_true hcf
            have HCF := Aside0.mk hcf
            clear hcf
            go_wp2_with fail
            rotate_left
            (exfalso; have := HCF.out; omega)
            go_region
            go_wp2
            have hz := HZ.out
            have hzn : z.toNat = j + 1 := by omega
            have r1 : insJ cf j ((ys.set z.toNat (rd ys (j : Int))).set j (rd ys z)) = insJ cf i xs := by
              have h2 := HJ.out
              have h4 := HCF.out
              simp only [insJ] at h2
              rw [hz, if_pos h4, ← hzn] at h2
              exact h2
            have r2 : ∀ m : Nat, m < ((ys.set z.toNat (rd ys (j : Int))).set j (rd ys z)).length → P (rd ((ys.set z.toNat (rd ys (j : Int))).set j (rd ys z)) (m : Int)) := by
              have h5 := HA2.out (j + 1) (by omega)
              rw [hz] at h5
              exact rd_set (rd_set HA2.out _ (HA2.out j (by omega))) _ h5
            have r3 := Kd.R_putn (Kd.R_putn HO3.out z (rd ys (j : Int))) (j : Int) (rd ys z)
            rw [Int.toNat_natCast] at r3
            have r4 := ins_drew (ins_set (ins_set HG3.out z.toNat (.int .i64 (rd ys (j : Int)))) j (.int .i64 (rd ys z)))
            go_roundg j
            case measure => omega
            case rel => exact ⟨(ys.set z.toNat (rd ys (j : Int))).set j (rd ys z), rfl, by omega, by rw [List.length_set, List.length_set]; exact hyl, ⟨r1⟩, ⟨Kd.R_drew r3⟩, ⟨r4⟩, ⟨r2⟩⟩
          · have c3 : decide (cf (rd ys z) (rd ys (j : Int)) < 0) = false := decide_eq_false hcf
            have HCF := Aside0.mk hcf
            clear hcf
            go_wp2_with fail
            (exfalso; have := HCF.out; omega)
            go_roundg m
            case measure => omega
            case rel => exact ⟨i + 1, ys, rfl, by omega, by omega, hyl, ⟨by
              have h1 := HI.out
              have h2 := HJ.out
              have h3 := HZ.out
              have h4 := HCF.out
              rw [← h3] at h4
              simp only [insI] at h1
              simp only [insJ] at h2
              rw [if_neg (Int.not_lt.2 h4)] at h2
              rw [← h2] at h1
              exact h1⟩, HO3, HG3, HA2⟩
    · obtain rfl : gk = 0 := by omega
      have c1 : decide ((i : Int) < (n : Int)) = false := decide_eq_false (by omega)
      have hI : xs = insI cf (n - 1) 1 xs0 := HI.out
      subst hI
      go_wp2
      first | go_end0 | ((try simp only [Exit.inBlock, Exit.then]); refine bodyPost_ret (results_none rfl _ _ _) rfl ?_)
      exact ⟨rfl, HO.out, HG.out⟩
end Go.Proofs.Ytagbpiofphgjlaa.G

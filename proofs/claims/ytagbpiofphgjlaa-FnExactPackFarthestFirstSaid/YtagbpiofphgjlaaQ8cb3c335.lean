/- Texts of this seat's proofs: contracts of its functions and plain laws about them, with no condition beyond those that each theorem states. -/
import Derived.Test.YtagbpiofphgjlaaQ742fc60f
import Derived.Test.YtagbpiofphgjlaaQ28586bec
import Derived.Test.YtagbpiofphgjlaaQ9de27c14
import Derived.Test.YtagbpiofphgjlaaQdfd6a7b1
import Derived.Test.YtagbpiofphgjlaaQea798f35
import Derived.Test.YtagbpiofphgjlaaQeefa67f6
import Derived.Test.YtagbpiofphgjlaaQ89e1dc6d
namespace Go.Proofs.Ytagbpiofphgjlaa.G
open Go.RowKit Go.Proofs.YtagbpiofphgjlaaW.PrintWords Go.Proofs.YtagbpiofphgjlaaW.PrintLast Go.Proofs.YtagbpiofphgjlaaW.PrintMore
attribute [local go_sem] max2_int min2_int max_two min_two max_three min_three max_four min_four
set_option linter.unusedVariables false
set_option linter.unusedSimpArgs false
def upTo (n : Nat) : List Int := (List.range n).map fun j : Nat => (j : Int)
theorem upTo_len (n : Nat) : (upTo n).length = n := by simp [upTo]
theorem upTo_get {n m : Nat} (h : m < n) : rd (upTo n) (m : Int) = (m : Int) := by simp [upTo, rd, List.getD, h]
theorem upTo_set (i d : Nat) : (upTo i ++ List.replicate (d + 1) 0).set i (i : Int) = upTo (i + 1) ++ List.replicate d 0 := by
  have h := upTo_len i
  rw [List.set_append_right _ _ (by omega), h, Nat.sub_self]
  simp [upTo, List.range_succ, List.replicate_succ]
def impl_PackFarthestFirst.f (k : Nat) (l0 : List (S61)) (a1 : Int) : Option (List Int × Bool) := (impl_fitBag.f l0 a1).bind fun t => if t = true then (if 1 ≤ l0.length ∧ l0.length ≤ 19 then (impl_packed.f l0 a1 (insI (cfH l0) (l0.length - 1) 1 (upTo l0.length))).bind fun p => (impl_named.f k p).bind fun q => some (q, true) else none) else some ([], false)
set_option maxHeartbeats 4000000 in
set_option maxRecDepth 100000 in
theorem impl_PackFarthestFirst.calls (k : Nat) (A0 : Option Addr) (c0 : Nat) (l0 : List (S61)) (a1 : Int) (r1 : List Int) (r2 : Bool) (w : World) (hr0 : Kd.C k61 w A0 l0.length l0) (hc0 : l0.length ≤ c0) (h : impl_PackFarthestFirst.f k l0 a1 = some (r1, r2)) :
    Calls Try.prog 68 #[.slice A0 l0.length c0, .int .i64 a1] w fun e w' => ∃ v0_ : Value, e = .returned (.tuple #[v0_, .bool r2]) ∧ Kd.R (Kd.int .i64) 3 w' w.heap.size (fun _ => True) v0_ r1 ∧ Below w.heap.size w w' := by
  unfold impl_PackFarthestFirst.f at h
  obtain ⟨t, ht, hh⟩ := Option.bind_eq_some_iff.1 h
  clear h
  have hb0 : Below w.heap.size w (w.alloc (.cells #[.slice A0 l0.length c0] 25 (0, 0))) := (Below.refl _ _).alloc (Nat.le_refl _) _
  have HB0 := Aside0.mk hb0
  have HX0 := Aside0.mk (blk_new w (.cells #[.slice A0 l0.length c0] 25 (0, 0)))
  have HR := Aside0.mk hr0
  have HC := Aside0.mk hc0
  have eg := Aside0.mk (enters_of Try.func116 (by kernel_rfl) rfl)
  clear hr0 hc0
  have key := Aside0.mk fun W hW => impl_fitBag.calls A0 c0 l0 a1 t W hW HC.out ht
  clear ht
  cases t with
  | false =>
    rw [if_neg (by decide)] at hh
    obtain ⟨rfl, rfl⟩ : r1 = [] ∧ r2 = false := by simpa [eq_comm] using hh
    clear hh hb0
    go_enter Try.func68, Try.ntmps68
    go_wp2_with fail
    refine (key.out _ (Kd.C_below HR.out HB0.out)).mono ?_
    rintro e w1 ⟨rfl, hb1⟩
    have HB1 := Aside0.mk (below_step HB0.out hb1)
    clear hb1 key
    go_wp2
    go_ret2
    exact ⟨_, rfl, Kd.R_nil _ _ _ _ _, HB1.out⟩
  | true =>
    rw [if_pos rfl] at hh
    by_cases hl : 1 ≤ l0.length ∧ l0.length ≤ 19
    · rw [if_pos hl] at hh
      obtain ⟨hl1, hl2⟩ := hl
      obtain ⟨p, hp, hh⟩ := Option.bind_eq_some_iff.1 hh
      obtain ⟨q, hq, hh⟩ := Option.bind_eq_some_iff.1 hh
      obtain ⟨rfl, rfl⟩ : r1 = q ∧ r2 = true := by simpa [eq_comm] using hh
      obtain ⟨ad, rfl, _, _⟩ := at_T61 HR.out 0 (by omega) (by omega)
      have KP := Aside0.mk fun A c W h0 h1 h2 => impl_packed.calls (some ad) c0 l0 a1 A c _ p W h0 HC.out h1 h2 hp
      have KN := Aside0.mk fun A c W h1 h2 => impl_named.calls k A c p _ W h1 h2 hq
      clear hh hb0 hp hq
      go_enter Try.func68, Try.ntmps68
      go_wp2_with fail
      refine (key.out _ (Kd.C_below HR.out HB0.out)).mono ?_
      rintro e w1 ⟨rfl, hb1⟩
      have HB1 := Aside0.mk (below_step HB0.out hb1)
      have HX1 := Aside0.mk (blk_below HX0.out hb1)
      have hcl : w1.cell? ⟨w.heap.size, 0, none⟩ = some (.slice (some ad) l0.length c0) := blk_cell HX1.out 0
      clear hb1 key
      go_wp2_with (first | ((with_reducible refine gate_dst (N := 14) rfl ?_); refine Kd.R_make (Kd.int .i64) _ 3 rfl (N := 14) rfl 29 _ _ rfl (l0.length : Int) rfl rfl Try.underlying29 (.int .i64 0) 8 info3 rfl (by decide) (by omega) 0 (ok := fun _ => True) (okp := fun _ => True) rfl (fun _ hk => hk) trivial (by omega) (by omega) (Below.refl _ _) (Nat.le_refl _) ?_; intro v2 w2 ho hb hg hnew; rw [Int.toNat_natCast] at ho; obtain ⟨gp, cp, rfl, hbg, hgl, cells, hcells⟩ := Kd.R_form ho (by simp; omega); rw [List.length_replicate] at ho ⊢; have HP := Aside0.mk ho; have HB2 := Aside0.mk (below_step HB1.out hb); have HX2 := Aside0.mk (blk_below HX1.out hb); have hgp : w.heap.size + 1 ≤ gp := (Nat.le_trans (blk_lt HX1.out) hbg); clear ho hb hg hnew hbg hcells hcl))
      have HP0 : Aside0 (Kd.R (Kd.int .i64) 3 w2 (w.heap.size + 1) (fun _ => True) (.slice (some ⟨gp, 0, none⟩) l0.length cp) (upTo 0 ++ List.replicate l0.length 0)) := ⟨by
        have := Kd.R_lower (base' := w.heap.size + 1) HP.out (blk_lt HX1.out)
        simpa [upTo] using this⟩
      go_loopg [17] l0.length (fun gg s17 wr => ∃ i : Nat, s17 = .int .i64 (i : Int) ∧ i + gg = l0.length ∧ Aside0 (Below w.heap.size w wr) ∧ Aside0 (wr.heap[w.heap.size]? = some (.cells #[.slice (some ad) l0.length c0] 25 (0, 0))) ∧ Aside0 (Kd.R (Kd.int .i64) 3 wr (w.heap.size + 1) (fun _ => True) (.slice (some ⟨gp, 0, none⟩) l0.length cp) (upTo i ++ List.replicate gg 0)))
      case atStart => exact ⟨0, rfl, by omega, HB2, HX2, HP0⟩
      case round =>
        obtain ⟨i, rfl, hg, HB3, HX3, HO⟩ := hrel
        by_cases hlt : i < l0.length
        · obtain ⟨m, rfl⟩ : ∃ m, gk = m + 1 := ⟨gk - 1, by omega⟩
          have c1 : decide ((i : Int) < (l0.length : Int)) = true := decide_eq_true (by omega)
          have hcl := Kd.R_celln 0 HO.out (i : Int) (by omega) (by omega)
          rw [Int.toNat_natCast] at hcl
          obtain ⟨hcl, hfz⟩ := hcl
          have q1 : ((i : Int) < (l0.length : Int)) = True := eq_true (by omega)
          have r3 := Kd.R_putn HO.out (i : Int) (i : Int)
          rw [Int.toNat_natCast, upTo_set] at r3
          have R3 := Aside0.mk r3
          clear r3
          go_wp2
          go_roundg m
          case measure => omega
          case rel => exact ⟨i + 1, rfl, by omega, ⟨HB3.out.setCell (p := ⟨gp, i, none⟩) (by show w.heap.size ≤ gp; omega) _⟩, ⟨(Below.heap_setCell _ ⟨gp, i, none⟩ _ _ (by show w.heap.size ≠ gp; omega)).trans HX3.out⟩, R3⟩
        · obtain rfl : gk = 0 := by omega
          obtain rfl : i = l0.length := by omega
          have c1 : decide ((l0.length : Int) < (l0.length : Int)) = false := decide_eq_false (by omega)
          have hO := HO.out
          rw [List.replicate_zero, List.append_nil] at hO
          have hs := sort_stable (cfH l0) (fun x => ∃ a : Nat, x = (a : Int) ∧ a < l0.length) 116 #[.pointer (some ⟨w.heap.size, 0, none⟩)] eg.out gp cp (w.heap.size + 1) (upTo l0.length) wr (by rw [upTo_len]; exact hO) (by rw [upTo_len]; exact hl1) (by rw [upTo_len]; exact hl2) (fun m hm => by
            rw [upTo_len] at hm
            exact ⟨m, upTo_get hm, hm⟩) (fun W x y hgb hx hy => by
            obtain ⟨a, rfl, ha⟩ := hx
            obtain ⟨b, rfl, hb⟩ := hy
            exact pf_cmp w.heap.size (some ad) c0 l0 a b W (Kd.C_below HR.out (HB3.out.grown hgb HB3.out.size (fun k hk => by injection hk with hk; omega))) ha hb ((blk_cell (blk_grown HX3.out hgb (fun e => by injection e with e; omega)) 0).trans rfl))
          rw [upTo_len] at hs
          have HS := Aside0.mk hs
          clear hs hO
          go_wp2_with fail
          refine HS.out.mono ?_
          rintro e w4 ⟨rfl, ho4, hg4⟩
          have HB4 := Aside0.mk (HB3.out.grown hg4 HB3.out.size (fun k hk => by injection hk with hk; omega))
          have HX4 := Aside0.mk (blk_grown HX3.out hg4 (fun e => by injection e with e; omega))
          have hlen : (insI (cfH l0) (l0.length - 1) 1 (upTo l0.length)).length = l0.length := (Kd.R_reads' ho4).1.symm
          have hp := KP.out (some ⟨gp, 0, none⟩) cp w4 (Kd.C_below HR.out HB4.out) (Kd.R_reads' ho4).2.2 (by rw [hlen]; exact (Kd.R_reads' ho4).2.1)
          rw [hlen] at hp
          have HPK := Aside0.mk hp
          have hcl : w4.cell? ⟨w.heap.size, 0, none⟩ = some (.slice (some ad) l0.length c0) := blk_cell HX4.out 0
          clear hp ho4 hg4 HS KP
          go_wp2_with fail
          refine HPK.out.mono ?_
          rintro e w5 ⟨v5, rfl, ho5, hb5⟩
          obtain ⟨A5, c5, rfl, hc5, hC5⟩ := Kd.R_reads ho5
          have HKN := Aside0.mk (KN.out A5 c5 w5 hC5 hc5)
          have HB5 := Aside0.mk (below_step HB4.out hb5)
          clear ho5 hb5 hC5 HPK KN hcl
          go_wp2_with fail
          refine HKN.out.mono ?_
          rintro e w6 ⟨v6, rfl, ho6, hb6⟩
          obtain ⟨A6, c6, rfl⟩ := Kd.R_slice ho6
          have HO6 := Aside0.mk (Kd.R_lower ho6 HB5.out.size)
          have HB6 := Aside0.mk (below_step HB5.out hb6)
          clear ho6 hb6 HKN
          go_wp2
          go_ret2
          exact ⟨_, rfl, HO6.out, HB6.out⟩
    · rw [if_neg hl] at hh
      cases hh
end Go.Proofs.Ytagbpiofphgjlaa.G

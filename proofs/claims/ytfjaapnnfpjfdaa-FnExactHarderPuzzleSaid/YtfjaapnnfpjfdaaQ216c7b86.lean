/- Texts of this seat's proofs: contracts of its functions and plain laws about them, with no condition beyond those that each theorem states. -/
import Derived.Deep.RegionLaw
import Derived.Lib.SliceRun
import Derived.Test.YtfjaapnnfpjfdaaQ335e349f
import Derived.Test.YtfjaapnnfpjfdaaQa8be4d76
namespace Go.Proofs.Ytfjaapnnfpjfdaa.G
open Go.RowKit Go.Proofs.YtfjaapnnfpjfdaaW.PrintWords Go.Proofs.YtfjaapnnfpjfdaaW.PrintLast Go.Proofs.YtfjaapnnfpjfdaaW.PrintMore
attribute [local go_sem] max2_int min2_int max_two min_two max_three min_three max_four min_four
set_option linter.unusedVariables false
set_option linter.unusedSimpArgs false
theorem R_behind {α : Type} {d : Kd α} {e : Nat} {w : World} {base : Nat} {ok : Nat → Prop} {g n c off : Nat} {xs : List α} (h : d.R e w base ok (.slice (some ⟨g, 0, none⟩) n c) xs) (vs : List Value) (ho : n * d.sz ≤ off) (hf : off + vs.length ≤ c * d.sz) :
    d.R e (w.setCells g off vs) base ok (.slice (some ⟨g, 0, none⟩) n c) xs ∧ w.grownBy (w.setCells g off vs) (some g) := by
  obtain ⟨s1, s2, s3, s4⟩ := setCells_same g vs off w
  have hfar : ∀ k', k' ≠ g → (w.setCells g off vs).heap[k']? = w.heap[k']? := fun k' hk' => setCells_far vs _ k' hk'
  refine ⟨?_, ⟨s1, s2, s3, by rw [s4]; exact Nat.le_refl _, fun k' _ hk' => hfar k' (fun he => hk' (by rw [he]))⟩⟩
  obtain ⟨hn, hnc, _⟩ := Kd.R_reads' h
  obtain ⟨hok, inner, hown, hr⟩ := h
  rcases hown.2 with ⟨hv, _⟩ | ⟨g', cap', cur, hv, hb, hh, hl, hcm, hcs, htake⟩
  · cases hv
  injection hv with ha _ hc
  injection ha with ha
  injection ha with hg
  subst hg; subst hc
  obtain ⟨cur', h3, h4, h5⟩ := setCells_row vs off w cur hh (by rw [hcs]; exact hf)
  refine ⟨hok, inner, ⟨hown.1, .inr ⟨g, c, cur', by rw [hn], hb, h3, hl, hcm, by rw [h4, hcs], ?_⟩⟩, hr.imp_ (fun p q hp => d.M_move (fun k' hk' => hfar k' (fun he => hk'.2 (by rw [he]; rfl))) hp)⟩
  have hn' : xs.length * d.sz ≤ off := by rw [← hn]; exact ho
  have hcl : cur.toList.length = c * d.sz := by rw [← hcs]; exact Array.length_toList
  rw [← htake, h5, List.append_assoc, List.take_append_of_le_length (by rw [List.length_take, hcl]; omega), List.take_take, Nat.min_eq_left hn']
theorem R_cells {α : Type} {d : Kd α} {e : Nat} {w : World} {base : Nat} {ok : Nat → Prop} {g n c : Nat} {xs : List α} (h : d.R e w base ok (.slice (some ⟨g, 0, none⟩) n c) xs) (i : Nat) (hi : i < c * d.sz) : (w.cell? ⟨g, i, none⟩).isSome = true ∧ w.frozen? ⟨g, i, none⟩ = false := by
  obtain ⟨hok, inner, hown, hr⟩ := h
  rcases hown.2 with ⟨hv, _⟩ | ⟨g', cap', cur, hv, hb, hh, hl, hcm, hcs, htake⟩
  · cases hv
  injection hv with ha _ hc
  injection ha with ha
  injection ha with hg
  subst hg; subst hc
  refine ⟨?_, blk_frozen hh _⟩
  rw [blk_cell hh, Array.getElem?_eq_getElem (by rw [hcs]; exact hi)]
  rfl
theorem clue_clear (w : World) (ty : TypeId) (b o c : Nat) (hc : ∀ j, j < 3 → (w.cell? ⟨b, o + j, none⟩).isSome = true) (hf : ∀ j, j < 3 → w.frozen? ⟨b, o + j, none⟩ = false) :
    (Builtin.clear_ #[37] ty #[.slice (some ⟨b, o, none⟩) 1 c]).run Try.prog w = .ok (.tuple #[]) (w.setCells b o [.int .i64 0, .int .i64 0, .int .i64 0]) := by
  have hv : ∀ w, (zeroValue 29).run Try.prog w = .ok (.agg #[.int .i64 0, .int .i64 0, .int .i64 0]) w := fun w => by kernel_rfl
  have hst := run_storeCells_cells (P := Try.prog) b o [.int .i64 0, .int .i64 0, .int .i64 0] 0 w (by simpa using hc) (by simpa using hf) (by intro v hv'; simp at hv'; rw [hv']; rfl)
  have hzc : (Builtin.zeroCells (Value.agg #[.int .i64 0, .int .i64 0, .int .i64 0]).cells 1).toList = [.int .i64 0, .int .i64 0, .int .i64 0] := by kernel_rfl
  simp only [Nat.add_zero] at hst
  simp [Builtin.clear_, run_underlying Try.underlying37, hv, hzc, hst]
set_option maxHeartbeats 4000000 in
set_option maxRecDepth 100000 in
theorem clue_delete (base : Nat) (ok : Nat → Prop) (g n c q : Nat) (xs : List S29) (w0 w : World) (HO : Kd.R k29 29 w base ok (.slice (some ⟨g, 0, none⟩) n c) xs) (hq : q < n) (HB : Below base w0 w) (hbase : base ≤ w.heap.size) (hn : n ≤ 5864062014805) :
    Calls Try.prog 114 #[.slice (some ⟨g, 0, none⟩) n c, .int .i64 (q : Int), .int .i64 ((q : Int) + 1)] w fun e w' => e = .returned (.slice (some ⟨g, 0, none⟩) (n - 1) c) ∧ Kd.R k29 29 w' base ok (.slice (some ⟨g, 0, none⟩) (n - 1) c) (xs.eraseIdx q) ∧ Below base w0 w' := by
  have hu := Try.underlying29
  have hnc : n ≤ c := (Kd.R_reads' HO).2.1
  have h1 : ((q : Int) == (q : Int) + 1) = false := by rw [beq_eq_false_iff_ne]; omega
  obtain ⟨i0, hi0, _, hsz, _⟩ := info_parts info29
  have HOa := Aside0.mk HO
  have HBa := Aside0.mk HB
  have hsl := cut_from (P := Try.prog) 37 29 .i64 Try.underlying37 hi0 3 hsz (some ⟨g, 0, none⟩) n c ((q : Int) + 1) (by omega) (by omega)
  have hto := cut_to (P := Try.prog) 37 29 .i64 Try.underlying37 hi0 (some ⟨g, 0, none⟩) n c (q : Int) (by omega) (by omega) hnc
  rw [show ((q : Int) + 1).toNat = q + 1 by omega] at hsl
  rw [Int.toNat_natCast] at hto
  obtain ⟨A12, hA12⟩ : ∃ A1, A1 = (if c = q + 1 then some ⟨g, 0, none⟩ else (some (⟨g, 0, none⟩ : Addr)).map (·.add ((q + 1) * 3))) := ⟨_, rfl⟩
  obtain ⟨c12, hc12⟩ : ∃ c1, c1 = c - (q + 1) := ⟨_, rfl⟩
  obtain ⟨m12, hm12⟩ : ∃ m1, m1 = n - (q + 1) := ⟨_, rfl⟩
  rw [← hA12, ← hc12, ← hm12] at hsl
  have KA := Aside0.mk hA12
  have KM := Aside0.mk hm12
  clear HO HB hA12 hc12 hm12 hi0 hsz
  go_enter Try.func114, Try.ntmps114
  go_wp2
  go_region_law (refine Kd.R_delete_step k29 (w0 := w0) base rfl (.tmp 22) (.tmp 25) 37 29 rfl Try.underlying37 (by kernel_rfl) (n := n) (k := q) (c := c) (g := g) (xs := xs) (ok := ok) rfl rfl KA.out KM.out HOa.out hq (below_drew1 HBa.out) hbase ?_; intro w1 HO1 HB1 hg1)
  have HOb := Aside0.mk HO1
  have HBb := Aside0.mk HB1
  have hcl : ∀ ty, (Builtin.clear_ #[37] ty #[.slice (some ⟨g, (n - 1) * 3, none⟩) 1 (c - (n - 1))]).run Try.prog w1 = .ok (.tuple #[]) (w1.setCells g ((n - 1) * 3) [.int .i64 0, .int .i64 0, .int .i64 0]) := fun ty => clue_clear w1 ty g ((n - 1) * 3) (c - (n - 1)) (fun j hj => (R_cells HO1 ((n - 1) * 3 + j) (by show _ < c * 3; omega)).1) (fun j hj => (R_cells HO1 ((n - 1) * 3 + j) (by show _ < c * 3; omega)).2)
  have hz : n - (n - 1) = 1 := by omega
  have hcn : ¬ (c = n - 1) := by omega
  have hbase2 : base ≤ w1.heap.size := Nat.le_trans hbase hg1.size
  have hn1 : ((n - 1 : Nat) : Int) = (n : Int) - 1 := by omega
  clear HO1 HB1 hg1
  go_wp2_with (simp only [hcl])
  go_ret
  obtain ⟨r1, r2⟩ := R_behind HOb.out [.int .i64 0, .int .i64 0, .int .i64 0] (off := (n - 1) * 3) (Nat.le_refl _) (by show _ + 3 ≤ c * 3; omega)
  exact ⟨rfl, r1, HBb.out.grown r2 (Nat.le_trans hbase2 (Nat.le_refl _)) (fun k hk => by injection hk with hk; subst hk; exact Kd.R_base HOb.out _ rfl)⟩
end Go.Proofs.Ytfjaapnnfpjfdaa.G

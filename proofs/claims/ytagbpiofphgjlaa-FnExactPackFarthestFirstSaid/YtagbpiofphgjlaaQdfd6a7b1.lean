/- Texts of this seat's proofs: contracts of its functions and plain laws about them, with no condition beyond those that each theorem states. -/
import Derived.Test.YtagbpiofphgjlaaQ742fc60f
import Derived.Test.YtagbpiofphgjlaaQ43e33e7a
import Derived.Test.YtagbpiofphgjlaaQe2f90fa9
import Derived.Test.YtagbpiofphgjlaaQdc6e411d
namespace Go.Proofs.Ytagbpiofphgjlaa.G
open Go.RowKit Go.Proofs.YtagbpiofphgjlaaW.PrintWords Go.Proofs.YtagbpiofphgjlaaW.PrintLast Go.Proofs.YtagbpiofphgjlaaW.PrintMore
attribute [local go_sem] max2_int min2_int max_two min_two max_three min_three max_four min_four
set_option linter.unusedVariables false
set_option linter.unusedSimpArgs false
def pkGo (l : List S61) (bag : Int) : List Int → List Int → List Int → Option (List Int)
  | [], _, plan => some plan
  | i :: r, room, plan => if 0 ≤ i ∧ i < (l.length : Int) ∧ i < (plan.length : Int) ∧ room.length ≤ 1000 then
      (if Fun.fidx (fun x => decide (x ≥ (rd_T61 l i).f1)) room < 0 then pkGo l bag r ((room ++ [bag]).set room.length (wrap64 (rd (room ++ [bag]) (room.length : Int) - (rd_T61 l i).f1))) (plan.set i.toNat (room.length : Int))
        else pkGo l bag r (room.set (Fun.fidx (fun x => decide (x ≥ (rd_T61 l i).f1)) room).toNat (wrap64 (rd room (Fun.fidx (fun x => decide (x ≥ (rd_T61 l i).f1)) room) - (rd_T61 l i).f1))) (plan.set i.toNat (Fun.fidx (fun x => decide (x ≥ (rd_T61 l i).f1)) room)))
    else none
def impl_packed.f (l0 : List (S61)) (a1 : Int) (l2 : List Int) : Option (List Int) := if 1 ≤ l0.length ∧ l0.length ≤ 1000 ∧ l2.length ≤ 1000 then pkGo l0 a1 l2 [] (List.replicate l0.length 0) else none
theorem fidx_lt (p : Int → Bool) (l : List Int) : Fun.fidx p l < (l.length : Int) ∨ Fun.fidx p l < 0 := by
  unfold Fun.fidx
  split
  · rename_i i h
    rw [List.findIdx?_eq_some_iff_getElem] at h
    obtain ⟨hi, _⟩ := h
    omega
  · omega
theorem pk_ne {v : Value} {gr n c : Nat} {m s : Nat} (hl : ∀ k, v.ownBlock = some k → k < m) (hat : (Value.slice (some ⟨gr, 0, none⟩) n c).ownBlock = v.ownBlock ∨ ∃ b, (Value.slice (some ⟨gr, 0, none⟩) n c).ownBlock = some b ∧ s ≤ b) (hs : m < s) : gr ≠ m := by
  rcases hat with h | ⟨b, h, hb⟩
  · exact Nat.ne_of_lt (hl gr (h.symm.trans rfl))
  · have : gr = b := by simpa [Value.ownBlock] using h
    omega
theorem pk_end {w w4 : World} {gp gr n m cp cr : Nat} {o : Obj} {plan room : List Int} (hB : Below w.heap.size w w4) (hx : w4.heap[w.heap.size]? = some o)
    (hp : Kd.R (Kd.int .i64) 3 w4 (w.heap.size + 1) (fun k_ => k_ = gp) (.slice (some ⟨gp, 0, none⟩) n cp) plan) (hr : Kd.R (Kd.int .i64) 3 w4 (w.heap.size + 1) (fun k_ => k_ ≠ gp) (.slice (some ⟨gr, 0, none⟩) m cr) room)
    (h1 : w.heap.size + 1 ≤ gr) (h2 : w.heap.size + 1 ≤ gp) (hne : gr ≠ gp) (t i : Nat) (x y : Int) :
    Below w.heap.size w ((w4.setCell ⟨gr, t, none⟩ (.int .i64 x)).setCell ⟨gp, i, none⟩ (.int .i64 y)).drew ∧ ((w4.setCell ⟨gr, t, none⟩ (.int .i64 x)).setCell ⟨gp, i, none⟩ (.int .i64 y)).drew.heap[w.heap.size]? = some o ∧
      Kd.R (Kd.int .i64) 3 ((w4.setCell ⟨gr, t, none⟩ (.int .i64 x)).setCell ⟨gp, i, none⟩ (.int .i64 y)).drew (w.heap.size + 1) (fun k_ => k_ = gp) (.slice (some ⟨gp, 0, none⟩) n cp) (plan.set i y) ∧
      Kd.R (Kd.int .i64) 3 ((w4.setCell ⟨gr, t, none⟩ (.int .i64 x)).setCell ⟨gp, i, none⟩ (.int .i64 y)).drew (w.heap.size + 1) (fun k_ => k_ ≠ gp) (.slice (some ⟨gr, 0, none⟩) m cr) (room.set t x) ∧ w4.heap.size ≤ ((w4.setCell ⟨gr, t, none⟩ (.int .i64 x)).setCell ⟨gp, i, none⟩ (.int .i64 y)).drew.heap.size := by
  have hp1 : Kd.R (Kd.int .i64) 3 (w4.setCell ⟨gr, t, none⟩ (.int .i64 x)) (w.heap.size + 1) (fun k_ => k_ = gp) (.slice (some ⟨gp, 0, none⟩) n cp) plan := Kd.R_far (p := ⟨gr, t, none⟩) hp (fun k_ hk => by show k_ ≠ gr; omega) _
  have hr1 : Kd.R (Kd.int .i64) 3 (w4.setCell ⟨gr, t, none⟩ (.int .i64 x)) (w.heap.size + 1) (fun k_ => k_ ≠ gp) (.slice (some ⟨gr, 0, none⟩) m cr) (room.set t x) := by
    have := Kd.R_putn hr (t : Int) x
    rwa [Int.toNat_natCast] at this
  refine ⟨((hB.setCell (p := ⟨gr, t, none⟩) (by show w.heap.size ≤ gr; omega) _).setCell (p := ⟨gp, i, none⟩) (by show w.heap.size ≤ gp; omega) _).drew, ?_, ?_, ?_, ?_⟩
  · exact (Below.heap_setCell _ ⟨gp, i, none⟩ _ _ (by show w.heap.size ≠ gp; omega)).trans ((Below.heap_setCell _ ⟨gr, t, none⟩ _ _ (by show w.heap.size ≠ gr; omega)).trans hx)
  · have := Kd.R_putn hp1 (i : Int) y
    rw [Int.toNat_natCast] at this
    exact Kd.R_drew this
  · exact Kd.R_drew (Kd.R_far (p := ⟨gp, i, none⟩) hr1 (fun k_ hk => hk) _)
  · simp [World.setCell, World.drew]
set_option maxHeartbeats 4000000 in
set_option maxRecDepth 100000 in
theorem impl_packed.calls (A0 : Option Addr) (c0 : Nat) (l0 : List (S61)) (a1 : Int) (A2 : Option Addr) (c2 : Nat) (l2 : List Int) (r : List Int) (w : World) (hr0 : Kd.C k61 w A0 l0.length l0) (hc0 : l0.length ≤ c0) (hr2 : Kd.C (Kd.int .i64) w A2 l2.length l2) (hc2 : l2.length ≤ c2) (h : impl_packed.f l0 a1 l2 = some r) :
    Calls Try.prog 100 #[.slice A0 l0.length c0, .int .i64 a1, .slice A2 l2.length c2] w fun e w' => ∃ v0_ : Value, e = .returned (v0_) ∧ Kd.R (Kd.int .i64) 3 w' w.heap.size (fun _ => True) v0_ r ∧ Below w.heap.size w w' := by
  unfold impl_packed.f at h
  by_cases hl : 1 ≤ l0.length ∧ l0.length ≤ 1000 ∧ l2.length ≤ 1000
  · rw [if_pos hl] at h
    obtain ⟨hl1, hl2, hl3⟩ := hl
    obtain ⟨ad, rfl, _, _⟩ := at_T61 hr0 0 (by omega) (by omega)
    have HR := Aside0.mk hr0
    have HC := Aside0.mk hc0
    have HR2 := Aside0.mk hr2
    have HC2 := Aside0.mk hc2
    have HH := Aside0.mk h
    have eg := Aside0.mk (enters_of Try.func129 (by kernel_rfl) rfl)
    clear hr0 hc0 hr2 hc2 h
    go_enter Try.func100, Try.ntmps100
    have hb0 : Below w.heap.size w (w.alloc (.cells #[.slice (some ad) l0.length c0] 25 (0, 0))) := (Below.refl _ _).alloc (Nat.le_refl _) _
    have HB0 := Aside0.mk hb0
    have HX0 := Aside0.mk (blk_new w (.cells #[.slice (some ad) l0.length c0] 25 (0, 0)))
    clear hb0
    go_wp2_with (first | ((with_reducible refine gate_dst (N := 14) rfl ?_); refine Kd.R_make (Kd.int .i64) _ 3 rfl (N := 14) rfl 29 _ _ rfl (l0.length : Int) rfl rfl Try.underlying29 (.int .i64 0) 8 info3 rfl (by decide) (by omega) 0 (ok := fun _ => True) (okp := fun _ => True) rfl (fun _ hk => hk) trivial (by omega) (by omega) (Below.refl _ _) (Nat.le_refl _) ?_; intro v1 w2 ho hb hg hnew; rw [Int.toNat_natCast] at ho; obtain ⟨gp, cp, rfl, hbg, hgl, cells, hcells⟩ := Kd.R_form ho (by simp; omega); rw [List.length_replicate] at ho ⊢; have HP := Aside0.mk ho; have HB2 := Aside0.mk (below_step HB0.out hb); have HX := Aside0.mk (blk_below HX0.out hb); have hgp : w.heap.size + 1 ≤ gp := (by rw [World.size_alloc] at hbg; exact hbg); clear ho hb hg hnew hbg hcells))
    have HP0 : Aside0 (Kd.R (Kd.int .i64) 3 w2 (w.heap.size + 1) (fun k_ => k_ = gp) (.slice (some ⟨gp, 0, none⟩) l0.length cp) (List.replicate l0.length 0)) := ⟨Kd.R_mono (Kd.R_lower (Kd.R_tight rfl HP.out) (by simp)) (fun k_ hk => by simpa [Value.ownBlock] using hk)⟩
    go_loopg [8, 17] l2.length (fun gg s8 s17 wr => ∃ (j : Nat) (room plan : List Int), s17 = .int .i64 (j : Int) ∧ j + gg = l2.length ∧ plan.length = l0.length ∧ room.length ≤ j ∧ gp < wr.heap.size ∧ Aside0 (pkGo l0 a1 (l2.drop j) room plan = some r) ∧ Aside0 (Below w.heap.size w wr) ∧ Aside0 (wr.heap[w.heap.size]? = some (.cells #[.slice (some ad) l0.length c0] 25 (0, 0))) ∧ Aside0 (Kd.R (Kd.int .i64) 3 wr (w.heap.size + 1) (fun k_ => k_ = gp) (.slice (some ⟨gp, 0, none⟩) l0.length cp) plan) ∧ Aside0 (Kd.R (Kd.int .i64) 3 wr (w.heap.size + 1) (fun k_ => k_ ≠ gp) s8 room))
    case atStart => exact ⟨0, [], _, rfl, by omega, by simp, by simp, hgl, HH, HB2, HX, HP0, ⟨Kd.R_nil _ _ _ _ _⟩⟩
    case round =>
      obtain ⟨j, room, plan, rfl, hg, hpl, hrl, hgw, HF, HB, HBX, HPL, HO⟩ := hrel
      by_cases hlt : j < l2.length
      · obtain ⟨m, rfl⟩ : ∃ m, gk = m + 1 := ⟨gk - 1, by omega⟩
        have c1 : decide ((j : Int) < (l2.length : Int)) = true := decide_eq_true (by omega)
        have hF := HF.out
        rw [List.drop_eq_getElem_cons hlt] at hF
        unfold pkGo at hF
        by_cases hgd : 0 ≤ l2[j] ∧ l2[j] < (l0.length : Int) ∧ l2[j] < (plan.length : Int) ∧ room.length ≤ 1000
        · rw [if_pos hgd] at hF
          obtain ⟨hi0, hi1, _, _⟩ := hgd
          obtain ⟨ad2, rfl, hx2⟩ := Kd.at_int (Kd.C_below HR2.out HB.out) (j : Int) (by omega) (by omega)
          rw [Int.toNat_natCast, show rd l2 (j : Int) = l2[j] by simp [rd, List.getD, hlt]] at hx2
          generalize l2[j] = iz at *
          obtain ⟨i, rfl⟩ := Int.eq_ofNat_of_zero_le hi0
          obtain ⟨Ar, cr, rfl, hcr, hCr⟩ := Kd.R_reads HO.out
          have hbi : Below wr.heap.size wr (wr.alloc (.cells #[.int .i64 (i : Int)] 3 (0, 0))) := (Below.refl _ _).alloc (Nat.le_refl _) _
          have HCR := Aside0.mk (Kd.C_below hCr hbi)
          have HI := Aside0.mk (blk_new wr (.cells #[.int .i64 (i : Int)] 3 (0, 0)))
          have HBI := Aside0.mk hbi
          have HBX1 := Aside0.mk (blk_below HBX.out hbi)
          have KF := Aside0.mk (int_indexFunc (fun x => decide (x ≥ (rd_T61 l0 (i : Int)).f1)) 129 #[.pointer (some ⟨w.heap.size, 0, none⟩), .pointer (some ⟨wr.heap.size, 0, none⟩)] eg.out Ar cr room _ HCR.out hcr (fun W x _ hW => (pk_room w.heap.size wr.heap.size (some ad) c0 l0 i W x (Kd.C_below HR.out (below_step (below_step HB.out HBI.out) hW)) (by omega) ((blk_cell (blk_below HBX1.out hW) 0).trans rfl) ((blk_cell (blk_below HI.out hW) 0).trans rfl)).mono fun e w' h => ⟨h.1, below_step hW h.2⟩))
          generalize ht : Fun.fidx (fun x => decide (x ≥ (rd_T61 l0 (i : Int)).f1)) room = t at KF hF
          have HT := Aside0.mk ht
          have HFF := Aside0.mk hF
          clear hCr hbi hF ht HF
          go_wp2_with fail
          refine KF.out.mono ?_
          rintro e w3 ⟨rfl, hb3⟩
          have HB3 := Aside0.mk (below_step HBI.out hb3)
          have HI3 := Aside0.mk (blk_below HI.out hb3)
          have HBX3 := Aside0.mk (blk_below HBX1.out hb3)
          have HPL3 := Aside0.mk (Kd.R_below HPL.out HB3.out)
          have HO3 := Aside0.mk (Kd.R_below HO.out HB3.out)
          clear hb3 KF HI HBX1
          by_cases htn : t < 0
          · have c2 : decide (t < 0) = true := decide_eq_true htn
            have hF2 := HFF.out
            rw [if_pos htn] at hF2
            have HF2 := Aside0.mk hF2
            clear hF2 HFF
            go_wp2_with (first | ((with_reducible refine gate_builtin (b := .append) (xs := #[.tmp 28, .tmp 30]) rfl ?_); at_builtin; refine Kd.R_append (Kd.int .i64) (w0 := wr) (w.heap.size + 1) rfl (.tmp 28) (.tmp 30) 29 3 (.int .i64 0) 8 rfl Try.underlying29 info3 rfl (by decide) (by omega) (.slice Ar room.length cr) room a1 [.int .i64 a1] (fun k_ => k_ ≠ gp) (fun _ => False) rfl rfl ?aP (fun _ hk => hk.elim) ?aF ?aO ?aB ?aS ?aL ?_; (case aP => exact rfl); (case aF => exact fun k_ hk => Nat.ne_of_gt (Nat.lt_of_lt_of_le (Nat.lt_of_lt_of_le hgw HB3.out.size) hk)); (case aO => exact HO3.out); (case aB => exact HB3.out.mono (by omega)); (case aS => exact Nat.le_trans (by omega) HB3.out.size); (case aL => omega); intro v4 w4 ho4 hb4 hg4 hat4; obtain ⟨gr, cr4, rfl, hbr, hglr, cells4, hc4⟩ := Kd.R_form ho4 (by simp); rw [show (room ++ [a1]).length = room.length + 1 from by simp] at ho4 ⊢; have HPL4 := Aside0.mk (Kd.R_grown HPL3.out hg4 (fun k_ hk he => HO3.out.1 k_ he.symm hk)); have HBX4 := Aside0.mk (blk_grown HBX3.out hg4 (fun he => absurd (Kd.R_base HO3.out _ he.symm) (by omega))); have HI4 := Aside0.mk (blk_grown HI3.out hg4 (fun he => absurd (Kd.R_lt HO.out _ he.symm) (Nat.lt_irrefl _))); have hne1 : gr ≠ gp := ho4.1 gr rfl; have hne2 : gr ≠ wr.heap.size := pk_ne (Kd.R_lt HO.out) hat4 (blk_lt HI3.out); have HB4 := Aside0.mk (HB.out.trans (hb4.mono (by omega))); have HBW := Aside0.mk hb4; have HRR := Aside0.mk ho4; clear ho4 hb4 hg4 hat4 hc4; skip))
            have hcl := Kd.R_celln 0 HRR.out (room.length : Int) (by omega) (by omega)
            rw [Int.toNat_natCast] at hcl
            obtain ⟨hcl, hfz⟩ := hcl
            have hcp := Kd.R_celln 0 HPL4.out (i : Int) (by omega) (by omega)
            rw [Int.toNat_natCast] at hcp
            obtain ⟨hcp, hfp⟩ := hcp
            obtain ⟨ad3, ead3, _, hx3⟩ := at_T61 (Kd.C_below HR.out HB4.out) (i : Int) (by omega) (by omega)
            obtain rfl := Option.some.inj ead3
            rw [Int.toNat_natCast] at hx3
            have q1 : w4.cell? ⟨w.heap.size, 0, none⟩ = some (.slice (some ad) l0.length c0) := blk_cell HBX4.out 0
            have q2 : w4.cell? ⟨wr.heap.size, 0, none⟩ = some (.int .i64 (i : Int)) := blk_cell HI4.out 0
            have hgr : w.heap.size + 1 ≤ gr := Kd.R_base HRR.out gr rfl
            generalize hy : (rd_T61 l0 (i : Int)).f1 = y at *
            obtain ⟨z, hz⟩ : ∃ z, z = wrap64 (rdOf 0 (room ++ [a1]) (room.length : Int) - y) := ⟨_, rfl⟩
            go_region
            go_wp2
            obtain ⟨e1, e2, e3, e4, e5⟩ := pk_end HB4.out HBX4.out HPL4.out HRR.out hgr hgp hne1 room.length i (wrap64 (rdOf 0 (room ++ [a1]) (room.length : Int) - y)) (room.length : Int)
            go_roundg m
            case measure => omega
            case rel => exact ⟨j + 1, _, _, rfl, by omega, by rw [List.length_set]; exact hpl, by rw [List.length_set]; first | (simp; omega) | omega, Nat.lt_of_lt_of_le (Nat.lt_of_lt_of_le hgw HBW.out.size) e5, ⟨by have := HF2.out; simp only [Int.toNat_natCast] at this; exact this⟩, ⟨e1⟩, ⟨e2⟩, ⟨e3⟩, ⟨e4⟩⟩
          · have c2 : decide (t < 0) = false := decide_eq_false htn
            have hF2 := HFF.out
            rw [if_neg htn] at hF2
            have HF2 := Aside0.mk hF2
            clear hF2 HFF
            obtain ⟨tt, rfl⟩ := Int.eq_ofNat_of_zero_le (by omega : 0 ≤ t)
            have htl : tt < room.length := by have := fidx_lt (fun x => decide (x ≥ (rd_T61 l0 (i : Int)).f1)) room; have := HT.out; omega
            obtain ⟨gr, cr4, her, hbr, hglr, cells4, hc4⟩ := Kd.R_form HO3.out (by omega)
            injection her with her _ hcr4
            subst her
            subst hcr4
            have HPL4 := HPL3
            have HBX4 := HBX3
            have HI4 := HI3
            have hne1 : gr ≠ gp := HO3.out.1 gr rfl
            have hne2 : gr ≠ wr.heap.size := Nat.ne_of_lt (Kd.R_lt HO.out gr rfl)
            have HB4 := Aside0.mk (HB.out.trans (HB3.out.mono (by omega)))
            have HRR := HO3
            have hcl := Kd.R_celln 0 HRR.out (tt : Int) (by omega) (by omega)
            rw [Int.toNat_natCast] at hcl
            obtain ⟨hcl, hfz⟩ := hcl
            have hcp := Kd.R_celln 0 HPL4.out (i : Int) (by omega) (by omega)
            rw [Int.toNat_natCast] at hcp
            obtain ⟨hcp, hfp⟩ := hcp
            obtain ⟨ad3, ead3, _, hx3⟩ := at_T61 (Kd.C_below HR.out HB4.out) (i : Int) (by omega) (by omega)
            obtain rfl := Option.some.inj ead3
            rw [Int.toNat_natCast] at hx3
            have q1 : w3.cell? ⟨w.heap.size, 0, none⟩ = some (.slice (some ad) l0.length c0) := blk_cell HBX4.out 0
            have q2 : w3.cell? ⟨wr.heap.size, 0, none⟩ = some (.int .i64 (i : Int)) := blk_cell HI4.out 0
            have hgr : w.heap.size + 1 ≤ gr := Kd.R_base HRR.out gr rfl
            generalize hy : (rd_T61 l0 (i : Int)).f1 = y at *
            obtain ⟨z, hz⟩ : ∃ z, z = wrap64 (rdOf 0 room (tt : Int) - y) := ⟨_, rfl⟩
            go_wp2_with fail
            go_region
            go_wp2
            obtain ⟨e1, e2, e3, e4, e5⟩ := pk_end HB4.out HBX4.out HPL4.out HRR.out hgr hgp hne1 tt i (wrap64 (rdOf 0 room (tt : Int) - y)) (tt : Int)
            go_roundg m
            case measure => omega
            case rel => exact ⟨j + 1, _, _, rfl, by omega, by rw [List.length_set]; exact hpl, by rw [List.length_set]; first | (simp; omega) | omega, Nat.lt_of_lt_of_le (Nat.lt_of_lt_of_le hgw HB3.out.size) e5, ⟨by have := HF2.out; simp only [Int.toNat_natCast] at this; exact this⟩, ⟨e1⟩, ⟨e2⟩, ⟨e3⟩, ⟨e4⟩⟩
        · rw [if_neg hgd] at hF
          cases hF
      · obtain rfl : gk = 0 := by omega
        have c1 : decide ((j : Int) < (l2.length : Int)) = false := decide_eq_false (by omega)
        have hF := HF.out
        rw [List.drop_eq_nil_of_le (by omega)] at hF
        unfold pkGo at hF
        obtain rfl := Option.some.inj hF
        clear hF HF HH
        go_wp2
        go_ret
        exact ⟨_, rfl, Kd.R_mono (Kd.R_lower (base' := w.heap.size) HPL.out (by omega)) (fun _ _ => trivial), HB.out⟩
  · rw [if_neg hl] at h
    cases h
end Go.Proofs.Ytagbpiofphgjlaa.G

/- Texts of this seat's proofs: contracts of its functions and plain laws about them, with no condition beyond those that each theorem states. -/
import Derived.Deep.RegionHeld3
import Derived.Test.YtfjaapnnfpjfdaaQ335e349f
import Derived.Test.YtfjaapnnfpjfdaaQ1582948f
import Derived.Test.YtfjaapnnfpjfdaaQea2b0e8c
import Derived.Test.YtfjaapnnfpjfdaaQd9c0fccc
import Derived.Test.YtfjaapnnfpjfdaaQ0b3a829f
namespace Go.Proofs.Ytfjaapnnfpjfdaa.G
open Go.RowKit Go.Proofs.YtfjaapnnfpjfdaaW.PrintWords Go.Proofs.YtfjaapnnfpjfdaaW.PrintLast Go.Proofs.YtfjaapnnfpjfdaaW.PrintMore
attribute [local go_sem] max2_int min2_int max_two min_two max_three min_three max_four min_four
set_option linter.unusedVariables false
set_option linter.unusedSimpArgs false
def fitsAll (a b : Int) (l : List S29) (h : Int) : Option Bool :=
  if l.all (fun x => (impl_doesFit.f a b x.f0 x.f1 x.f2 h).isSome) = true then some (!(l.any fun x => !((impl_doesFit.f a b x.f0 x.f1 x.f2 h).getD false))) else none
def solGo (a b : Int) (l : List S29) : Nat → List Int → Int → Option (List Int)
  | 0, acc, _ => some acc
  | m + 1, acc, h => (fitsAll a b l h).bind fun ok => if ok = true then (if acc.length < 17592186044416 then solGo a b l m (acc ++ [h]) (h + 1) else none) else solGo a b l m acc (h + 1)
def impl_solutions.f (a0_0 : Int) (a0_1 : Int) (l1 : List (S29)) : Option (List Int) := (impl_housesOf.f a0_0 a0_1).bind fun n => if n ≤ 9223372036854775806 then solGo a0_0 a0_1 l1 n.toNat [] 1 else none
theorem sol_fits {a b h : Int} {l : List S29} {t : Bool} (hf : fitsAll a b l h = some t) : t = (!(l.any fun x => !((impl_doesFit.f a b x.f0 x.f1 x.f2 h).getD false))) ∧ ∀ x ∈ l, impl_doesFit.f a b x.f0 x.f1 x.f2 h = some ((impl_doesFit.f a b x.f0 x.f1 x.f2 h).getD false) := by
  unfold fitsAll at hf
  split at hf
  · rename_i hall
    refine ⟨(Option.some.inj hf).symm, fun x hx => ?_⟩
    have := List.all_eq_true.1 hall x hx
    obtain ⟨y, hy⟩ := Option.isSome_iff_exists.1 this
    rw [hy]
    rfl
  · cases hf
theorem sol_keep {wr W W' : World} {gh gs : Nat} {x y z : Value} (h : W.cell? ⟨gh, 0, none⟩ = some x ∧ W.cell? ⟨gs, 0, none⟩ = some y ∧ W.cell? ⟨gs, 1, none⟩ = some z ∧ Below wr.heap.size wr W) (hb : Below W.heap.size W W') :
    W'.cell? ⟨gh, 0, none⟩ = some x ∧ W'.cell? ⟨gs, 0, none⟩ = some y ∧ W'.cell? ⟨gs, 1, none⟩ = some z ∧ Below wr.heap.size wr W' :=
  ⟨(hb.cell (World.block_lt_of_cell? W _ h.1)).trans h.1, (hb.cell (World.block_lt_of_cell? W _ h.2.1)).trans h.2.1, (hb.cell (World.block_lt_of_cell? W _ h.2.2.1)).trans h.2.2.1, below_step h.2.2.2 hb⟩
theorem sol_fresh {W : World} {gs gh : Nat} {o o' : Obj} (h : W.heap[gs]? = some o) (h' : W.heap[gh]? = some o') : ∀ k, W.heap.size ≤ k → k ≠ gh ∧ k ≠ gs := fun k hk => by
  have := blk_lt h
  have := blk_lt h'
  omega
theorem sol_left {W : World} {g : Nat} {o : Obj} (h : W.heap[g]? = some o) (o' : Obj) : (W.alloc o').heap[g]? = some o := blk_alloc h o'
theorem sol_row {W : World} {gs gh base : Nat} {o o' : Obj} {v : Value} {xs : List Int} (h : Kd.R (Kd.int .i64) 3 W base (fun k_ => k_ ≠ gh ∧ k_ ≠ gs) v xs) (h' : W.heap[gs]? = some o) : Kd.R (Kd.int .i64) 3 (W.alloc o') base (fun k_ => k_ ≠ W.heap.size ∧ k_ ≠ gs) v xs :=
  Kd.R_alloc (Kd.R_mono (Kd.R_bound h) (fun k hk => ⟨by omega, hk.1.2⟩)) o'
set_option maxHeartbeats 4000000 in
set_option maxRecDepth 100000 in
theorem impl_solutions.calls (a0_0 : Int) (a0_1 : Int) (A1 : Option Addr) (c1 : Nat) (l1 : List (S29)) (r : List Int) (w : World) (hr1 : Kd.C k29 w A1 l1.length l1) (hc1 : l1.length ≤ c1) (h : impl_solutions.f a0_0 a0_1 l1 = some r) :
    Calls Try.prog 96 #[.agg #[.int .i64 a0_0, .int .i64 a0_1], .slice A1 l1.length c1] w fun e w' => ∃ v0_ : Value, e = .returned (v0_) ∧ Kd.R (Kd.int .i64) 3 w' w.heap.size (fun _ => True) v0_ r ∧ Below w.heap.size w w' := by
  have hu27 := Try.underlying27
  unfold impl_solutions.f at h
  obtain ⟨n, hn, h⟩ := Option.bind_eq_some_iff.1 h
  by_cases hmax : n ≤ 9223372036854775806
  · rw [if_pos hmax] at h
    have HR := Aside0.mk hr1
    have HC := Aside0.mk hc1
    have HH := Aside0.mk h
    have HN := Aside0.mk hn
    have HM := Aside0.mk hmax
    have eg := Aside0.mk (enters_of Try.func116 (by kernel_rfl) rfl)
    clear hr1 hc1 h hn hmax
    go_enter Try.func96, Try.ntmps96
    go_wp2
    go_loopg [5, 6] (n.toNat + 1) (fun gk v5 v6 wr => ∃ (acc : List Int) (hh : Int) (gh : Nat), v6 = .pointer (some ⟨gh, 0, none⟩) ∧ Aside0 (∃ m, m + 1 = gk ∧ solGo a0_0 a0_1 l1 m acc hh = some r ∧ 1 ≤ hh ∧ hh + m = max n 0 + 1) ∧ Aside0 (wr.heap[w.heap.size]? = some (.cells #[.int .i64 a0_0, .int .i64 a0_1] 27 (0, 0))) ∧ Aside0 (wr.heap[gh]? = some (.cells #[.int .i64 hh] 3 (0, 0))) ∧ Aside0 (w.heap.size < gh) ∧ Aside0 (Kd.R (Kd.int .i64) 3 wr w.heap.size (fun k_ => k_ ≠ gh ∧ k_ ≠ w.heap.size) v5 acc) ∧ Aside0 (Below w.heap.size w wr))
    case atStart => exact ⟨[], 1, w.heap.size + 1, rfl, ⟨n.toNat, rfl, HH.out, by omega, by omega⟩, ⟨blk_alloc (blk_new _ _) _⟩, ⟨by have := blk_new (w.alloc (.cells #[.int .i64 a0_0, .int .i64 a0_1] 27)) (.cells #[.int .i64 1] 3); simpa using this⟩, ⟨by omega⟩, ⟨Kd.R_nil _ _ _ _ _⟩, ⟨((Below.refl _ _).alloc (Nat.le_refl _) _).alloc (by simp) _⟩⟩
    case round =>
      obtain ⟨acc, hh, gh, rfl, HS, KS, KH, HL, HO, HB⟩ := hrel
      have s0 : wr.cell? ⟨gh, 0, none⟩ = some (.int .i64 hh) ∧ wr.cell? ⟨w.heap.size, 0, none⟩ = some (.int .i64 a0_0) ∧ wr.cell? ⟨w.heap.size, 1, none⟩ = some (.int .i64 a0_1) ∧ Below wr.heap.size wr wr := ⟨blk_cell KH.out 0, blk_cell KS.out 0, blk_cell KS.out 1, Below.refl _ _⟩
      go_wp2_with fail
      go_region_held3 (fun W => W.cell? ⟨gh, 0, none⟩ = some (.int .i64 hh) ∧ W.cell? ⟨w.heap.size, 0, none⟩ = some (.int .i64 a0_0) ∧ W.cell? ⟨w.heap.size, 1, none⟩ = some (.int .i64 a0_1) ∧ Below wr.heap.size wr W) (first | assumption | exact ⟨s0.1, s0.2.1, s0.2.2.1, s0.2.2.2.drew⟩ | exact sol_keep (by assumption) (by assumption)) (first | (go_at_call 113; refine (impl_housesOf.calls a0_0 a0_1 n _ HN.out).mono ?_; rintro e w' ⟨rfl, hb⟩))
      have hb2 : Below wr.heap.size wr w' := below_step ((Below.refl wr.heap.size wr).drew) hb
      have KS1 := Aside0.mk (blk_below KS.out hb2)
      have KH1 := Aside0.mk (blk_below KH.out hb2)
      have HO1 := Aside0.mk (Kd.R_below HO.out hb2)
      have HB1 := Aside0.mk (below_step HB.out hb2)
      clear hb hb2 s0 KS KH HO HB
      obtain ⟨m, hm, hgo, h1, hsum⟩ := HS.out
      clear HS
      have HG := Aside0.mk hgo
      clear hgo
      by_cases hle : hh ≤ n
      · obtain ⟨m', rfl⟩ : ∃ m', m = m' + 1 := ⟨m - 1, by omega⟩
        have hgo := HG.out
        unfold solGo at hgo
        obtain ⟨ok, hfit, hgo⟩ := Option.bind_eq_some_iff.1 hgo
        obtain ⟨hok, hall⟩ := sol_fits hfit
        have HF := Aside0.mk hall
        have HK := Aside0.mk hok
        have HG2 := Aside0.mk hgo
        have hs : w.heap.size < w'.heap.size := Nat.lt_of_lt_of_le (blk_lt KS1.out) (Nat.le_refl _)
        have hg : gh < w'.heap.size := blk_lt KH1.out
        have hle2 : hh ≤ 9223372036854775806 := by have := HM.out; omega
        have HMg := Aside0.mk hm
        clear hfit hok hall hgo HG hm
        go_wp2_with fail
        refine (clue_containsFunc (fun x => !((impl_doesFit.f a0_0 a0_1 x.f0 x.f1 x.f2 hh).getD false)) 116 #[.pointer (some ⟨w.heap.size, 0, none⟩), .pointer (some ⟨gh, 0, none⟩)] eg.out A1 c1 l1 w' (Kd.C_below HR.out HB1.out) HC.out (fun W x hx hW => (sol_bad w.heap.size gh a0_0 a0_1 hh _ W x (HF.out x hx) ((blk_cell (blk_below KS1.out hW) 0).trans rfl) ((blk_cell (blk_below KS1.out hW) 1).trans rfl) ((blk_cell (blk_below KH1.out hW) 0).trans rfl) (Nat.lt_of_lt_of_le hs hW.size) (Nat.lt_of_lt_of_le hg hW.size)).mono fun e w' h => ⟨h.1, below_step hW h.2⟩)).mono ?_
        rintro e w2 ⟨rfl, hb⟩
        have hq : (l1.any fun x => !((impl_doesFit.f a0_0 a0_1 x.f0 x.f1 x.f2 hh).getD false)) = !ok := by rw [HK.out, Bool.not_not]
        rw [hq]
        clear hq
        have KS2 := Aside0.mk (blk_below KS1.out hb)
        have KH2 := Aside0.mk (blk_below KH1.out hb)
        have HO2 := Aside0.mk (Kd.R_below HO1.out hb)
        have HB2 := Aside0.mk (below_step HB1.out hb)
        clear KS1 KH1 HO1 HB1 hb hs hg HF HK
        have e0 : w2.cell? ⟨gh, 0, none⟩ = some (.int .i64 hh) := (blk_cell KH2.out 0).trans rfl
        cases ok with
        | true =>
          have hgo := HG2.out
          rw [if_pos rfl] at hgo
          by_cases hL : acc.length < 17592186044416
          · rw [if_pos hL] at hgo
            have HG3 := Aside0.mk hgo
            have HLM := Aside0.mk hL
            clear hgo hL HG2
            go_wp2_with (first | ((with_reducible refine gate_builtin (b := .append) (xs := #[.tmp 17, .tmp 19]) rfl ?_); at_builtin; refine Kd.R_append (Kd.int .i64) (w0 := w) w.heap.size rfl (.tmp 17) (.tmp 19) 59 3 (.int .i64 0) 8 rfl Try.underlying59 info3 rfl (by decide) (by omega) u5 acc hh [.int .i64 hh] (fun k_ => k_ ≠ gh ∧ k_ ≠ w.heap.size) (fun _ => False) rfl rfl ?aP (fun _ hk => hk.elim) ?aF ?aO ?aB ?aS ?aL ?_; (case aP => exact rfl); (case aF => exact sol_fresh KS2.out KH2.out); (case aO => exact HO2.out); (case aB => exact HB2.out); (case aS => exact HB2.out.size); (case aL => have := HLM.out; omega); intro v1 w3 ho hb hg hat; have KS3 := Aside0.mk (blk_grown KS2.out hg (fun e => (HO2.out.1 _ e.symm).2 rfl)); have KH3 := Aside0.mk (blk_grown KH2.out hg (fun e => (HO2.out.1 _ e.symm).1 rfl)); have HO3 := Aside0.mk ho; have HB3 := Aside0.mk hb; clear e0 KS2 KH2 HO2 HB2 ho hb hg hat; have e0 : w3.cell? ⟨gh, 0, none⟩ = some (.int .i64 hh) := (blk_cell KH3.out 0).trans rfl))
            go_roundg (m' + 1)
            case measure => have := HMg.out; omega
            case rel => exact ⟨acc ++ [hh], hh + 1, w3.heap.size, rfl, ⟨m', rfl, HG3.out, by omega, by omega⟩, ⟨sol_left KS3.out _⟩, ⟨blk_new _ _⟩, ⟨blk_lt KS3.out⟩, ⟨sol_row HO3.out KS3.out⟩, ⟨below_alloc HB3.out _⟩⟩
          · rw [if_neg hL] at hgo
            cases hgo
        | false =>
          have hgo := HG2.out
          rw [if_neg (by decide)] at hgo
          have HG3 := Aside0.mk hgo
          clear hgo HG2
          go_wp2
          go_roundg (m' + 1)
          case measure => have := HMg.out; omega
          case rel => exact ⟨acc, hh + 1, w2.heap.size, rfl, ⟨m', rfl, HG3.out, by omega, by omega⟩, ⟨sol_left KS2.out _⟩, ⟨blk_new _ _⟩, ⟨blk_lt KS2.out⟩, ⟨sol_row HO2.out KS2.out⟩, ⟨below_alloc HB2.out _⟩⟩
      · obtain rfl : m = 0 := by omega
        have hgo := HG.out
        unfold solGo at hgo
        obtain rfl := Option.some.inj hgo
        clear hgo HG hm h1 hsum
        go_wp2
        go_ret
        exact ⟨_, rfl, Kd.R_mono HO1.out (fun _ _ => trivial), HB1.out⟩
  · rw [if_neg hmax] at h
    cases h
end Go.Proofs.Ytfjaapnnfpjfdaa.G

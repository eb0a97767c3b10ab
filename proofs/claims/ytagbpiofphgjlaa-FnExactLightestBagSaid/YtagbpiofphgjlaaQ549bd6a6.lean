/- Texts of this seat's proofs: contracts of its functions and plain laws about them, with no condition beyond those that each theorem states. -/
import Derived.Deep.RegionHeld3
import Derived.Test.YtagbpiofphgjlaaQe9280fc4
import Derived.Test.YtagbpiofphgjlaaQf653b09a
import Derived.Test.YtagbpiofphgjlaaQfbf1a041
import Derived.Test.YtagbpiofphgjlaaQ8e0586cf
namespace Go.Proofs.Ytagbpiofphgjlaa.G
open Go.RowKit Go.Proofs.YtagbpiofphgjlaaW.PrintWords Go.Proofs.YtagbpiofphgjlaaW.PrintLast Go.Proofs.YtagbpiofphgjlaaW.PrintMore
attribute [local go_sem] max2_int min2_int max_two min_two max_three min_three max_four min_four
set_option linter.unusedVariables false
set_option linter.unusedSimpArgs false
def lkLoop (f : List Int → List (List Int) → Option (List (List Int))) (bag x : Int) (p ws : List Int) : Nat → Nat → List (List Int) → Option (List (List Int))
  | 0, _, out => some out
  | m + 1, t, out => if t = ws.length ∨ wrap64 (rd ws (t : Int) + x) ≤ bag then (f (p ++ [(t : Int)]) out).bind fun out' => lkLoop f bag x p ws m (t + 1) out' else lkLoop f bag x p ws m (t + 1) out
def lkGo (k : Nat) (l : List S61) (bag : Int) : Nat → List Int → List (List Int) → Option (List (List Int))
  | 0, p, out => if out.length < 5864062014805 then some (out ++ [p]) else none
  | d + 1, p, out => (spec_bgWeights.f k l p).bind fun ws => if ws.length ≤ p.length ∧ l.length ≤ 1000 then lkLoop (lkGo k l bag d) bag (rd_T61 l (p.length : Int)).f1 p ws (ws.length + 1) 0 out else none
structure LkKeep (B : Nat) (W W' : World) : Prop where
  os : W'.os = W.os
  tape : W'.tape = W.tape
  output : W'.output = W.output
  size : W.heap.size ≤ W'.heap.size
  block : ∀ k, k < W.heap.size → (k < B ∨ ∃ cells, W.heap[k]? = some (.cells cells 3 (0, 0))) → W'.heap[k]? = W.heap[k]?
theorem LkKeep.refl (B : Nat) (W : World) : LkKeep B W W := ⟨rfl, rfl, rfl, Nat.le_refl _, fun _ _ _ => rfl⟩
theorem LkKeep.trans {B : Nat} {a b c : World} (h : LkKeep B a b) (k : LkKeep B b c) : LkKeep B a c :=
  ⟨k.os.trans h.os, k.tape.trans h.tape, k.output.trans h.output, Nat.le_trans h.size k.size, fun i hi hc => (k.block i (Nat.lt_of_lt_of_le hi h.size) (hc.imp id (fun ⟨cs, hcs⟩ => ⟨cs, (h.block i hi hc).trans hcs⟩))).trans (h.block i hi hc)⟩
theorem LkKeep.of_below {B : Nat} {a b : World} (h : Below a.heap.size a b) : LkKeep B a b := ⟨h.os, h.tape, h.output, h.size, fun i hi _ => h.block i hi⟩
theorem LkKeep.below {B : Nat} {a b c : World} (h : LkKeep B a b) (k : Below b.heap.size b c) : LkKeep B a c := h.trans (LkKeep.of_below k)
theorem LkKeep.drew {B : Nat} {a b : World} (h : LkKeep B a b) : LkKeep B a b.drew := ⟨h.os, h.tape, h.output, h.size, h.block⟩
theorem LkKeep.alloc {B : Nat} {a b : World} (h : LkKeep B a b) (o : Obj) : LkKeep B a (b.alloc o) := h.below (below_alloc (Below.refl _ _) o)
theorem LkKeep.lo {B : Nat} {w0 a b : World} (h : LkKeep B a b) (hb : Below B w0 a) (hB : B ≤ a.heap.size) : Below B w0 b :=
  hb.trans ⟨h.os, h.tape, h.output, h.size, fun k hk => h.block k (by omega) (.inl hk)⟩
theorem LkKeep.row {B base : Nat} {a b : World} (h : LkKeep B a b) {v : Value} {xs : List Int} (hr : Kd.R (Kd.int .i64) 3 a base (fun _ => True) v xs) : Kd.R (Kd.int .i64) 3 b base (fun _ => True) v xs := by
  refine Kd.R_mono (Kd.R_step (Kd.R_bound hr) (fun k hk hlt => h.block k hlt (.inr ?_))) (fun _ _ => trivial)
  obtain ⟨_, _, _, q, hq, cs, hcs⟩ := hk
  rcases List.mem_cons.1 hq with rfl | hq
  · exact ⟨cs, hcs⟩
  · cases hq
theorem LkKeep.wrote {B : Nat} {W W1 : World} {v : Value} {out : List (List Int)} (hv : Kd.R (Kd.slice 3 (Kd.int .i64)) 29 W B (fun _ => True) v out) (hbox : ∃ u, W.heap[B]? = some (.cells #[u] 49 (0, 0))) (hg : W.grownBy W1 v.ownBlock) (u : Value) : LkKeep B W (W1.setCell ⟨B, 0, none⟩ u) := by
  obtain ⟨u0, hbox⟩ := hbox
  refine ⟨hg.os, hg.tape, hg.output, by simpa [World.setCell] using hg.size, fun k hk hc => ?_⟩
  have hne : k ≠ B := by
    rintro rfl
    rcases hc with hc | ⟨cs, hcs⟩
    · omega
    · rw [hbox] at hcs
      injection hcs with hcs
      injection hcs with _ h
      exact absurd h (by decide)
  refine (Below.heap_setCell _ _ _ _ (by show k ≠ B; exact hne)).trans (hg.block k hk ?_)
  intro he
  rcases hc with hc | ⟨cs, hcs⟩
  · exact absurd (Kd.R_base hv k he.symm) (by omega)
  · obtain ⟨cs', hcs'⟩ := Kd.R_typed hv k he.symm
    rw [hcs'] at hcs
    injection hcs with hcs
    injection hcs with _ h
    exact absurd h (by decide)
theorem lk_fresh {wr w3 : World} {B : Nat} {u v3 : Value} {o : List (List Int)} {q : List Int} (ho : Kd.S (Kd.slice 3 (Kd.int .i64)) 29 wr B (fun _ => True) u o) (hb : Below wr.heap.size wr w3) (h3 : Kd.R (Kd.int .i64) 3 w3 wr.heap.size (fun _ => True) v3 q) : Kd.S (Kd.slice 3 (Kd.int .i64)) 29 w3 B (fun k_ => some k_ ≠ v3.ownBlock) u o :=
  Kd.S_mono (Kd.S_below (Kd.S_bound ho) hb) (fun k hk h2 => absurd (Kd.R_base h3 k h2.symm) (Nat.not_le.2 hk.2.2.1))
set_option maxHeartbeats 4000000 in
set_option maxRecDepth 100000 in
theorem lk_look (k : Nat) (A0 : Option Addr) (c0 : Nat) (l0 : List S61) (bag : Int) (w0 : World) (hr0 : Kd.C k61 w0 A0 l0.length l0) (hc0 : l0.length ≤ c0) :
    ∀ (d : Nat) (p : List Int) (vp : Value) (out out' : List (List Int)) (v : Value) (W : World), lkGo k l0 bag d p out = some out' → p.length + d = l0.length →
      Below w0.heap.size w0 W → W.heap[w0.heap.size]? = some (.cells #[v] 49 (0, 0)) → Kd.S (Kd.slice 3 (Kd.int .i64)) 29 W w0.heap.size (fun k_ => some k_ ≠ vp.ownBlock) v out → Kd.R (Kd.int .i64) 3 W w0.heap.size (fun _ => True) vp p →
      Calls Try.prog 130 #[.slice A0 l0.length c0, .int .i64 bag, vp, .pointer (some ⟨w0.heap.size, 0, none⟩)] W
        fun e w' => e = .returned (.tuple #[]) ∧ LkKeep w0.heap.size W w' ∧ ∃ v', w'.heap[w0.heap.size]? = some (.cells #[v'] 49 (0, 0)) ∧ Kd.S (Kd.slice 3 (Kd.int .i64)) 29 w' w0.heap.size (fun _ => True) v' out' := by
  intro d
  induction d with
  | zero =>
    intro p vp out out' v W h hlen hlo hbox hv hp
    obtain ⟨Ap, cp, rfl, hcp, hCp⟩ := Kd.R_reads hp
    obtain ⟨Av, cv, rfl⟩ := Kd.R_slice (Kd.S_R hv)
    unfold lkGo at h
    by_cases hL : out.length < 5864062014805
    · rw [if_pos hL] at h
      obtain rfl := Option.some.inj h
      have q1 : W.cell? ⟨w0.heap.size, 0, none⟩ = some (.slice Av out.length cv) := blk_cell hbox 0
      have f1 := blk_frozen hbox 0
      have e1 : decide ((p.length : Int) = (l0.length : Int)) = true := decide_eq_true (by omega)
      have HV := Aside0.mk hv
      have HP := Aside0.mk hp
      have HB := Aside0.mk hbox
      have HLO := Aside0.mk hlo
      clear h hv hp hCp hbox hlo hr0
      go_enter Try.func130, Try.ntmps130
      go_wp2_with (first | ((with_reducible refine gate_builtin (b := .append) (xs := #[.tmp 19, .tmp 21]) rfl ?_); at_builtin; refine Kd.S_append (Kd.slice 3 (Kd.int .i64)) (w0 := W) w0.heap.size rfl (.tmp 19) (.tmp 21) 49 29 (.slice none 0 0) 24 rfl Try.underlying49 info29 rfl (by decide) (by omega) (.slice Av out.length cv) out p [.slice Ap p.length cp] (fun _ => True) (fun k => some k = (Value.slice Ap p.length cp).ownBlock) rfl rfl ?aP (fun k hk => ⟨trivial, fun h2 => (Kd.S_R HV.out).1 k h2.symm hk⟩) ?aF ?aO ?aB ?aS ?aL ?_; (case aP => exact Kd.M_row (Kd.R_tight rfl HP.out)); (case aF => exact fun _ _ => trivial); (case aO => exact Kd.S_mono HV.out (fun _ hk => ⟨trivial, hk⟩)); (case aB => exact Below.refl _ _); (case aS => exact Nat.le_of_lt (blk_lt HB.out)); (case aL => omega); intro v1 w1 ho hb hg hat; obtain ⟨A1, c1, rfl⟩ := Kd.R_slice (Kd.S_R ho); have HB1 := Aside0.mk (blk_grown HB.out hg (Kd.R_ne (Kd.S_R HV.out) HB.out (by decide))); have HO1 := Aside0.mk ho; have HG1 := Aside0.mk hg; have q2 : w1.cell? ⟨w0.heap.size, 0, none⟩ = some (.slice Av out.length cv) := blk_cell HB1.out 0; have f2 := blk_frozen HB1.out 0; clear ho hb hg hat q1 f1))
      first | go_end0 | ((try simp only [Exit.inBlock, Exit.then]); refine bodyPost_ret (results_none rfl _ _ _) rfl ?_)
      exact ⟨rfl, LkKeep.wrote (Kd.R_mono (Kd.S_R HV.out) (fun _ _ => trivial)) ⟨_, HB.out⟩ HG1.out _, _, by simpa using blk_set HB1.out 0 _, Kd.S_set HO1.out HB1.out (by decide) 0 _⟩
    · rw [if_neg hL] at h
      cases h
  | succ d ih =>
    intro p vp out out' v W h hlen hlo hbox hv hp
    obtain ⟨Ap, cp, rfl, hcp, hCp⟩ := Kd.R_reads hp
    unfold lkGo at h
    obtain ⟨ws, hws, hh⟩ := Option.bind_eq_some_iff.1 h
    clear h
    by_cases hwl : ws.length ≤ p.length ∧ l0.length ≤ 1000
    · rw [if_pos hwl] at hh
      obtain ⟨hw1, hw2⟩ := hwl
      have e1 : decide ((p.length : Int) = (l0.length : Int)) = false := decide_eq_false (by omega)
      have KW := Aside0.mk (spec_bgWeights.calls k A0 c0 l0 Ap cp p ws W (Kd.C_below hr0 hlo) hc0 hCp hcp hws)
      have HR := Aside0.mk hr0
      have HV := Aside0.mk hv
      have HP := Aside0.mk hp
      have HB := Aside0.mk hbox
      have HLO := Aside0.mk hlo
      have HH := Aside0.mk hh
      have IH := Aside0.mk ih
      clear hv hp hCp hbox hlo hr0 hh ih hws
      go_enter Try.func130, Try.ntmps130
      go_wp2_with fail
      refine KW.out.mono ?_
      rintro e w1 ⟨vw, rfl, how, hb1⟩
      obtain ⟨Aw, cw, rfl, hcw, hCw⟩ := Kd.R_reads how
      have HB1 := Aside0.mk hb1
      have HLO1 := Aside0.mk (HLO.out.trans (hb1.mono (Nat.le_of_lt (blk_lt HB.out))))
      obtain ⟨ad, ead, hx0, hx1⟩ := at_T61 (Kd.C_below HR.out HLO1.out) (p.length : Int) (by omega) (by omega)
      have HW := Aside0.mk (Kd.R_lower how (Nat.le_of_lt (blk_lt HB.out)))
      subst ead
      rw [Int.toNat_natCast] at hx1
      generalize hx : (rd_T61 l0 (p.length : Int)).f1 = x at *
      clear hb1 how hx0 hCw KW
      go_wp2_with fail
      have hown : spec_l1Own.f p = some p := by
        unfold spec_l1Own.f
        rw [Option.bind_some, if_pos (by simp; omega)]
        rfl
      have HOWN := Aside0.mk hown
      have HLEN : Aside0 (∀ z : Int, (p ++ [z]).length + d = l0.length) := ⟨fun z => by rw [List.length_append, List.length_singleton]; omega⟩
      have HCAP : Aside0 ((p.length + 1) * 8 ≤ 140737488355328) := ⟨by omega⟩
      clear hown hx hx1
      go_loopg [10] (ws.length + 1) (fun gg s10 wr => ∃ (t : Nat) (o : List (List Int)) (u : Value), s10 = .int .i64 (t : Int) ∧ t + gg = ws.length + 1 ∧ Aside0 (lkLoop (lkGo k l0 bag d) bag x p ws gg t o = some out') ∧ Aside0 (LkKeep w0.heap.size W wr) ∧ Aside0 (LkKeep w0.heap.size w1 wr) ∧ Aside0 (wr.heap[w0.heap.size]? = some (.cells #[u] 49 (0, 0))) ∧ Aside0 (Kd.S (Kd.slice 3 (Kd.int .i64)) 29 wr w0.heap.size (fun _ => True) u o))
      case atStart => exact ⟨0, out, v, rfl, by omega, HH, ⟨LkKeep.of_below HB1.out⟩, ⟨LkKeep.refl _ _⟩, ⟨blk_below HB.out HB1.out⟩, ⟨Kd.S_below (Kd.S_mono HV.out (fun _ _ => trivial)) HB1.out⟩⟩
      case round =>
        obtain ⟨t, o, u, rfl, hg, HL, HK, HK1, HBX, HO⟩ := hrel
        by_cases hlt : t < ws.length + 1
        · obtain ⟨m, rfl⟩ : ∃ m, gk = m + 1 := ⟨gk - 1, by omega⟩
          have c1 : decide ((t : Int) ≤ (ws.length : Int)) = true := decide_eq_true (by omega)
          have hL := HL.out
          unfold lkLoop at hL
          have CP := Aside0.mk (Kd.R_reads' (HK.out.row HP.out)).2.2
          have KO := Aside0.mk fun W1 h => spec_l1Own.calls Ap cp p p W1 h hcp HOWN.out
          by_cases hend : t = ws.length
          · obtain rfl : t = ws.length := hend
            have c2 : decide ((ws.length : Int) = (ws.length : Int)) = true := decide_eq_true rfl
            rw [if_pos (.inl rfl)] at hL
            obtain ⟨o2, hs, hL2⟩ := Option.bind_eq_some_iff.1 hL
            have HS := Aside0.mk hs
            have HL2 := Aside0.mk hL2
            clear hL hs hL2
            go_wp2_with (first | (go_at_call 127; refine (KO.out _ CP.out).mono ?_; rintro e w2 ⟨vc, rfl, hc2, hb2⟩; have HC2 := Aside0.mk hc2; have HB2 := Aside0.mk hb2; clear hc2 hb2) | ((with_reducible refine gate_builtin (b := .append) (xs := #[.tmp 56, .tmp 58]) rfl ?_); at_builtin; refine Kd.R_append (Kd.int .i64) (w0 := wr) wr.heap.size rfl (.tmp 56) (.tmp 58) 29 3 (.int .i64 0) 8 rfl Try.underlying29 info3 rfl (by decide) (by omega) vc p (ws.length : Int) [.int .i64 (ws.length : Int)] (fun _ => True) (fun _ => False) rfl rfl ?aP (fun _ hk => hk.elim) ?aF ?aO ?aB ?aS ?aL ?_; (case aP => exact rfl); (case aF => exact fun _ _ => trivial); (case aO => exact HC2.out); (case aB => exact HB2.out); (case aS => exact HB2.out.size); (case aL => exact HCAP.out); intro v3 w3 ho3 hb3 hg3 hat3; have HSF := Aside0.mk (lk_fresh HO.out hb3 ho3); have HO3 := Aside0.mk (Kd.R_lower ho3 (Nat.le_of_lt (blk_lt HBX.out))); have HB3 := Aside0.mk hb3; clear ho3 hb3 hg3 hat3) | (go_at_call 130; refine (IH.out (p ++ [(ws.length : Int)]) v3 o o2 u w3 HS.out (HLEN.out _) ((HK.out.below HB3.out).lo HLO.out (Nat.le_of_lt (blk_lt HB.out))) (blk_below HBX.out HB3.out) HSF.out HO3.out).mono ?_; rintro e w4 ⟨rfl, hk4, u4, hbx4, ho4⟩; have HK4 := Aside0.mk hk4; have HBX4 := Aside0.mk hbx4; have HO4 := Aside0.mk ho4; clear hk4 hbx4 ho4))
            go_roundg m
            case measure => omega
            case rel => exact ⟨ws.length + 1, o2, u4, rfl, by omega, HL2, ⟨(HK.out.below HB3.out).trans HK4.out⟩, ⟨(HK1.out.below HB3.out).trans HK4.out⟩, HBX4, HO4⟩
          · have c2 : decide ((t : Int) = (ws.length : Int)) = false := decide_eq_false (by omega)
            obtain ⟨ad2, ead2, hx2⟩ := Kd.at_int (Kd.R_reads' (HK1.out.row HW.out)).2.2 (t : Int) (by omega) (by omega)
            rw [Int.toNat_natCast] at hx2
            subst ead2
            by_cases hle : wrap64 (rd ws (t : Int) + x) ≤ bag
            · rw [if_pos (.inr hle)] at hL
              obtain ⟨o2, hs, hL2⟩ := Option.bind_eq_some_iff.1 hL
              have c3 : decide (wrap64 (rd ws (t : Int) + x) ≤ bag) = true := decide_eq_true hle
              have HS := Aside0.mk hs
              have HL2 := Aside0.mk hL2
              clear hL hs hL2
              go_wp2_with (first | (go_at_call 127; refine (KO.out _ CP.out).mono ?_; rintro e w2 ⟨vc, rfl, hc2, hb2⟩; have HC2 := Aside0.mk hc2; have HB2 := Aside0.mk hb2; clear hc2 hb2) | ((with_reducible refine gate_builtin (b := .append) (xs := #[.tmp 56, .tmp 58]) rfl ?_); at_builtin; refine Kd.R_append (Kd.int .i64) (w0 := wr) wr.heap.size rfl (.tmp 56) (.tmp 58) 29 3 (.int .i64 0) 8 rfl Try.underlying29 info3 rfl (by decide) (by omega) vc p (t : Int) [.int .i64 (t : Int)] (fun _ => True) (fun _ => False) rfl rfl ?aP (fun _ hk => hk.elim) ?aF ?aO ?aB ?aS ?aL ?_; (case aP => exact rfl); (case aF => exact fun _ _ => trivial); (case aO => exact HC2.out); (case aB => exact HB2.out); (case aS => exact HB2.out.size); (case aL => exact HCAP.out); intro v3 w3 ho3 hb3 hg3 hat3; have HSF := Aside0.mk (lk_fresh HO.out hb3 ho3); have HO3 := Aside0.mk (Kd.R_lower ho3 (Nat.le_of_lt (blk_lt HBX.out))); have HB3 := Aside0.mk hb3; clear ho3 hb3 hg3 hat3) | (go_at_call 130; refine (IH.out (p ++ [(t : Int)]) v3 o o2 u w3 HS.out (HLEN.out _) ((HK.out.below HB3.out).lo HLO.out (Nat.le_of_lt (blk_lt HB.out))) (blk_below HBX.out HB3.out) HSF.out HO3.out).mono ?_; rintro e w4 ⟨rfl, hk4, u4, hbx4, ho4⟩; have HK4 := Aside0.mk hk4; have HBX4 := Aside0.mk hbx4; have HO4 := Aside0.mk ho4; clear hk4 hbx4 ho4))
              go_roundg m
              case measure => omega
              case rel => exact ⟨t + 1, o2, u4, rfl, by omega, HL2, ⟨(HK.out.below HB3.out).trans HK4.out⟩, ⟨(HK1.out.below HB3.out).trans HK4.out⟩, HBX4, HO4⟩
            · rw [if_neg (by rintro (h | h); exact hend h; exact hle h)] at hL
              have c3 : decide (wrap64 (rd ws (t : Int) + x) ≤ bag) = false := decide_eq_false hle
              have HL2 := Aside0.mk hL
              clear hL
              go_wp2
              go_roundg m
              case measure => omega
              case rel => exact ⟨t + 1, o, u, rfl, by omega, HL2, HK, HK1, HBX, HO⟩
        · obtain rfl : gk = 0 := by omega
          have c1 : decide ((t : Int) ≤ (ws.length : Int)) = false := decide_eq_false (by omega)
          have hL := HL.out
          unfold lkLoop at hL
          obtain rfl := Option.some.inj hL
          clear hL HL HH
          go_wp2
          first | go_end0 | ((try simp only [Exit.inBlock, Exit.then]); refine bodyPost_ret (results_none rfl _ _ _) rfl ?_)
          exact ⟨rfl, HK.out, _, HBX.out, HO.out⟩
    · rw [if_neg hwl] at hh
      cases hh
end Go.Proofs.Ytagbpiofphgjlaa.G

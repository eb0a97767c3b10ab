/- Texts of this seat's proofs: contracts of its functions and plain laws about them, with no condition beyond those that each theorem states. -/
import Derived.Deep.RegionHeld3
import Derived.Shelf.Abstract
import Derived.Test.YtagbpiofphgjlaaQe9280fc4
import Derived.Test.YtagbpiofphgjlaaQecebd7e4
import Derived.Test.YtagbpiofphgjlaaQ8e0586cf
namespace Go.Proofs.Ytagbpiofphgjlaa.G
open Go.RowKit Go.Proofs.YtagbpiofphgjlaaW.PrintWords Go.Proofs.YtagbpiofphgjlaaW.PrintLast Go.Proofs.YtagbpiofphgjlaaW.PrintMore
attribute [local go_sem] max2_int min2_int max_two min_two max_three min_three max_four min_four
set_option linter.unusedVariables false
set_option linter.unusedSimpArgs false
structure BpSt where
  least : Int
  count : Int
  best : List Int
def bpLeaf (num : List Int → Option Int) (p : List Int) (s : BpSt) : Option BpSt :=
  (num p).bind fun own =>
    if s.count = 0 ∨ own < s.least then some ⟨own, 1, p⟩
    else if own = s.least then some ⟨s.least, wrap64 (s.count + 1), s.best⟩ else some s
def bpNext (ws : List Int) (t : Nat) (x : Int) : List Int := (if t < ws.length then ws else ws ++ [0]).set t (wrap64 (rd (if t < ws.length then ws else ws ++ [0]) (t : Int) + x))
theorem bpNext_old {ws : List Int} {t : Nat} {x : Int} (h : t < ws.length) : bpNext ws t x = ws.set t (wrap64 (rdOf 0 ws (t : Int) + x)) := by
  unfold bpNext
  rw [if_pos h]
  rfl
theorem bpNext_new (ws : List Int) (x : Int) : bpNext ws ws.length x = (ws ++ [0]).set ws.length (wrap64 (rdOf 0 (ws ++ [0]) (ws.length : Int) + x)) := by
  unfold bpNext
  rw [if_neg (Nat.lt_irrefl _)]
  rfl
def bpLoop (f : List Int → List Int → BpSt → Option BpSt) (bag x : Int) (p ws : List Int) : Nat → Nat → BpSt → Option BpSt
  | 0, _, s => some s
  | m + 1, t, s => if rd (bpNext ws t x) (t : Int) ≤ bag then (f (p ++ [(t : Int)]) (bpNext ws t x) s).bind fun s' => bpLoop f bag x p ws m (t + 1) s' else bpLoop f bag x p ws m (t + 1) s
def bpGo (num : List Int → Option Int) (l : List S61) (bag : Int) : Nat → List Int → List Int → BpSt → Option BpSt
  | 0, p, _, s => bpLeaf num p s
  | d + 1, p, ws, s => bpLoop (bpGo num l bag d) bag (rd_T61 l (p.length : Int)).f1 p ws (ws.length + 1) 0 s
structure BpKeep (N : Nat) (W W' : World) : Prop where
  os : W'.os = W.os
  tape : W'.tape = W.tape
  output : W'.output = W.output
  size : W.heap.size ≤ W'.heap.size
  block : ∀ k, k < W.heap.size → k ≠ N + 3 → k ≠ N + 4 → k ≠ N + 5 → W'.heap[k]? = W.heap[k]?
theorem BpKeep.refl (N : Nat) (W : World) : BpKeep N W W := ⟨rfl, rfl, rfl, Nat.le_refl _, fun _ _ _ _ _ => rfl⟩
theorem BpKeep.trans {N : Nat} {a b c : World} (h : BpKeep N a b) (k : BpKeep N b c) : BpKeep N a c :=
  ⟨k.os.trans h.os, k.tape.trans h.tape, k.output.trans h.output, Nat.le_trans h.size k.size, fun i hi h3 h4 h5 => (k.block i (Nat.lt_of_lt_of_le hi h.size) h3 h4 h5).trans (h.block i hi h3 h4 h5)⟩
theorem BpKeep.of_below {N : Nat} {a b : World} (h : Below a.heap.size a b) : BpKeep N a b := ⟨h.os, h.tape, h.output, h.size, fun i hi _ _ _ => h.block i hi⟩
theorem BpKeep.below {N : Nat} {a b c : World} (h : BpKeep N a b) (k : Below b.heap.size b c) : BpKeep N a c := h.trans (BpKeep.of_below k)
theorem BpKeep.set {N : Nat} {a b : World} (h : BpKeep N a b) (g : Nat) (hg : g = N + 3 ∨ g = N + 4 ∨ g = N + 5 ∨ a.heap.size ≤ g) (j : Nat) (u : Value) : BpKeep N a (b.setCell ⟨g, j, none⟩ u) :=
  ⟨h.os, h.tape, h.output, by simpa [World.setCell] using h.size, fun i hi h3 h4 h5 => (Below.heap_setCell _ _ _ _ (by show i ≠ g; omega)).trans (h.block i hi h3 h4 h5)⟩
theorem BpKeep.lo {N : Nat} {w0 a b : World} (h : BpKeep N a b) (hb : Below N w0 a) (hN : N + 7 ≤ a.heap.size) : Below N w0 b :=
  hb.trans ⟨h.os, h.tape, h.output, h.size, fun k hk => h.block k (by omega) (by omega) (by omega) (by omega)⟩
theorem BpKeep.cell {N : Nat} {a b : World} (h : BpKeep N a b) {g j : Nat} {v : Value} (hc : a.cell? ⟨g, j, none⟩ = some v) (h3 : g ≠ N + 3) (h4 : g ≠ N + 4) (h5 : g ≠ N + 5) : b.cell? ⟨g, j, none⟩ = some v :=
  (World.cell?_of_block (w := a) (a := ⟨g, j, none⟩) (h.block g (World.block_lt_of_cell? a _ hc) h3 h4 h5)).trans hc
theorem BpKeep.row {N : Nat} {a b : World} (h : BpKeep N a b) {e : Nat} {v : Value} {xs : List Int} (hr : Kd.R (Kd.int .i64) e a (N + 7) (fun _ => True) v xs) : Kd.R (Kd.int .i64) e b (N + 7) (fun _ => True) v xs := by
  have := Kd.R_bound hr
  exact Kd.R_mono (Kd.R_step this (fun k hk hlt => h.block k hlt (by have := hk.2.1; omega) (by have := hk.2.1; omega) (by have := hk.2.1; omega))) (fun _ _ => trivial)
theorem BpKeep.drew {N : Nat} {a b : World} (h : BpKeep N a b) : BpKeep N a b.drew := ⟨h.os, h.tape, h.output, h.size, h.block⟩
structure BpBox (N : Nat) (A0 : Option Addr) (n0 c0 : Nat) (bag : Int) (fv ev : Value) (W : World) : Prop where
  list : W.cell? ⟨N, 0, none⟩ = some (.slice A0 n0 c0)
  bag : W.cell? ⟨N + 1, 0, none⟩ = some (.int .i64 bag)
  num : W.cell? ⟨N + 2, 0, none⟩ = some fv
  ext : W.cell? ⟨N + 6, 0, none⟩ = some ev
theorem BpBox.keep {N : Nat} {A0 : Option Addr} {n0 c0 : Nat} {bag : Int} {fv ev : Value} {W W' : World} (h : BpBox N A0 n0 c0 bag fv ev W) (k : BpKeep N W W') : BpBox N A0 n0 c0 bag fv ev W' :=
  ⟨k.cell h.list (by omega) (by omega) (by omega), k.cell h.bag (by omega) (by omega) (by omega), k.cell h.num (by omega) (by omega) (by omega), k.cell h.ext (by omega) (by omega) (by omega)⟩
structure BpVar (N : Nat) (s : BpSt) (v : Value) (W : World) : Prop where
  least : W.heap[N + 3]? = some (.cells #[.int .i64 s.least] 3 (0, 0))
  count : W.heap[N + 4]? = some (.cells #[.int .i64 s.count] 3 (0, 0))
  best : W.heap[N + 5]? = some (.cells #[v] 29 (0, 0))
  row : Kd.R (Kd.int .i64) 3 W (N + 7) (fun _ => True) v s.best
theorem BpVar.below {N : Nat} {s : BpSt} {v : Value} {W W' : World} (h : BpVar N s v W) (hb : Below W.heap.size W W') : BpVar N s v W' :=
  ⟨blk_below h.least hb, blk_below h.count hb, blk_below h.best hb, Kd.R_below h.row hb⟩
theorem BpVar.drew {N : Nat} {s : BpSt} {v : Value} {W : World} (h : BpVar N s v W) : BpVar N s v W.drew := ⟨h.least, h.count, h.best, Kd.R_drew h.row⟩
theorem bp_row_set {N : Nat} {w : World} {e : Nat} {v : Value} {xs : List Int} (hr : Kd.R (Kd.int .i64) e w (N + 7) (fun _ => True) v xs) (g j : Nat) (hg : g < N + 7) (u : Value) : Kd.R (Kd.int .i64) e (w.setCell ⟨g, j, none⟩ u) (N + 7) (fun _ => True) v xs :=
  Kd.R_mono (Kd.R_far (p := ⟨g, j, none⟩) (Kd.R_bound hr) (fun k hk => (by have := hk.2.1; show k ≠ g; omega)) u) (fun _ _ => trivial)
theorem BpKeep.alloc {N : Nat} {a b : World} (h : BpKeep N a b) (o : Obj) : BpKeep N a (b.alloc o) := h.below (below_alloc (Below.refl _ _) o)
section
variable {N : Nat} {w3 W W' : World} {ev : Value}
theorem bp_S_alloc (h : W.cell? ⟨N + 6, 0, none⟩ = some ev ∧ BpKeep N w3 W) (o : Obj) : (W.alloc o).cell? ⟨N + 6, 0, none⟩ = some ev ∧ BpKeep N w3 (W.alloc o) :=
  ⟨((BpKeep.refl N W).alloc o).cell h.1 (by omega) (by omega) (by omega), h.2.alloc o⟩
theorem bp_S_below (h : W.cell? ⟨N + 6, 0, none⟩ = some ev ∧ BpKeep N w3 W) (hb : Below W.heap.size W W') : W'.cell? ⟨N + 6, 0, none⟩ = some ev ∧ BpKeep N w3 W' :=
  ⟨(BpKeep.of_below (N := N) hb).cell h.1 (by omega) (by omega) (by omega), h.2.below hb⟩
theorem bp_S_from (h : w3.drew.cell? ⟨N + 6, 0, none⟩ = some ev) (hb : Below w3.heap.size w3 W') : W'.cell? ⟨N + 6, 0, none⟩ = some ev ∧ BpKeep N w3 W' :=
  ⟨(BpKeep.of_below (N := N) hb).cell h (by omega) (by omega) (by omega), BpKeep.of_below hb⟩
theorem bp_S_keep (h : W.cell? ⟨N + 6, 0, none⟩ = some ev ∧ BpKeep N w3 W) (hk : BpKeep N W W') : W'.cell? ⟨N + 6, 0, none⟩ = some ev ∧ BpKeep N w3 W' :=
  ⟨hk.cell h.1 (by omega) (by omega) (by omega), h.2.trans hk⟩
end
theorem bp_then {w3 W W' : World} (h : Below w3.heap.size w3 W) (k : Below W.heap.size W W') : Below w3.heap.size w3 W' := below_then h h.size k
theorem lit_C (w : World) (x : Int) (e : Nat) : Kd.C (Kd.int .i64) (w.alloc (.cells #[.int .i64 x] e)) (some ⟨w.heap.size, 0, none⟩) 1 [x] :=
  Kd.C_of_reads (enc := Value.int .i64) (d := (0 : Int)) ⟨rfl, by omega, fun _ => ⟨_, rfl, fun j hj => by
    obtain rfl : j = 0 := by omega
    simp [Addr.add]⟩⟩
theorem bp_far (w : World) (g j : Nat) (u : Value) (k : Nat) (h : k ≠ g) : (w.setCell ⟨g, j, none⟩ u).heap[k]? = w.heap[k]? := Below.heap_setCell _ _ _ _ h
theorem BpVar.put1 {N : Nat} {s : BpSt} {v : Value} {w : World} (h : BpVar N s v w) (b : Int) : BpVar N ⟨s.least, b, s.best⟩ v (w.setCell ⟨N + 4, 0, none⟩ (.int .i64 b)) :=
  ⟨(bp_far _ _ _ _ _ (by omega)).trans h.least, by simpa using blk_set h.count 0 (.int .i64 b), (bp_far _ _ _ _ _ (by omega)).trans h.best, bp_row_set h.row _ _ (by omega) _⟩
theorem BpVar.put3 {N : Nat} {s : BpSt} {v0 v : Value} {w : World} {xs : List Int} (h1 : w.heap[N + 3]? = some (.cells #[.int .i64 s.least] 3 (0, 0))) (h2 : w.heap[N + 4]? = some (.cells #[.int .i64 s.count] 3 (0, 0))) (h3 : w.heap[N + 5]? = some (.cells #[v0] 29 (0, 0)))
    (hr : Kd.R (Kd.int .i64) 3 w (N + 7) (fun _ => True) v xs) (a b : Int) :
    BpVar N ⟨a, b, xs⟩ v (((w.setCell ⟨N + 3, 0, none⟩ (.int .i64 a)).setCell ⟨N + 4, 0, none⟩ (.int .i64 b)).setCell ⟨N + 5, 0, none⟩ v) := by
  have k1 := blk_set h1 0 (.int .i64 a)
  have k2 := blk_set ((bp_far w (N + 3) 0 (.int .i64 a) _ (by omega)).trans h2) 0 (.int .i64 b)
  have k3 := blk_set ((bp_far (w.setCell ⟨N + 3, 0, none⟩ (.int .i64 a)) (N + 4) 0 (.int .i64 b) _ (by omega)).trans ((bp_far w (N + 3) 0 (.int .i64 a) _ (by omega)).trans h3)) 0 v
  refine ⟨?_, ?_, by simpa using k3, bp_row_set (bp_row_set (bp_row_set hr _ _ (by omega) _) _ _ (by omega) _) _ _ (by omega) _⟩
  · rw [bp_far _ _ _ _ _ (by omega), bp_far _ _ _ _ _ (by omega)]
    simpa using k1
  · rw [bp_far _ _ _ _ _ (by omega)]
    simpa using k2
set_option maxHeartbeats 4000000 in
set_option maxRecDepth 100000 in
theorem bp_extend (num : List Int → Option Int) (gn : Nat) (lbn : Array Value) (egn : ∀ args w, (callFunc gn args).run Try.prog w = .ok (.enter gn args) w)
    (ege : ∀ args w, (callFunc 125 args).run Try.prog w = .ok (.enter 125 args) w)
    (A0 : Option Addr) (c0 : Nat) (l0 : List S61) (bag : Int) (w0 : World) (hr0 : Kd.C k61 w0 A0 l0.length l0) (hc0 : l0.length ≤ c0) (hl : l0.length ≤ 8)
    (hnum : ∀ (W : World) (p : List Int) (A : Option Addr) (c : Nat) (x : Int), Below w0.heap.size w0 W → Kd.C (Kd.int .i64) W A p.length p → p.length ≤ c → p.length = l0.length → num p = some x → Calls Try.prog gn (#[.slice A0 l0.length c0, .slice A p.length c] ++ lbn) W fun e w' => e = .returned (.int .i64 x) ∧ Below W.heap.size W w')
    (ev : Value) (hev : ev = .func (.func 125) #[] #[.pointer (some ⟨w0.heap.size, 0, none⟩), .pointer (some ⟨w0.heap.size + 2, 0, none⟩), .pointer (some ⟨w0.heap.size + 4, 0, none⟩), .pointer (some ⟨w0.heap.size + 3, 0, none⟩), .pointer (some ⟨w0.heap.size + 5, 0, none⟩), .pointer (some ⟨w0.heap.size + 1, 0, none⟩), .pointer (some ⟨w0.heap.size + 6, 0, none⟩)]) :
    ∀ (d : Nat) (p ws : List Int) (vp vw : Value) (s s' : BpSt) (v : Value) (W : World), bpGo num l0 bag d p ws s = some s' → p.length + d = l0.length → ws.length ≤ p.length →
      Below w0.heap.size w0 W → w0.heap.size + 7 ≤ W.heap.size → BpBox w0.heap.size A0 l0.length c0 bag (.func (.func gn) #[] lbn) ev W → BpVar w0.heap.size s v W →
      Kd.R (Kd.int .i64) 3 W (w0.heap.size + 7) (fun _ => True) vp p → Kd.R (Kd.int .i64) 3 W (w0.heap.size + 7) (fun _ => True) vw ws →
      Calls Try.prog 125 (#[vp, vw] ++ #[.pointer (some ⟨w0.heap.size, 0, none⟩), .pointer (some ⟨w0.heap.size + 2, 0, none⟩), .pointer (some ⟨w0.heap.size + 4, 0, none⟩), .pointer (some ⟨w0.heap.size + 3, 0, none⟩), .pointer (some ⟨w0.heap.size + 5, 0, none⟩), .pointer (some ⟨w0.heap.size + 1, 0, none⟩), .pointer (some ⟨w0.heap.size + 6, 0, none⟩)]) W
        fun e w' => e = .returned (.tuple #[]) ∧ BpKeep w0.heap.size W w' ∧ ∃ v', BpVar w0.heap.size s' v' w' := by
  intro d
  induction d with
  | zero =>
    intro p ws vp vw s s' v W h hlen hws hlo hsz hbox hvar hp hw
    subst hev
    obtain ⟨Ap, cp, rfl, hcp, hCp⟩ := Kd.R_reads hp
    obtain ⟨Aw, cw, rfl, hcw, hCw⟩ := Kd.R_reads hw
    unfold bpGo bpLeaf at h
    obtain ⟨own, hown, hh⟩ := Option.bind_eq_some_iff.1 h
    clear h
    obtain ⟨b1, b2, b3, b4⟩ := hbox
    obtain ⟨v1, v2, v3, v4⟩ := hvar
    have q1 := blk_cell v1 0
    have q2 := blk_cell v2 0
    have q3 := blk_cell v3 0
    have e1 : decide ((p.length : Int) = (l0.length : Int)) = true := decide_eq_true (by omega)
    have KN := Aside0.mk (hnum W p Ap cp own hlo hCp hcp (by omega) hown)
    have HP := Aside0.mk hp
    have CP := Aside0.mk hCp
    have HW := Aside0.mk hw
    have HH := Aside0.mk hh
    clear hp hw hh hnum hCp hCw ege hown hr0
    go_enter Try.func125, Try.ntmps125
    go_wp2_with fail
    refine KN.out.mono ?_
    rintro e w1 ⟨rfl, hb⟩
    have k1 : BpKeep w0.heap.size W w1 := BpKeep.of_below hb
    have q1 := blk_cell (blk_below v1 hb) 0
    have q2 := blk_cell (blk_below v2 hb) 0
    have q3 := blk_cell (blk_below v3 hb) 0
    clear egn b1 b2 b3 b4
    have KC := Aside0.mk (slices_Clone_int_int.calls Ap cp p p w1 (Kd.C_below CP.out hb) hcp (by unfold slices_Clone_int_int.f; rw [if_pos (by omega)]))
    by_cases hc : s.count = 0 ∨ own < s.least
    · have hh := HH.out
      rw [if_pos hc] at hh
      obtain rfl := Option.some.inj hh
      have HV := Aside0.mk v4
      have V1 := Aside0.mk (blk_below v1 hb)
      have V2 := Aside0.mk (blk_below v2 hb)
      have V3 := Aside0.mk (blk_below v3 hb)
      have HK := Aside0.mk k1
      have HB1 := Aside0.mk hb
      clear hh HH v1 v2 v3 v4 k1 hb KN HP HW CP
      go_wp2_with fail
      all_goals
        refine KC.out.mono ?_
        rintro e w2 ⟨vb, rfl, HO, hb2⟩
        have V12 := Aside0.mk (blk_below V1.out hb2)
        have V22 := Aside0.mk (blk_below V2.out hb2)
        have V32 := Aside0.mk (blk_below V3.out hb2)
        have HK2 := Aside0.mk (HK.out.below hb2)
        have q1 := blk_cell V12.out 0
        have q2 := blk_cell V22.out 0
        have q3 := blk_cell V32.out 0
        have f1 := blk_frozen V12.out 0
        have f2 := blk_frozen V22.out 0
        have f3 := blk_frozen V32.out 0
        obtain ⟨Ab, cb, rfl⟩ := Kd.R_slice HO
        have HOO := Aside0.mk HO
        clear hb2 HO V1 V2 V3
        go_wp2
        first | go_end0 | ((try simp only [Exit.inBlock, Exit.then]); refine bodyPost_ret (results_none rfl _ _ _) rfl ?_)
        exact ⟨rfl, (((HK2.out.set _ (.inl rfl) 0 _).set _ (.inr (.inl rfl)) 0 _).set _ (.inr (.inr (.inl rfl))) 0 _).set _ (.inr (.inl rfl)) 0 _, _, (BpVar.put3 V12.out V22.out V32.out (Kd.R_lower HOO.out (Nat.le_trans (by omega) HB1.out.size)) own 0).put1 1⟩
    · have hh := HH.out
      rw [if_neg hc] at hh
      have c1 : (s.count == 0) = false := by simp; omega
      have c2 : decide (own < s.least) = false := decide_eq_false (by omega)
      have VV := Aside0.mk (BpVar.below ⟨v1, v2, v3, v4⟩ hb)
      have f2 := blk_frozen (blk_below v2 hb) 0
      have HK := Aside0.mk k1
      clear HH v1 v2 v3 v4 k1 hb KN HP HW CP KC
      by_cases ho : own = s.least
      · rw [if_pos ho] at hh
        obtain rfl := Option.some.inj hh
        have c3 : (own == s.least) = true := by simpa using ho
        clear hh hc
        go_wp2
        first | go_end0 | ((try simp only [Exit.inBlock, Exit.then]); refine bodyPost_ret (results_none rfl _ _ _) rfl ?_)
        exact ⟨rfl, HK.out.set _ (.inr (.inl rfl)) 0 _, _, VV.out.put1 _⟩
      · rw [if_neg ho] at hh
        obtain rfl := Option.some.inj hh
        have c3 : (own == s.least) = false := by simpa using ho
        clear hh hc
        go_wp2
        first | go_end0 | ((try simp only [Exit.inBlock, Exit.then]); refine bodyPost_ret (results_none rfl _ _ _) rfl ?_)
        exact ⟨rfl, HK.out, _, VV.out⟩
  | succ d ih =>
    intro p ws vp vw s s' v W h hlen hws hlo hsz hbox hvar hp hw
    subst hev
    obtain ⟨Ap, cp, rfl, hcp, hCp⟩ := Kd.R_reads hp
    obtain ⟨Aw, cw, rfl, hcw, hCw⟩ := Kd.R_reads hw
    unfold bpGo at h
    obtain ⟨ad, ead, hx0, hx1⟩ := at_T61 (Kd.C_below hr0 hlo) (p.length : Int) (by omega) (by omega)
    have b1 := hbox.list
    have e1 : decide ((p.length : Int) = (l0.length : Int)) = false := decide_eq_false (by omega)
    have HR := Aside0.mk hr0
    have HP := Aside0.mk hp
    have HW := Aside0.mk hw
    have HH := Aside0.mk h
    have HV := Aside0.mk hvar
    have HX := Aside0.mk hbox
    have HLO := Aside0.mk hlo
    have HN := Aside0.mk hnum
    have IH := Aside0.mk ih
    have e2 : wrap64 ((ws.length : Int) + 1) = ((ws.length + 1 : Nat) : Int) := by unfold wrap64; omega
    clear hp hw h hnum hCp hCw hr0 hvar hbox hlo ih
    go_enter Try.func125, Try.ntmps125
    go_wp2_with fail
    generalize hx : (rd_T61 l0 (p.length : Int)).f1 = x at *
    have HX1 := Aside0.mk hx
    clear hx0 hx1 hx b1
    go_loopg [43] (ws.length + 1) (fun gg s43 wr => ∃ (t : Nat) (st : BpSt) (v : Value), s43 = .int .i64 (t : Int) ∧ t + gg = ws.length + 1 ∧ Aside0 (bpLoop (bpGo num l0 bag d) bag x p ws gg t st = some s') ∧ Aside0 (BpKeep w0.heap.size W wr) ∧ Aside0 (BpVar w0.heap.size st v wr))
    case atStart => exact ⟨0, s, v, rfl, by omega, HH, ⟨BpKeep.refl _ _⟩, HV⟩
    case round =>
      obtain ⟨t, st, v', rfl, hg, HL, HK, HVV⟩ := hrel
      by_cases hlt : t < ws.length + 1
      · obtain ⟨m, rfl⟩ : ∃ m, gk = m + 1 := ⟨gk - 1, by omega⟩
        have c1 : decide ((t : Int) < (ws.length : Int) + 1) = true := decide_eq_true (by omega)
        have CW := (Kd.R_reads' (HK.out.row HW.out)).2.2
        have KC := Aside0.mk (slices_Clone_int_int.calls Aw cw ws ws wr CW hcw (by unfold slices_Clone_int_int.f; rw [if_pos (by omega)]))
        clear CW
        go_wp2_with fail
        refine KC.out.mono ?_
        rintro e w1 ⟨vn, rfl, hn, hb1⟩
        have HN1 := Aside0.mk hn
        have HB1 := Aside0.mk hb1
        clear hn hb1 KC
        by_cases hq : t < ws.length
        · have cq : decide ((t : Int) < (ws.length : Int)) = true := decide_eq_true (by omega)
          go_wp2_with (first | ((with_reducible refine gate_builtin (b := .append) (xs := #[.tmp 47, .tmp 48]) rfl ?_); at_builtin; refine Kd.R_append (Kd.int .i64) (w0 := wr) wr.heap.size rfl (.tmp 47) (.tmp 48) 29 3 (.int .i64 0) 8 rfl Try.underlying29 info3 rfl (by decide) (by omega) vn ws 0 [.int .i64 0] (fun _ => True) (fun _ => False) rfl rfl ?aP (fun _ hk => hk.elim) ?aF ?aO ?aB ?aS ?aL ?_; (case aP => exact rfl); (case aF => exact fun _ _ => trivial); (case aO => exact HN1.out); (case aB => exact HB1.out); (case aS => exact HB1.out.size); (case aL => omega); intro v1 w2 ho hb hg hat; obtain ⟨g, cap, rfl, hbg, hgl, cells, hcells⟩ := Kd.R_form ho (by simp); rw [show (ws ++ [(0 : Int)]).length = ws.length + 1 from by simp] at ho ⊢; obtain ⟨i0, hi0, _, _, _⟩ := info_parts info3; have hcut := cut_to (P := Try.prog) 29 3 .i64 Try.underlying29 hi0 (some ⟨g, 0, none⟩) (ws.length + 1) cap (ws.length : Int) (by omega) (by omega) (Kd.R_reads' ho).2.1; rw [Int.toNat_natCast] at hcut; have HT := Kd.R_take (m := ws.length) ho (by simp); rw [List.take_left' rfl] at HT; have HTT := Aside0.mk HT; have hcl := Kd.R_celln 0 HT (t : Int) (by omega) (by omega); rw [Int.toNat_natCast] at hcl; obtain ⟨hcl, hfz⟩ := hcl; have hk2 := (HK.out.below hb); have HKK := Aside0.mk hk2; have HBB := Aside0.mk hb; have bx := (HX.out.keep hk2); have bl := bx.list; have bb := bx.bag; have be := bx.ext; clear bx; obtain ⟨ad2, ead2, _, hx2⟩ := at_T61 (Kd.C_below HR.out (hk2.lo HLO.out hsz)) (p.length : Int) (by omega) (by omega); rw [HX1.out, Int.toNat_natCast, Option.some.inj (ead2.symm.trans ead)] at hx2; clear ead2; clear ho hb hg hat hk2 HT HN1 HB1; have hg1 : w0.heap.size + 7 ≤ g := Nat.le_trans (Nat.le_trans hsz HK.out.size) hbg))
          go_region
          go_wp2_with fail
          have HV3 := HTT.out
          obtain ⟨y, hy⟩ : ∃ y, y = wrap64 (rdOf 0 ws (t : Int) + x) := ⟨_, rfl⟩
          have HT3 : Kd.R (Kd.int .i64) 3 _ _ _ _ _ := Kd.R_drew (Kd.R_putn HTT.out (t : Int) y)
          have HB3 : Below wr.heap.size wr _ := (HBB.out.setCell (p := ⟨g, t, none⟩) hbg (.int .i64 y)).drew
          have hcy : ((w2.setCell ⟨g, t, none⟩ (.int .i64 y)).drew).cell? ⟨g, t, none⟩ = some (.int .i64 y) := World.cell?_setCell_same _ _ _ hcl
          rw [Int.toNat_natCast] at HT3
          rw [← hy]
          generalize (w2.setCell ⟨g, t, none⟩ (.int .i64 y)).drew = w3 at HT3 HB3 hcy ⊢
          have hk3 := HK.out.below HB3
          have bx := HX.out.keep hk3
          have bb3 := bx.bag
          have be3 := bx.ext
          have hNX : bpNext ws t x = ws.set t y := by rw [hy]; exact bpNext_old hq
          have HNX := Aside0.mk hNX
          have hrd : rd (ws.set t y) (t : Int) = y := by simp [rd, List.getD, List.getElem?_set, hq]
          have HRD := Aside0.mk hrd
          have HTA := Aside0.mk HT3
          have HBA := Aside0.mk HB3
          have HKA := Aside0.mk hk3
          have HPA := Aside0.mk (hk3.row HP.out)
          have hL := HL.out
          unfold bpLoop at hL
          rw [hNX, hrd] at hL
          clear HV3 HT3 HB3 bx hk3 hNX hrd HTT HBB bl bb be hcl hfz hx2 hgl hcells HL hy hcut
          by_cases hle : y ≤ bag
          · rw [if_pos hle] at hL
            obtain ⟨s2, hs2, hL2⟩ := Option.bind_eq_some_iff.1 hL
            have HS2 := Aside0.mk hs2
            have HL2 := Aside0.mk hL2
            have c3 : decide (y ≤ bag) = true := decide_eq_true hle
            clear hL hs2 hL2 hle
            go_region
            go_wp2_with fail
            have be4 : w3.drew.drew.cell? ⟨w0.heap.size + 6, 0, none⟩ = _ := be3
            have bs4 : BpKeep w0.heap.size w3 w3.drew.drew := (BpKeep.refl _ _).drew.drew
            clear bb3 be3 hcy
            go_region_held3 (fun W' => W'.cell? ⟨w0.heap.size + 6, 0, none⟩ = some (.func (.func 125) #[] #[.pointer (some ⟨w0.heap.size, 0, none⟩), .pointer (some ⟨w0.heap.size + 2, 0, none⟩), .pointer (some ⟨w0.heap.size + 4, 0, none⟩), .pointer (some ⟨w0.heap.size + 3, 0, none⟩), .pointer (some ⟨w0.heap.size + 5, 0, none⟩), .pointer (some ⟨w0.heap.size + 1, 0, none⟩), .pointer (some ⟨w0.heap.size + 6, 0, none⟩)]) ∧ BpKeep w0.heap.size w3 W') (first | assumption | exact ⟨be4, bs4⟩ | exact bp_S_alloc (by assumption) _ | exact bp_S_below (by assumption) (by assumption) | exact bp_S_from (by assumption) (by assumption) | exact bp_S_keep (by assumption) (by assumption)) (first | (go_at_call 126; refine (slices_Clone_int_int.calls Ap cp p p _ (Kd.R_reads' (BpKeep.row (by first | exact bs4 | exact bs4.alloc _) HPA.out)).2.2 hcp (by unfold slices_Clone_int_int.f; rw [if_pos (by omega)])).mono ?_; rintro e w5 ⟨vc, rfl, hc5, hb5⟩; have hb53 : Below w3.heap.size w3 w5 := (by first | exact bp_then (below_drew (below_drew (Below.refl _ _))) hb5 | exact bp_then (below_alloc (below_drew (below_drew (Below.refl _ _))) _) hb5); have ho5 : Kd.R (Kd.int .i64) 3 w5 w3.heap.size (fun _ => True) vc p := Kd.R_lower hc5 (by first | exact Nat.le_refl _ | exact Nat.le_of_lt (by simp))) | (go_at_call 125; refine (IH.out (p ++ [(t : Int)]) (ws.set t y) v6 _ st s2 v' _ HS2.out (by simp; omega) (by simp; omega) ((BpKeep.of_below hb6).lo (HKA.out.lo HLO.out hsz) (Nat.le_trans (Nat.le_trans hsz HK.out.size) HBA.out.size)) (Nat.le_trans (Nat.le_trans hsz HK.out.size) (Nat.le_trans HBA.out.size hb6.size)) (HX.out.keep (HKA.out.below hb6)) ((HVV.out.below HBA.out).below hb6) (Kd.R_lower ho6 (Nat.le_trans (Nat.le_trans hsz HK.out.size) HBA.out.size)) (BpKeep.row (BpKeep.of_below hb6) (Kd.R_lower HTA.out (Nat.le_trans hsz HK.out.size)))).mono ?_; rintro e w7 ⟨rfl, hk7, vf, hv7⟩) | (refine Kd.R_append_rows_step (Kd.int .i64) (w0 := w3) w3.heap.size (by rfl) (.tmp 77) (.tmp 79) 29 3 (.int .i64 0) 8 rfl Try.underlying29 info3 rfl (by decide) (by omega) vc p [(t : Int)] _ _ _ (fun _ => True) (fun _ => False) rfl rfl ?aO ?aR (fun _ _ h => h) (fun _ h => h.elim) (fun _ _ => trivial) ?aB ?aS ?aL ?_; (case aO => first | exact ho5 | exact Kd.R_alloc ho5 _); (case aR => first | exact lit_C _ _ _ | (have hl5 := Kd.C_below (Kd.C_drew (Kd.C_drew (lit_C _ _ _))) hb5; exact hl5)); (case aB => first | exact hb53 | exact below_alloc hb53 _); (case aS => first | exact hb53.size | exact (below_alloc hb53 _).size); (case aL => omega); intro v6 w6 ho6 hb6 hg6 hat6))
            all_goals
              go_wp2
              go_roundg m
              (case measure => omega)
              (case rel => exact ⟨t + 1, s2, vf, rfl, by omega, HL2, ⟨(HKA.out.below hb6).trans hk7⟩, ⟨hv7⟩⟩)
          · rw [if_neg hle] at hL
            have HL2 := Aside0.mk hL
            have c3 : decide (y ≤ bag) = false := decide_eq_false hle
            clear hL hle
            go_region
            go_wp2
            go_roundg m
            case measure => omega
            case rel => exact ⟨t + 1, st, v', rfl, by omega, HL2, ⟨HKA.out.drew⟩, ⟨(HVV.out.below HBA.out).drew⟩⟩
        · have cq : decide ((t : Int) < (ws.length : Int)) = false := decide_eq_false (by omega)
          obtain rfl : t = ws.length := by omega
          go_wp2_with (first | ((with_reducible refine gate_builtin (b := .append) (xs := #[.tmp 47, .tmp 48]) rfl ?_); at_builtin; refine Kd.R_append (Kd.int .i64) (w0 := wr) wr.heap.size rfl (.tmp 47) (.tmp 48) 29 3 (.int .i64 0) 8 rfl Try.underlying29 info3 rfl (by decide) (by omega) vn ws 0 [.int .i64 0] (fun _ => True) (fun _ => False) rfl rfl ?aP (fun _ hk => hk.elim) ?aF ?aO ?aB ?aS ?aL ?_; (case aP => exact rfl); (case aF => exact fun _ _ => trivial); (case aO => exact HN1.out); (case aB => exact HB1.out); (case aS => exact HB1.out.size); (case aL => omega); intro v1 w2 ho hb hg hat; obtain ⟨g, cap, rfl, hbg, hgl, cells, hcells⟩ := Kd.R_form ho (by simp); rw [show (ws ++ [(0 : Int)]).length = ws.length + 1 from by simp] at ho ⊢; have HT := ho; have HTT := Aside0.mk HT; have hcl := Kd.R_celln 0 HT (ws.length : Int) (by omega) (by omega); rw [Int.toNat_natCast] at hcl; obtain ⟨hcl, hfz⟩ := hcl; have hk2 := (HK.out.below hb); have HKK := Aside0.mk hk2; have HBB := Aside0.mk hb; have bx := (HX.out.keep hk2); have bl := bx.list; have bb := bx.bag; have be := bx.ext; clear bx; obtain ⟨ad2, ead2, _, hx2⟩ := at_T61 (Kd.C_below HR.out (hk2.lo HLO.out hsz)) (p.length : Int) (by omega) (by omega); rw [HX1.out, Int.toNat_natCast, Option.some.inj (ead2.symm.trans ead)] at hx2; clear ead2; clear ho hb hg hat hk2 HT HN1 HB1; have hg1 : w0.heap.size + 7 ≤ g := Nat.le_trans (Nat.le_trans hsz HK.out.size) hbg))
          go_region
          go_wp2_with fail
          have HV3 := HTT.out
          obtain ⟨y, hy⟩ : ∃ y, y = wrap64 (rdOf 0 (ws ++ [0]) (ws.length : Int) + x) := ⟨_, rfl⟩
          have HT3 : Kd.R (Kd.int .i64) 3 _ _ _ _ _ := Kd.R_drew (Kd.R_putn HTT.out (ws.length : Int) y)
          have HB3 : Below wr.heap.size wr _ := (HBB.out.setCell (p := ⟨g, ws.length, none⟩) hbg (.int .i64 y)).drew
          have hcy : ((w2.setCell ⟨g, ws.length, none⟩ (.int .i64 y)).drew).cell? ⟨g, ws.length, none⟩ = some (.int .i64 y) := World.cell?_setCell_same _ _ _ hcl
          rw [Int.toNat_natCast] at HT3
          rw [← hy]
          generalize (w2.setCell ⟨g, ws.length, none⟩ (.int .i64 y)).drew = w3 at HT3 HB3 hcy ⊢
          have hk3 := HK.out.below HB3
          have bx := HX.out.keep hk3
          have bb3 := bx.bag
          have be3 := bx.ext
          have hNX : bpNext ws ws.length x = (ws ++ [0]).set ws.length y := by rw [hy]; exact bpNext_new ws x
          have HNX := Aside0.mk hNX
          have hrd : rd ((ws ++ [0]).set ws.length y) (ws.length : Int) = y := by simp [rd, List.getD, List.getElem?_set]
          have HRD := Aside0.mk hrd
          have HTA := Aside0.mk HT3
          have HBA := Aside0.mk HB3
          have HKA := Aside0.mk hk3
          have HPA := Aside0.mk (hk3.row HP.out)
          have hL := HL.out
          unfold bpLoop at hL
          rw [hNX, hrd] at hL
          clear HV3 HT3 HB3 bx hk3 hNX hrd HTT HBB bl bb be hcl hfz hx2 hgl hcells HL hy
          by_cases hle : y ≤ bag
          · rw [if_pos hle] at hL
            obtain ⟨s2, hs2, hL2⟩ := Option.bind_eq_some_iff.1 hL
            have HS2 := Aside0.mk hs2
            have HL2 := Aside0.mk hL2
            have c3 : decide (y ≤ bag) = true := decide_eq_true hle
            clear hL hs2 hL2 hle
            go_region
            go_wp2_with fail
            have be4 : w3.drew.drew.cell? ⟨w0.heap.size + 6, 0, none⟩ = _ := be3
            have bs4 : BpKeep w0.heap.size w3 w3.drew.drew := (BpKeep.refl _ _).drew.drew
            clear bb3 be3 hcy
            go_region_held3 (fun W' => W'.cell? ⟨w0.heap.size + 6, 0, none⟩ = some (.func (.func 125) #[] #[.pointer (some ⟨w0.heap.size, 0, none⟩), .pointer (some ⟨w0.heap.size + 2, 0, none⟩), .pointer (some ⟨w0.heap.size + 4, 0, none⟩), .pointer (some ⟨w0.heap.size + 3, 0, none⟩), .pointer (some ⟨w0.heap.size + 5, 0, none⟩), .pointer (some ⟨w0.heap.size + 1, 0, none⟩), .pointer (some ⟨w0.heap.size + 6, 0, none⟩)]) ∧ BpKeep w0.heap.size w3 W') (first | assumption | exact ⟨be4, bs4⟩ | exact bp_S_alloc (by assumption) _ | exact bp_S_below (by assumption) (by assumption) | exact bp_S_from (by assumption) (by assumption) | exact bp_S_keep (by assumption) (by assumption)) (first | (go_at_call 126; refine (slices_Clone_int_int.calls Ap cp p p _ (Kd.R_reads' (BpKeep.row (by first | exact bs4 | exact bs4.alloc _) HPA.out)).2.2 hcp (by unfold slices_Clone_int_int.f; rw [if_pos (by omega)])).mono ?_; rintro e w5 ⟨vc, rfl, hc5, hb5⟩; have hb53 : Below w3.heap.size w3 w5 := (by first | exact bp_then (below_drew (below_drew (Below.refl _ _))) hb5 | exact bp_then (below_alloc (below_drew (below_drew (Below.refl _ _))) _) hb5); have ho5 : Kd.R (Kd.int .i64) 3 w5 w3.heap.size (fun _ => True) vc p := Kd.R_lower hc5 (by first | exact Nat.le_refl _ | exact Nat.le_of_lt (by simp))) | (go_at_call 125; refine (IH.out (p ++ [(ws.length : Int)]) ((ws ++ [0]).set ws.length y) v6 _ st s2 v' _ HS2.out (by simp; omega) (by simp; omega) ((BpKeep.of_below hb6).lo (HKA.out.lo HLO.out hsz) (Nat.le_trans (Nat.le_trans hsz HK.out.size) HBA.out.size)) (Nat.le_trans (Nat.le_trans hsz HK.out.size) (Nat.le_trans HBA.out.size hb6.size)) (HX.out.keep (HKA.out.below hb6)) ((HVV.out.below HBA.out).below hb6) (Kd.R_lower ho6 (Nat.le_trans (Nat.le_trans hsz HK.out.size) HBA.out.size)) (BpKeep.row (BpKeep.of_below hb6) (Kd.R_lower HTA.out (Nat.le_trans hsz HK.out.size)))).mono ?_; rintro e w7 ⟨rfl, hk7, vf, hv7⟩) | (refine Kd.R_append_rows_step (Kd.int .i64) (w0 := w3) w3.heap.size (by rfl) (.tmp 77) (.tmp 79) 29 3 (.int .i64 0) 8 rfl Try.underlying29 info3 rfl (by decide) (by omega) vc p [(ws.length : Int)] _ _ _ (fun _ => True) (fun _ => False) rfl rfl ?aO ?aR (fun _ _ h => h) (fun _ h => h.elim) (fun _ _ => trivial) ?aB ?aS ?aL ?_; (case aO => first | exact ho5 | exact Kd.R_alloc ho5 _); (case aR => first | exact lit_C _ _ _ | (have hl5 := Kd.C_below (Kd.C_drew (Kd.C_drew (lit_C _ _ _))) hb5; exact hl5)); (case aB => first | exact hb53 | exact below_alloc hb53 _); (case aS => first | exact hb53.size | exact (below_alloc hb53 _).size); (case aL => omega); intro v6 w6 ho6 hb6 hg6 hat6))
            all_goals
              go_wp2
              go_roundg m
              (case measure => omega)
              (case rel => exact ⟨ws.length + 1, s2, vf, rfl, by omega, HL2, ⟨(HKA.out.below hb6).trans hk7⟩, ⟨hv7⟩⟩)
          · rw [if_neg hle] at hL
            have HL2 := Aside0.mk hL
            have c3 : decide (y ≤ bag) = false := decide_eq_false hle
            clear hL hle
            go_region
            go_wp2
            go_roundg m
            case measure => omega
            case rel => exact ⟨ws.length + 1, st, v', rfl, by omega, HL2, ⟨HKA.out.drew⟩, ⟨(HVV.out.below HBA.out).drew⟩⟩
      · obtain rfl : gk = 0 := by omega
        have c1 : decide ((t : Int) < (ws.length : Int) + 1) = false := decide_eq_false (by omega)
        have hL := HL.out
        unfold bpLoop at hL
        obtain rfl := Option.some.inj hL
        clear hL HL HH
        go_wp2
        first | go_end0 | ((try simp only [Exit.inBlock, Exit.then]); refine bodyPost_ret (results_none rfl _ _ _) rfl ?_)
        exact ⟨rfl, HK.out, _, HVV.out⟩
end Go.Proofs.Ytagbpiofphgjlaa.G

/- Texts of this seat's proofs: contracts of its functions and plain laws about them, with no condition beyond those that each theorem states. -/
import Derived.Test.YtlbodfogdhjnlaaDoorQc937ef7a
import Derived.Test.YtlbodfogdhjnlaaDoorQa2706829
import Derived.Test.YtlbodfogdhjnlaaDoorQ72a9ef9a
import Derived.Test.YtlbodfogdhjnlaaDoorQ82a55348
import Derived.Test.YtlbodfogdhjnlaaDoorQa6c8ea9e
import Derived.Test.YtlbodfogdhjnlaaDoorQbb6913b1
set_option linter.unusedSimpArgs false
namespace Go.Proofs.YtlbodfogdhjnlaaDoor.Tx
open Go.RowKit Go.Proofs.YtlbodfogdhjnlaaDoor.G Go.Proofs.YtlbodfogdhjnlaaDoor.Pz Go.Proofs.YtlbodfogdhjnlaaDoorW.PrintWords Go.Proofs.YtlbodfogdhjnlaaDoorW.PrintLast Go.Proofs.YtlbodfogdhjnlaaDoorW.PrintMore
def qc (p : S54) : List UInt8 := dg p.f0.toNat ++ [46] ++ dg p.f1.toNat ++ [46] ++ dg p.f2.toNat
theorem qc_join (p : S54) : Lib.join ([p.f0.toNat, p.f1.toNat, p.f2.toNat].map dg) [46] = qc p := by
  rw [List.map_cons, Lib.join_cons]
  simp [Lib.joinTail, qc]
def okQ (p : S54) : Prop := 0 ≤ p.f0 ∧ p.f0 ≤ 5 ∧ 0 ≤ p.f1 ∧ p.f1 ≤ 40 ∧ 0 ≤ p.f2 ∧ p.f2 ≤ 40
theorem clueB_n {k a b : Int} (h : clueB k a b = true) : 0 ≤ k ∧ k ≤ 5 ∧ 0 ≤ a ∧ a ≤ 40 ∧ 0 ≤ b ∧ b ≤ 40 := by
  unfold clueB inB at h
  repeat' split at h
  all_goals (simp at h <;> omega)
theorem okQ_n {l : List S54} (h : l.all okC = true) : ∀ p ∈ l, okQ p := by
  intro p hp
  have := List.all_eq_true.1 h p hp
  exact clueB_n this
theorem qc_len {p : S54} (h : okQ p) : (qc p).length ≤ 200 := by
  obtain ⟨a, b, c, d, e, f⟩ := h
  have h1 := dg_len p.f0.toNat
  have h2 := dg_len p.f1.toNat
  have h3 := dg_len p.f2.toNat
  unfold qc
  simp
  omega
theorem numsQ {p : S54} (h : okQ p) : ([p.f0, p.f1, p.f2] : List Int) = [p.f0.toNat, p.f1.toNat, p.f2.toNat].map fun n : Nat => (n : Int) := by
  obtain ⟨a, b, c, d, e, f⟩ := h
  simp
  omega
theorem partsQ_len {l : List S54} (h : ∀ p ∈ l, okQ p) (hl : l.length ≤ 6) : (Lib.join (l.map qc) [44]).length ≤ 1206 := by
  have := join_len (l.map qc) [44] 200 (fun x hx => by
    obtain ⟨p, hp, rfl⟩ := List.mem_map.1 hx
    exact qc_len (h p hp))
  have h2 : ([44].length + 200 : Nat) * (l.map qc).length ≤ 201 * 6 := Nat.mul_le_mul (by simp) (by simpa using hl)
  omega
def lt1 (a : Int) : List UInt8 := if a = 0 then [114] else if a = 1 then [111] else [117]
theorem lt1_len (a : Int) : (lt1 a).length = 1 := by
  unfold lt1
  split
  · rfl
  · split <;> rfl
def st (a b : Int) : List UInt8 := lt1 a ++ dg b.toNat
theorem st_len {a b : Int} (h : Pz.hid a b = true) : (st a b).length ≤ 22 := by
  obtain ⟨_, h1, h2⟩ := hid_facts h
  have := dg_len b.toNat
  unfold st
  rw [List.length_append]
  have e := lt1_len a
  omega
theorem letter {a : Int} (h : a = 0 ∨ a = 1 ∨ a = 2) : (⟨#[114, 111, 117]⟩ : ByteArray).extract (a : Int).toNat ((wrap64 (a + 1)) : Int).toNat = bs (lt1 a) := by
  rcases h with rfl | rfl | rfl
  · decide +kernel
  · decide +kernel
  · decide +kernel
theorem nuText_val {a b : Int} (h : Pz.hid a b = true) (k : Nat) (hk : 21 < k) : spec_nuText.f k a b = some (bs (st a b)) := by
  obtain ⟨h0, h1, h2⟩ := hid_facts h
  have hn := l1Num_val b.toNat k (by omega) (by omega)
  rw [Int.toNat_of_nonneg (by omega)] at hn
  have hl := dg_len b.toNat
  unfold spec_nuText.f
  rw [if_pos (by omega), if_pos (by rw [Pz.w64 (by omega) (by omega)]; omega), if_pos (by rw [Pz.w64 (by omega) (by omega)]; omega), hn, Option.bind_some, letter h0, bs_append, if_pos (by rw [bs_size, bs_size]; have e := lt1_len a; omega)]
  rfl
theorem street_of {a b : Int} (h : Pz.hid a b = true) : street a b = true := by
  unfold Pz.hid at h
  simp at h
  exact h.1
theorem streetText_val {a b : Int} (h : Pz.hid a b = true) : impl_StreetText.f a b = some (bs (st a b), true) := by
  obtain ⟨h0, h1, h2⟩ := hid_facts h
  have hn := itoa_val b.toNat (by omega)
  rw [Int.toNat_of_nonneg (by omega)] at hn
  have hl := dg_len b.toNat
  unfold impl_StreetText.f
  rw [isStreet_val, street_of h, Option.bind_some, if_pos rfl, if_pos (by omega), if_pos (by rw [Pz.w64 (by omega) (by omega)]; omega), if_pos (by rw [Pz.w64 (by omega) (by omega)]; omega), hn, Option.bind_some, letter h0, bs_append, if_pos (by rw [bs_size, bs_size]; have e := lt1_len a; omega)]
  rfl
def pt (a b : Int) (l : List S54) : List UInt8 := st a b ++ [59] ++ Lib.join (l.map qc) [44]
theorem implPuzzle_l0 (a b : Int) (l : List S54) (g : Pz.hid a b = true) (h : ∀ p ∈ l, okQ p) (hl : l.length ≤ 6) : ∀ (d i k : Nat), i + d = l.length → d + 9 < k →
    impl_puzzleText.l0 k ((l.take i).map (fun p => bs (qc p)) ++ List.replicate d (bs [])) l (l.length : Int) (i : Int) a b l = some (bs (pt a b l)) := by
  intro d
  induction d with
  | zero =>
    intro i k hi hk
    obtain ⟨k, rfl⟩ : ∃ m, k = m + 1 := ⟨k - 1, by omega⟩
    simp only [impl_puzzleText.l0]
    have hp := partsQ_len h hl
    have hs := st_len g
    have hv := join_val (l.map qc) [44] (by omega) (by simp; omega)
    rw [List.map_map] at hv
    rw [if_neg (by omega), List.take_of_length_le (by omega), List.replicate_zero, List.append_nil, streetText_val g, Option.bind_some]
    have b44 : (⟨#[44]⟩ : ByteArray) = bs [44] := rfl
    have b59 : (⟨#[59]⟩ : ByteArray) = bs [59] := rfl
    rw [show (fun p => bs (qc p)) = bs ∘ qc from rfl, b44, b59, hv, Option.bind_some]
    simp only [bs_append, bs_size]
    rw [if_pos (by omega), if_pos (by simp only [List.length_append, List.length_cons, List.length_nil]; omega)]
    rfl
  | succ d ih =>
    intro i k hi hk
    obtain ⟨k, rfl⟩ : ∃ m, k = m + 1 := ⟨k - 1, by omega⟩
    simp only [impl_puzzleText.l0]
    have hx : l[i]? = some l[i] := List.getElem?_eq_getElem (by omega)
    have hrd : rd_T54 l (i : Int) = l[i] := by simp [rd_T54, List.getD, hx]
    have hok := h l[i] (List.getElem_mem (by omega))
    have hj := joinNumbers_val [l[i].f0.toNat, l[i].f1.toNat, l[i].f2.toNat] [46] (by simp) (fun x hx => by
      obtain ⟨a, b, c, d, e, f⟩ := hok
      simp at hx
      omega) (by simp) k (by simp; omega)
    rw [qc_join, ← numsQ hok] at hj
    rw [if_pos (by omega), if_pos (by omega), if_pos (by omega), hrd, show (⟨#[46]⟩ : ByteArray) = bs [46] from rfl, hj, Option.bind_some, if_pos (by simp; omega), Pz.w64 (by omega) (by omega), show ((i : Int) + 1) = ((i + 1 : Nat) : Int) by omega, ← ih (i + 1) k (by omega) (by omega)]
    congr 1
    rw [Int.toNat_natCast, List.set_append_right _ _ (by simp; omega), List.take_succ_eq_append_getElem (by omega), List.map_append, List.append_assoc]
    congr 1
    rw [show i - ((List.take i l).map fun p => bs (qc p)).length = 0 by simp; omega]
    rfl
theorem specPuzzle_l0 (l : List S54) (s : List UInt8) (hs : s.length ≤ 100) (h : ∀ p ∈ l, okQ p) (hl : l.length ≤ 6) : ∀ (d i k : Nat), i + d = l.length → d + 100 < k →
    spec_pzText.l0 k (bs (s ++ Lib.join ((l.take i).map qc) [44])) l (l.length : Int) (i : Int) = some (bs (s ++ Lib.join (l.map qc) [44])) := by
  intro d
  induction d with
  | zero =>
    intro i k hi hk
    obtain ⟨k, rfl⟩ : ∃ m, k = m + 1 := ⟨k - 1, by omega⟩
    simp only [spec_pzText.l0]
    rw [if_neg (by omega), List.take_of_length_le (by omega)]
  | succ d ih =>
    intro i k hi hk
    obtain ⟨k, rfl⟩ : ∃ m, k = m + 1 := ⟨k - 1, by omega⟩
    simp only [spec_pzText.l0]
    have hx : l[i]? = some l[i] := List.getElem?_eq_getElem (by omega)
    have hrd : rd_T54 l (i : Int) = l[i] := by simp [rd_T54, List.getD, hx]
    have hok := h l[i] (List.getElem_mem (by omega))
    obtain ⟨o1, o2, o3, o4, o5, o6⟩ := hok
    have v1 := l1Num_val l[i].f0.toNat k (by omega) (by omega)
    have v2 := l1Num_val l[i].f1.toNat k (by omega) (by omega)
    have v3 := l1Num_val l[i].f2.toNat k (by omega) (by omega)
    rw [Int.toNat_of_nonneg (by omega)] at v1 v2 v3
    have n1 := dg_len l[i].f0.toNat
    have n2 := dg_len l[i].f1.toNat
    have n3 := dg_len l[i].f2.toNat
    have hpre := partsQ_len (l := l.take i) (fun p hp => h p (List.mem_of_mem_take hp)) (by simp; omega)
    have hr := ih (i + 1) k (by omega) (by omega)
    have htk : (l.take (i + 1)).map qc = (l.take i).map qc ++ [qc l[i]] := by rw [List.take_succ_eq_append_getElem (by omega), List.map_append]; rfl
    have b46 : (⟨#[46]⟩ : ByteArray) = bs [46] := rfl
    have b44 : (⟨#[44]⟩ : ByteArray) = bs [44] := rfl
    rw [if_pos (by omega), if_pos (by omega), if_pos (by omega), hrd, v1, v2, v3]
    simp only [Option.bind_some, b46, b44, bs_append, bs_size]
    rw [Pz.w64 (by omega) (by omega), show ((i : Int) + 1) = ((i + 1 : Nat) : Int) by omega]
    by_cases h0 : i = 0
    · subst h0
      rw [if_neg (by simp)]
      rw [htk] at hr
      simp only [List.take_zero, List.map_nil, List.nil_append, Lib.join_nil, Lib.join_one, List.append_nil] at hr ⊢
      rw [if_pos (by omega), if_pos (by (try simp only [List.length_append, List.length_cons, List.length_nil]); omega), if_pos (by (try simp only [List.length_append, List.length_cons, List.length_nil]); omega), if_pos (by (try simp only [List.length_append, List.length_cons, List.length_nil]); omega), if_pos (by (try simp only [List.length_append, List.length_cons, List.length_nil]); omega)]
      exact hr
    · rw [htk, join_snoc _ _ _ (by intro e; have := congrArg List.length e; rw [List.length_map, List.length_take, List.length_nil] at this; omega)] at hr
      rw [if_pos (by omega), if_pos (by (try simp only [List.length_append, List.length_cons, List.length_nil]); omega), if_pos (by (try simp only [List.length_append, List.length_cons, List.length_nil]); omega), if_pos (by (try simp only [List.length_append, List.length_cons, List.length_nil]); omega), if_pos (by (try simp only [List.length_append, List.length_cons, List.length_nil]); omega), if_pos (by (try simp only [List.length_append, List.length_cons, List.length_nil]); omega), if_pos (by (try simp only [List.length_append, List.length_cons, List.length_nil]); omega)]
      rw [← hr]
      congr 2
      simp only [List.append_assoc, qc]
theorem puzzleText_k {a b : Int} {l : List S54} (h : good a b l = true) (k : Nat) (hk : 3000 ≤ k) : impl_puzzleText.f k a b l = some (bs (pt a b l)) := by
  obtain ⟨g1, g2, g3⟩ := good_facts h
  have := implPuzzle_l0 a b l g1 (okQ_n g3) g2 l.length 0 k (by omega) (by omega)
  unfold impl_puzzleText.f
  rw [if_pos (by omega), if_pos (by simp; omega)]
  simp only [List.take_zero, List.map_nil, List.nil_append] at this
  have e : (⟨#[]⟩ : ByteArray) = bs [] := rfl
  rw [e, show (0 : Int) = ((0 : Nat) : Int) from rfl]
  simpa using this
theorem pzText_k {a b : Int} {l : List S54} (h : good a b l = true) (k : Nat) (hk : 3000 ≤ k) : spec_pzText.f k a b l = some (bs (pt a b l)) := by
  obtain ⟨g1, g2, g3⟩ := good_facts h
  have hs := st_len g1
  have := specPuzzle_l0 l (st a b ++ [59]) (by simp; omega) (okQ_n g3) g2 l.length 0 k (by omega) (by omega)
  unfold spec_pzText.f
  have e : (⟨#[59]⟩ : ByteArray) = bs [59] := rfl
  rw [nuText_val g1 k (by omega), Option.bind_some, if_pos (by rw [bs_size]; omega), e, bs_append]
  simp only [List.take_zero, List.map_nil, Lib.join_nil, List.append_nil] at this
  rw [show (0 : Int) = ((0 : Nat) : Int) from rfl, this]
  rfl
end Go.Proofs.YtlbodfogdhjnlaaDoor.Tx

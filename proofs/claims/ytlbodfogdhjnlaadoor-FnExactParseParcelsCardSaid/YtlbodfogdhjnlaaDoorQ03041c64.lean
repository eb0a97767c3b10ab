/- Texts of this seat's proofs: contracts of its functions and plain laws about them, with no condition beyond those that each theorem states. -/
import Derived.Test.YtlbodfogdhjnlaaDoorQe79a5a28
import Derived.Test.YtlbodfogdhjnlaaDoorQ379217bb
import Derived.Test.YtlbodfogdhjnlaaDoorQ0816652c
set_option linter.unusedSimpArgs false
namespace Go.Proofs.YtlbodfogdhjnlaaDoor.Tx
open Go.RowKit Go.Proofs.YtlbodfogdhjnlaaDoor.G Go.Proofs.YtlbodfogdhjnlaaDoor.Bg Go.Proofs.YtlbodfogdhjnlaaDoorW.PrintWords Go.Proofs.YtlbodfogdhjnlaaDoorW.PrintLast Go.Proofs.YtlbodfogdhjnlaaDoorW.PrintMore
def pc (p : S41) : List UInt8 := dg p.f0.toNat ++ [42] ++ dg p.f1.toNat
def okN (p : S41) : Prop := 1 ≤ p.f0 ∧ p.f0 ≤ 100 ∧ 1 ≤ p.f1 ∧ p.f1 ≤ 1000
theorem okP_n {l : List S41} (h : okP l = true) : ∀ p ∈ l, okN p := by
  intro p hp
  unfold okP at h
  simp only [Bool.and_eq_true, List.all_eq_true] at h
  have := h.2 p hp
  unfold parcOk at this
  simp only [Bool.and_eq_true, decide_eq_true_eq] at this
  exact ⟨by omega, by omega, by omega, by omega⟩
theorem pc_len {p : S41} (h : okN p) : (pc p).length ≤ 2003 := by
  obtain ⟨a, b, c, d⟩ := h
  have h1 := dg_len p.f0.toNat
  have h2 := dg_len p.f1.toNat
  unfold pc
  simp
  omega
theorem parts_len {l : List S41} (h : ∀ p ∈ l, okN p) (hl : l.length ≤ 8) : (Lib.join (l.map pc) [44]).length ≤ 16032 := by
  have := join_len (l.map pc) [44] 2003 (fun x hx => by
    obtain ⟨p, hp, rfl⟩ := List.mem_map.1 hx
    exact pc_len (h p hp))
  have h2 : ([44].length + 2003 : Nat) * (l.map pc).length ≤ 2004 * 8 := Nat.mul_le_mul (by simp) (by simpa using hl)
  omega
theorem specText_l0 (l : List S41) (h : ∀ p ∈ l, okN p) (hl : l.length ≤ 8) : ∀ (d i k : Nat), i + d = l.length → d + 2000 < k →
    spec_bgText.l0 k (bs (Lib.join ((l.take i).map pc) [44])) l (l.length : Int) (i : Int) = some (bs (Lib.join (l.map pc) [44])) := by
  intro d
  induction d with
  | zero =>
    intro i k hi hk
    obtain ⟨k, rfl⟩ : ∃ m, k = m + 1 := ⟨k - 1, by omega⟩
    simp only [spec_bgText.l0]
    rw [if_neg (by omega), List.take_of_length_le (by omega)]
  | succ d ih =>
    intro i k hi hk
    obtain ⟨k, rfl⟩ : ∃ m, k = m + 1 := ⟨k - 1, by omega⟩
    simp only [spec_bgText.l0]
    have hx : l[i]? = some l[i] := List.getElem?_eq_getElem (by omega)
    have hrd : rd_T41 l (i : Int) = l[i] := by simp [rd_T41, List.getD, hx]
    have hok := h l[i] (List.getElem_mem (by omega))
    obtain ⟨o1, o2, o3, o4⟩ := hok
    have v1 := l1Num_val l[i].f0.toNat k (by omega) (by omega)
    have v2 := l1Num_val l[i].f1.toNat k (by omega) (by omega)
    rw [Int.toNat_of_nonneg (by omega)] at v1 v2
    have n1 := dg_len l[i].f0.toNat
    have n2 := dg_len l[i].f1.toNat
    have hpre := parts_len (l := l.take i) (fun p hp => h p (List.mem_of_mem_take hp)) (by simp; omega)
    have hr := ih (i + 1) k (by omega) (by omega)
    have htk : (l.take (i + 1)).map pc = (l.take i).map pc ++ [pc l[i]] := by rw [List.take_succ_eq_append_getElem (by omega), List.map_append]; rfl
    have b42 : (⟨#[42]⟩ : ByteArray) = bs [42] := rfl
    have b44 : (⟨#[44]⟩ : ByteArray) = bs [44] := rfl
    rw [if_pos (by omega), if_pos (by omega), if_pos (by omega), hrd, v1, v2]
    simp only [Option.bind_some, b42, b44, bs_append, bs_size]
    rw [w64 (by omega) (by omega), show ((i : Int) + 1) = ((i + 1 : Nat) : Int) by omega]
    by_cases h0 : i = 0
    · subst h0
      rw [if_neg (by simp)]
      rw [htk] at hr
      simp only [List.take_zero, List.map_nil, List.nil_append, Lib.join_nil, Lib.join_one] at hr ⊢
      rw [if_pos (by (try simp only [List.length_append, List.length_cons, List.length_nil]); omega), if_pos (by (try simp only [List.length_append, List.length_cons, List.length_nil]); omega), if_pos (by (try simp only [List.length_append, List.length_cons, List.length_nil]); omega)]
      exact hr
    · rw [htk, join_snoc _ _ _ (by intro e; have := congrArg List.length e; rw [List.length_map, List.length_take, List.length_nil] at this; omega)] at hr
      rw [if_pos (by omega), if_pos (by (try simp only [List.length_append, List.length_cons, List.length_nil]); omega), if_pos (by (try simp only [List.length_append, List.length_cons, List.length_nil]); omega), if_pos (by (try simp only [List.length_append, List.length_cons, List.length_nil]); omega), if_pos (by (try simp only [List.length_append, List.length_cons, List.length_nil]); omega)]
      exact hr
end Go.Proofs.YtlbodfogdhjnlaaDoor.Tx

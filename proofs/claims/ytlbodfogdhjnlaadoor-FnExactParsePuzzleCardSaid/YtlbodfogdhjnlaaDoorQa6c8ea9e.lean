/- Texts of this seat's proofs: contracts of its functions and plain laws about them, with no condition beyond those that each theorem states. -/
import Derived.Lib.ItoaNum
import Derived.Lib.Join
import Derived.Test.YtlbodfogdhjnlaaDoorQ5473245a
import Derived.Test.YtlbodfogdhjnlaaDoorQ2d0da28a
import Derived.Test.YtlbodfogdhjnlaaDoorQ9420aada
import Derived.Test.YtlbodfogdhjnlaaDoorQ82a55348
set_option linter.unusedSimpArgs false
namespace Go.Proofs.YtlbodfogdhjnlaaDoor.Tx
open Go.RowKit Go.Proofs.YtlbodfogdhjnlaaDoor.G Go.Proofs.YtlbodfogdhjnlaaDoorW.PrintWords Go.Proofs.YtlbodfogdhjnlaaDoorW.PrintLast Go.Proofs.YtlbodfogdhjnlaaDoorW.PrintMore
theorem w64 {x : Int} (h0 : -9223372036854775808 ≤ x) (h1 : x ≤ 9223372036854775807) : wrap64 x = x := by unfold wrap64; omega
def bs (l : List UInt8) : ByteArray := ⟨l.toArray⟩
theorem bs_size (l : List UInt8) : (bs l).size = l.length := by simp [bs, ByteArray.size]
theorem bs_append (a b : List UInt8) : bs a ++ bs b = bs (a ++ b) := by
  apply ByteArray.ext
  simp [bs]
theorem bs_list (l : List UInt8) : (bs l).data.toList = l := by simp [bs]
def dg (n : Nat) : List UInt8 := Lib.decDigits n
theorem dg_small {n : Nat} (h : n < 10) : dg n = [UInt8.ofNat (48 + n)] := by
  unfold dg
  rw [Lib.decDigits, dif_pos h]
theorem dg_big {n : Nat} (h : ¬ n < 10) : dg n = dg (n / 10) ++ [UInt8.ofNat (48 + n % 10)] := by
  unfold dg
  rw [Lib.decDigits, dif_neg h]
theorem dg_len (n : Nat) : (dg n).length ≤ n + 1 := by
  induction n using Nat.strongRecOn with
  | _ n ih =>
    by_cases h : n < 10
    · rw [dg_small h]
      simp
    · rw [dg_big h, List.length_append]
      have := ih (n / 10) (by omega)
      simp
      omega
theorem str_one (x : Nat) (_ : x < 256) : strOfNums [(x : Int)] = bs [UInt8.ofNat x] := by
  simp [strOfNums, bs]
theorem l1Num_val (n : Nat) : ∀ (k : Nat), n < 1000000000 → n < k → spec_l1Num.f k (n : Int) = some (bs (dg n)) := by
  induction n using Nat.strongRecOn with
  | _ n ih =>
    intro k hn hk
    obtain ⟨k, rfl⟩ : ∃ m, k = m + 1 := ⟨k - 1, by omega⟩
    simp only [spec_l1Num.f]
    by_cases h : n < 10
    · rw [if_pos (by omega), w64 (by omega) (by omega), dg_small h]
      rw [show (48 + (n : Int)) % 256 = ((48 + n : Nat) : Int) by omega, str_one _ (by omega)]
    · rw [if_neg (by omega), dg_big h]
      have e1 : Int.tdiv (n : Int) 10 = ((n / 10 : Nat) : Int) := by rw [Int.tdiv_eq_ediv_of_nonneg (by omega)]; omega
      have e2 : Int.tmod (n : Int) 10 = ((n % 10 : Nat) : Int) := by rw [Int.tmod_eq_emod_of_nonneg (by omega)]; omega
      have hd := dg_len (n / 10)
      rw [e1, w64 (by omega) (by omega), ih (n / 10) (by omega) k (by omega) (by omega), Option.bind_some, e2, w64 (by omega) (by omega), show (48 + ((n % 10 : Nat) : Int)) % 256 = ((48 + n % 10 : Nat) : Int) by omega, Option.bind_some, str_one _ (by omega), if_pos (by rw [bs_size, bs_size]; simp; omega), bs_append]
theorem itoa_val (n : Nat) (hn : n < 1000000000) : strconv_Itoa.f (n : Int) = some (bs (dg n)) := by
  unfold strconv_Itoa.f
  rw [if_pos (by omega), if_pos (by omega)]
  have : Lib.itoa (n : Int) = dg n := by
    unfold Lib.itoa dg
    rw [if_neg (by omega)]
    rfl
  rw [this]
  rfl
theorem join_snoc (xs : List (List UInt8)) (y sep : List UInt8) (h : xs ≠ []) : Lib.join (xs ++ [y]) sep = Lib.join xs sep ++ sep ++ y := by
  cases xs with
  | nil => exact absurd rfl h
  | cons x r =>
    rw [List.cons_append, Lib.join_cons, Lib.join_cons]
    simp [Lib.joinTail]
theorem lens_le (xs : List (List UInt8)) (m : Nat) (h : ∀ x ∈ xs, x.length ≤ m) : Lib.lens xs ≤ m * xs.length := by
  induction xs with
  | nil => simp [Lib.lens]
  | cons x r ih =>
    have h1 := h x (List.mem_cons_self)
    have h2 := ih (fun y hy => h y (List.mem_cons_of_mem _ hy))
    have e : Lib.lens (x :: r) = x.length + Lib.lens r := by simp [Lib.lens]
    rw [e, List.length_cons, Nat.mul_succ]
    omega
theorem join_len (xs : List (List UInt8)) (sep : List UInt8) (m : Nat) (h : ∀ x ∈ xs, x.length ≤ m) : (Lib.join xs sep).length ≤ (sep.length + m) * xs.length := by
  cases xs with
  | nil => simp [Lib.join_nil]
  | cons x r =>
    rw [Lib.join_length]
    have := lens_le (x :: r) m h
    rw [Nat.add_mul]
    have h2 : sep.length * r.length ≤ sep.length * (x :: r).length := Nat.mul_le_mul_left _ (by simp)
    omega
theorem join_val (xs : List (List UInt8)) (sep : List UInt8) (h1 : (Lib.join xs sep).length ≤ 140737488355328) (h2 : xs.length ≤ 140737488355328) : strings_Join.f (xs.map bs) (bs sep) = some (bs (Lib.join xs sep)) := by
  unfold strings_Join.f
  have e : (xs.map bs).map (fun x : ByteArray => x.data.toList) = xs := by
    rw [List.map_map]
    exact (List.map_congr_left (fun x _ => bs_list x)).trans (List.map_id xs)
  rw [e, bs_list, if_pos h1, if_pos (by simpa using h2)]
  rfl
theorem joinNumbers_l0 (l : List Nat) (sep : List UInt8) (hl : l.length ≤ 1000) (hn : ∀ x ∈ l, x < 1000000) (hs : sep.length ≤ 1000) : ∀ (d i k : Nat), i + d = l.length → d < k →
    impl_joinNumbers.l0 k (bs sep) ((l.take i).map (fun n => bs (dg n)) ++ List.replicate d (bs [])) (l.map fun n : Nat => (n : Int)) (l.length : Int) (i : Int) = some (bs (Lib.join (l.map dg) sep)) := by
  intro d
  induction d with
  | zero =>
    intro i k hi hk
    obtain ⟨k, rfl⟩ : ∃ m, k = m + 1 := ⟨k - 1, by omega⟩
    simp only [impl_joinNumbers.l0]
    have hj := join_len (l.map dg) sep 1000001 (fun x hx => by
      obtain ⟨n, hnl, rfl⟩ := List.mem_map.1 hx
      have := dg_len n
      have := hn n hnl
      omega)
    have hb : (sep.length + 1000001) * (l.map dg).length ≤ 2001001 * 1000 := Nat.mul_le_mul (by omega) (by simpa using hl)
    have hv := join_val (l.map dg) sep (by omega) (by simp; omega)
    rw [List.map_map] at hv
    rw [if_neg (by omega), List.take_of_length_le (by omega), List.replicate_zero, List.append_nil]
    rw [show (fun n => bs (dg n)) = bs ∘ dg from rfl, hv, Option.bind_some]
  | succ d ih =>
    intro i k hi hk
    obtain ⟨k, rfl⟩ : ∃ m, k = m + 1 := ⟨k - 1, by omega⟩
    simp only [impl_joinNumbers.l0]
    have hx : l[i]? = some l[i] := List.getElem?_eq_getElem (by omega)
    have hrd : rd (l.map fun n : Nat => (n : Int)) (i : Int) = ((l[i] : Nat) : Int) := by simp [rd, List.getD, hx]
    have hsm := hn l[i] (List.getElem_mem (by omega))
    rw [if_pos (by omega), if_pos (by omega), if_pos (by simp; omega), hrd, itoa_val _ (by omega), Option.bind_some, if_pos (by simp; omega), w64 (by omega) (by omega), show ((i : Int) + 1) = ((i + 1 : Nat) : Int) by omega, ← ih (i + 1) k (by omega) (by omega)]
    congr 1
    rw [Int.toNat_natCast, List.set_append_right _ _ (by simp; omega), List.take_succ_eq_append_getElem (by omega), List.map_append, List.append_assoc]
    congr 1
    rw [show i - ((List.take i l).map fun n => bs (dg n)).length = 0 by simp; omega]
    rfl
theorem joinNumbers_val (l : List Nat) (sep : List UInt8) (hl : l.length ≤ 1000) (hn : ∀ x ∈ l, x < 1000000) (hs : sep.length ≤ 1000) (k : Nat) (hk : l.length < k) :
    impl_joinNumbers.f k (l.map fun n : Nat => (n : Int)) (bs sep) = some (bs (Lib.join (l.map dg) sep)) := by
  unfold impl_joinNumbers.f
  rw [if_pos (by omega), if_pos (by simp; omega)]
  have := joinNumbers_l0 l sep hl hn hs l.length 0 k (by omega) hk
  simpa [bs] using this
end Go.Proofs.YtlbodfogdhjnlaaDoor.Tx

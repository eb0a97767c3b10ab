/- Texts of this seat's proofs: contracts of its functions and plain laws about them, with no condition beyond those that each theorem states. -/
import Derived.Lib.AtoiAllCases
import Derived.Lib.SplitLaws
import Derived.Test.YtlbodfogdhjnlaaDoorQ52d2f6c0
import Derived.Test.YtlbodfogdhjnlaaDoorQ02bafd7b
import Derived.Test.YtlbodfogdhjnlaaDoorQ1ea095e0
import Derived.Test.YtlbodfogdhjnlaaDoorQa6c8ea9e
set_option linter.unusedSimpArgs false
namespace Go.Proofs.YtlbodfogdhjnlaaDoor.Tx
open Go.RowKit Go.Proofs.YtlbodfogdhjnlaaDoor.G Go.Proofs.YtlbodfogdhjnlaaDoorW.PrintWords Go.Proofs.YtlbodfogdhjnlaaDoorW.PrintLast Go.Proofs.YtlbodfogdhjnlaaDoorW.PrintMore
def ap (a : List UInt8) : List (List UInt8) → List (List UInt8)
  | [] => [a]
  | h :: t => (a ++ h) :: t
def sp (c : UInt8) : List UInt8 → List (List UInt8)
  | [] => [[]]
  | b :: r => if b = c then [] :: sp c r else ap [b] (sp c r)
theorem ap_ap (a b : List UInt8) (l : List (List UInt8)) : ap a (ap b l) = ap (a ++ b) l := by
  cases l <;> simp [ap]
theorem ap_nil {l : List (List UInt8)} (h : l ≠ []) : ap [] l = l := by
  cases l with
  | nil => exact absurd rfl h
  | cons x t => rfl
theorem sp_ne (c : UInt8) (l : List UInt8) : sp c l ≠ [] := by
  cases l with
  | nil => simp [sp]
  | cons b r =>
    unfold sp
    split
    · simp
    · cases sp c r <;> simp [ap]
theorem splitK_sp (c : UInt8) (l : List UInt8) : Lib.splitK [c] 0 (Lib.count l [c]) l = sp c l := by
  induction l with
  | nil => rfl
  | cons b r ih =>
    by_cases hb : b = c
    · subst hb
      rw [Lib.count_cons_eq, Nat.add_comm]
      have hi : Lib.index (b :: r) [b] = 0 := by simp [Lib.index]
      unfold Lib.splitK
      rw [hi]
      simp [sp, ← ih]
    · rw [Lib.count_cons_ne b c r hb]
      have hi : Lib.index (b :: r) [c] = if Lib.index r [c] == -1 then -1 else Lib.index r [c] + 1 := by
        have : ([c].isPrefixOf (b :: r)) = false := by simp [List.isPrefixOf, Ne.symm hb]
        rw [Lib.index, this]
        rfl
      have hs : sp c (b :: r) = ap [b] (sp c r) := by rw [sp, if_neg hb]
      rw [hs, ← ih]
      cases hk : Lib.count r [c] with
      | zero => rfl
      | succ k =>
        unfold Lib.splitK
        rw [hi]
        by_cases h1 : Lib.index r [c] = -1
        · simp [h1, ap]
        · have h2 : (Lib.index r [c] == -1) = false := beq_eq_false_iff_ne.mpr h1
          have h0 := Lib.index_ge r [c]
          have h3 : (Lib.index r [c] + 1 == -1) = false := beq_eq_false_iff_ne.mpr (by omega)
          have h4 : (Lib.index r [c] + 1).toNat = (Lib.index r [c]).toNat + 1 := by omega
          simp only [h2, h3, h4, if_false, Bool.false_eq_true, ap, List.length_cons, List.length_nil, Nat.add_zero]
          rw [show (Lib.index r [c]).toNat + 1 + (0 + 1) = ((Lib.index r [c]).toNat + (0 + 1)) + 1 by omega, List.drop_succ_cons, List.take_succ_cons]
          rfl
theorem bs_data (s : ByteArray) : s = bs s.data.toList := by
  apply ByteArray.ext
  simp [bs]
theorem split_val (l : List UInt8) (c : UInt8) (h : l.length < 4294967281) : strings_Split.f (bs l) (bs [c]) = some ((sp c l).map bs) := by
  unfold strings_Split.f
  have e1 : (bs [c]).size = 1 := by rw [bs_size]; rfl
  rw [if_pos e1, if_pos (by rw [bs_size]; exact h)]
  congr 1
  have hd := Lib.splitB_data (bs [c]) 0 (Lib.countB (bs l) (bs [c])) (bs l)
  rw [bs_list, bs_list] at hd
  have hc : Lib.countB (bs l) (bs [c]) = Lib.count l [c] := by unfold Lib.countB; rw [bs_list, bs_list]
  rw [hc] at hd ⊢
  rw [splitK_sp] at hd
  rw [← hd, List.map_map]
  exact ((List.map_congr_left (fun x _ => (bs_data x).symm)).trans (List.map_id _)).symm
theorem bt_bs (l : List UInt8) (i : Nat) (h : i < l.length) : bt (bs l) (i : Int) = ((l[i]).toNat : Int) := by
  have hs : i < (bs l).size := by rw [bs_size]; exact h
  unfold bt
  rw [dif_pos (by simpa using hs)]
  simp [bs, ByteArray.getElem_eq_getElem_data]
theorem extract_bs (l : List UInt8) (a b : Nat) : (bs l).extract a b = bs ((l.take b).drop a) := by
  apply ByteArray.ext
  simp only [bs, ByteArray.data_extract]
  apply Array.ext'
  simp [List.drop_take]
theorem sp_no (c : UInt8) (l : List UInt8) (h : c ∉ l) (r : List UInt8) : sp c (l ++ r) = ap l (sp c r) := by
  induction l with
  | nil => rw [List.nil_append, ap_nil (sp_ne c r)]
  | cons b l ih =>
    have hb : b ≠ c := fun e => h (by rw [e]; exact List.mem_cons_self)
    rw [List.cons_append, sp, if_neg hb, ih (fun e => h (List.mem_cons_of_mem _ e)), ap_ap]
    rfl
theorem l1Split_l0 (l : List UInt8) (c : UInt8) (hl : l.length ≤ 2000000) : ∀ (d i k j : Nat) (done : List (List UInt8)), i + d = l.length → d < k → j ≤ i → done.length ≤ i →
    spec_l1Split.l0 k (bs l) ((c.toNat : Nat) : Int) (done.map bs) (j : Int) (i : Int) = some ((done ++ ap ((l.take i).drop j) (sp c (l.drop i))).map bs) := by
  intro d
  induction d with
  | zero =>
    intro i k j done hi hk hj hd
    obtain ⟨k, rfl⟩ : ∃ m, k = m + 1 := ⟨k - 1, by omega⟩
    simp only [spec_l1Split.l0]
    rw [if_neg (by rw [bs_size]; omega), if_pos (by omega), if_pos (by rw [bs_size]; omega), if_pos (by simp; omega)]
    rw [bs_size, Int.toNat_natCast, extract_bs, List.drop_of_length_le (by omega : l.length ≤ i), List.take_of_length_le (by omega : l.length ≤ i), List.take_length]
    simp [sp, ap]
  | succ d ih =>
    intro i k j done hi hk hj hd
    obtain ⟨k, rfl⟩ : ∃ m, k = m + 1 := ⟨k - 1, by omega⟩
    simp only [spec_l1Split.l0]
    have hil : i < l.length := by omega
    rw [if_pos (by rw [bs_size]; omega), if_pos (by omega), bt_bs l i hil, w64 (by omega) (by omega), show ((i : Int) + 1) = ((i + 1 : Nat) : Int) by omega]
    have hdr : l.drop i = l[i] :: l.drop (i + 1) := List.drop_eq_getElem_cons hil
    by_cases hc : l[i] = c
    · rw [if_pos (by rw [hc]), if_pos (by omega), if_pos (by omega), if_pos (by rw [bs_size]; omega), if_pos (by simp; omega)]
      rw [Int.toNat_natCast, Int.toNat_natCast, extract_bs]
      have := ih (i + 1) k (i + 1) (done ++ [(l.take i).drop j]) (by omega) (by omega) (by omega) (by simp; omega)
      rw [List.map_append, List.map_cons, List.map_nil] at this
      rw [this, hdr, sp, if_pos hc]
      congr 2
      have e : (l.take (i + 1)).drop (i + 1) = [] := List.drop_of_length_le (by simp; omega)
      rw [e, ap_nil (sp_ne c _)]
      simp [ap]
    · rw [if_neg (by intro e; exact hc (UInt8.toNat_inj.1 (by omega)))]
      rw [ih (i + 1) k j done (by omega) (by omega) (by omega) (by omega), hdr, sp, if_neg hc, ap_ap]
      congr 4
      rw [List.take_succ_eq_append_getElem hil, List.drop_append_of_le_length (by simp; omega)]
theorem l1Split_ev (l : List UInt8) (c : UInt8) (hl : l.length ≤ 2000000) (k : Nat) (hk : l.length < k) : spec_l1Split.f k (bs l) ((c.toNat : Nat) : Int) = some ((sp c l).map bs) := by
  unfold spec_l1Split.f
  have := l1Split_l0 l c hl l.length 0 k 0 [] (by omega) hk (by omega) (by simp)
  simp only [List.map_nil, List.take_zero, List.drop_nil, List.nil_append, List.drop_zero] at this
  rw [ap_nil (sp_ne c l)] at this
  exact this
theorem sp_len (c : UInt8) (l : List UInt8) : (sp c l).length ≤ l.length + 1 := by
  induction l with
  | nil => simp [sp]
  | cons b r ih =>
    unfold sp
    split
    · simp; omega
    · cases h : sp c r with
      | nil => simp [ap]
      | cons x t => rw [h] at ih; simp [ap] at *; omega
theorem sp_mem_len (c : UInt8) (l : List UInt8) : ∀ x ∈ sp c l, x.length ≤ l.length := by
  induction l with
  | nil => simp [sp]
  | cons b r ih =>
    unfold sp
    split
    · intro x hx
      simp at hx
      rcases hx with rfl | hx
      · simp
      · have := ih x hx; simp; omega
    · cases h : sp c r with
      | nil => intro x hx; simp [ap] at hx; subst hx; simp
      | cons y t =>
        rw [h] at ih
        intro x hx
        simp [ap] at hx
        rcases hx with rfl | hx
        · have := ih y (by simp); simp; omega
        · have := ih x (by simp [hx]); simp; omega
theorem sp_join (c : UInt8) (xs : List (List UInt8)) (hne : xs ≠ []) (h : ∀ x ∈ xs, c ∉ x) : sp c (Lib.join xs [c]) = xs := by
  induction xs with
  | nil => exact absurd rfl hne
  | cons x r ih =>
    have hx := h x List.mem_cons_self
    cases r with
    | nil =>
      rw [Lib.join_one]
      have := sp_no c x hx []
      rw [List.append_nil] at this
      rw [this]
      simp [sp, ap]
    | cons y t =>
      have ht := ih (by simp) (fun z hz => h z (List.mem_cons_of_mem _ hz))
      have e : Lib.join (x :: y :: t) [c] = x ++ c :: Lib.join (y :: t) [c] := by
        rw [Lib.join_cons, Lib.join_cons]
        simp [Lib.joinTail]
      rw [e, sp_no c x hx, sp, if_pos rfl, ht]
      simp [ap]
theorem dg_digit (n : Nat) : ∀ b ∈ dg n, 48 ≤ b.toNat ∧ b.toNat ≤ 57 := by
  induction n using Nat.strongRecOn with
  | _ n ih =>
    by_cases h : n < 10
    · rw [dg_small h]
      intro b hb
      obtain rfl := List.mem_singleton.1 hb
      have : (UInt8.ofNat (48 + n)).toNat = 48 + n := by simp; omega
      omega
    · rw [dg_big h]
      intro b hb
      rcases List.mem_append.1 hb with hb | hb
      · exact ih (n / 10) (by omega) b hb
      · obtain rfl := List.mem_singleton.1 hb
        have : (UInt8.ofNat (48 + n % 10)).toNat = 48 + n % 10 := by simp; omega
        omega
theorem dg_no (c : UInt8) (hc : c.toNat < 48) (n : Nat) : c ∉ dg n := fun h => by
  have := dg_digit n c h
  omega
theorem dg_ne (n : Nat) : dg n ≠ [] := by
  by_cases h : n < 10
  · rw [dg_small h]; simp
  · rw [dg_big h]; simp
theorem dg_head (n : Nat) (hn : 1 ≤ n) : ∃ c r, dg n = c :: r ∧ 49 ≤ c.toNat := by
  induction n using Nat.strongRecOn with
  | _ n ih =>
    by_cases h : n < 10
    · refine ⟨_, [], dg_small h, ?_⟩
      have : (UInt8.ofNat (48 + n)).toNat = 48 + n := by simp; omega
      omega
    · obtain ⟨c, r, e, hc⟩ := ih (n / 10) (by omega) (by omega)
      exact ⟨c, r ++ [UInt8.ofNat (48 + n % 10)], by rw [dg_big h, e]; rfl, hc⟩
theorem dg_len_pow (k : Nat) : ∀ n, n < 10 ^ (k + 1) → (dg n).length ≤ k + 1 := by
  induction k with
  | zero => intro n hn; rw [dg_small (by simpa using hn)]; simp
  | succ k ih =>
    intro n hn
    by_cases h : n < 10
    · rw [dg_small h]; simp
    · rw [dg_big h, List.length_append]
      have := ih (n / 10) (by rw [Nat.pow_succ] at hn; omega)
      simp
      omega
theorem parse_app (xs : List UInt8) : ∀ (acc m : Nat), Lib.parseUint10 acc xs = .ok m → ∀ ys, Lib.parseUint10 acc (xs ++ ys) = Lib.parseUint10 m ys := by
  induction xs with
  | nil =>
    intro acc m h ys
    simp only [Lib.parseUint10] at h
    injection h with h
    rw [List.nil_append, h]
  | cons c r ih =>
    intro acc m h ys
    simp only [List.cons_append, Lib.parseUint10] at h ⊢
    split at h
    · next h1 =>
      rw [if_pos h1]
      split at h
      · cases h
      · next h2 =>
        rw [if_neg h2]
        split at h
        · cases h
        · next h3 =>
          rw [if_neg h3]
          exact ih _ m h ys
    · cases h
theorem parse_dg (n : Nat) (hn : n < 1000000000) : Lib.parseUint10 0 (dg n) = .ok n := by
  induction n using Nat.strongRecOn with
  | _ n ih =>
    by_cases h : n < 10
    · rw [dg_small h]
      have e : (UInt8.ofNat (48 + n)).toNat = 48 + n := by simp; omega
      simp only [Lib.parseUint10]
      rw [e, if_pos (by omega), if_neg (by omega), if_neg (by omega)]
      congr 1
      omega
    · rw [dg_big h, parse_app _ 0 (n / 10) (ih (n / 10) (by omega) (by omega))]
      have e : (UInt8.ofNat (48 + n % 10)).toNat = 48 + n % 10 := by simp; omega
      simp only [Lib.parseUint10]
      rw [e, if_pos (by omega), if_neg (by omega), if_neg (by omega)]
      congr 1
      omega
theorem atoi_dg (n : Nat) (hn : n < 1000000000) : Lib.atoiAll (dg n) = .ok (n : Int) := by
  have hp := parse_dg n hn
  cases hd : dg n with
  | nil => exact absurd hd (dg_ne n)
  | cons c r =>
    have hdig := dg_digit n c (by rw [hd]; exact List.mem_cons_self)
    rw [hd] at hp
    unfold Lib.atoiAll
    simp only
    rw [if_neg (by omega)]
    unfold Lib.parseMag
    rw [if_neg (by simp), hp]
    simp only
    rw [if_neg (by omega), if_neg (by omega), if_neg (by omega)]
theorem itoa_nat (n : Nat) : Lib.itoa (n : Int) = dg n := by
  unfold Lib.itoa dg
  rw [if_neg (by omega)]
  rfl
theorem rnum_dg (n : Nat) (hn : n < 1000000000) : rnum (dg n) = ((n : Int), true) := by
  unfold rnum
  rw [atoi_dg n hn]
  simp only
  rw [itoa_nat, if_pos rfl]
def rn (l : List UInt8) : Option Int := if (rnum l).2 = true then some (rnum l).1 else none
theorem rn_dg (n : Nat) (hn : n < 1000000000) : rn (dg n) = some (n : Int) := by
  unfold rn
  rw [rnum_dg n hn, if_pos rfl]
theorem readNumber_val (l : List UInt8) (h : l.length ≤ 2000000) : impl_readNumber.f (bs l) = some (rnum l) := by
  unfold impl_readNumber.f
  rw [if_pos (by rw [bs_size]; omega), bs_list]
def rl : List UInt8 → Int → Int
  | [], acc => acc
  | c :: r, acc => if (c.toNat : Int) < 48 then -1 else if (c.toNat : Int) > 57 then -1 else rl r (wrap64 ((wrap64 (10 * acc)) + ((((c.toNat : Int)) - 48) % 256)))
theorem l1Read_l0 (l : List UInt8) (hl : l.length ≤ 2000000) : ∀ (d i k : Nat) (acc : Int), i + d = l.length → d < k → spec_l1Read.l0 k (bs l) acc (i : Int) = some (rl (l.drop i) acc) := by
  intro d
  induction d with
  | zero =>
    intro i k acc hi hk
    obtain ⟨k, rfl⟩ : ∃ m, k = m + 1 := ⟨k - 1, by omega⟩
    simp only [spec_l1Read.l0]
    rw [if_neg (by rw [bs_size]; omega), List.drop_of_length_le (by omega : l.length ≤ i)]
    rfl
  | succ d ih =>
    intro i k acc hi hk
    obtain ⟨k, rfl⟩ : ∃ m, k = m + 1 := ⟨k - 1, by omega⟩
    simp only [spec_l1Read.l0]
    have hil : i < l.length := by omega
    rw [if_pos (by rw [bs_size]; omega), if_pos (by omega), bt_bs l i hil, List.drop_eq_getElem_cons hil, rl, w64 (x := (i : Int) + 1) (by omega) (by omega), show ((i : Int) + 1) = ((i + 1 : Nat) : Int) by omega]
    by_cases h1 : ((l[i].toNat : Nat) : Int) < 48
    · rw [if_pos h1, if_pos h1]
    · rw [if_neg h1, if_neg h1]
      by_cases h2 : ((l[i].toNat : Nat) : Int) > 57
      · rw [if_pos h2, if_pos h2]
      · rw [if_neg h2, if_neg h2]
        exact ih (i + 1) k _ (by omega) (by omega)
def rd6 (l : List UInt8) : Int := if l.length < 1 ∨ 6 < l.length then -1 else if l.head? = some 48 ∧ 1 < l.length then -1 else rl l 0
theorem l1Read_val (l : List UInt8) (hl : l.length ≤ 2000000) (k : Nat) (hk : l.length + 2 < k) : spec_l1Read.f k (bs l) = some (rd6 l) := by
  obtain ⟨k, rfl⟩ : ∃ m, k = m + 1 := ⟨k - 1, by omega⟩
  have hin : spec_l1In.f ((bs l).size : Int) 1 6 = some (decide (1 ≤ l.length) && decide (l.length ≤ 6)) := by
    unfold spec_l1In.f
    rw [bs_size]
    by_cases h : ((l.length : Int) ≥ 1)
    · rw [if_pos h]
      have e1 : decide (1 ≤ l.length) = true := decide_eq_true (by omega)
      have e2 : decide ((l.length : Int) ≤ 6) = decide (l.length ≤ 6) := by rw [Bool.eq_iff_iff]; simp; omega
      rw [e1, e2]
      rfl
    · rw [if_neg h]
      have e1 : decide (1 ≤ l.length) = false := decide_eq_false (by omega)
      rw [e1]
      rfl
  have hl0 := l1Read_l0 l hl l.length 0 k 0 (by omega) (by omega)
  rw [List.drop_zero] at hl0
  unfold spec_l1Read.f rd6
  rw [hin, Option.bind_some]
  by_cases hb : l.length < 1 ∨ 6 < l.length
  · rw [if_pos hb]
    have : (decide (1 ≤ l.length) && decide (l.length ≤ 6)) = false := by
      rcases hb with h | h
      · rw [decide_eq_false (by omega)]; rfl
      · rw [decide_eq_false (by omega : ¬ l.length ≤ 6), Bool.and_false]
    rw [this, if_neg (by simp)]
    simp only [spec_l1Read.j0]
    rw [if_pos trivial]
  · rw [if_neg hb]
    have : (decide (1 ≤ l.length) && decide (l.length ≤ 6)) = true := by
      rw [decide_eq_true (by omega : 1 ≤ l.length), decide_eq_true (by omega : l.length ≤ 6)]; rfl
    rw [this, if_pos rfl, if_pos (by rw [bs_size]; omega)]
    cases l with
    | nil => simp at hb
    | cons c r =>
      have hbt := bt_bs (c :: r) 0 (by simp)
      rw [show ((0 : Nat) : Int) = 0 from rfl] at hbt
      rw [hbt]
      simp only [List.getElem_cons_zero, List.head?_cons, Option.some.injEq]
      by_cases hc : c = 48
      · subst hc
        rw [if_pos (by decide)]
        by_cases h2 : 1 < (48 :: r : List UInt8).length
        · rw [if_pos ⟨rfl, h2⟩]
          simp only [spec_l1Read.j0]
          rw [if_pos (decide_eq_true (by rw [bs_size]; omega))]
        · rw [if_neg (fun h => h2 h.2)]
          simp only [spec_l1Read.j0]
          rw [if_neg (by rw [decide_eq_false (by rw [bs_size]; omega)]; simp)]
          exact hl0
      · rw [if_neg (by intro e; exact hc (UInt8.toNat_inj.1 (by have : (48 : UInt8).toNat = 48 := rfl; omega))), if_neg (fun h => hc h.1)]
        simp only [spec_l1Read.j0]
        rw [if_neg (by simp)]
        exact hl0
theorem rl_app (xs : List UInt8) : ∀ (acc : Int) (ys : List UInt8), (∀ b ∈ xs, 48 ≤ b.toNat ∧ b.toNat ≤ 57) → rl (xs ++ ys) acc = rl ys (rl xs acc) := by
  induction xs with
  | nil => intro acc ys _; rfl
  | cons c r ih =>
    intro acc ys h
    obtain ⟨h1, h2⟩ := h c List.mem_cons_self
    simp only [List.cons_append, rl]
    rw [if_neg (by omega), if_neg (by omega), if_neg (by omega), if_neg (by omega)]
    exact ih _ _ (fun b hb => h b (List.mem_cons_of_mem _ hb))
theorem rl_dg (n : Nat) (hn : n < 1000000000) : rl (dg n) 0 = (n : Int) := by
  induction n using Nat.strongRecOn with
  | _ n ih =>
    by_cases h : n < 10
    · rw [dg_small h]
      have e : (UInt8.ofNat (48 + n)).toNat = 48 + n := by simp; omega
      simp only [rl]
      rw [e, if_neg (by omega), if_neg (by omega), show wrap64 (10 * (0 : Int)) = 0 by rw [Int.mul_zero]; exact w64 (by omega) (by omega), w64 (by omega) (by omega)]
      omega
    · rw [dg_big h, rl_app _ _ _ (dg_digit _), ih (n / 10) (by omega) (by omega)]
      have e : (UInt8.ofNat (48 + n % 10)).toNat = 48 + n % 10 := by simp; omega
      simp only [rl]
      rw [e, if_neg (by omega), if_neg (by omega), w64 (x := 10 * ((n / 10 : Nat) : Int)) (by omega) (by omega), w64 (by omega) (by omega)]
      omega
theorem rd6_dg (n : Nat) (hn : n < 1000000) : rd6 (dg n) = (n : Int) := by
  have hl := dg_len_pow 5 n (by simpa using hn)
  have hne : (dg n).length ≠ 0 := fun e => dg_ne n (List.eq_nil_of_length_eq_zero e)
  unfold rd6
  rw [if_neg (by omega)]
  by_cases h1 : n < 10
  · rw [if_neg (by rw [dg_small h1]; simp), rl_dg n (by omega)]
  · obtain ⟨c, r, e, hc⟩ := dg_head n (by omega)
    rw [if_neg (by rw [e]; simp; intro e2; rw [e2] at hc; simp at hc), rl_dg n (by omega)]
end Go.Proofs.YtlbodfogdhjnlaaDoor.Tx

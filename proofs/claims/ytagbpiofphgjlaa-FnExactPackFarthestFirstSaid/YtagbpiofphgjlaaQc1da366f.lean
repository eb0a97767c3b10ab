/- Texts of this seat's proofs: contracts of its functions and plain laws about them, with no condition beyond those that each theorem states. -/
import Derived.Test.YtagbpiofphgjlaaQ742fc60f
import Derived.Test.YtagbpiofphgjlaaQ7ccb4470
import Derived.Test.YtagbpiofphgjlaaQ28586bec
import Derived.Test.YtagbpiofphgjlaaQbb0f307e
import Derived.Test.YtagbpiofphgjlaaQ4dc9cf24
import Derived.Test.YtagbpiofphgjlaaQdfd6a7b1
import Derived.Test.YtagbpiofphgjlaaQd461c2ae
import Derived.Test.YtagbpiofphgjlaaQ29ef0e3f
import Derived.Test.YtagbpiofphgjlaaQ9de27c14
import Derived.Test.YtagbpiofphgjlaaQaa4ae480
import Derived.Test.YtagbpiofphgjlaaQ7a21b031
namespace Go.Proofs.Ytagbpiofphgjlaa.Bg
open Go.RowKit Go.Proofs.Ytagbpiofphgjlaa.G Go.Proofs.YtagbpiofphgjlaaW.PrintWords Go.Proofs.YtagbpiofphgjlaaW.PrintLast Go.Proofs.YtagbpiofphgjlaaW.PrintMore
def ft (w : Int) (room : List Int) : Nat := room.findIdx fun x => decide (x ≥ w)
theorem ft_le (w : Int) (room : List Int) : ft w room ≤ room.length := List.findIdx_le_length
theorem ft_at {w : Int} {room : List Int} : ∀ (h : ft w room < room.length), w ≤ room[ft w room] := by
  unfold ft
  intro h
  have := List.findIdx_getElem (w := h)
  simpa using this
theorem ft_before {w : Int} {room : List Int} {t : Nat} (h : t < ft w room) (ht : t < room.length) : room[t] < w := by
  unfold ft at h
  have := List.not_of_lt_findIdx h
  simpa using this
theorem fidx_ft (w : Int) (room : List Int) : Fun.fidx (fun x => decide (x ≥ w)) room = if ft w room < room.length then (ft w room : Int) else -1 := by
  unfold Fun.fidx ft
  cases h : room.findIdx? (fun x => decide (x ≥ w)) with
  | none =>
    have e : room.findIdx (fun x => decide (x ≥ w)) = room.length := by
      rw [List.findIdx_eq_length]
      rw [List.findIdx?_eq_none_iff] at h
      exact h
    rw [if_neg (by omega)]
  | some i =>
    rw [List.findIdx?_eq_some_iff_getElem] at h
    obtain ⟨hi, hp, hlt⟩ := h
    have e : room.findIdx (fun x => decide (x ≥ w)) = i := by
      rw [List.findIdx_eq hi]
      exact ⟨hp, fun j hj => by have := hlt j hj; simpa using this⟩
    rw [if_pos (by omega), e]
def wtI (l : List S61) (i : Int) : Int := (rd_T61 l i).f1
def roomNext (bag w : Int) (room : List Int) : List Int := (if ft w room < room.length then room else room ++ [bag]).set (ft w room) (wrap64 (rd (if ft w room < room.length then room else room ++ [bag]) (ft w room : Int) - w))
theorem roomNext_len (bag w : Int) (room : List Int) : (roomNext bag w room).length = if ft w room < room.length then room.length else room.length + 1 := by
  unfold roomNext
  rw [List.length_set]
  split <;> simp
def pk2 (l : List S61) (bag : Int) : List Int → List Int → List Int → List Int
  | [], _, plan => plan
  | i :: r, room, plan => pk2 l bag r (roomNext bag (wtI l i) room) (plan.set i.toNat (ft (wtI l i) room : Int))
theorem pk2_len (l : List S61) (bag : Int) : ∀ (o room plan : List Int), (pk2 l bag o room plan).length = plan.length
  | [], _, _ => rfl
  | i :: o, room, plan => by
    simp only [pk2]
    rw [pk2_len l bag o, List.length_set]
theorem pkGo_val (l : List S61) (bag : Int) : ∀ (o room plan : List Int), (∀ i ∈ o, 0 ≤ i ∧ i < (l.length : Int)) → plan.length = l.length → room.length + o.length ≤ 1000 → pkGo l bag o room plan = some (pk2 l bag o room plan)
  | [], _, _, _, _, _ => rfl
  | i :: o, room, plan, ho, hp, hr => by
    have hi := ho i (List.mem_cons_self ..)
    rw [List.length_cons] at hr
    have hle := ft_le (wtI l i) room
    have hrest := fun q hq => ho q (List.mem_cons_of_mem _ hq)
    have e : Fun.fidx (fun x => decide (x ≥ (rd_T61 l i).f1)) room = if ft (wtI l i) room < room.length then (ft (wtI l i) room : Int) else -1 := fidx_ft _ _
    simp only [pkGo, pk2]
    rw [if_pos ⟨hi.1, hi.2, by omega, by omega⟩, e]
    by_cases h : ft (wtI l i) room < room.length
    · rw [if_pos h, if_neg (by omega), Int.toNat_natCast]
      have := pkGo_val l bag o (roomNext bag (wtI l i) room) (plan.set i.toNat (ft (wtI l i) room : Int)) hrest (by rw [List.length_set]; exact hp) (by rw [roomNext_len, if_pos h]; omega)
      rw [← this]
      unfold roomNext
      rw [if_pos h]
      rfl
    · have h2 : ft (wtI l i) room = room.length := by omega
      rw [if_neg h, if_pos (by decide)]
      have := pkGo_val l bag o (roomNext bag (wtI l i) room) (plan.set i.toNat (ft (wtI l i) room : Int)) hrest (by rw [List.length_set]; exact hp) (by rw [roomNext_len, if_neg h]; omega)
      rw [← this]
      unfold roomNext
      rw [if_neg h, h2]
      rfl
theorem next_val (t : Nat) (h : t ≤ 1000000) : wrap64 ((t : Int) + 1) = ((t + 1 : Nat) : Int) := by
  rw [w64 (by omega) (by omega)]
  rfl
theorem bgPack_step (k : Nat) (l : List S61) (bag : Int) (plan room : List Int) (i : Int) (hi : 0 ≤ i ∧ i < (l.length : Int)) (t : Nat) (ht : t < room.length) (hno : rd room (t : Int) < (rd_T61 l i).f1) (O : List Int) (n j : Int) (e3 : wrap64 ((t : Int) + 1) = ((t + 1 : Nat) : Int)) :
    spec_bgPack.l1 (k + 1) l bag plan room i (t : Int) O n j = spec_bgPack.l1 k l bag plan room i ((t + 1 : Nat) : Int) O n j := by
  have h1 : (t : Int) < (room.length : Int) := by omega
  have h2 : 0 ≤ (t : Int) := by omega
  rw [spec_bgPack.l1, if_pos h1, if_pos h2, if_pos hi.1, if_pos hi.2, if_pos hno, e3]
theorem bgPack_l1 (l : List S61) (bag : Int) (O : List Int) (j : Nat) (i : Int) (hi : 0 ≤ i ∧ i < (l.length : Int)) (plan room : List Int) (hp : plan.length = l.length) (hr : room.length ≤ 1000) (hj : (j : Int) ≤ 1000000) : ∀ (d t k : Nat), t + d = ft (wtI l i) room →
    spec_bgPack.l1 (k + d + 1) l bag plan room i (t : Int) O (O.length : Int) (j : Int) = spec_bgPack.l0 k l bag (plan.set i.toNat (ft (wtI l i) room : Int)) (roomNext bag (wtI l i) room) O (O.length : Int) ((j + 1 : Nat) : Int) := by
  have hle := ft_le (wtI l i) room
  have e2 : wrap64 ((j : Int) + 1) = ((j + 1 : Nat) : Int) := by rw [w64 (by omega) (by omega)]; rfl
  intro d
  induction d with
  | zero =>
    intro t k ht
    obtain rfl : t = ft (wtI l i) room := by omega
    by_cases h : ft (wtI l i) room < room.length
    · have hhit : ¬ (rd room (ft (wtI l i) room : Int) < (rd_T61 l i).f1) := by
        rw [rd_get h]
        have h3 := ft_at h
        have h4 : wtI l i = (rd_T61 l i).f1 := rfl
        omega
      rw [spec_bgPack.l1, if_pos (by omega), if_pos (by omega), if_pos hi.1, if_pos hi.2, if_neg hhit, if_neg (by omega), if_pos (by omega), e2]
      unfold roomNext
      rw [if_pos h, Int.toNat_natCast]
      rfl
    · have h2 : ft (wtI l i) room = room.length := by omega
      rw [spec_bgPack.l1, if_neg (by omega), if_pos (by omega), if_pos (by omega), Option.bind_some, if_pos (by omega), if_pos (by rw [List.length_append, List.length_singleton]; omega), if_pos hi.1, if_pos hi.2, if_pos (by omega), e2]
      unfold roomNext
      rw [if_neg h, Int.toNat_natCast]
      rfl
  | succ d ih =>
    intro t k ht
    have hlt : t < room.length := by omega
    have hno : rd room (t : Int) < (rd_T61 l i).f1 := by
      rw [rd_get hlt]
      have h3 := ft_before (w := wtI l i) (room := room) (t := t) (by omega) hlt
      have h4 : wtI l i = (rd_T61 l i).f1 := rfl
      omega
    have e3 := next_val t (by omega)
    have h5 := bgPack_step (k + d + 1) l bag plan room i hi t hlt hno O (O.length : Int) (j : Int) e3
    have h6 := ih (t + 1) k (by omega)
    rw [← h5] at h6
    exact h6
theorem bgPack_l0 (l : List S61) (bag : Int) (O : List Int) (hl : l.length ≤ 8) (hO : ∀ i ∈ O, 0 ≤ i ∧ i < (l.length : Int)) (hOl : O.length ≤ 8) : ∀ (d j : Nat) (room plan : List Int), j + d = O.length → plan.length = l.length → room.length ≤ j → ∃ K, ∀ k, K ≤ k → spec_bgPack.l0 k l bag plan room O (O.length : Int) (j : Int) = some (nm (pk2 l bag (O.drop j) room plan)) := by
  intro d
  induction d with
  | zero =>
    intro j room plan hj hp hr
    obtain ⟨K, hK⟩ := bgNamed_ev plan (by omega)
    have hK : ∀ k, K ≤ k → spec_bgNamed.f k plan = some (nm plan) := hK
    refine ⟨K + 1, fun k hk => ?_⟩
    obtain ⟨k, rfl⟩ : ∃ m, k = m + 1 := ⟨k - 1, by omega⟩
    rw [spec_bgPack.l0, if_neg (by omega), hK k (by omega), Option.bind_some, List.drop_eq_nil_of_le (by omega)]
    rfl
  | succ d ih =>
    intro j room plan hj hp hr
    have hjO : j < O.length := by omega
    have hi := hO O[j] (List.getElem_mem hjO)
    have hle := ft_le (wtI l O[j]) room
    obtain ⟨K, hK⟩ := ih (j + 1) (roomNext bag (wtI l O[j]) room) (plan.set O[j].toNat (ft (wtI l O[j]) room : Int)) (by omega) (by rw [List.length_set]; exact hp) (by rw [roomNext_len]; split <;> omega)
    refine ⟨K + 1 + ft (wtI l O[j]) room + 1, fun k hk => ?_⟩
    obtain ⟨m, rfl⟩ : ∃ m, k = (m + ft (wtI l O[j]) room + 1) + 1 := ⟨k - ft (wtI l O[j]) room - 2, by omega⟩
    have h1 := bgPack_l1 l bag O j O[j] hi plan room hp (by omega) (by omega) (ft (wtI l O[j]) room) 0 m (Nat.zero_add _)
    rw [show ((0 : Nat) : Int) = 0 from rfl] at h1
    rw [spec_bgPack.l0, if_pos (by omega), if_pos (by omega), if_pos (by omega), rd_get hjO, h1, hK m (by omega), List.drop_eq_getElem_cons hjO]
    rfl
theorem packed_val (l : List S61) (bag : Int) (O : List Int) (h1 : 1 ≤ l.length) (hl : l.length ≤ 8) (hO : ∀ i ∈ O, 0 ≤ i ∧ i < (l.length : Int)) (hOl : O.length ≤ 8) : impl_packed.f l bag O = some (pk2 l bag O [] (List.replicate l.length 0)) ∧ Ev (fun k => spec_bgPack.f k l bag O) (nm (pk2 l bag O [] (List.replicate l.length 0))) := by
  refine ⟨?_, ?_⟩
  · unfold impl_packed.f
    rw [if_pos ⟨h1, by omega, by omega⟩]
    exact pkGo_val l bag O [] _ hO (by simp) (by simp; omega)
  · obtain ⟨K, hK⟩ := bgPack_l0 l bag O hl hO hOl O.length 0 [] (List.replicate l.length 0) (Nat.zero_add _) (by simp) (by simp)
    refine ⟨K, fun k hk => ?_⟩
    show spec_bgPack.f k l bag O = _
    unfold spec_bgPack.f
    rw [if_pos (by omega), if_pos (by omega), Int.toNat_natCast]
    exact hK k hk
theorem own_val (x : List Int) (h : x.length ≤ 1000) : spec_l1Own.f x = some x := by
  unfold spec_l1Own.f
  rw [Option.bind_some, if_pos (by simp; omega), List.nil_append]
end Go.Proofs.Ytagbpiofphgjlaa.Bg

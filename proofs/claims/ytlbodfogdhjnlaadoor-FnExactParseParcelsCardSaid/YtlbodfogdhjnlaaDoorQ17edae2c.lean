/- Texts of this seat's proofs: contracts of its functions and plain laws about them, with no condition beyond those that each theorem states. -/
import Derived.Test.YtlbodfogdhjnlaaDoorQ9e9a8dfc
import Derived.Test.YtlbodfogdhjnlaaDoorQ474be547
import Derived.Test.YtlbodfogdhjnlaaDoorQ57ba1b19
import Derived.Test.YtlbodfogdhjnlaaDoorQ7518af84
import Derived.Test.YtlbodfogdhjnlaaDoorQ03041c64
set_option linter.unusedSimpArgs false
set_option linter.unusedVariables false
namespace Go.Proofs.YtlbodfogdhjnlaaDoor.Tx
open Go.RowKit Go.Proofs.YtlbodfogdhjnlaaDoor.G Go.Proofs.YtlbodfogdhjnlaaDoor.Bg Go.Proofs.YtlbodfogdhjnlaaDoorW.PrintWords Go.Proofs.YtlbodfogdhjnlaaDoorW.PrintLast Go.Proofs.YtlbodfogdhjnlaaDoorW.PrintMore
def rns : List (List UInt8) → Option (List Int)
  | [] => some []
  | x :: r => (rn x).bind fun v => (rns r).map (v :: ·)
theorem rns_len : ∀ (xs : List (List UInt8)) (ns : List Int), rns xs = some ns → ns.length = xs.length
  | [], ns, h => by
    injection h with h
    rw [← h]
    rfl
  | x :: r, ns, h => by
    simp only [rns] at h
    obtain ⟨v, _, h⟩ := Option.bind_eq_some_iff.1 h
    obtain ⟨m, hm, rfl⟩ := Option.map_eq_some_iff.1 h
    simp [rns_len r m hm]
theorem readNumbers_l0 (xs : List (List UInt8)) (hx : ∀ x ∈ xs, x.length ≤ 2000000) (hn : xs.length ≤ 2000002) : ∀ (d i k : Nat) (acc : List Int), i + d = xs.length → d < k → acc.length ≤ i →
    impl_readNumbers.l0 k acc (xs.map bs) (xs.length : Int) (i : Int) = some (match rns (xs.drop i) with | some ns => (acc ++ ns, true) | none => ([], false)) := by
  intro d
  induction d with
  | zero =>
    intro i k acc hi hk ha
    obtain ⟨k, rfl⟩ : ∃ m, k = m + 1 := ⟨k - 1, by omega⟩
    simp only [impl_readNumbers.l0]
    rw [if_neg (by omega), List.drop_of_length_le (by omega : xs.length ≤ i)]
    simp [rns]
  | succ d ih =>
    intro i k acc hi hk ha
    obtain ⟨k, rfl⟩ : ∃ m, k = m + 1 := ⟨k - 1, by omega⟩
    simp only [impl_readNumbers.l0]
    have hil : i < xs.length := by omega
    have hrd : rdOf ByteArray.empty (xs.map bs) (i : Int) = bs xs[i] := by simp [rdOf, List.getD, hil]
    rw [if_pos (by omega), if_pos (by omega), if_pos (by simp; omega), hrd, readNumber_val _ (hx _ (List.getElem_mem hil)), Option.bind_some, w64 (by omega) (by omega), show ((i : Int) + 1) = ((i + 1 : Nat) : Int) by omega, List.drop_eq_getElem_cons hil]
    by_cases h : (rnum xs[i]).2 = true
    · rw [if_pos h, if_pos (by omega), ih (i + 1) k _ (by omega) (by omega) (by simp; omega)]
      have hr : rn xs[i] = some (rnum xs[i]).1 := by rw [rn, if_pos h]
      simp only [rns, hr, Option.bind_some]
      cases rns (xs.drop (i + 1)) <;> simp
    · rw [if_neg h]
      have hr : rn xs[i] = none := by rw [rn, if_neg h]
      simp only [rns, hr, Option.bind_none]
theorem readNumbers_val (w : List UInt8) (c : UInt8) (hw : w.length ≤ 2000000) (k : Nat) (hk : w.length + 1 < k) :
    impl_readNumbers.f k (bs w) (bs [c]) = some (match rns (sp c w) with | some ns => (ns, true) | none => ([], false)) := by
  have hl := sp_len c w
  unfold impl_readNumbers.f
  rw [split_val w c (by omega), Option.bind_some, List.length_map]
  have := readNumbers_l0 (sp c w) (fun x hx => by have := sp_mem_len c w x hx; omega) (by omega) (sp c w).length 0 k [] (by omega) (by omega) (by simp)
  rw [List.drop_zero] at this
  rw [show (0 : Int) = ((0 : Nat) : Int) from rfl, this]
  cases rns (sp c w) <;> simp
def pw (w : List UInt8) : Option S41 := match rns (sp 42 w) with
  | some [a, b] => some ⟨a, b⟩
  | _ => none
def pws : List (List UInt8) → Option (List S41)
  | [] => some []
  | x :: r => (pw x).bind fun v => (pws r).map (v :: ·)
def pres (o : Option (List S41)) (acc : List S41) : List S41 × Bool := match o with
  | some ps => if okP (acc ++ ps) = true then (acc ++ ps, true) else ([], false)
  | none => ([], false)
theorem implParse_l0 (xs : List (List UInt8)) (hx : ∀ x ∈ xs, x.length ≤ 2000000) (hn : xs.length ≤ 2000002) : ∀ (d i k : Nat) (acc : List S41), i + d = xs.length → d + 2000002 < k → acc.length ≤ i →
    impl_ParseParcels.l0 k acc (xs.map bs) (xs.length : Int) (i : Int) = some (pres (pws (xs.drop i)) acc) := by
  intro d
  induction d with
  | zero =>
    intro i k acc hi hk ha
    obtain ⟨k, rfl⟩ : ∃ m, k = m + 1 := ⟨k - 1, by omega⟩
    simp only [impl_ParseParcels.l0]
    rw [if_neg (by omega), List.drop_of_length_le (by omega : xs.length ≤ i), areParcels_val, Option.bind_some]
    simp only [pws, pres, List.append_nil]
    cases okP acc <;> simp
  | succ d ih =>
    intro i k acc hi hk ha
    obtain ⟨k, rfl⟩ : ∃ m, k = m + 1 := ⟨k - 1, by omega⟩
    simp only [impl_ParseParcels.l0]
    have hil : i < xs.length := by omega
    have hrd : rdOf ByteArray.empty (xs.map bs) (i : Int) = bs xs[i] := by simp [rdOf, List.getD, hil]
    have hxi := hx _ (List.getElem_mem hil)
    rw [if_pos (by omega), if_pos (by omega), if_pos (by simp; omega), hrd, show (⟨#[42]⟩ : ByteArray) = bs [42] from rfl, readNumbers_val _ 42 hxi k (by omega), Option.bind_some, w64 (by omega) (by omega), show ((i : Int) + 1) = ((i + 1 : Nat) : Int) by omega, List.drop_eq_getElem_cons hil]
    cases hr : rns (sp 42 xs[i]) with
    | none =>
      have hp : pw xs[i] = none := by rw [pw, hr]
      simp only [pws, hp, Option.bind_none, pres]
      rw [if_neg (by simp)]
    | some ns =>
      simp only
      rw [if_pos trivial]
      match ns, hr with
      | [], hr =>
        have hp : pw xs[i] = none := by rw [pw, hr]
        simp [pws, hp, pres]
      | [a], hr =>
        have hp : pw xs[i] = none := by rw [pw, hr]
        simp [pws, hp, pres]
      | [a, b], hr =>
        have hp : pw xs[i] = some ⟨a, b⟩ := by rw [pw, hr]
        rw [if_pos (by simp), if_pos (by simp), if_pos (by simp), if_pos (by omega)]
        have e : (⟨rd [a, b] 0, rd [a, b] 1⟩ : S41) = ⟨a, b⟩ := rfl
        rw [e, ih (i + 1) k _ (by omega) (by omega) (by simp; omega)]
        simp only [pws, hp, Option.bind_some]
        cases pws (xs.drop (i + 1)) <;> simp [pres]
      | a :: b :: c :: t, hr =>
        have hp : pw xs[i] = none := by rw [pw, hr]
        rw [if_neg (by simp; omega)]
        simp [pws, hp, pres]
theorem implParse_val (l : List UInt8) (hl : l.length ≤ 2000000) (k : Nat) (hk : l.length + 2000010 < k) : impl_ParseParcels.f k (bs l) = some (pres (pws (sp 44 l)) []) := by
  have hs := sp_len 44 l
  unfold impl_ParseParcels.f
  rw [show (⟨#[44]⟩ : ByteArray) = bs [44] from rfl, split_val l 44 (by omega), Option.bind_some, List.length_map]
  have := implParse_l0 (sp 44 l) (fun x hx => by have := sp_mem_len 44 l x hx; omega) (by omega) (sp 44 l).length 0 k [] (by omega) (by omega) (by simp)
  rw [List.drop_zero] at this
  exact this
def sw (w : List UInt8) : Option S41 := match sp 42 w with
  | [a, b] => some ⟨rd6 a, rd6 b⟩
  | _ => none
def sws : List (List UInt8) → Option (List S41)
  | [] => some []
  | x :: r => (sw x).bind fun v => (sws r).map (v :: ·)
def txt (q : List S41) : List UInt8 := Lib.join (q.map pc) [44]
def sres (l : List UInt8) (o : Option (List S41)) (acc : List S41) : List S41 × Bool := match o with
  | some ps => if okP (acc ++ ps) = true then (if txt (acc ++ ps) = l then (acc ++ ps, true) else ([], false)) else ([], false)
  | none => ([], false)
theorem bgGood_k (l : List S41) (k : Nat) (hk : 20 ≤ k) : spec_bgGood.f k l = some (okP l) := by
  by_cases h : (decide ((l.length : Int) ≥ 1) && decide ((l.length : Int) ≤ 8)) = true
  · simp only [Bool.and_eq_true, decide_eq_true_eq] at h
    have := bgGood_l0 l (by omega) l.length 0 k (by omega) (by omega)
    unfold spec_bgGood.f okP
    rw [l1In_is, Option.bind_some, if_pos (by simp; omega)]
    rw [show (0 : Int) = ((0 : Nat) : Int) from rfl, this, List.drop_zero]
    rw [decide_eq_true (by omega : (l.length : Int) ≥ 1), decide_eq_true (by omega : (l.length : Int) ≤ 8)]
    rfl
  · have hf : (decide ((l.length : Int) ≥ 1) && decide ((l.length : Int) ≤ 8)) = false := by simpa using h
    unfold spec_bgGood.f okP
    rw [l1In_is, Option.bind_some, hf]
    rfl
theorem bgText_k {q : List S41} (h : okP q = true) (k : Nat) (hk : 3000 ≤ k) : spec_bgText.f k q = some (bs (txt q)) := by
  obtain ⟨_, hl⟩ := okP_len h
  have := specText_l0 q (okP_n h) hl q.length 0 k (by omega) (by omega)
  unfold spec_bgText.f
  simp only [List.take_zero, List.map_nil, Lib.join_nil] at this
  have e : (⟨#[]⟩ : ByteArray) = bs [] := rfl
  rw [e, show (0 : Int) = ((0 : Nat) : Int) from rfl, this]
  rfl
theorem specParse_l0 (l : List UInt8) (xs : List (List UInt8)) (hx : ∀ x ∈ xs, x.length ≤ 1000) (hn : xs.length ≤ 1000) : ∀ (d i k : Nat) (acc : List S41), i + d = xs.length → d + 5000 < k → acc.length ≤ i →
    spec_ParseParcels.l0 k (bs l) acc (xs.map bs) (xs.length : Int) (i : Int) = some (sres l (sws (xs.drop i)) acc) := by
  intro d
  induction d with
  | zero =>
    intro i k acc hi hk ha
    obtain ⟨k, rfl⟩ : ∃ m, k = m + 1 := ⟨k - 1, by omega⟩
    simp only [spec_ParseParcels.l0]
    rw [if_neg (by omega), List.drop_of_length_le (by omega : xs.length ≤ i), bgGood_k acc k (by omega), Option.bind_some]
    simp only [sws, sres, List.append_nil]
    cases hok : okP acc with
    | false => simp
    | true =>
      rw [if_pos rfl, if_pos rfl, bgText_k hok k (by omega), Option.bind_some]
      have e : ((bs (txt acc)).toList = (bs l).toList) = (txt acc = l) := by rw [ByteArray.toList_eq, ByteArray.toList_eq, bs_list, bs_list]
      simp only [e]
      by_cases ht : txt acc = l <;> simp [ht]
  | succ d ih =>
    intro i k acc hi hk ha
    obtain ⟨k, rfl⟩ : ∃ m, k = m + 1 := ⟨k - 1, by omega⟩
    simp only [spec_ParseParcels.l0]
    have hil : i < xs.length := by omega
    have hrd : rdOf ByteArray.empty (xs.map bs) (i : Int) = bs xs[i] := by simp [rdOf, List.getD, hil]
    have hxi := hx _ (List.getElem_mem hil)
    have hsp := l1Split_ev xs[i] 42 (by omega) k (by omega)
    rw [show (((42 : UInt8).toNat : Nat) : Int) = 42 from rfl] at hsp
    rw [if_pos (by omega), if_pos (by omega), if_pos (by simp; omega), hrd, hsp, Option.bind_some, List.length_map, w64 (by omega) (by omega), show ((i : Int) + 1) = ((i + 1 : Nat) : Int) by omega, List.drop_eq_getElem_cons hil]
    match hs : sp 42 xs[i] with
    | [] => exact absurd hs (sp_ne 42 _)
    | [a] =>
      have hp : sw xs[i] = none := by rw [sw, hs]
      simp [sws, hp, sres]
    | [a, b] =>
      have hp : sw xs[i] = some ⟨rd6 a, rd6 b⟩ := by rw [sw, hs]
      have hm := sp_mem_len 42 xs[i]
      rw [hs] at hm
      have ha2 := hm a (by simp)
      have hb2 := hm b (by simp)
      have e0 : rdOf ByteArray.empty ([a, b].map bs) 0 = bs a := rfl
      have e1 : rdOf ByteArray.empty ([a, b].map bs) 1 = bs b := rfl
      rw [if_pos (by simp), if_pos (by simp), e0, e1, l1Read_val a (by omega) k (by omega), Option.bind_some, if_pos (by simp), l1Read_val b (by omega) k (by omega), Option.bind_some, if_pos (by omega)]
      rw [ih (i + 1) k _ (by omega) (by omega) (by simp; omega)]
      simp only [sws, hp, Option.bind_some]
      cases sws (xs.drop (i + 1)) <;> simp [sres]
    | a :: b :: c :: t =>
      have hp : sw xs[i] = none := by rw [sw, hs]
      rw [if_neg (by simp; omega)]
      simp [sws, hp, sres]
theorem specParse_val (l : List UInt8) (hl : l.length ≤ 80) (k : Nat) (hk : 6000 < k) : spec_ParseParcels.f k (bs l) = some (sres l (sws (sp 44 l)) []) := by
  have hs := sp_len 44 l
  have hsp := l1Split_ev l 44 (by omega) k (by omega)
  rw [show (((44 : UInt8).toNat : Nat) : Int) = 44 from rfl] at hsp
  unfold spec_ParseParcels.f
  rw [if_neg (by rw [bs_size]; omega), hsp, Option.bind_some, List.length_map]
  have := specParse_l0 l (sp 44 l) (fun x hx => by have := sp_mem_len 44 l x hx; omega) (by omega) (sp 44 l).length 0 k [] (by omega) (by omega) (by simp)
  rw [List.drop_zero] at this
  exact this
theorem specParse_long (l : List UInt8) (hl : 80 < l.length) (k : Nat) : spec_ParseParcels.f k (bs l) = some ([], false) := by
  unfold spec_ParseParcels.f
  rw [if_pos (by rw [bs_size]; omega)]
theorem pc_sp {p : S41} : sp 42 (pc p) = [dg p.f0.toNat, dg p.f1.toNat] := by
  have e : pc p = Lib.join [dg p.f0.toNat, dg p.f1.toNat] [42] := by rw [Lib.join_cons]; simp [Lib.joinTail, pc]
  rw [e]
  exact sp_join 42 _ (by simp) (fun x hx => by
    simp at hx
    rcases hx with rfl | rfl
    · exact dg_no 42 (by decide) _
    · exact dg_no 42 (by decide) _)
theorem pw_pc {p : S41} (h : okN p) : pw (pc p) = some p := by
  obtain ⟨a, b, c, d⟩ := h
  unfold pw
  rw [pc_sp]
  simp only [rns, rn_dg p.f0.toNat (by omega), rn_dg p.f1.toNat (by omega), Option.bind_some, Option.map_some]
  have e1 : ((p.f0.toNat : Nat) : Int) = p.f0 := by omega
  have e2 : ((p.f1.toNat : Nat) : Int) = p.f1 := by omega
  rw [e1, e2]
theorem sw_pc {p : S41} (h : okN p) : sw (pc p) = some p := by
  obtain ⟨a, b, c, d⟩ := h
  unfold sw
  rw [pc_sp]
  simp only [rd6_dg p.f0.toNat (by omega), rd6_dg p.f1.toNat (by omega)]
  have e1 : ((p.f0.toNat : Nat) : Int) = p.f0 := by omega
  have e2 : ((p.f1.toNat : Nat) : Int) = p.f1 := by omega
  rw [e1, e2]
theorem pws_pc : ∀ (q : List S41), (∀ p ∈ q, okN p) → pws (q.map pc) = some q
  | [], _ => rfl
  | p :: r, h => by
    simp only [List.map_cons, pws, pw_pc (h p List.mem_cons_self), pws_pc r (fun x hx => h x (List.mem_cons_of_mem _ hx)), Option.bind_some, Option.map_some]
theorem sws_pc : ∀ (q : List S41), (∀ p ∈ q, okN p) → sws (q.map pc) = some q
  | [], _ => rfl
  | p :: r, h => by
    simp only [List.map_cons, sws, sw_pc (h p List.mem_cons_self), sws_pc r (fun x hx => h x (List.mem_cons_of_mem _ hx)), Option.bind_some, Option.map_some]
theorem itoa_nn {v : Int} (h : 0 ≤ v) : Lib.itoa v = dg v.toNat := by
  have := itoa_nat v.toNat
  rw [Int.toNat_of_nonneg h] at this
  exact this
theorem pw_ok {w : List UInt8} {p : S41} (h : pw w = some p) (hp : okN p) : w = pc p := by
  obtain ⟨a, b, c, d⟩ := hp
  unfold pw at h
  have hj := join_sp 42 w
  split at h
  · next x y hr =>
    injection h with h
    subst h
    match hs : sp 42 w with
    | [] => exact absurd hs (sp_ne 42 _)
    | [u] => rw [hs] at hr; have := rns_len _ _ hr; simp at this
    | [u, v] =>
      rw [hs] at hr hj
      simp only [rns] at hr
      obtain ⟨x1, h1, hr⟩ := Option.bind_eq_some_iff.1 hr
      obtain ⟨m, hm, e⟩ := Option.map_eq_some_iff.1 hr
      obtain ⟨y1, h2, hm⟩ := Option.bind_eq_some_iff.1 hm
      simp only [Option.map_some, Option.some.injEq] at hm
      subst hm
      simp only [List.cons.injEq, and_true] at e
      obtain ⟨rfl, rfl⟩ := e
      have e1 := rn_ok h1
      have e2 := rn_ok h2
      have a1 : 1 ≤ x1 := a
      have c1 : 1 ≤ y1 := c
      rw [itoa_nn (by omega)] at e1
      rw [itoa_nn (by omega)] at e2
      rw [← hj, ← e1, ← e2, Lib.join_cons]
      simp [Lib.joinTail, pc]
    | u :: v :: z :: t => rw [hs] at hr; have := rns_len _ _ hr; simp at this
  · cases h
theorem pws_ok : ∀ (ws : List (List UInt8)) (q : List S41), pws ws = some q → (∀ p ∈ q, okN p) → ws = q.map pc
  | [], q, h, _ => by
    injection h with h
    rw [← h]
    rfl
  | w :: r, q, h, hq => by
    simp only [pws] at h
    obtain ⟨p, h1, h⟩ := Option.bind_eq_some_iff.1 h
    obtain ⟨m, hm, rfl⟩ := Option.map_eq_some_iff.1 h
    rw [List.map_cons, ← pws_ok r m hm (fun x hx => hq x (List.mem_cons_of_mem _ hx)), ← pw_ok h1 (hq p List.mem_cons_self)]
theorem pc_len8 {p : S41} (h : okN p) : (pc p).length ≤ 8 := by
  obtain ⟨a, b, c, d⟩ := h
  have h1 := dg_len_pow 2 p.f0.toNat (by omega)
  have h2 := dg_len_pow 3 p.f1.toNat (by omega)
  unfold pc
  simp
  omega
theorem txt_len {q : List S41} (h : okP q = true) : (txt q).length ≤ 80 := by
  obtain ⟨_, hl⟩ := okP_len h
  have := join_len (q.map pc) [44] 8 (fun x hx => by
    obtain ⟨p, hp, rfl⟩ := List.mem_map.1 hx
    exact pc_len8 (okP_n h p hp))
  have h2 : ([44].length + 8 : Nat) * (q.map pc).length ≤ 9 * 8 := Nat.mul_le_mul (by simp) (by simpa using hl)
  unfold txt
  omega
theorem pc_no {p : S41} : (44 : UInt8) ∉ pc p := by
  unfold pc
  intro h
  simp at h
  rcases h with h | h
  · exact dg_no 44 (by decide) _ h
  · exact dg_no 44 (by decide) _ h
theorem txt_sp {q : List S41} (h : okP q = true) : sp 44 (txt q) = q.map pc := by
  obtain ⟨hl, _⟩ := okP_len h
  exact sp_join 44 _ (by intro e; have := congrArg List.length e; simp at this; rw [this] at hl; simp at hl) (fun x hx => by
    obtain ⟨p, _, rfl⟩ := List.mem_map.1 hx
    exact pc_no)
theorem ParseParcels_both (l : List UInt8) (hl : l.length ≤ 1048577) : ∃ v, Ev (fun k => spec_ParseParcels.f k (bs l)) v ∧ Ev (fun k => impl_ParseParcels.f k (bs l)) v ∧ v.1.length ≤ 40 := by
  by_cases hq : ∃ q, okP q = true ∧ txt q = l
  · obtain ⟨q, h1, rfl⟩ := hq
    obtain ⟨_, h8⟩ := okP_len h1
    refine ⟨(q, true), ⟨7000, fun k hk => ?_⟩, ⟨5000000, fun k hk => ?_⟩, by simp; omega⟩
    · show spec_ParseParcels.f k (bs (txt q)) = _
      rw [specParse_val _ (txt_len h1) k (by omega), txt_sp h1, sws_pc q (okP_n h1)]
      simp [sres, h1]
    · show impl_ParseParcels.f k (bs (txt q)) = _
      rw [implParse_val _ (by omega) k (by omega), txt_sp h1, pws_pc q (okP_n h1)]
      simp [pres, h1]
  · refine ⟨([], false), ⟨7000, fun k hk => ?_⟩, ⟨5000000, fun k hk => ?_⟩, by simp⟩
    · show spec_ParseParcels.f k (bs l) = _
      by_cases h80 : l.length ≤ 80
      · rw [specParse_val l h80 k (by omega)]
        cases hs : sws (sp 44 l) with
        | none => rfl
        | some ps =>
          simp only [sres, List.nil_append]
          by_cases h1 : okP ps = true
          · rw [if_pos h1]
            by_cases h2 : txt ps = l
            · exact absurd ⟨ps, h1, h2⟩ hq
            · rw [if_neg h2]
          · rw [if_neg h1]
      · exact specParse_long l (by omega) k
    · show impl_ParseParcels.f k (bs l) = _
      rw [implParse_val l (by omega) k (by omega)]
      cases hs : pws (sp 44 l) with
      | none => rfl
      | some ps =>
        simp only [pres, List.nil_append]
        by_cases h1 : okP ps = true
        · have hw := pws_ok _ _ hs (okP_n h1)
          have : txt ps = l := by
            unfold txt
            rw [← hw]
            exact join_sp 44 l
          exact absurd ⟨ps, h1, this⟩ hq
        · rw [if_neg h1]
end Go.Proofs.YtlbodfogdhjnlaaDoor.Tx

/- Texts of this seat's proofs: contracts of its functions and plain laws about them, with no condition beyond those that each theorem states. -/
import Derived.Test.YtlbodfogdhjnlaaDoorQ39463c17
import Derived.Test.YtlbodfogdhjnlaaDoorQ13eeb2fc
import Derived.Test.YtlbodfogdhjnlaaDoorQ0a291ec6
import Derived.Test.YtlbodfogdhjnlaaDoorQaed90d88
import Derived.Test.YtlbodfogdhjnlaaDoorQ6f64b3cc
import Derived.Test.YtlbodfogdhjnlaaDoorQ02a9d730
import Derived.Test.YtlbodfogdhjnlaaDoorQda14fd0c
import Derived.Test.YtlbodfogdhjnlaaDoorQ349dc376
set_option linter.unusedSimpArgs false
set_option linter.unusedVariables false
namespace Go.Proofs.YtlbodfogdhjnlaaDoor.Tx
open Go.RowKit Go.Proofs.YtlbodfogdhjnlaaDoor.G Go.Proofs.YtlbodfogdhjnlaaDoor.Pz Go.Proofs.YtlbodfogdhjnlaaDoorW.PrintWords Go.Proofs.YtlbodfogdhjnlaaDoorW.PrintLast Go.Proofs.YtlbodfogdhjnlaaDoorW.PrintMore
abbrev Res := Int × Int × List S54 × Bool
def chk (l : List UInt8) (D : Option (Int × Int × List S54)) : Res := match D with
  | some (a, b, q) => if good a b q = true then (if pt a b q = l then (a, b, q, true) else (0, 0, [], false)) else (0, 0, [], false)
  | none => (0, 0, [], false)
theorem text_eq (a l : List UInt8) : ((bs a).toList = (bs l).toList) = (a = l) := by rw [ByteArray.toList_eq, ByteArray.toList_eq, bs_list, bs_list]
theorem text_beq (a l : List UInt8) : ((bs a).toList == (bs l).toList) = decide (a = l) := by
  rw [ByteArray.toList_eq, ByteArray.toList_eq, bs_list, bs_list, Bool.eq_iff_iff]
  simp
theorem text_nil (l : List UInt8) : ((bs l).toList = ([] : List UInt8)) = (l = []) := by rw [ByteArray.toList_eq, bs_list]
def pst : List UInt8 → Option (Int × Int)
  | [] => none
  | c :: r => match rn r with
    | some p => if street (Lib.indexByte [114, 111, 117] c) p = true then some (Lib.indexByte [114, 111, 117] c, p) else none
    | none => none
def sres3 (o : Option (Int × Int)) : Int × Int × Bool := match o with
  | some (a, b) => (a, b, true)
  | none => (0, 0, false)
theorem parseStreet_val (l : List UInt8) (hl : l.length ≤ 2000000) : impl_ParseStreet.f (bs l) = some (sres3 (pst l)) := by
  unfold impl_ParseStreet.f
  simp only [text_nil]
  cases l with
  | nil => rfl
  | cons c r =>
    have hbt := bt_bs (c :: r) 0 (by simp)
    rw [show ((0 : Nat) : Int) = 0 from rfl] at hbt
    have hex : (bs (c :: r)).extract 1 (bs (c :: r)).size = bs r := by
      rw [extract_bs, bs_size, List.take_length]
      rfl
    have hlr : r.length ≤ 2000000 := by simp at hl; omega
    have hib : strings_IndexByte.f (⟨#[114, 111, 117]⟩ : ByteArray) (bt (bs (c :: r)) 0) = some (Lib.indexByte [114, 111, 117] c) := by
      rw [hbt]
      unfold strings_IndexByte.f
      congr 2
      simp
    rw [if_neg (by simp), if_pos (by rw [bs_size, List.length_cons]; omega), hex, readNumber_val r hlr, Option.bind_some, if_pos (by rw [bs_size, List.length_cons]; omega), hib, Option.bind_some]
    by_cases h : (rnum r).2 = true
    · have hr : rn r = some (rnum r).1 := by rw [rn, if_pos h]
      rw [if_pos h, isStreet_val, Option.bind_some]
      simp only [pst, hr]
      by_cases hs : street (Lib.indexByte [114, 111, 117] c) (rnum r).1 = true
      · rw [if_pos hs, if_pos hs]; rfl
      · rw [if_neg hs, if_neg hs]; rfl
    · have hr : rn r = none := by rw [rn, if_neg h]
      rw [if_neg h]
      simp only [pst, hr]
      rfl
def qw (w : List UInt8) : Option S54 := match rns (sp 46 w) with
  | some [a, b, c] => some ⟨a, b, c⟩
  | _ => none
def qws : List (List UInt8) → Option (List S54)
  | [] => some []
  | x :: r => (qw x).bind fun v => (qws r).map (v :: ·)
theorem implJ1 (l : List UInt8) (a b : Int) (q : List S54) (k : Nat) (hk : 5000 ≤ k) : impl_ParsePuzzle.j1 k (bs l) a b q = some (chk l (some (a, b, q))) := by
  obtain ⟨k, rfl⟩ : ∃ m, k = m + 1 := ⟨k - 1, by omega⟩
  simp only [impl_ParsePuzzle.j1]
  rw [isPuzzle_val, Option.bind_some]
  unfold chk
  simp only
  cases hg : good a b q with
  | false => simp
  | true =>
    rw [if_pos rfl, if_pos rfl, puzzleText_k hg k (by omega), Option.bind_some]
    simp only [text_eq]
    by_cases ht : pt a b q = l <;> simp [ht]
def qadd (a b : Int) (acc : List S54) (o : Option (List S54)) : Option (Int × Int × List S54) := o.map fun q => (a, b, acc ++ q)
theorem implPz_l0 (l rest : List UInt8) (hr : rest ≠ []) (a b : Int) (xs : List (List UInt8)) (hx : ∀ x ∈ xs, x.length ≤ 2000000) (hn : xs.length ≤ 2000002) : ∀ (d i k : Nat) (acc : List S54), i + d = xs.length → d + 2010002 < k → acc.length ≤ i →
    impl_ParsePuzzle.l0 k (bs l) (bs rest) (xs.map bs) (xs.length : Int) (i : Int) a b acc = some (chk l (qadd a b acc (qws (xs.drop i)))) := by
  intro d
  induction d with
  | zero =>
    intro i k acc hi hk ha
    obtain ⟨k, rfl⟩ : ∃ m, k = m + 1 := ⟨k - 1, by omega⟩
    simp only [impl_ParsePuzzle.l0]
    rw [if_neg (by omega), List.drop_of_length_le (by omega : xs.length ≤ i), implJ1 l a b acc k (by omega)]
    simp [qws, qadd]
  | succ d ih =>
    intro i k acc hi hk ha
    obtain ⟨k, rfl⟩ : ∃ m, k = m + 1 := ⟨k - 1, by omega⟩
    simp only [impl_ParsePuzzle.l0]
    have hil : i < xs.length := by omega
    have hrd : rdOf ByteArray.empty (xs.map bs) (i : Int) = bs xs[i] := by simp [rdOf, List.getD, hil]
    have hxi := hx _ (List.getElem_mem hil)
    simp only [text_nil]
    rw [if_pos (by omega), if_pos (by omega), if_pos (by simp; omega), if_neg hr, hrd, show (⟨#[46]⟩ : ByteArray) = bs [46] from rfl, readNumbers_val _ 46 hxi k (by omega), Option.bind_some, Pz.w64 (by omega) (by omega), show ((i : Int) + 1) = ((i + 1 : Nat) : Int) by omega, List.drop_eq_getElem_cons hil]
    cases hq : rns (sp 46 xs[i]) with
    | none =>
      have hp : qw xs[i] = none := by rw [qw, hq]
      simp [qws, hp, qadd, chk]
    | some ns =>
      simp only
      rw [if_pos trivial]
      match ns, hq with
      | [], hq =>
        have hp : qw xs[i] = none := by rw [qw, hq]
        simp [qws, hp, qadd, chk]
      | [x], hq =>
        have hp : qw xs[i] = none := by rw [qw, hq]
        simp [qws, hp, qadd, chk]
      | [x, y], hq =>
        have hp : qw xs[i] = none := by rw [qw, hq]
        simp [qws, hp, qadd, chk]
      | [x, y, z], hq =>
        have hp : qw xs[i] = some ⟨x, y, z⟩ := by rw [qw, hq]
        rw [if_pos (by simp), if_pos (by simp), if_pos (by simp), if_pos (by simp), if_pos (by omega)]
        have e : (⟨rd [x, y, z] 0, rd [x, y, z] 1, rd [x, y, z] 2⟩ : S54) = ⟨x, y, z⟩ := rfl
        rw [e, ih (i + 1) k _ (by omega) (by omega) (by simp; omega)]
        simp only [qws, hp, Option.bind_some]
        cases qws (xs.drop (i + 1)) <;> simp [qadd]
      | x :: y :: z :: u :: t, hq =>
        have hp : qw xs[i] = none := by rw [qw, hq]
        rw [if_neg (by simp; omega)]
        simp [qws, hp, qadd, chk]
def dI (l : List UInt8) : Option (Int × Int × List S54) := match pst (Lib.cut l [59]).1 with
  | some (a, b) => if (Lib.cut l [59]).2.1 = [] then some (a, b, []) else qadd a b [] (qws (sp 44 (Lib.cut l [59]).2.1))
  | none => none
theorem cut_len (l : List UInt8) (c : UInt8) : (Lib.cut l [c]).1.length ≤ l.length ∧ (Lib.cut l [c]).2.1.length ≤ l.length := by
  unfold Lib.cut
  split <;> simp <;> omega
theorem implPz_val (l : List UInt8) (hl : l.length ≤ 2000000) (k : Nat) (hk : 5000000 ≤ k) : impl_ParsePuzzle.f k (bs l) = some (chk l (dI l)) := by
  obtain ⟨c1, c2⟩ := cut_len l 59
  have hcut : strings_Cut.f (bs l) (⟨#[59]⟩ : ByteArray) = some (bs (Lib.cut l [59]).1, bs (Lib.cut l [59]).2.1, (Lib.cut l [59]).2.2) := by
    unfold strings_Cut.f
    rw [if_pos (by rw [bs_size]; omega), bs_list]
    rfl
  unfold impl_ParsePuzzle.f dI
  rw [hcut, Option.bind_some, parseStreet_val _ (by omega), Option.bind_some]
  generalize (Lib.cut l [59]).2.1 = rest at *
  cases hp : pst (Lib.cut l [59]).1 with
  | none => simp [sres3, chk]
  | some ab =>
    obtain ⟨a, b⟩ := ab
    simp only [sres3]
    have hs := sp_len 44 rest
    rw [if_pos trivial, show (⟨#[44]⟩ : ByteArray) = bs [44] from rfl, split_val rest 44 (by omega), Option.bind_some, List.length_map]
    by_cases hr : rest = []
    · subst hr
      rw [if_pos rfl]
      obtain ⟨k, rfl⟩ : ∃ m, k = m + 1 := ⟨k - 1, by omega⟩
      simp only [impl_ParsePuzzle.l0, text_nil]
      rw [if_pos (by simp [sp]), if_pos (by omega), if_pos (by simp [sp]), if_pos trivial]
      exact implJ1 l a b [] k (by omega)
    · rw [if_neg hr]
      have := implPz_l0 l rest hr a b (sp 44 rest) (fun x hx => by have := sp_mem_len 44 rest x hx; omega) (by omega) (sp 44 rest).length 0 k [] (by omega) (by omega) (by simp)
      rw [List.drop_zero] at this
      exact this
def kdOf (c : UInt8) : Int := if c = 117 then 2 else if c = 111 then 1 else if c = 114 then 0 else -1
def npar : List UInt8 → Option (Int × Int)
  | [] => none
  | c :: r => if 1 ≤ r.length ∧ r.length ≤ 4 then (if street (kdOf c) (rd6 r) = true then some (kdOf c, rd6 r) else none) else none
theorem nuGood_val (a b : Int) : spec_nuGood.f a b = some (street a b) := isStreet_val a b
theorem nuParse_val (l : List UInt8) (hl : l.length ≤ 2000000) (k : Nat) (hk : 100 < k) : spec_nuParse.f k (bs l) = some (sres3 (npar l)) := by
  unfold spec_nuParse.f
  rw [l1In_val, Option.bind_some]
  cases l with
  | nil => simp [inB, bs_size, npar, sres3]
  | cons c r =>
    by_cases hb : 1 ≤ r.length ∧ r.length ≤ 4
    · have hi : inB ((bs (c :: r)).size : Int) 2 5 = true := by
        unfold inB
        rw [bs_size]
        simp
        omega
      have hex : (bs (c :: r)).extract 1 (bs (c :: r)).size = bs r := by
        rw [extract_bs, bs_size, List.take_length]
        rfl
      have hbt := bt_bs (c :: r) 0 (by simp)
      rw [show ((0 : Nat) : Int) = 0 from rfl] at hbt
      simp only [List.getElem_cons_zero] at hbt
      have hsz : 0 < ((bs (c :: r)).size : Int) := by rw [bs_size, List.length_cons]; omega
      rw [hi, if_pos rfl, if_pos (by omega), hex, l1Read_val r (by omega) k (by omega), Option.bind_some]
      obtain ⟨k, rfl⟩ : ∃ m, k = m + 4 := ⟨k - 4, by omega⟩
      have b0 : bt (⟨#[114, 111, 117]⟩ : ByteArray) 0 = 114 := rfl
      have b1 : bt (⟨#[114, 111, 117]⟩ : ByteArray) 1 = 111 := rfl
      have b2 : bt (⟨#[114, 111, 117]⟩ : ByteArray) 2 = 117 := rfl
      have w1 : wrap64 ((0 : Int) + 1) = 1 := Pz.w64 (by omega) (by omega)
      have w2 : wrap64 ((1 : Int) + 1) = 2 := Pz.w64 (by omega) (by omega)
      have w3 : wrap64 ((2 : Int) + 1) = 3 := Pz.w64 (by omega) (by omega)
      have step : ∀ (n : Nat) (j x y : Int), spec_nuParse.l0 (n + 1) (bs (c :: r)) j x y = if j < 3 then (if 0 < ((bs (c :: r)).size : Int) then (if 0 ≤ j then (if (bt (bs (c :: r)) 0) = (bt (⟨#[114, 111, 117]⟩ : ByteArray) j) then (spec_nuParse.l0 n (bs (c :: r)) (wrap64 (j + 1)) j y) else (spec_nuParse.l0 n (bs (c :: r)) (wrap64 (j + 1)) x y)) else none) else none) else ((spec_nuGood.f x y).bind fun t105 => (if t105 = true then (some (x, y, true)) else (some (0, 0, false)))) := fun _ _ _ _ => rfl
      have fin : ∀ (m : Nat) (x y : Int), spec_nuParse.l0 (m + 1) (bs (c :: r)) 3 x y = some (sres3 (if street x y = true then some (x, y) else none)) := by
        intro m x y
        rw [step, if_neg (by omega), nuGood_val, Option.bind_some]
        cases street x y <;> rfl
      have st2 : ∀ (m : Nat) (x y : Int), spec_nuParse.l0 (m + 2) (bs (c :: r)) 2 x y = some (sres3 (if street (if c = 117 then 2 else x) y = true then some (if c = 117 then 2 else x, y) else none)) := by
        intro m x y
        rw [step (m + 1), if_pos (by omega), if_pos hsz, if_pos (by omega), hbt, b2, w3, fin, fin]
        by_cases hc : c = 117
        · subst hc
          rw [if_pos (by rfl), if_pos rfl]
        · rw [if_neg (fun e => hc (UInt8.toNat_inj.1 (by have : (117 : UInt8).toNat = 117 := rfl; omega))), if_neg hc]
      have st1 : ∀ (m : Nat) (x y : Int), spec_nuParse.l0 (m + 3) (bs (c :: r)) 1 x y = spec_nuParse.l0 (m + 2) (bs (c :: r)) 2 (if c = 111 then 1 else x) y := by
        intro m x y
        rw [step (m + 2), if_pos (by omega), if_pos hsz, if_pos (by omega), hbt, b1, w2]
        by_cases hc : c = 111
        · subst hc
          rw [if_pos (by rfl), if_pos rfl]
        · rw [if_neg (fun e => hc (UInt8.toNat_inj.1 (by have : (111 : UInt8).toNat = 111 := rfl; omega))), if_neg hc]
      have st0 : ∀ (m : Nat) (x y : Int), spec_nuParse.l0 (m + 4) (bs (c :: r)) 0 x y = spec_nuParse.l0 (m + 3) (bs (c :: r)) 1 (if c = 114 then 0 else x) y := by
        intro m x y
        rw [step (m + 3), if_pos (by omega), if_pos hsz, if_pos (by omega), hbt, b0, w1]
        by_cases hc : c = 114
        · subst hc
          rw [if_pos (by rfl), if_pos rfl]
        · rw [if_neg (fun e => hc (UInt8.toNat_inj.1 (by have : (114 : UInt8).toNat = 114 := rfl; omega))), if_neg hc]
      rw [st0, st1, st2]
      simp only [npar]
      rw [if_pos hb]
      rfl
    · have hi : inB ((bs (c :: r)).size : Int) 2 5 = false := by
        unfold inB
        rw [bs_size, List.length_cons]
        by_cases h1 : 1 ≤ r.length
        · rw [decide_eq_false (by omega : ¬ ((r.length + 1 : Nat) : Int) ≤ 5), Bool.and_false]
        · rw [decide_eq_false (by omega : ¬ (2 : Int) ≤ ((r.length + 1 : Nat) : Int)), Bool.false_and]
      rw [hi, if_neg (by simp)]
      simp only [npar]
      rw [if_neg hb]
      rfl
def sqw (w : List UInt8) : Option S54 := match sp 46 w with
  | [a, b, c] => some ⟨rd6 a, rd6 b, rd6 c⟩
  | _ => none
def sqws : List (List UInt8) → Option (List S54)
  | [] => some []
  | x :: r => (sqw x).bind fun v => (sqws r).map (v :: ·)
def fin4 (v : Res) : Res := if v.2.2.2 = true then (v.1, v.2.1, v.2.2.1, true) else (0, 0, [], false)
theorem specEnd (l : List UInt8) (a b : Int) (q : List S54) (k : Nat) (hk : 50000 ≤ k) :
    ∃ v, ((spec_pzGood.f k a b q).bind fun t => if t = true then ((spec_pzText.f k a b q).bind fun u => some (a, b, q, (u.toList == (bs l).toList))) else some (a, b, q, false)) = some v ∧ fin4 v = chk l (some (a, b, q)) := by
  rw [pzGood_k a b q (by omega), Option.bind_some]
  unfold chk
  simp only
  cases hg : good a b q with
  | false => exact ⟨_, rfl, rfl⟩
  | true =>
    rw [if_pos rfl, if_pos rfl, pzText_k hg k (by omega), Option.bind_some, text_beq]
    refine ⟨_, rfl, ?_⟩
    unfold fin4
    by_cases ht : pt a b q = l <;> simp [ht]
theorem specPz_l0 (l : List UInt8) (a b : Int) (xs : List (List UInt8)) (hx : ∀ x ∈ xs, x.length ≤ 1000) (hn : xs.length ≤ 1000) : ∀ (d i k : Nat) (acc : List S54), i + d = xs.length → d + 60000 < k → acc.length ≤ i →
    ∃ v, spec_pzParse.l0 k (bs l) (xs.map bs) (xs.length : Int) (i : Int) a b acc = some v ∧ fin4 v = chk l (qadd a b acc (sqws (xs.drop i))) := by
  intro d
  induction d with
  | zero =>
    intro i k acc hi hk ha
    obtain ⟨k, rfl⟩ : ∃ m, k = m + 1 := ⟨k - 1, by omega⟩
    simp only [spec_pzParse.l0]
    rw [if_neg (by omega), List.drop_of_length_le (by omega : xs.length ≤ i)]
    have := specEnd l a b acc k (by omega)
    simpa [sqws, qadd] using this
  | succ d ih =>
    intro i k acc hi hk ha
    obtain ⟨k, rfl⟩ : ∃ m, k = m + 1 := ⟨k - 1, by omega⟩
    simp only [spec_pzParse.l0]
    have hil : i < xs.length := by omega
    have hrd : rdOf ByteArray.empty (xs.map bs) (i : Int) = bs xs[i] := by simp [rdOf, List.getD, hil]
    have hxi := hx _ (List.getElem_mem hil)
    have hsp := l1Split_ev xs[i] 46 (by omega) k (by omega)
    rw [show (((46 : UInt8).toNat : Nat) : Int) = 46 from rfl] at hsp
    rw [if_pos (by omega), if_pos (by omega), if_pos (by simp; omega), hrd, hsp, Option.bind_some, List.length_map, Pz.w64 (by omega) (by omega), show ((i : Int) + 1) = ((i + 1 : Nat) : Int) by omega, List.drop_eq_getElem_cons hil]
    have no : ∀ (z : Option S54), z = none → fin4 (0, 0, ([] : List S54), false) = chk l (qadd a b acc (z.bind fun v => (sqws (xs.drop (i + 1))).map (v :: ·))) := by
      intro z hz
      subst hz
      rfl
    match hs : sp 46 xs[i] with
    | [] => exact absurd hs (sp_ne 46 _)
    | [x] =>
      rw [if_neg (by simp)]
      exact ⟨_, rfl, no (sqw xs[i]) (by rw [sqw, hs])⟩
    | [x, y] =>
      rw [if_neg (by simp)]
      exact ⟨_, rfl, no (sqw xs[i]) (by rw [sqw, hs])⟩
    | [x, y, z] =>
      have hp : sqw xs[i] = some ⟨rd6 x, rd6 y, rd6 z⟩ := by rw [sqw, hs]
      have hm := sp_mem_len 46 xs[i]
      rw [hs] at hm
      have ha2 := hm x (by simp)
      have hb2 := hm y (by simp)
      have hc2 := hm z (by simp)
      have e0 : rdOf ByteArray.empty ([x, y, z].map bs) 0 = bs x := rfl
      have e1 : rdOf ByteArray.empty ([x, y, z].map bs) 1 = bs y := rfl
      have e2 : rdOf ByteArray.empty ([x, y, z].map bs) 2 = bs z := rfl
      rw [if_pos (by simp), if_pos (by simp), e0, e1, e2, l1Read_val x (by omega) k (by omega), Option.bind_some, if_pos (by simp), l1Read_val y (by omega) k (by omega), Option.bind_some, if_pos (by simp), l1Read_val z (by omega) k (by omega), Option.bind_some, if_pos (by omega)]
      obtain ⟨v, h1, h2⟩ := ih (i + 1) k (acc ++ [⟨rd6 x, rd6 y, rd6 z⟩]) (by omega) (by omega) (by simp; omega)
      refine ⟨v, h1, ?_⟩
      rw [h2]
      simp only [sqws, hp, Option.bind_some]
      cases sqws (xs.drop (i + 1)) <;> simp [qadd]
    | x :: y :: z :: u :: t =>
      rw [if_neg (by simp; omega)]
      exact ⟨_, rfl, no (sqw xs[i]) (by rw [sqw, hs])⟩
def dS (l : List UInt8) : Option (Int × Int × List S54) := if 100 < l.length then none else match sp 59 l with
  | [x, y] => match npar x with
    | some (a, b) => if y = [] then some (a, b, []) else qadd a b [] (sqws (sp 44 y))
    | none => none
  | _ => none
theorem specPz_val (l : List UInt8) (hl : l.length ≤ 2000000) (k : Nat) (hk : 5000000 ≤ k) : spec_ParsePuzzle.f k (bs l) = some (chk l (dS l)) := by
  have main : ∃ v, spec_pzParse.f k (bs l) = some v ∧ fin4 v = chk l (dS l) := by
    have hsp := l1Split_ev l 59 (by omega) k (by omega)
    rw [show (((59 : UInt8).toNat : Nat) : Int) = 59 from rfl] at hsp
    have hs := sp_len 59 l
    unfold spec_pzParse.f dS
    rw [hsp, Option.bind_some]
    obtain ⟨k, rfl⟩ : ∃ m, k = m + 1 := ⟨k - 1, by omega⟩
    have bad : spec_pzParse.j0 (k + 1) (bs l) ((sp 59 l).map bs) true = some (0, 0, [], false) := by
      simp only [spec_pzParse.j0]
      rw [if_pos trivial]
    by_cases h100 : 100 < l.length
    · rw [if_pos (by rw [bs_size]; omega), if_pos h100, bad]
      exact ⟨_, rfl, rfl⟩
    · rw [if_neg (by rw [bs_size]; omega), if_neg h100, List.length_map]
      match hw : sp 59 l with
      | [] => exact absurd hw (sp_ne 59 _)
      | [x] =>
        rw [hw] at bad
        rw [show ((([x] : List (List UInt8)).length : Int) != 2) = true from rfl, bad]
        exact ⟨_, rfl, rfl⟩
      | x :: y :: z :: t =>
        rw [hw] at bad
        rw [show (((x :: y :: z :: t : List (List UInt8)).length : Int) != 2) = true from bne_iff_ne.mpr (by simp; omega), bad]
        exact ⟨_, rfl, rfl⟩
      | [x, y] =>
        have hm := sp_mem_len 59 l
        rw [hw] at hm
        have hx2 := hm x (by simp)
        have hy2 := hm y (by simp)
        rw [show ((([x, y] : List (List UInt8)).length : Int) != 2) = false from rfl]
        simp only [spec_pzParse.j0]
        have e0 : rdOf ByteArray.empty ([x, y].map bs) 0 = bs x := rfl
        have e1 : rdOf ByteArray.empty ([x, y].map bs) 1 = bs y := rfl
        rw [if_neg (by simp), if_pos (by simp), e0, e1, nuParse_val x (by omega) k (by omega), Option.bind_some]
        cases hp : npar x with
        | none => exact ⟨_, rfl, rfl⟩
        | some ab =>
          obtain ⟨a, b⟩ := ab
          simp only [sres3]
          rw [if_pos trivial, if_pos (by simp)]
          by_cases hy : y = []
          · subst hy
            rw [if_neg (by rw [bs_size]; simp), if_pos rfl]
            exact specEnd l a b [] k (by omega)
          · have hyl : 0 < y.length := List.length_pos_iff.mpr hy
            have hsp2 := l1Split_ev y 44 (by omega) k (by omega)
            rw [show (((44 : UInt8).toNat : Nat) : Int) = 44 from rfl] at hsp2
            have hs2 := sp_len 44 y
            rw [if_pos (by rw [bs_size]; omega), if_neg hy, hsp2, Option.bind_some, List.length_map]
            have := specPz_l0 l a b (sp 44 y) (fun z hz => by have := sp_mem_len 44 y z hz; omega) (by omega) (sp 44 y).length 0 k [] (by omega) (by omega) (by simp)
            rw [List.drop_zero] at this
            exact this
  obtain ⟨v, h1, h2⟩ := main
  unfold spec_ParsePuzzle.f
  rw [h1, Option.bind_some, ← h2]
  unfold fin4
  split <;> rfl
theorem qc_sp {p : S54} : sp 46 (qc p) = [dg p.f0.toNat, dg p.f1.toNat, dg p.f2.toNat] := by
  rw [← qc_join]
  exact sp_join 46 _ (by simp) (fun x hx => by
    simp at hx
    rcases hx with rfl | rfl | rfl
    · exact dg_no 46 (by decide) _
    · exact dg_no 46 (by decide) _
    · exact dg_no 46 (by decide) _)
theorem qw_qc {p : S54} (h : okQ p) : qw (qc p) = some p := by
  obtain ⟨a, b, c, d, e, f⟩ := h
  unfold qw
  rw [qc_sp]
  simp only [rns, rn_dg p.f0.toNat (by omega), rn_dg p.f1.toNat (by omega), rn_dg p.f2.toNat (by omega), Option.bind_some, Option.map_some]
  have e1 : ((p.f0.toNat : Nat) : Int) = p.f0 := by omega
  have e2 : ((p.f1.toNat : Nat) : Int) = p.f1 := by omega
  have e3 : ((p.f2.toNat : Nat) : Int) = p.f2 := by omega
  rw [e1, e2, e3]
theorem sqw_qc {p : S54} (h : okQ p) : sqw (qc p) = some p := by
  obtain ⟨a, b, c, d, e, f⟩ := h
  unfold sqw
  rw [qc_sp]
  simp only [rd6_dg p.f0.toNat (by omega), rd6_dg p.f1.toNat (by omega), rd6_dg p.f2.toNat (by omega)]
  have e1 : ((p.f0.toNat : Nat) : Int) = p.f0 := by omega
  have e2 : ((p.f1.toNat : Nat) : Int) = p.f1 := by omega
  have e3 : ((p.f2.toNat : Nat) : Int) = p.f2 := by omega
  rw [e1, e2, e3]
theorem qws_qc : ∀ (q : List S54), (∀ p ∈ q, okQ p) → qws (q.map qc) = some q
  | [], _ => rfl
  | p :: r, h => by
    simp only [List.map_cons, qws, qw_qc (h p List.mem_cons_self), qws_qc r (fun x hx => h x (List.mem_cons_of_mem _ hx)), Option.bind_some, Option.map_some]
theorem sqws_qc : ∀ (q : List S54), (∀ p ∈ q, okQ p) → sqws (q.map qc) = some q
  | [], _ => rfl
  | p :: r, h => by
    simp only [List.map_cons, sqws, sqw_qc (h p List.mem_cons_self), sqws_qc r (fun x hx => h x (List.mem_cons_of_mem _ hx)), Option.bind_some, Option.map_some]
theorem qc_no (c : UInt8) (hc : c.toNat < 48) (h46 : c ≠ 46) (p : S54) : c ∉ qc p := by
  unfold qc
  intro h
  simp only [List.mem_append, List.mem_singleton] at h
  rcases h with (((h | h) | h) | h) | h
  · exact dg_no c hc _ h
  · exact h46 h
  · exact dg_no c hc _ h
  · exact h46 h
  · exact dg_no c hc _ h
theorem join_no (c : UInt8) (sep : List UInt8) (hs : c ∉ sep) : ∀ (xs : List (List UInt8)), (∀ x ∈ xs, c ∉ x) → c ∉ Lib.join xs sep
  | [], _ => by simp [Lib.join_nil]
  | x :: r, h => by
    rw [Lib.join_cons]
    intro hm
    rcases List.mem_append.1 hm with hm | hm
    · exact h x List.mem_cons_self hm
    · unfold Lib.joinTail at hm
      obtain ⟨y, hy, hm⟩ := List.mem_flatten.1 hm
      obtain ⟨z, hz, rfl⟩ := List.mem_map.1 hy
      rcases List.mem_append.1 hm with hm | hm
      · exact hs hm
      · exact h z (List.mem_cons_of_mem _ hz) hm
theorem lt1_letters (a : Int) : lt1 a = [114] ∨ lt1 a = [111] ∨ lt1 a = [117] := by
  unfold lt1
  split
  · exact .inl rfl
  · split
    · exact .inr (.inl rfl)
    · exact .inr (.inr rfl)
theorem dg_no59 (n : Nat) : (59 : UInt8) ∉ dg n := fun h => by
  have := dg_digit n 59 h
  simp at this
theorem st_no (a b : Int) : (59 : UInt8) ∉ st a b := by
  unfold st
  intro h
  rcases List.mem_append.1 h with h | h
  · rcases lt1_letters a with e | e | e <;> rw [e] at h <;> simp at h
  · exact dg_no59 _ h
theorem index_at (c : UInt8) : ∀ (x y : List UInt8), c ∉ x → Lib.index (x ++ c :: y) [c] = (x.length : Int)
  | [], y, _ => by simp [Lib.index]
  | b :: r, y, h => by
    have hb : b ≠ c := fun e => h (by rw [e]; exact List.mem_cons_self)
    have ih := index_at c r y (fun e => h (List.mem_cons_of_mem _ e))
    have hp : ([c].isPrefixOf (b :: (r ++ c :: y))) = false := by simp [List.isPrefixOf, Ne.symm hb]
    rw [List.cons_append, Lib.index, hp, ih]
    have : (((r.length : Nat) : Int) == -1) = false := beq_eq_false_iff_ne.mpr (by omega)
    simp [this]
theorem cut_at (c : UInt8) (x y : List UInt8) (h : c ∉ x) : Lib.cut (x ++ c :: y) [c] = (x, y, true) := by
  unfold Lib.cut
  rw [index_at c x y h, if_pos (by omega), Int.toNat_natCast, List.take_left]
  congr 1
  congr 1
  rw [List.length_cons, List.length_nil, Nat.zero_add, ← List.drop_drop, List.drop_left]
  rfl
theorem ind_letter {a : Int} (h : a = 0 ∨ a = 1 ∨ a = 2) : ∃ c, lt1 a = [c] ∧ Lib.indexByte [114, 111, 117] c = a ∧ kdOf c = a := by
  rcases h with rfl | rfl | rfl
  · exact ⟨114, rfl, by decide, by decide⟩
  · exact ⟨111, rfl, by decide, by decide⟩
  · exact ⟨117, rfl, by decide, by decide⟩
theorem both_street {a b : Int} (h : Pz.hid a b = true) : pst (st a b) = some (a, b) ∧ npar (st a b) = some (a, b) := by
  obtain ⟨h0, h1, h2⟩ := hid_facts h
  have hs := street_of h
  obtain ⟨c, e, e1, e2⟩ := ind_letter h0
  have hb : ((b.toNat : Nat) : Int) = b := by omega
  have hl := dg_len_pow 1 b.toNat (by omega)
  have hne : (dg b.toNat).length ≠ 0 := fun e => dg_ne _ (List.eq_nil_of_length_eq_zero e)
  have es : st a b = c :: dg b.toNat := by rw [st, e]; rfl
  constructor
  · rw [es, pst, rn_dg _ (by omega), hb]
    simp only
    rw [e1, if_pos hs]
  · rw [es, npar, if_pos (by omega), rd6_dg _ (by omega), hb, e2, if_pos hs]
theorem qc_len7 {p : S54} (h : okQ p) : (qc p).length ≤ 7 ∧ 1 ≤ (qc p).length := by
  obtain ⟨a, b, c, d, e, f⟩ := h
  have h1 := dg_len_pow 0 p.f0.toNat (by omega)
  have h2 := dg_len_pow 1 p.f1.toNat (by omega)
  have h3 := dg_len_pow 1 p.f2.toNat (by omega)
  unfold qc
  simp
  omega
theorem both_text {a b : Int} {q : List S54} (h : good a b q = true) : dI (pt a b q) = some (a, b, q) ∧ dS (pt a b q) = some (a, b, q) := by
  obtain ⟨g1, g2, g3⟩ := good_facts h
  have hq := okQ_n g3
  obtain ⟨p1, p2⟩ := both_street g1
  obtain ⟨h0, hb1, hb2⟩ := hid_facts g1
  have hJ : (59 : UInt8) ∉ Lib.join (q.map qc) [44] := join_no 59 [44] (by decide) _ (fun x hx => by
    obtain ⟨p, _, rfl⟩ := List.mem_map.1 hx
    unfold qc
    intro h
    simp only [List.mem_append, List.mem_singleton] at h
    rcases h with (((h | h) | h) | h) | h
    · exact dg_no59 _ h
    · exact absurd h (by decide)
    · exact dg_no59 _ h
    · exact absurd h (by decide)
    · exact dg_no59 _ h)
  have hpt : pt a b q = st a b ++ 59 :: Lib.join (q.map qc) [44] := by rw [pt, List.append_assoc]; rfl
  have hlen : (pt a b q).length ≤ 100 := by
    have := join_len (q.map qc) [44] 7 (fun x hx => by
      obtain ⟨p, hp, rfl⟩ := List.mem_map.1 hx
      exact (qc_len7 (hq p hp)).1)
    have h2 : ([44].length + 7 : Nat) * (q.map qc).length ≤ 8 * 6 := Nat.mul_le_mul (by simp) (by simpa using g2)
    have h3 := st_len g1
    rw [hpt, List.length_append, List.length_cons]
    omega
  have hcut := cut_at 59 (st a b) (Lib.join (q.map qc) [44]) (st_no a b)
  have hsp : sp 59 (pt a b q) = [st a b, Lib.join (q.map qc) [44]] := by
    have e : pt a b q = Lib.join [st a b, Lib.join (q.map qc) [44]] [59] := by rw [Lib.join_cons, hpt]; simp [Lib.joinTail]
    rw [e]
    exact sp_join 59 _ (by simp) (fun x hx => by
      simp at hx
      rcases hx with rfl | rfl
      · exact st_no a b
      · exact hJ)
  have hJe : (Lib.join (q.map qc) [44] = []) ↔ q = [] := by
    constructor
    · intro e
      cases q with
      | nil => rfl
      | cons p r =>
        rw [List.map_cons, Lib.join_cons] at e
        have h1 := (qc_len7 (hq p List.mem_cons_self)).2
        have h2 := congrArg List.length e
        rw [List.length_append, List.length_nil] at h2
        omega
    · intro e
      rw [e]
      rfl
  have hJs : q ≠ [] → sp 44 (Lib.join (q.map qc) [44]) = q.map qc := fun hne => sp_join 44 _ (by simpa using hne) (fun x hx => by
    obtain ⟨p, _, rfl⟩ := List.mem_map.1 hx
    exact qc_no 44 (by decide) (by decide) p)
  constructor
  · unfold dI
    rw [hpt, hcut]
    simp only [p1]
    by_cases hne : q = []
    · subst hne
      rw [if_pos (hJe.2 rfl)]
    · rw [if_neg (fun e => hne (hJe.1 e)), hJs hne, qws_qc q hq]
      simp [qadd]
  · unfold dS
    rw [if_neg (by omega), hsp]
    simp only [p2]
    by_cases hne : q = []
    · subst hne
      rw [if_pos (hJe.2 rfl)]
    · rw [if_neg (fun e => hne (hJe.1 e)), hJs hne, sqws_qc q hq]
      simp [qadd]
theorem chk_yes {l : List UInt8} {a b : Int} {q : List S54} (h : good a b q = true) (ht : pt a b q = l) : chk l (some (a, b, q)) = (a, b, q, true) := by
  unfold chk
  simp only
  rw [if_pos h, if_pos ht]
theorem chk_no {l : List UInt8} (h : ¬ ∃ a b q, good a b q = true ∧ pt a b q = l) (D : Option (Int × Int × List S54)) : chk l D = (0, 0, [], false) := by
  cases D with
  | none => rfl
  | some d =>
    obtain ⟨a, b, q⟩ := d
    unfold chk
    simp only
    by_cases h1 : good a b q = true
    · rw [if_pos h1]
      by_cases h2 : pt a b q = l
      · exact absurd ⟨a, b, q, h1, h2⟩ h
      · rw [if_neg h2]
    · rw [if_neg h1]
theorem ParsePuzzle_both (l : List UInt8) (hl : l.length ≤ 1048577) : ∃ v, Ev (fun k => spec_ParsePuzzle.f k (bs l)) v ∧ Ev (fun k => impl_ParsePuzzle.f k (bs l)) v ∧ v.2.2.1.length ≤ 40 := by
  by_cases hq : ∃ a b q, good a b q = true ∧ pt a b q = l
  · obtain ⟨a, b, q, h1, rfl⟩ := hq
    obtain ⟨_, g2, _⟩ := good_facts h1
    obtain ⟨d1, d2⟩ := both_text h1
    refine ⟨(a, b, q, true), ⟨5000000, fun k hk => ?_⟩, ⟨5000000, fun k hk => ?_⟩, by simp; omega⟩
    · show spec_ParsePuzzle.f k (bs (pt a b q)) = _
      rw [specPz_val _ (by omega) k hk, d2, chk_yes h1 rfl]
    · show impl_ParsePuzzle.f k (bs (pt a b q)) = _
      rw [implPz_val _ (by omega) k hk, d1, chk_yes h1 rfl]
  · refine ⟨(0, 0, [], false), ⟨5000000, fun k hk => ?_⟩, ⟨5000000, fun k hk => ?_⟩, by simp⟩
    · show spec_ParsePuzzle.f k (bs l) = _
      rw [specPz_val _ (by omega) k hk, chk_no hq]
    · show impl_ParsePuzzle.f k (bs l) = _
      rw [implPz_val _ (by omega) k hk, chk_no hq]
end Go.Proofs.YtlbodfogdhjnlaaDoor.Tx

/- Texts of this seat's proofs: contracts of its functions and plain laws about them, with no condition beyond those that each theorem states. -/
import Derived.Shelf.Abstract
import Derived.Test.YtcloklakffgbmaaQ1bfdbd4f
import Derived.Test.YtcloklakffgbmaaQ181e1574
namespace Go.Proofs.Ytcloklakffgbmaa.G
open Go.RowKit Go.Proofs.YtcloklakffgbmaaW.PrintWords Go.Proofs.YtcloklakffgbmaaW.PrintLast Go.Proofs.YtcloklakffgbmaaW.PrintMore
attribute [local go_sem] max2_int min2_int max_two min_two max_three min_three max_four min_four
set_option linter.unusedVariables false
set_option linter.unusedSimpArgs false
def clueV (x : S37) : Value := .agg #[.int .i64 x.f0, .int .i64 x.f1, .int .i64 x.f2]
set_option maxHeartbeats 2000000 in
set_option maxRecDepth 100000 in
theorem clue_indexFunc (p : S37 → Bool) (g : Nat) (lb : Array Value) (eg : ∀ args w, (callFunc g args).run Try.prog w = .ok (.enter g args) w) (A : Option Addr) (c : Nat) (l : List S37) (w : World) (hr : Kd.C k37 w A l.length l) (hc : l.length ≤ c)
  (hp : ∀ (W : World) (x : S37), x ∈ l → Below w.heap.size w W → Calls Try.prog g (#[clueV x] ++ lb) W fun e w' => e = .returned (.bool (p x)) ∧ Below w.heap.size w w') :
  Calls Try.prog 84 #[.slice A l.length c, .func (.func g) #[] lb] w fun e w' => e = .returned (.int .i64 (Fun.fidx p l)) ∧ Below w.heap.size w w' := by
 have hu := Try.underlying37
 have hlen : l.length ≤ 9223372036854775807 := hr.2.1
 have HR := Aside0.mk hr
 clear hr
 have HP := Aside0.mk hp
 clear hp
 go_enter Try.func84, Try.ntmps84
 go_wp2
 go_loopg [5, 8] l.length (fun gg _ s8 wr => ∃ kk : Nat, kk ≤ l.length ∧ l.length - kk ≤ gg ∧ s8 = .int .i64 (kk : Int) ∧ Aside0 (Below w.heap.size w wr) ∧ Aside0 (∀ (j : Nat) (x : S37), j < kk → l[j]? = some x → p x = false))
 case atStart => exact ⟨0, Nat.zero_le _, by omega, rfl, ⟨Below.refl _ w⟩, ⟨fun j x hj => absurd hj (Nat.not_lt_zero _)⟩⟩
 case round =>
  obtain ⟨kk, hkk, hg, rfl, HB, HN⟩ := hrel
  by_cases hlt : kk < l.length
  ·have hx := List.getElem?_eq_getElem hlt
   have hrd : rd_T37 l (kk : Int) = l[kk] := by simp [rd_T37, List.getD, hx]
   obtain ⟨ad, e, h0, h1, h2⟩ := at_T37 (Kd.C_below HR.out HB.out) (kk : Int) (by omega) (by omega)
   rw [hrd] at h0 h1 h2
   simp only [Int.toNat_natCast] at h0 h1 h2
   have hcall := HP.out wr l[kk] (List.getElem_mem hlt) HB.out
   clear hrd
   generalize l[kk] = y at hx h0 h1 h2 hcall
   have HX := Aside0.mk hx
   clear hx HP
   cases e
   have hltz : (kk : Int) < (l.length : Int) := by omega
   have q0 : (0 ≤ (kk : Int)) = True := eq_true (by omega)
   have q1 : ((kk : Int) < (l.length : Int)) = True := eq_true hltz
   clear hltz
   unfold clueV at hcall
   cases hq : p y with
   | true =>
    rw [hq] at hcall
    have HQ := Aside0.mk hq
    clear hq
    go_wp2_with (go_at_fn g; refine hcall.mono ?_; rintro e w' ⟨rfl, hb'⟩)
    go_ret
    refine ⟨?_, hb'⟩
    rw [Fun.fidx_hit p l kk y HX.out HQ.out HN.out]
    rfl
   | false =>
    rw [hq] at hcall
    have HQ := Aside0.mk hq
    clear hq
    go_wp2_with (go_at_fn g; refine hcall.mono ?_; rintro e w' ⟨rfl, hb'⟩)
    go_roundg (l.length - (kk + 1))
    case measure => omega
    case rel =>
     refine ⟨kk + 1, by omega, by omega, by go_num, ⟨hb'⟩, ⟨fun j x hj hjx => ?_⟩⟩
     by_cases e : j = kk
     ·subst e
      have := HX.out.symm.trans hjx
      injection this with this
      rw [← this]
      exact HQ.out
     ·exact HN.out j x (by omega) hjx
  ·have : kk = l.length := by omega
   subst this
   go_wp2
   go_ret
   refine ⟨?_, HB.out⟩
   rw [Fun.fidx_miss p l (fun j x hj => HN.out j x (List.getElem?_eq_some_iff.1 hj).1 hj)]
   rfl
end Go.Proofs.Ytcloklakffgbmaa.G

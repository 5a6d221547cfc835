-- Written by a program of this session (wip/myprint.py, which drives the kit's print with hand-proved leaves). Not trusted: Lean checks it.
import Derived.Test.YtmimninicegjcaaGreatDoorTbQS0
import Derived.Test.YtmimninicegjcaaGreatDoorTbQS1
namespace Go.Proofs.YtmimninicegjcaaGreatDoor.QS
open Go.RowKit Go.Proofs.YtmimninicegjcaaGreatDoorW.PrintWords Go.Proofs.YtmimninicegjcaaGreatDoorW.PrintLast Go.Proofs.YtmimninicegjcaaGreatDoorW.PrintMore
attribute [local go_sem] max2_int min2_int max_two min_two max_three min_three max_four min_four   -- for this text's walks alone
set_option linter.unusedVariables false
set_option linter.unusedSimpArgs false

attribute [local go_sem high] eqA43
/-! ### daybookkeep_sameRows: function 127 -/
def daybookkeep_sameRows.f (l0 : List (S43)) (l1 : List (S43)) : Option (Bool) := if (l0.length : Int) = (l1.length : Int) then (if (l0.length : Int) = 0 then (some true) else (if 0 < (l0.length : Int) then (if 0 < (l1.length : Int) then (some (((rd_T43 l0 0).f0) == ((rd_T43 l1 0).f0) && (((rd_T43 l0 0).f1) == ((rd_T43 l1 0).f1) && ((((rd_T43 l0 0).f2).toList) == (((rd_T43 l1 0).f2).toList))))) else (none)) else (none))) else (some false)
set_option maxHeartbeats 8000000 in
set_option maxRecDepth 100000 in
theorem daybookkeep_sameRows.calls (A0 : Option Addr) (c0 : Nat) (l0 : List (S43)) (A1 : Option Addr) (c1 : Nat) (l1 : List (S43)) (r : Bool) (w : World) (hr0 : Kd.C k43 w A0 l0.length l0) (hc0 : l0.length ≤ c0) (hr1 : Kd.C k43 w A1 l1.length l1) (hc1 : l1.length ≤ c1) (h : daybookkeep_sameRows.f l0 l1 = some r) :
    Calls Tryz.prog 127 #[.slice A0 l0.length c0, .slice A1 l1.length c1] w fun e w' => e = .returned (.bool r) ∧ Drawn0 w w' := by
  have hu43 := Tryz.underlying43
  have HR0 := Aside0.mk hr0
  have HC0 := Aside0.mk hc0
  clear hr0 hc0
  have HR1 := Aside0.mk hr1
  have HC1 := Aside0.mk hc1
  clear hr1 hc1
  have H : (if (l0.length : Int) = (l1.length : Int) then (if (l0.length : Int) = 0 then (some true) else (if 0 < (l0.length : Int) then (if 0 < (l1.length : Int) then (some (((rd_T43 l0 0).f0) == ((rd_T43 l1 0).f0) && (((rd_T43 l0 0).f1) == ((rd_T43 l1 0).f1) && ((((rd_T43 l0 0).f2).toList) == (((rd_T43 l1 0).f2).toList))))) else (none)) else (none))) else (some false)) = some r := h
  clear h
  by_cases c3 : (l0.length : Int) = (l1.length : Int)
  · rw [if_pos c3] at H
    have c3b0 : ((l0.length : Int) == (l1.length : Int)) = true := beq_iff_eq.mpr c3
    have c3b1 : ((l0.length : Int) != (l1.length : Int)) = false := bne_eq_false_iff_eq.mpr c3
    have c3b2 : (l0.length == l1.length) = true := by first | simpa using c3 | (simp at c3 ⊢; omega)
    clear c3
    by_cases c4 : (l0.length : Int) = 0
    · rw [if_pos c4] at H
      have c4b0 : ((l0.length : Int) == 0) = true := beq_iff_eq.mpr c4
      have c4b1 : ((l0.length : Int) != 0) = false := bne_eq_false_iff_eq.mpr c4
      clear c4
      obtain rfl := Option.some.inj H
      go_enter Tryz.func127, Tryz.ntmps127
      go_wp2
      repeat (go_quiet (fail); try go_wp2)
      go_ret
      exact ⟨by first | rfl | (simp; done) | (simp [*]; done), by repeat (first | exact Drawn0.refl _ | apply Drawn0.step)⟩
    · rw [if_neg c4] at H
      have c4b0 : ((l0.length : Int) == 0) = false := beq_eq_false_iff_ne.mpr c4
      have c4b1 : ((l0.length : Int) != 0) = true := bne_iff_ne.mpr c4
      have c4b2 : ¬ (l0 = []) := fun h_ => c4 (by rw [h_]; rfl)
      by_cases c5 : 0 < (l0.length : Int)
      · rw [if_pos c5] at H
        have c5b0 : decide (0 < (l0.length : Int)) = true := decide_eq_true c5
        have c5b1 : decide (0 < l0.length) = true := decide_eq_true (by omega)
        clear c5
        by_cases c6 : 0 < (l1.length : Int)
        · rw [if_pos c6] at H
          have c6b0 : decide (0 < (l1.length : Int)) = true := decide_eq_true c6
          have c6b1 : decide (0 < l1.length) = true := decide_eq_true (by omega)
          clear c6
          obtain rfl := Option.some.inj H
          have p243 : 0 ≤ (0 : Int) := (by omega)
          have q243 : 0 < (l0.length : Int) := odeN
          obtain ⟨ad243, e243, hx243_0, hx243_1, hx243_2⟩ := at_T43 HR0.out 0 p243 q243
          cases e243
          have qi243 : (0 < l0.length) = True := eq_true (by omega)
          (try rw [show ((0 : Int)).toNat = 0 from rfl] at hx243_0)
          (try rw [show 0 * 3 = 0 from rfl] at hx243_0)
          (try rw [Addr.add_zero'] at hx243_0)
          (try rw [show ((0 : Int)).toNat = 0 from rfl] at hx243_1)
          (try rw [show 0 * 3 = 0 from rfl] at hx243_1)
          (try rw [Addr.add_zero'] at hx243_1)
          (try rw [show ((0 : Int)).toNat = 0 from rfl] at hx243_2)
          (try rw [show 0 * 3 = 0 from rfl] at hx243_2)
          (try rw [Addr.add_zero'] at hx243_2)
          replace p243 := eq_true p243
          replace q243 := eq_true q243
          have p244 : 0 ≤ (0 : Int) := (by omega)
          have q244 : 0 < (l1.length : Int) := odeN
          obtain ⟨ad244, e244, hx244_0, hx244_1, hx244_2⟩ := at_T43 HR1.out 0 p244 q244
          cases e244
          have qi244 : (0 < l1.length) = True := eq_true (by omega)
          (try rw [show ((0 : Int)).toNat = 0 from rfl] at hx244_0)
          (try rw [show 0 * 3 = 0 from rfl] at hx244_0)
          (try rw [Addr.add_zero'] at hx244_0)
          (try rw [show ((0 : Int)).toNat = 0 from rfl] at hx244_1)
          (try rw [show 0 * 3 = 0 from rfl] at hx244_1)
          (try rw [Addr.add_zero'] at hx244_1)
          (try rw [show ((0 : Int)).toNat = 0 from rfl] at hx244_2)
          (try rw [show 0 * 3 = 0 from rfl] at hx244_2)
          (try rw [Addr.add_zero'] at hx244_2)
          replace p244 := eq_true p244
          replace q244 := eq_true q244
          go_enter Tryz.func127, Tryz.ntmps127
          go_wp2
          repeat (go_quiet (fail); try go_wp2)
          go_ret
          exact ⟨by first | rfl | (simp; done) | (simp [*]; done), by repeat (first | exact Drawn0.refl _ | apply Drawn0.step)⟩
        · rw [if_neg c6] at H
          exact absurd H (by simp)
      · rw [if_neg c5] at H
        exact absurd H (by simp)
  · rw [if_neg c3] at H
    have c3b0 : ((l0.length : Int) == (l1.length : Int)) = false := beq_eq_false_iff_ne.mpr c3
    have c3b1 : ((l0.length : Int) != (l1.length : Int)) = true := bne_iff_ne.mpr c3
    have c3b2 : (l0.length == l1.length) = false := by first | simpa using c3 | (simp at c3 ⊢; omega)
    obtain rfl := Option.some.inj H
    go_enter Tryz.func127, Tryz.ntmps127
    go_wp2
    repeat (go_quiet (fail); try go_wp2)
    go_ret
    exact ⟨by first | rfl | (simp; done) | (simp [*]; done), by repeat (first | exact Drawn0.refl _ | apply Drawn0.step)⟩

end Go.Proofs.YtmimninicegjcaaGreatDoor.QS


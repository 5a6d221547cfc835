-- Written by a program of this session (wip/myprint.py, which drives the kit's print with hand-proved leaves). Not trusted: Lean checks it.
import Derived.Deep.RegionLaw
import Derived.Test.YtmimninicegjcaaGreatDoorTbMLeafRLeafR2
import Derived.Test.YtmimninicegjcaaGreatDoorTbQT0
import Derived.Test.YtmimninicegjcaaGreatDoorTbQT3
import Derived.Test.YtmimninicegjcaaGreatDoorTbQT4
import Derived.Test.YtmimninicegjcaaGreatDoorTbQT5
namespace Go.Proofs.YtmimninicegjcaaGreatDoor.QT
open Go.RowKit Go.Proofs.YtmimninicegjcaaGreatDoorW.PrintWords Go.Proofs.YtmimninicegjcaaGreatDoorW.PrintLast Go.Proofs.YtmimninicegjcaaGreatDoorW.PrintMore
attribute [local go_sem] max2_int min2_int max_two min_two max_three min_three max_four min_four   -- for this text's walks alone
set_option linter.unusedVariables false
set_option linter.unusedSimpArgs false

/-! ### daybookref17_Trial: function 11 -/
/-! ### daybooklaw17_num: function 35 -/
def daybooklaw17_num.f (a0 : Int) : Option (Int) := some a0
set_option maxHeartbeats 8000000 in
set_option maxRecDepth 100000 in
theorem daybooklaw17_num.calls (a0 : Int) (r : Int) (w : World) (h : daybooklaw17_num.f a0 = some r) :
    Calls Tryz.prog 35 #[.int .i64 a0] w fun e w' => e = .returned (.int .i64 r) ∧ Drawn0 w w' := by
  have H : (some a0) = some r := h
  clear h
  obtain rfl := Option.some.inj H
  go_enter Tryz.func35, Tryz.ntmps35
  go_wp2
  go_ret
  exact ⟨by first | rfl | (simp; done) | (simp [*]; done), by repeat (first | exact Drawn0.refl _ | apply Drawn0.step)⟩

/-! ### daybooklaw17_like: function 12 -/
def daybooklaw17_like.f (a0 : ByteArray) (a1 : Int) (a2 : ByteArray) (a3 : Int) : Option (Bool) := if a0.toList = a2.toList then ((daybooklaw17_num.f a1).bind fun t199 => ((daybooklaw17_num.f a3).bind fun t200 => (some (t199 == t200)))) else (some false)
set_option maxHeartbeats 8000000 in
set_option maxRecDepth 100000 in
theorem daybooklaw17_like.calls (a0 : ByteArray) (a1 : Int) (a2 : ByteArray) (a3 : Int) (r : Bool) (w : World) (h : daybooklaw17_like.f a0 a1 a2 a3 = some r) :
    Calls Tryz.prog 12 #[.string a0, .int .i64 a1, .string a2, .int .i64 a3] w fun e w' => e = .returned (.bool r) ∧ Drawn0 w w' := by
  have H : (if a0.toList = a2.toList then ((daybooklaw17_num.f a1).bind fun t199 => ((daybooklaw17_num.f a3).bind fun t200 => (some (t199 == t200)))) else (some false)) = some r := h
  clear h
  by_cases c5 : a0.toList = a2.toList
  · rw [if_pos c5] at H
    have c5b0 : (a0.toList == a2.toList) = true := beq_iff_eq.mpr c5
    have c5b1 : (a0.toList != a2.toList) = false := bne_eq_false_iff_eq.mpr c5
    clear c5
    replace H := Option.bind_eq_some_iff.mp H
    obtain ⟨t199, A60, H⟩ := H
    replace H : ((daybooklaw17_num.f a3).bind fun t200 => (some (t199 == t200))) = some r := H
    have A6 := Aside0.mk A60
    clear A60
    replace H := Option.bind_eq_some_iff.mp H
    obtain ⟨t200, A70, H⟩ := H
    replace H : (some (t199 == t200)) = some r := H
    have A7 := Aside0.mk A70
    clear A70
    obtain rfl := Option.some.inj H
    go_enter Tryz.func12, Tryz.ntmps12
    go_wp2_with (first | (go_at_call 35; (with_reducible refine (daybooklaw17_num.calls a1 t199 _ A6.out).mono ?_); rintro e w' ⟨rfl, ⟨nd, rfl⟩⟩) | (go_at_call 35; (with_reducible refine (daybooklaw17_num.calls a3 t200 _ A7.out).mono ?_); rintro e w' ⟨rfl, ⟨nd, rfl⟩⟩))
    go_ret
    exact ⟨by first | rfl | (simp; done) | (simp [*]; done), by repeat (first | exact Drawn0.refl _ | apply Drawn0.step)⟩
  · rw [if_neg c5] at H
    have c5b0 : (a0.toList == a2.toList) = false := beq_eq_false_iff_ne.mpr c5
    have c5b1 : (a0.toList != a2.toList) = true := bne_iff_ne.mpr c5
    obtain rfl := Option.some.inj H
    go_enter Tryz.func12, Tryz.ntmps12
    go_wp2
    go_ret
    exact ⟨by first | rfl | (simp; done) | (simp [*]; done), by repeat (first | exact Drawn0.refl _ | apply Drawn0.step)⟩

end Go.Proofs.YtmimninicegjcaaGreatDoor.QT


/- day.length: a month's days. -/
import Derived.Test.YtmimninicegjcaaGreatDoorTbMBaseBaseM
import Derived.Test.YtmimninicegjcaaGreatDoorTbQS3
namespace Go.Proofs.YtmimninicegjcaaGreatDoor
open Go.RowKit Go.Shelf Go.Lib Go.Proofs.YtmimninicegjcaaGreatDoorW.PrintWords Go.Proofs.YtmimninicegjcaaGreatDoorW.PrintLast
set_option linter.unusedVariables false
set_option linter.unusedSimpArgs false
def leapB (y : Int) : Bool := (decide (Int.tmod y 4 = 0) && !decide (Int.tmod y 100 = 0)) || decide (Int.tmod y 400 = 0)
theorem leap_some (y : Int) : QS.day_Leap.f y = some (leapB y) := by
  unfold QS.day_Leap.f leapB
  by_cases h1 : Int.tmod y 4 = 0 <;> by_cases h2 : Int.tmod y 100 = 0 <;> by_cases h3 : Int.tmod y 400 = 0 <;> simp [h1, h2, h3]
/-- A month's days. -/
def lenOf (y m : Int) : Int := if m = 2 ∧ leapB y = true then 29 else monthTab.getD (m - 1).toNat 0
def L_length.f (y m : Int) : Option Int := if 1 ≤ m ∧ m ≤ 12 then some (lenOf y m) else none
set_option maxHeartbeats 4000000 in
set_option maxRecDepth 100000 in
theorem L_length.calls (y m : Int) (r : Int) (w : World) (hL : LaidM w) (h : L_length.f y m = some r) :
    Calls Tryz.prog 203 #[.int .i64 y, .int .i64 m] w fun e w' => e = .returned (.int .i64 r) ∧ Below w.heap.size w w' := by
  unfold L_length.f at h
  split at h
  · rename_i hm
    obtain rfl := Option.some.inj h
    have hcell := hL.month
    have HM := Aside0.mk hcell
    clear hL h hcell
    have hlp := leap_some y
    by_cases h2 : m = 2
    · subst h2
      clear hm
      cases hb : leapB y with
      | true =>
        rw [hb] at hlp
        have hr : lenOf y 2 = 29 := by unfold lenOf; rw [if_pos ⟨rfl, hb⟩]
        rw [hr]
        have HLP := Aside0.mk hlp
        clear hlp hb hr
        go_enter Tryz.func203, Tryz.ntmps203
        go_wp2_with (go_at_call 240; refine (QS.day_Leap.calls y true _ HLP.out).mono ?_; rintro e w' ⟨rfl, ⟨n, rfl⟩⟩)
        go_ret
        exact ⟨rfl, pw_below_drewN (Below.refl _ _) _⟩
      | false =>
        rw [hb] at hlp
        have hr : lenOf y 2 = 28 := by unfold lenOf; rw [if_neg (by simp [hb])]; rfl
        rw [hr]
        have c1 : ∀ n, (w.drewN n).cell? ⟨2, 1, none⟩ = some (.int .i64 28) := fun n => HM.out 1 (by decide)
        have HLP := Aside0.mk hlp
        clear hlp hb hr HM
        go_enter Tryz.func203, Tryz.ntmps203
        go_wp2_with (go_at_call 240; refine (QS.day_Leap.calls y false _ HLP.out).mono ?_; rintro e w' ⟨rfl, ⟨n, rfl⟩⟩; have c2 := c1 n)
        all_goals go_ret
        all_goals exact ⟨rfl, pw_below_drewN (Below.refl _ _) _⟩
    · have hr : lenOf y m = monthTab.getD (m - 1).toNat 0 := by unfold lenOf; rw [if_neg (fun h => h2 h.1)]
      rw [hr]
      obtain ⟨i, hi, rfl⟩ : ∃ i : Nat, i < 12 ∧ m = (i : Int) + 1 := ⟨(m - 1).toNat, by omega, by omega⟩
      have e1 : (((i : Int) + 1 - 1)).toNat = i := by omega
      rw [e1]
      have hc := HM.out i hi
      have HC := Aside0.mk hc
      have h2' : ((i : Int) + 1 == 2) = false := by simpa using h2
      have H2 := Aside0.mk h2
      clear hm h2 hlp hc HM e1 hr
      obtain ⟨v, hv⟩ : ∃ v, monthTab.getD i 0 = v := ⟨_, rfl⟩
      have hc2 := HC.out
      rw [hv] at hc2 ⊢
      have hne : ¬ (i = 1) := by have := H2.out; omega
      clear HC hv H2 h2'
      have hcs : i = 0 ∨ i = 2 ∨ i = 3 ∨ i = 4 ∨ i = 5 ∨ i = 6 ∨ i = 7 ∨ i = 8 ∨ i = 9 ∨ i = 10 ∨ i = 11 := by omega
      clear hne hi
      rcases hcs with rfl | rfl | rfl | rfl | rfl | rfl | rfl | rfl | rfl | rfl | rfl
      all_goals
        go_enter Tryz.func203, Tryz.ntmps203
        go_wp2_with fail
        go_ret
        exact ⟨rfl, Below.refl _ _⟩
  · exact absurd h (by simp)
end Go.Proofs.YtmimninicegjcaaGreatDoor


/- Part of the proof of RowTables: PureL, PureB, PureC, PureM, PureO, PureA, PureD, PureN. -/
import Derived.Test.YtmimninicegjcaaGreatDoorTbHandTrial
import Derived.Test.YtmimninicegjcaaGreatDoorTbLeafB
import Derived.Test.YtmimninicegjcaaGreatDoorTbLeafD
import Derived.Test.YtmimninicegjcaaGreatDoorTbQS18
import Derived.Test.YtmimninicegjcaaGreatDoorTbQS4
import Derived.Test.YtmimninicegjcaaGreatDoorTbQS5
import Derived.Test.YtmimninicegjcaaGreatDoorTbQT3
import Derived.Test.YtmimninicegjcaaGreatDoorTbQT4
import Derived.Test.YtmimninicegjcaaGreatDoorTbQT5
import Derived.Test.YtmimninicegjcaaGreatDoorTbTableA
/- Plain laws: both calendars find the same year, month and day. -/
namespace Go.Proofs.YtmimninicegjcaaGreatDoor
open Go.RowKit Go.Shelf Go.Lib Go.Proofs.YtmimninicegjcaaGreatDoorW.PrintWords Go.Proofs.YtmimninicegjcaaGreatDoorW.PrintLast
set_option linter.unusedVariables false
set_option linter.unusedSimpArgs false
/-- How many days are ahead of a year. -/
def yA (y : Int) : Int := 365 * (y - 1) + (y - 1) / 4 - (y - 1) / 100 + (y - 1) / 400
theorem ahead_some {y : Int} (h1 : 1 ≤ y) (h2 : y ≤ 20000) : QS.day_ahead.f y = some (yA y) := by
  unfold QS.day_ahead.f yA
  have e0 : wrap64 (y - 1) = y - 1 := by unfold wrap64; omega
  rw [e0, Int.tdiv_eq_ediv_of_nonneg (by omega), Int.tdiv_eq_ediv_of_nonneg (by omega), Int.tdiv_eq_ediv_of_nonneg (by omega)]
  have e1 : wrap64 (365 * (y - 1)) = 365 * (y - 1) := by unfold wrap64; omega
  have e4 : wrap64 ((y - 1) / 4) = (y - 1) / 4 := by unfold wrap64; omega
  have e5 : wrap64 ((y - 1) / 100) = (y - 1) / 100 := by unfold wrap64; omega
  have e6 : wrap64 ((y - 1) / 400) = (y - 1) / 400 := by unfold wrap64; omega
  rw [e1, e4, e5, e6]
  congr 1
  unfold wrap64
  omega
theorem leapB_iff {y : Int} (h : 1 ≤ y) : leapB y = true ↔ (y % 4 = 0 ∧ ¬ y % 100 = 0) ∨ y % 400 = 0 := by
  unfold leapB
  rw [Int.tmod_eq_emod_of_nonneg (by omega), Int.tmod_eq_emod_of_nonneg (by omega), Int.tmod_eq_emod_of_nonneg (by omega)]
  simp
theorem yA_succ {y : Int} (h : 1 ≤ y) : yA (y + 1) = yA y + (if leapB y = true then 366 else 365) := by
  by_cases hl : leapB y = true
  · rw [if_pos hl]
    have := (leapB_iff h).1 hl
    unfold yA
    omega
  · rw [if_neg hl]
    have : ¬ ((y % 4 = 0 ∧ ¬ y % 100 = 0) ∨ y % 400 = 0) := fun hh => hl ((leapB_iff h).2 hh)
    unfold yA
    omega
theorem long_some (y : Int) : QS.daybookref02_long.f y = some (if leapB y = true then 366 else 365) := by
  have e : QS.daybookref02_Leap.f y = some (leapB y) := leap_some y
  unfold QS.daybookref02_long.f
  rw [e]
  simp only [Option.bind_some]
  split <;> rfl
theorem size_some {y m : Int} (h1 : 1 ≤ m) (h2 : m ≤ 12) (k : Nat) : QS.daybookref02_size.f (k + 1) y m = some (lenOf y m) := by
  have e : QS.daybookref02_Leap.f y = some (leapB y) := leap_some y
  have hm : m = 1 ∨ m = 2 ∨ m = 3 ∨ m = 4 ∨ m = 5 ∨ m = 6 ∨ m = 7 ∨ m = 8 ∨ m = 9 ∨ m = 10 ∨ m = 11 ∨ m = 12 := by omega
  rcases hm with rfl | rfl | rfl | rfl | rfl | rfl | rfl | rfl | rfl | rfl | rfl | rfl
  case inr.inl =>
    unfold QS.daybookref02_size.f lenOf
    simp only [QS.daybookref02_size.j0, e, Option.bind_some]
    cases leapB y <;> simp [monthTab]
  all_goals
    unfold QS.daybookref02_size.f lenOf
    simp [QS.daybookref02_size.j0, monthTab]
theorem lenOf_le {y m : Int} (h1 : 1 ≤ m) (h2 : m ≤ 12) : 28 ≤ lenOf y m ∧ lenOf y m ≤ 31 := by
  have hm : m = 1 ∨ m = 2 ∨ m = 3 ∨ m = 4 ∨ m = 5 ∨ m = 6 ∨ m = 7 ∨ m = 8 ∨ m = 9 ∨ m = 10 ∨ m = 11 ∨ m = 12 := by omega
  rcases hm with rfl | rfl | rfl | rfl | rfl | rfl | rfl | rfl | rfl | rfl | rfl | rfl
  all_goals
    unfold lenOf
    cases leapB y <;> simp [monthTab]
theorem length_at {y m : Int} (h1 : 1 ≤ m) (h2 : m ≤ 12) : L_length.f y m = some (lenOf y m) := by unfold L_length.f; rw [if_pos ⟨h1, h2⟩]
/-- The days of a year's last months. -/
def restOf (y : Int) : Nat → Int
  | 0 => 0
  | d + 1 => lenOf y (12 - (d : Int)) + restOf y d
theorem rest_year (y : Int) : restOf y 12 = if leapB y = true then 366 else 365 := by
  simp only [restOf, lenOf, monthTab]
  cases leapB y <;> decide
theorem month_loop (y : Int) (d : Nat) : ∀ (m r : Int), m = 13 - (d : Int) → d ≤ 12 → 1 ≤ r → r ≤ restOf y d →
    ∃ m' r' : Int, 1 ≤ m' ∧ m' ≤ 12 ∧ 1 ≤ r' ∧ r' ≤ lenOf y m' ∧ (∀ k, d ≤ k → QS.day_To.l1 k y m r = some (y, m', r', 0)) ∧ (∀ k, d < k → QS.daybookref02_To.l1 k r y m 0 = some (y, m', r', 0)) := by
  induction d with
  | zero =>
    intro m r hm hd h1 h2
    simp only [restOf] at h2
    omega
  | succ d ih =>
    intro m r hm hd h1 h2
    have hm1 : 1 ≤ m := by omega
    have hm2 : m ≤ 12 := by omega
    have hl := lenOf_le (y := y) hm1 hm2
    have em : (12 - (d : Int)) = m := by omega
    have hr : restOf y (d + 1) = lenOf y m + restOf y d := by rw [restOf, em]
    have hrb : restOf y d ≤ 31 * (d : Int) ∧ 0 ≤ restOf y d := by
      clear ih h2 hr em hl hm2 hm1 hm
      induction d with
      | zero => simp [restOf]
      | succ e ihe =>
        have := ihe (by omega)
        have hl := lenOf_le (y := y) (m := 12 - (e : Int)) (by omega) (by omega)
        rw [restOf]
        omega
    by_cases hgt : r > lenOf y m
    · obtain ⟨m', r', a1, a2, a3, a4, a5, a6⟩ := ih (m + 1) (r - lenOf y m) (by omega) (by omega) (by omega) (by omega)
      have w1 : wrap64 (m + 1) = m + 1 := by unfold wrap64; omega
      have w2 : wrap64 (r - lenOf y m) = r - lenOf y m := by unfold wrap64; omega
      refine ⟨m', r', a1, a2, a3, a4, fun k hk => ?_, fun k hk => ?_⟩
      · obtain ⟨k, rfl⟩ : ∃ j, k = j + 1 := ⟨k - 1, by omega⟩
        simp only [QS.day_To.l1]
        rw [length_at hm1 hm2]
        simp only [Option.bind_some]
        rw [if_pos hgt, w1, w2]
        exact a5 k (by omega)
      · obtain ⟨k, rfl⟩ : ∃ j, k = j + 2 := ⟨k - 2, by omega⟩
        simp only [QS.daybookref02_To.l1]
        rw [size_some hm1 hm2]
        simp only [Option.bind_some]
        rw [if_pos hgt, w1, w2]
        exact a6 (k + 1) (by omega)
    · refine ⟨m, r, hm1, hm2, h1, by omega, fun k hk => ?_, fun k hk => ?_⟩
      · obtain ⟨k, rfl⟩ : ∃ j, k = j + 1 := ⟨k - 1, by omega⟩
        simp only [QS.day_To.l1]
        rw [length_at hm1 hm2]
        simp only [Option.bind_some]
        rw [if_neg hgt]
      · obtain ⟨k, rfl⟩ : ∃ j, k = j + 2 := ⟨k - 2, by omega⟩
        simp only [QS.daybookref02_To.l1]
        rw [size_some hm1 hm2]
        simp only [Option.bind_some]
        rw [if_neg hgt]
theorem year_there (n : Int) (h1 : 1 ≤ n) (Y : Nat) : n ≤ yA ((Y : Int) + 1) → ∃ y : Nat, 1 ≤ y ∧ y ≤ Y ∧ yA (y : Int) < n ∧ n ≤ yA ((y : Int) + 1) := by
  induction Y with
  | zero =>
    intro h
    have : yA (((0 : Nat) : Int) + 1) = 0 := rfl
    omega
  | succ Y ih =>
    intro h
    by_cases hh : n ≤ yA ((Y : Int) + 1)
    · obtain ⟨y, a, b, c, d⟩ := ih hh
      exact ⟨y, a, by omega, c, d⟩
    · exact ⟨Y + 1, by omega, Nat.le_refl _, by rw [show ((Y + 1 : Nat) : Int) = (Y : Int) + 1 by omega]; omega, h⟩
theorem yA_bd {y : Int} (h1 : 1 ≤ y) (h2 : y ≤ 10000) : 0 ≤ yA y ∧ yA y ≤ 3652059 := by unfold yA; omega
theorem yA_mono {a b : Int} (h0 : 1 ≤ a) (h : a ≤ b) : yA a ≤ yA b := by unfold yA; omega
/-- The program's years, upwards. -/
theorem prog_years (n : Int) (y : Nat) (hy1 : 1 ≤ y) (hy2 : y ≤ 9999) (hn1 : yA (y : Int) < n) (hn2 : n ≤ yA ((y : Int) + 1)) (R : Int × Int × Int × Int) (B : Nat)
    (hR : ∀ k, B ≤ k → QS.day_To.l1 k (y : Int) 1 (n - yA (y : Int)) = some R) (d : Nat) : ∀ (z k : Nat), 1 ≤ z → z + d = y → d + B < k → QS.day_To.l0 k n (z : Int) = some R := by
  have hb := yA_bd (y := (y : Int)) (by omega) (by omega)
  have hb2 := yA_bd (y := (y : Int) + 1) (by omega) (by omega)
  induction d with
  | zero =>
    intro z k hz hzd hk
    obtain ⟨k, rfl⟩ : ∃ j, k = j + 1 := ⟨k - 1, by omega⟩
    obtain rfl : z = y := by omega
    have w1 : wrap64 ((z : Int) + 1) = (z : Int) + 1 := by unfold wrap64; omega
    simp only [QS.day_To.l0]
    rw [w1, ahead_some (by omega) (by omega), ahead_some (by omega) (by omega)]
    simp only [Option.bind_some]
    have w2 : wrap64 (n - yA (z : Int)) = n - yA (z : Int) := by unfold wrap64; omega
    rw [if_neg (by omega), w2]
    exact hR k (by omega)
  | succ d ih =>
    intro z k hz hzd hk
    obtain ⟨k, rfl⟩ : ∃ j, k = j + 1 := ⟨k - 1, by omega⟩
    have w1 : wrap64 ((z : Int) + 1) = ((z + 1 : Nat) : Int) := by unfold wrap64; omega
    have hm := yA_mono (a := ((z + 1 : Nat) : Int)) (b := (y : Int)) (by omega) (by omega)
    simp only [QS.day_To.l0]
    rw [w1, ahead_some (by omega) (by omega)]
    simp only [Option.bind_some]
    rw [if_pos (by omega)]
    exact ih (z + 1) k (by omega) (by omega) (by omega)
/-- The document's years. -/
theorem ref_years (n : Int) (y : Nat) (hy1 : 1 ≤ y) (hy2 : y ≤ 9999) (hn1 : yA (y : Int) < n) (hn2 : n ≤ yA ((y : Int) + 1)) (R : Int × Int × Int × Int) (B : Nat)
    (hR : ∀ k, B ≤ k → QS.daybookref02_To.l1 k (n - yA (y : Int)) (y : Int) 1 0 = some R) (d : Nat) : ∀ (z k : Nat), 1 ≤ z → z + d = y → d + B < k → QS.daybookref02_To.l0 k (n - yA (z : Int)) (z : Int) 1 0 = some R := by
  have hb2 := yA_bd (y := (y : Int) + 1) (by omega) (by omega)
  induction d with
  | zero =>
    intro z k hz hzd hk
    obtain ⟨k, rfl⟩ : ∃ j, k = j + 1 := ⟨k - 1, by omega⟩
    obtain rfl : z = y := by omega
    have hs := yA_succ (y := (z : Int)) (by omega)
    simp only [QS.daybookref02_To.l0]
    rw [long_some]
    simp only [Option.bind_some]
    rw [if_neg (by omega)]
    exact hR k (by omega)
  | succ d ih =>
    intro z k hz hzd hk
    obtain ⟨k, rfl⟩ : ∃ j, k = j + 1 := ⟨k - 1, by omega⟩
    have w1 : wrap64 ((z : Int) + 1) = ((z + 1 : Nat) : Int) := by unfold wrap64; omega
    have hm := yA_mono (a := ((z + 1 : Nat) : Int)) (b := (y : Int)) (by omega) (by omega)
    have hs := yA_succ (y := (z : Int)) (by omega)
    have hb := yA_bd (y := (z : Int)) (by omega) (by omega)
    have e1 : ((z + 1 : Nat) : Int) = (z : Int) + 1 := by omega
    simp only [QS.daybookref02_To.l0]
    rw [long_some]
    simp only [Option.bind_some]
    generalize hL : (if leapB (z : Int) = true then (366 : Int) else 365) = L at hs ⊢
    have hL2 : 365 ≤ L ∧ L ≤ 366 := by rw [← hL]; split <;> omega
    rw [e1] at hm
    have w2 : wrap64 (n - yA (z : Int) - L) = n - yA ((z + 1 : Nat) : Int) := by rw [e1, hs]; unfold wrap64; omega
    rw [if_pos (by omega), w1, w2]
    exact ih (z + 1) k (by omega) (by omega) (by omega)
theorem both_dates (n : Int) (h1 : 1 ≤ n) (h2 : n ≤ 3652059) : ∃ y m d : Int, 1 ≤ y ∧ y ≤ 9999 ∧ 1 ≤ m ∧ m ≤ 12 ∧ 1 ≤ d ∧ d ≤ 31 ∧
    (∀ k, 20100 ≤ k → QS.day_To.f k n = some (y, m, d, 0)) ∧ (∀ k, 20100 ≤ k → QS.daybookref02_To.f k n = some (y, m, d, 0)) := by
  obtain ⟨y, hy1, hy2, hn1, hn2⟩ := year_there n h1 9999 (by have : yA (((9999 : Nat) : Int) + 1) = 3652059 := rfl; omega)
  have hs := yA_succ (y := (y : Int)) (by omega)
  obtain ⟨m, r, a1, a2, a3, a4, a5, a6⟩ := month_loop (y : Int) 12 1 (n - yA (y : Int)) (by omega) (by omega) (by omega) (by rw [rest_year]; omega)
  have hl := lenOf_le (y := (y : Int)) a1 a2
  refine ⟨y, m, r, by omega, by omega, a1, a2, a3, by omega, fun k hk => ?_, fun k hk => ?_⟩
  · unfold QS.day_To.f QS.day_is.f
    rw [if_pos (by omega)]
    simp only [Option.bind_some]
    rw [if_pos (decide_eq_true h2)]
    have g0 : wrap64 (n - 1) = n - 1 := by unfold wrap64; omega
    rw [g0, Int.tdiv_eq_ediv_of_nonneg (by omega), Int.tmod_eq_emod_of_nonneg (by omega), Int.tdiv_eq_ediv_of_nonneg (by omega)]
    obtain ⟨q, hq⟩ : ∃ q, (n - 1) / 146097 = q := ⟨_, rfl⟩
    obtain ⟨t, ht⟩ : ∃ t, (n - 1) % 146097 = t := ⟨_, rfl⟩
    obtain ⟨u, hu⟩ : ∃ u, t / 366 = u := ⟨_, rfl⟩
    rw [hq, ht, hu]
    have hq2 : 0 ≤ q ∧ q ≤ 24 := by omega
    have ht2 : 0 ≤ t ∧ t ≤ 146096 := by omega
    have hu2 : 0 ≤ u ∧ 366 * u ≤ t ∧ u ≤ 399 := by omega
    have hn : n - 1 = 146097 * q + t := by omega
    have w1 : wrap64 q = q := by unfold wrap64; omega
    have w2 : wrap64 (400 * q) = 400 * q := by unfold wrap64; omega
    have w3 : wrap64 u = u := by unfold wrap64; omega
    have w4 : wrap64 (400 * q + u) = 400 * q + u := by unfold wrap64; omega
    have w5 : wrap64 (400 * q + u + 1) = 400 * q + u + 1 := by unfold wrap64; omega
    rw [w1, w2, w3, w4, w5]
    have hz : yA (400 * q + u + 1) < n := by
      unfold yA
      have e : 400 * q + u + 1 - 1 = 400 * q + u := by omega
      rw [e]
      have d4 : (400 * q + u) / 4 = 100 * q + u / 4 := by omega
      have d1 : (400 * q + u) / 100 = 4 * q + u / 100 := by omega
      have d0 : (400 * q + u) / 400 = q + u / 400 := by omega
      rw [d4, d1, d0]
      omega
    obtain ⟨z, hzz⟩ : ∃ z : Nat, 400 * q + u + 1 = (z : Int) := ⟨(400 * q + u + 1).toNat, by omega⟩
    rw [hzz] at hz ⊢
    have hzy : z ≤ y := by
      apply Classical.byContradiction
      intro hc
      have := yA_mono (a := (y : Int) + 1) (b := (z : Int)) (by omega) (by omega)
      omega
    exact prog_years n y hy1 hy2 hn1 hn2 _ 13 (fun k hk => a5 k (by omega)) (y - z) z k (by omega) (by omega) (by omega)
  · obtain ⟨k, rfl⟩ : ∃ j, k = j + 1 := ⟨k - 1, by omega⟩
    unfold QS.daybookref02_To.f
    rw [if_neg (by omega), show decide (n > 3652059) = false from decide_eq_false (by omega)]
    simp only [QS.daybookref02_To.j0]
    rw [if_neg (by decide)]
    have := ref_years n y hy1 hy2 hn1 hn2 _ 13 (fun k hk => a6 k (by omega)) (y - 1) 1 k (Nat.le_refl _) (by omega) (by omega)
    rwa [show yA ((1 : Nat) : Int) = 0 from rfl, Int.sub_zero] at this
end Go.Proofs.YtmimninicegjcaaGreatDoor
/- Plain laws: the document's amounts are money.Print's. -/
namespace Go.Proofs.YtmimninicegjcaaGreatDoor
open Go.RowKit Go.Shelf Go.Lib Go.Proofs.YtmimninicegjcaaGreatDoorW.PrintWords Go.Proofs.YtmimninicegjcaaGreatDoorW.PrintLast
set_option linter.unusedVariables false
set_option linter.unusedSimpArgs false
def dig (v : Nat) : UInt8 := UInt8.ofNat (48 + v % 10)
/-- v's digits, at least m. -/
def digs (v m : Nat) : List UInt8 := if h : v = 0 then List.replicate m 48 else digs (v / 10) (m - 1) ++ [dig v]
termination_by v
decreasing_by omega
theorem digs_zero (m : Nat) : digs 0 m = List.replicate m 48 := by rw [digs, dif_pos rfl]
theorem digs_pos {v : Nat} (h : v ≠ 0) (m : Nat) : digs v m = digs (v / 10) (m - 1) ++ [dig v] := by rw [digs, dif_neg h]
theorem digs_succ (v m : Nat) : digs v (m + 1) = digs (v / 10) m ++ [dig v] := by
  by_cases h : v = 0
  · subst h
    rw [digs_zero, show 0 / 10 = 0 from rfl, digs_zero, List.replicate_succ']
    rfl
  · rw [digs_pos h]
    rfl
theorem digs_one (v : Nat) : digs v 1 = Lib.decDigits v := by
  induction v using Nat.strongRecOn with
  | _ v ih =>
    rw [digs_succ]
    by_cases h : v < 10
    · rw [show v / 10 = 0 by omega, digs_zero, Lib.decDigits, dif_pos h]
      simp only [List.replicate_zero, List.nil_append, dig]
      rw [Nat.mod_eq_of_lt h]
    · rw [Lib.decDigits, dif_neg h, ← ih (v / 10) (by omega)]
      congr 1
      rw [digs_pos (show v / 10 ≠ 0 by omega), digs_pos (show v / 10 ≠ 0 by omega)]
theorem digs_length (v : Nat) : ∀ m, (digs v m).length = max m (if v = 0 then 0 else Lib.nDigits v) := by
  induction v using Nat.strongRecOn with
  | _ v ih =>
    intro m
    by_cases h : v = 0
    · subst h; rw [digs_zero]; simp
    · rw [digs_pos h, List.length_append, List.length_singleton, ih (v / 10) (by omega), if_neg h]
      by_cases h10 : v < 10
      · rw [if_pos (by omega), Lib.nDigits_small h10]; omega
      · rw [if_neg (by omega), Lib.nDigits_big h10]; omega
theorem digs_pad (v m : Nat) : digs v (m + 1) = List.replicate (m + 1 - Lib.nDigits v) 48 ++ Lib.decDigits v := by
  induction m generalizing v with
  | zero =>
    have := Lib.nDigits_pos v
    rw [digs_one, show 0 + 1 - Lib.nDigits v = 0 by omega]
    rfl
  | succ m ih =>
    rw [digs_succ, ih (v / 10)]
    by_cases h : v < 10
    · have h0 : v / 10 = 0 := by omega
      rw [h0, Lib.nDigits_small h, Lib.nDigits_small (by omega : (0 : Nat) < 10), Lib.decDigits_one h, Lib.decDigits_one (by omega : (0 : Nat) < 10)]
      rw [show m + 1 + 1 - 1 = (m + 1 - 1) + 1 by omega, List.replicate_succ']
      simp only [List.append_assoc, dig]
      rw [Nat.mod_eq_of_lt h]
      rfl
    · rw [Lib.nDigits_big h, show m + 1 + 1 - (Lib.nDigits (v / 10) + 1) = m + 1 - Lib.nDigits (v / 10) by omega, List.append_assoc]
      congr 1
      conv => rhs; rw [Lib.decDigits, dif_neg h]
      rfl
/-- The last d digits. -/
def low (a : Nat) : Nat → List UInt8
  | 0 => []
  | d + 1 => low (a / 10) d ++ [dig a]
theorem low_length (d : Nat) : ∀ a, (low a d).length = d := by
  induction d with
  | zero => exact fun a => rfl
  | succ d ih => intro a; rw [low, List.length_append, ih]; rfl
theorem digs_low (d : Nat) : ∀ a m, digs a (m + d) = digs (a / 10 ^ d) m ++ low a d := by
  induction d with
  | zero => intro a m; simp [low]
  | succ d ih =>
    intro a m
    rw [← Nat.add_assoc, digs_succ, ih, low, Nat.div_div_eq_div_mul, ← Nat.pow_succ', List.append_assoc]
theorem digs_mod (d : Nat) : ∀ a, digs (a % 10 ^ d) d = low a d := by
  induction d with
  | zero => intro a; rw [Nat.pow_zero, Nat.mod_one, digs_zero]; rfl
  | succ d ih =>
    intro a
    have h1 : a % 10 ^ (d + 1) / 10 = (a / 10) % 10 ^ d := by rw [Nat.pow_succ', Nat.mod_mul_right_div_self]
    have h2 : dig (a % 10 ^ (d + 1)) = dig a := by
      unfold dig
      rw [Nat.pow_succ', Nat.mod_mul_right_mod]
    rw [digs_succ, h1, h2, ih, low]
theorem money_text (a d : Nat) : (moneyText (a : Int) d).data.toList = if 0 < d then digs (a / 10 ^ d) 1 ++ [46] ++ low a d else digs a 1 := by
  have hp : (padded ⟨(Lib.decDigits a).toArray⟩ d).data.toList = digs a (d + 1) := by
    rw [digs_pad]
    unfold padded
    have hs : (⟨(Lib.decDigits a).toArray⟩ : ByteArray).size = Lib.nDigits a := by rw [mk_size, List.size_toArray, Lib.decDigits_length]
    rw [hs]
    split
    · rename_i h
      rw [ByteArray.data_append]
      simp only [Array.toList_append]
      have : (zerosB (d + 1 - Lib.nDigits a)).data.toList = List.replicate (d + 1 - Lib.nDigits a) 48 := by
        have := Lib.repeatL_replicate 48 1 (d + 1 - Lib.nDigits a)
        simpa [zerosB] using this
      rw [this]
    · rename_i h
      rw [show d + 1 - Lib.nDigits a = 0 by omega]
      simp
  unfold moneyText
  simp only
  rw [if_neg (by omega), Int.natAbs_natCast]
  generalize padded ⟨(Lib.decDigits a).toArray⟩ d = x at *
  unfold pointed
  have hsz : x.size = (digs a (d + 1)).length := by rw [← hp]; simp
  have hl := digs_low d a 1
  rw [Nat.add_comm] at hl
  by_cases hd : 0 < d
  · rw [if_pos hd, if_pos hd]
    have hlen : x.size - d = (digs (a / 10 ^ d) 1).length := by rw [hsz, hl, List.length_append, low_length]; omega
    have e1 : (x.extract 0 (x.size - d)).data.toList = digs (a / 10 ^ d) 1 := by
      rw [ByteArray.data_extract, Array.toList_extract, hp, hlen, hl]
      simp
    have e2 : (x.extract (x.size - d) x.size).data.toList = low a d := by
      rw [ByteArray.data_extract, Array.toList_extract, hp, hlen, hsz, hl]
      simp
    rw [ByteArray.data_append, ByteArray.data_append]
    simp only [Array.toList_append, e1, e2]
  · have : d = 0 := by omega
    subst this
    rw [if_neg hd, if_neg hd, hp]
end Go.Proofs.YtmimninicegjcaaGreatDoor
/- Plain laws: daybookref17.money is moneyText from 0 on. -/
namespace Go.Proofs.YtmimninicegjcaaGreatDoor
open Go.RowKit Go.Shelf Go.Lib Go.Proofs.YtmimninicegjcaaGreatDoorW.PrintWords Go.Proofs.YtmimninicegjcaaGreatDoorW.PrintLast
set_option linter.unusedVariables false
set_option linter.unusedSimpArgs false
theorem ba_ext {a b : ByteArray} (h : a.data.toList = b.data.toList) : a = b := by
  obtain ⟨⟨a⟩⟩ := a
  obtain ⟨⟨b⟩⟩ := b
  exact congrArg (fun l => (⟨⟨l⟩⟩ : ByteArray)) h
theorem byte_of (v : Nat) (h : v ≤ 9223372036854775807) : (strOfNums [(wrap64 (48 + (Int.tmod (v : Int) 10))) % 256]).data.toList = [dig v] := by
  have e : (wrap64 (48 + (Int.tmod (v : Int) 10))) % 256 = ((48 + v % 10 : Nat) : Int) := by
    rw [Int.tmod_eq_emod_of_nonneg (by omega)]
    unfold wrap64
    omega
  rw [e]
  unfold strOfNums dig
  simp only [List.map_cons, List.map_nil, Int.toNat_natCast]
theorem digits_loop (least : Nat) : ∀ (k v : Nat) (s : ByteArray), v ≤ 9223372036854775807 → least ≤ 100 → s.size + (digs v (least - s.size)).length ≤ 1000 → (digs v (least - s.size)).length < k →
    ∃ r, QT.daybookref01_Digits.l0 k (v : Int) (least : Int) s = some r ∧ r.data.toList = digs v (least - s.size) ++ s.data.toList := by
  intro k
  induction k with
  | zero => intro v s _ _ _ hk; omega
  | succ k ih =>
    intro v s hv hl hs hk
    have wd : wrap64 (Int.tdiv (v : Int) 10) = ((v / 10 : Nat) : Int) := by
      rw [Int.tdiv_eq_ediv_of_nonneg (by omega)]
      unfold wrap64
      omega
    have hb := byte_of v hv
    simp only [QT.daybookref01_Digits.l0, Option.bind_some]
    generalize hB : strOfNums [(wrap64 (48 + (Int.tmod (v : Int) 10))) % 256] = B at *
    have hB1 : B.size = 1 := by
      have := congrArg List.length hb
      simpa using this
    have hsz : (B ++ s).size = s.size + 1 := by rw [ByteArray.size_append]; omega
    have go : digs v (least - s.size) = digs (v / 10) (least - (s.size + 1)) ++ [dig v] →
        ∃ r, (if B.size + s.size ≤ 9223372036854775807 then QT.daybookref01_Digits.l0 k (wrap64 (Int.tdiv (v : Int) 10)) (least : Int) (B ++ s) else none) = some r ∧ r.data.toList = digs v (least - s.size) ++ s.data.toList := by
      intro he
      rw [he, List.length_append, List.length_singleton] at hs hk
      rw [if_pos (by omega), wd]
      obtain ⟨r, h1, h2⟩ := ih (v / 10) (B ++ s) (by omega) hl (by rw [hsz]; omega) (by rw [hsz]; omega)
      refine ⟨r, h1, ?_⟩
      rw [h2, hsz, he, ByteArray.data_append]
      simp only [Array.toList_append, hb, List.append_assoc]
    by_cases h0 : v = 0
    · rw [if_neg (by omega)]
      by_cases hm : s.size < least
      · rw [if_pos (by omega)]
        refine go ?_
        rw [show least - s.size = (least - (s.size + 1)) + 1 by omega, digs_succ]
      · rw [if_neg (by omega)]
        refine ⟨s, rfl, ?_⟩
        rw [h0, digs_zero, show least - s.size = 0 by omega]
        rfl
    · rw [if_pos (by omega)]
      refine go ?_
      rw [digs_pos h0, show least - s.size - 1 = least - (s.size + 1) by omega]
theorem digits_some (v least : Nat) (hv : v ≤ 9223372036854775807) (hl : least ≤ 100) : ∀ k, 200 ≤ k → ∃ r, QT.daybookref01_Digits.f k (v : Int) (least : Int) = some r ∧ r.data.toList = digs v least := by
  intro k hk
  have hlen : (digs v least).length ≤ 120 := by
    rw [digs_length]
    have := Lib.nDigits_le20 v (by omega)
    split <;> omega
  have e0 : (⟨#[]⟩ : ByteArray).size = 0 := rfl
  obtain ⟨r, h1, h2⟩ := digits_loop least k v ⟨#[]⟩ hv hl (by rw [e0, Nat.sub_zero]; omega) (by rw [e0, Nat.sub_zero]; omega)
  refine ⟨r, h1, ?_⟩
  rw [h2, e0, Nat.sub_zero]
  simp
theorem ten0 : QT.daybookref01_ten.f 10 0 = some 1 := by kernel_rfl
theorem ten1 : QT.daybookref01_ten.f 10 1 = some 10 := by kernel_rfl
theorem ten2 : QT.daybookref01_ten.f 10 2 = some 100 := by kernel_rfl
theorem ten3 : QT.daybookref01_ten.f 10 3 = some 1000 := by kernel_rfl
theorem ten4 : QT.daybookref01_ten.f 10 4 = some 10000 := by kernel_rfl
theorem ten5 : QT.daybookref01_ten.f 10 5 = some 100000 := by kernel_rfl
theorem ten6 : QT.daybookref01_ten.f 10 6 = some 1000000 := by kernel_rfl
theorem ten_some (d : Nat) (hd : d ≤ 6) : ∀ k, 10 ≤ k → QT.daybookref01_ten.f k (d : Int) = some ((10 ^ d : Nat) : Int) := by
  intro k hk
  have h10 : QT.daybookref01_ten.f 10 (d : Int) = some ((10 ^ d : Nat) : Int) := by
    have : d = 0 ∨ d = 1 ∨ d = 2 ∨ d = 3 ∨ d = 4 ∨ d = 5 ∨ d = 6 := by omega
    rcases this with rfl | rfl | rfl | rfl | rfl | rfl | rfl
    · exact ten0
    · exact ten1
    · exact ten2
    · exact ten3
    · exact ten4
    · exact ten5
    · exact ten6
  exact at_rounds (g := fun k => QT.daybookref01_ten.f k (d : Int)) (fun k => QT.daybookref01_ten.mono _ k) hk h10
end Go.Proofs.YtmimninicegjcaaGreatDoor
/- Plain laws: both dates' texts; both cells' texts. -/
namespace Go.Proofs.YtmimninicegjcaaGreatDoor
open Go.RowKit Go.Shelf Go.Lib Go.Proofs.YtmimninicegjcaaGreatDoorW.PrintWords Go.Proofs.YtmimninicegjcaaGreatDoorW.PrintLast
set_option linter.unusedVariables false
set_option linter.unusedSimpArgs false
theorem ba_size (s : ByteArray) : s.data.toList.length = s.size := by simp
/-! ### a number in so many digits -/
theorem pad_loop (m : Nat) (hm : m ≤ 100) (e : Nat) : ∀ (k : Nat) (s : ByteArray), s.size + e = m ∨ (m ≤ s.size ∧ e = 0) → e < k → s.size ≤ 1000 →
    ∃ r, QS.day_pad.l0 k (m : Int) s = some r ∧ r.data.toList = List.replicate e 48 ++ s.data.toList := by
  induction e with
  | zero =>
    intro k s hs hk hb
    obtain ⟨k, rfl⟩ : ∃ j, k = j + 1 := ⟨k - 1, by omega⟩
    simp only [QS.day_pad.l0]
    rw [if_neg (by omega)]
    exact ⟨s, rfl, by simp⟩
  | succ e ih =>
    intro k s hs hk hb
    obtain ⟨k, rfl⟩ : ∃ j, k = j + 1 := ⟨k - 1, by omega⟩
    have h1 : (⟨#[48]⟩ : ByteArray).size = 1 := rfl
    have hsz : ((⟨#[48]⟩ : ByteArray) ++ s).size = s.size + 1 := by rw [ByteArray.size_append]; omega
    simp only [QS.day_pad.l0]
    rw [if_pos (by omega), if_pos (by omega)]
    obtain ⟨r, hr1, hr2⟩ := ih k ((⟨#[48]⟩ : ByteArray) ++ s) (by omega) (by omega) (by omega)
    refine ⟨r, hr1, ?_⟩
    rw [hr2, List.replicate_succ', ByteArray.data_append]
    simp
theorem itoa_nat (v : Nat) : Lib.itoa (v : Int) = Lib.decDigits v := by
  unfold Lib.itoa
  rw [if_neg (by omega)]
  simp
theorem pad_some (v m : Nat) (hv : v ≤ 100000) (hm : m < 100) (k : Nat) (hk : 200 ≤ k) : ∃ r, QS.day_pad.f k (v : Int) ((m + 1 : Nat) : Int) = some r ∧ r.data.toList = digs v (m + 1) := by
  unfold QS.day_pad.f L_Itoa.f
  rw [if_pos (by omega), itoa_nat]
  simp only [Option.bind_some]
  have hl := Lib.nDigits_le20 v (by omega)
  have hlen : (⟨(Lib.decDigits v).toArray⟩ : ByteArray).size = Lib.nDigits v := by
    show (Lib.decDigits v).toArray.size = _
    rw [List.size_toArray, Lib.decDigits_length]
  obtain ⟨r, h1, h2⟩ := pad_loop (m + 1) (by omega) (m + 1 - Lib.nDigits v) k ⟨(Lib.decDigits v).toArray⟩ (by omega) (by omega) (by omega)
  refine ⟨r, h1, ?_⟩
  rw [h2, digs_pad]
theorem low_loop (m : Nat) (hm : m ≤ 100) (e : Nat) : ∀ (i k v : Nat) (s : ByteArray), i + e = m → s.size = i → e < k → v ≤ 100000 →
    ∃ r, QS.daybookref02_digits.l0 k (v : Int) (m : Int) s (i : Int) = some r ∧ r.data.toList = low v e ++ s.data.toList := by
  induction e with
  | zero =>
    intro i k v s hi hs hk hv
    obtain ⟨k, rfl⟩ : ∃ j, k = j + 1 := ⟨k - 1, by omega⟩
    simp only [QS.daybookref02_digits.l0]
    rw [if_neg (by omega)]
    exact ⟨s, rfl, by simp [low]⟩
  | succ e ih =>
    intro i k v s hi hs hk hv
    obtain ⟨k, rfl⟩ : ∃ j, k = j + 1 := ⟨k - 1, by omega⟩
    have hb := byte_of v (by omega)
    have wd : wrap64 (Int.tdiv (v : Int) 10) = ((v / 10 : Nat) : Int) := by
      rw [Int.tdiv_eq_ediv_of_nonneg (by omega)]
      unfold wrap64
      omega
    have wi : wrap64 ((i : Int) + 1) = ((i + 1 : Nat) : Int) := by unfold wrap64; omega
    simp only [QS.daybookref02_digits.l0, Option.bind_some]
    rw [if_pos (by omega)]
    generalize hB : strOfNums [(wrap64 (48 + (Int.tmod (v : Int) 10))) % 256] = B at *
    have hB1 : B.size = 1 := by
      have := congrArg List.length hb
      simpa using this
    have hsz : (B ++ s).size = s.size + 1 := by rw [ByteArray.size_append]; omega
    rw [if_pos (by omega), wd, wi]
    obtain ⟨r, h1, h2⟩ := ih (i + 1) k (v / 10) (B ++ s) (by omega) (by omega) (by omega) (by omega)
    refine ⟨r, h1, ?_⟩
    rw [h2, low, ByteArray.data_append]
    simp [hb]
theorem low_some (v m : Nat) (hv : v ≤ 100000) (hm : m ≤ 100) (hlt : v < 10 ^ m) (k : Nat) (hk : 200 ≤ k) : ∃ r, QS.daybookref02_digits.f k (v : Int) (m : Int) = some r ∧ r.data.toList = digs v m := by
  obtain ⟨r, h1, h2⟩ := low_loop m hm m 0 k v ⟨#[]⟩ (by omega) rfl (by omega) hv
  refine ⟨r, h1, ?_⟩
  rw [h2, ← digs_mod, Nat.mod_eq_of_lt hlt]
  simp
/-- A day's text. -/
def dateB (y m d : Nat) : ByteArray := ⟨(digs y 4 ++ 45 :: (digs m 2 ++ 45 :: digs d 2)).toArray⟩
theorem dateB_size {y m d : Nat} (hy : y < 10 ^ 4) (hm : m < 10 ^ 2) (hd : d < 10 ^ 2) : (dateB y m d).size = 10 := by
  have h1 := low_length 4 y
  have h2 := low_length 2 m
  have h3 := low_length 2 d
  rw [← digs_mod, Nat.mod_eq_of_lt hy] at h1
  rw [← digs_mod, Nat.mod_eq_of_lt hm] at h2
  rw [← digs_mod, Nat.mod_eq_of_lt hd] at h3
  show (digs y 4 ++ 45 :: (digs m 2 ++ 45 :: digs d 2)).toArray.size = 10
  simp [h1, h2, h3]
theorem both_prints (n : Int) (h1 : 1 ≤ n) (h2 : n ≤ 3652059) : ∃ s : ByteArray, s.size = 10 ∧ (∀ k, 20100 ≤ k → QS.day_Print.f k n = some (s, 0)) ∧ (∀ k, 20100 ≤ k → QS.daybookref02_Print.f k n = some (s, 0)) := by
  obtain ⟨y, m, d, a1, a2, a3, a4, a5, a6, hp, hr⟩ := both_dates n h1 h2
  obtain ⟨y, rfl⟩ : ∃ z : Nat, y = (z : Int) := ⟨y.toNat, by omega⟩
  obtain ⟨m, rfl⟩ : ∃ z : Nat, m = (z : Int) := ⟨m.toNat, by omega⟩
  obtain ⟨d, rfl⟩ : ∃ z : Nat, d = (z : Int) := ⟨d.toNat, by omega⟩
  have ly : y < 10 ^ 4 := by show y < 10000; omega
  have lm : m < 10 ^ 2 := by show m < 100; omega
  have ld : d < 10 ^ 2 := by show d < 100; omega
  refine ⟨dateB y m d, dateB_size ly lm ld, fun k hk => ?_, fun k hk => ?_⟩
  · obtain ⟨p1, e1, f1⟩ := pad_some y 3 (by omega) (by omega) k (by omega)
    obtain ⟨p2, e2, f2⟩ := pad_some m 1 (by omega) (by omega) k (by omega)
    obtain ⟨p3, e3, f3⟩ := pad_some d 1 (by omega) (by omega) k (by omega)
    rw [show ((3 + 1 : Nat) : Int) = 4 from rfl] at e1
    rw [show ((1 + 1 : Nat) : Int) = 2 from rfl] at e2 e3
    have z1 := congrArg List.length f1
    have z2 := congrArg List.length f2
    have z3 := congrArg List.length f3
    rw [ba_size, digs_length] at z1 z2 z3
    have n1 := Lib.nDigits_le20 y (by omega)
    have n2 := Lib.nDigits_le20 m (by omega)
    have n3 := Lib.nDigits_le20 d (by omega)
    have b1 : p1.size ≤ 100 := by split at z1 <;> omega
    have b2 : p2.size ≤ 100 := by split at z2 <;> omega
    have b3 : p3.size ≤ 100 := by split at z3 <;> omega
    have e0 : (⟨#[45]⟩ : ByteArray).size = 1 := rfl
    unfold QS.day_Print.f
    rw [hp k (by omega)]
    simp only [Option.bind_some, if_true]
    rw [e1]
    simp only [Option.bind_some]
    rw [if_pos (by omega), e2]
    simp only [Option.bind_some]
    rw [if_pos (by simp only [ByteArray.size_append]; omega), if_pos (by simp only [ByteArray.size_append]; omega), e3]
    simp only [Option.bind_some]
    rw [if_pos (by simp only [ByteArray.size_append]; omega)]
    congr 2
    refine ba_ext ?_
    simp [ByteArray.data_append, f1, f2, f3, dateB]
  · obtain ⟨p1, e1, f1⟩ := low_some y 4 (by omega) (by omega) ly k (by omega)
    obtain ⟨p2, e2, f2⟩ := low_some m 2 (by omega) (by omega) lm k (by omega)
    obtain ⟨p3, e3, f3⟩ := low_some d 2 (by omega) (by omega) ld k (by omega)
    rw [show ((4 : Nat) : Int) = 4 from rfl] at e1
    rw [show ((2 : Nat) : Int) = 2 from rfl] at e2 e3
    have z1 := congrArg List.length f1
    have z2 := congrArg List.length f2
    have z3 := congrArg List.length f3
    rw [ba_size, digs_length] at z1 z2 z3
    have n1 := Lib.nDigits_le20 y (by omega)
    have n2 := Lib.nDigits_le20 m (by omega)
    have n3 := Lib.nDigits_le20 d (by omega)
    have b1 : p1.size ≤ 100 := by split at z1 <;> omega
    have b2 : p2.size ≤ 100 := by split at z2 <;> omega
    have b3 : p3.size ≤ 100 := by split at z3 <;> omega
    have e0 : (⟨#[45]⟩ : ByteArray).size = 1 := rfl
    unfold QS.daybookref02_Print.f
    rw [hr k (by omega)]
    simp only [Option.bind_some, if_true]
    rw [e1]
    simp only [Option.bind_some]
    rw [if_pos (by omega), e2]
    simp only [Option.bind_some]
    rw [if_pos (by simp only [ByteArray.size_append]; omega), if_pos (by simp only [ByteArray.size_append]; omega), e3]
    simp only [Option.bind_some]
    rw [if_pos (by simp only [ByteArray.size_append]; omega)]
    congr 2
    refine ba_ext ?_
    simp [ByteArray.data_append, f1, f2, f3, dateB]
end Go.Proofs.YtmimninicegjcaaGreatDoor
/- Plain laws: a cell's text, by the program and by the document. -/
namespace Go.Proofs.YtmimninicegjcaaGreatDoor
open Go.RowKit Go.Shelf Go.Lib Go.Proofs.YtmimninicegjcaaGreatDoorW.PrintWords Go.Proofs.YtmimninicegjcaaGreatDoorW.PrintLast
set_option linter.unusedVariables false
set_option linter.unusedSimpArgs false
theorem j1_some (a d : Nat) (ha : a ≤ 9223372036854775807) (hd : d ≤ 6) (pre : ByteArray) (hpre : pre.size ≤ 1) (k : Nat) (hk : 300 ≤ k) : QT.daybookref01_Print.j1 (k + 1) (a : Int) (d : Int) pre = some (pre ++ moneyText (a : Int) d, 0) := by
  have hp : 0 < 10 ^ d := Nat.pow_pos (by decide)
  have hp2 : 10 ^ d ≤ 10 ^ 6 := Nat.pow_le_pow_right (by decide) hd
  have hpb : (10 ^ d : Nat) ≤ 1000000 := hp2
  have w1 : wrap64 (Int.tdiv (a : Int) ((10 ^ d : Nat) : Int)) = ((a / 10 ^ d : Nat) : Int) := by
    rw [Int.tdiv_eq_ediv_of_nonneg (by omega), ← Int.natCast_ediv]
    have := Nat.div_le_self a (10 ^ d)
    generalize a / 10 ^ d = q at *
    unfold wrap64
    omega
  have w2 : Int.tmod (a : Int) ((10 ^ d : Nat) : Int) = ((a % 10 ^ d : Nat) : Int) := by
    rw [Int.tmod_eq_emod_of_nonneg (by omega), ← Int.natCast_emod]
  have ht := ten_some d hd k (by omega)
  obtain ⟨r1, h1, h2⟩ := digits_some (a / 10 ^ d) 1 (Nat.le_trans (Nat.div_le_self _ _) ha) (by decide) k (by omega)
  rw [show ((1 : Nat) : Int) = 1 from rfl] at h1
  obtain ⟨r2, h3, h4⟩ := digits_some (a % 10 ^ d) d (Nat.le_trans (Nat.mod_le _ _) ha) (by omega) k (by omega)
  have hl1 : r1.size ≤ 30 := by
    have := congrArg List.length h2
    rw [digs_length] at this
    have h5 := Lib.nDigits_le20 (a / 10 ^ d) (by have := Nat.div_le_self a (10 ^ d); omega)
    have h6 : r1.data.toList.length = r1.size := by simp
    rw [h6] at this
    split at this <;> omega
  have hl2 : r2.size = d := by
    have := congrArg List.length h4
    rw [digs_mod, low_length] at this
    simpa using this
  have e1 : (⟨#[46]⟩ : ByteArray).size = 1 := rfl
  have hne : ¬ ((10 ^ d : Nat) : Int) = 0 := by omega
  have hm := money_text a d
  simp only [QT.daybookref01_Print.j1]
  rw [ht]
  simp only [Option.bind_some]
  rw [if_neg hne, w1, h1]
  simp only [Option.bind_some]
  rw [if_pos (by omega)]
  by_cases hd0 : 0 < d
  · rw [if_pos (by omega), if_pos (by rw [ByteArray.size_append]; omega), if_neg hne, w2, h3]
    simp only [Option.bind_some]
    rw [if_pos (by simp only [ByteArray.size_append]; omega)]
    congr 2
    refine ba_ext ?_
    rw [ByteArray.data_append (l := pre) (l' := moneyText (a : Int) d), Array.toList_append, hm, if_pos hd0]
    simp only [ByteArray.data_append, Array.toList_append, h2, h4, digs_mod]
    simp
  · rw [if_neg (by omega)]
    congr 2
    refine ba_ext ?_
    have hd00 : d = 0 := by omega
    subst hd00
    rw [ByteArray.data_append (l := pre) (l' := moneyText (a : Int) 0), Array.toList_append, hm, if_neg hd0]
    simp only [ByteArray.data_append, Array.toList_append, h2]
    simp
theorem moneyText_neg (a d : Nat) (h : 0 < a) : moneyText (-(a : Int)) d = (⟨#[45]⟩ : ByteArray) ++ moneyText (a : Int) d := by
  have e1 : (-(a : Int)).natAbs = a := by omega
  have e2 : ((a : Int)).natAbs = a := by omega
  unfold moneyText
  simp only
  rw [if_pos (by omega), if_neg (by omega), e1, e2]
theorem money_all (a : Int) (d : Nat) (h1 : isI64 a) (h2 : a ≠ -9223372036854775808) (hd : d ≤ 6) (k : Nat) (hk : 302 ≤ k) : QT.daybookref17_money.f k a (d : Int) = some (moneyText a d) := by
  have h3 := h1.1
  have h4 := h1.2
  obtain ⟨k, rfl⟩ : ∃ j, k = j + 2 := ⟨k - 2, by omega⟩
  unfold QT.daybookref17_money.f QT.daybookref01_Print.f
  rw [if_neg (by omega), show decide ((d : Int) > 6) = false from decide_eq_false (by omega)]
  simp only [QT.daybookref01_Print.j0, QT.daybookref01_Is.f, Option.bind_some]
  rw [if_neg (by decide), if_pos (by simpa using h2)]
  by_cases hn : a < 0
  · obtain ⟨b, rfl⟩ : ∃ b : Nat, a = -(b : Int) := ⟨a.natAbs, by omega⟩
    have w : wrap64 (- -(b : Int)) = (b : Int) := by unfold wrap64; omega
    rw [if_pos hn, w, j1_some b d (by omega) hd ⟨#[45]⟩ (Nat.le_refl _) k (by omega), moneyText_neg b d (by omega)]
    rfl
  · obtain ⟨b, rfl⟩ : ∃ b : Nat, a = (b : Int) := ⟨a.toNat, by omega⟩
    rw [if_neg hn, j1_some b d (by omega) hd ⟨#[]⟩ (Nat.zero_le _) k (by omega)]
    rw [show (⟨#[]⟩ : ByteArray) ++ moneyText (b : Int) d = moneyText (b : Int) d from ba_ext (by rw [ByteArray.data_append]; simp)]
    rfl
theorem itoa_min : Lib.itoa (-9223372036854775808) = [45, 57, 50, 50, 51, 51, 55, 50, 48, 51, 54, 56, 53, 52, 55, 55, 53, 56, 48, 56] := by decide +kernel
theorem number_all (a : Int) (h1 : isI64 a) (k : Nat) (hk : 300 ≤ k) : QS.daybookref17_number.f k a = some ⟨(Lib.itoa a).toArray⟩ := by
  have h3 := h1.1
  have h4 := h1.2
  unfold QS.daybookref17_number.f
  by_cases hn : a ≥ 0
  · obtain ⟨b, rfl⟩ : ∃ b : Nat, a = (b : Int) := ⟨a.toNat, by omega⟩
    obtain ⟨r, h5, h6⟩ := digits_some b 1 (by omega) (by decide) k (by omega)
    rw [show ((1 : Nat) : Int) = 1 from rfl] at h5
    rw [if_pos hn, h5, itoa_nat]
    simp only [Option.bind_some]
    congr 1
    refine ba_ext ?_
    rw [h6, digs_one]
  · rw [if_neg hn]
    by_cases hm : a = -9223372036854775808
    · rw [if_pos hm, hm, itoa_min]
    · obtain ⟨b, rfl⟩ : ∃ b : Nat, a = -(b : Int) := ⟨a.natAbs, by omega⟩
      obtain ⟨r, h5, h6⟩ := digits_some b 1 (by omega) (by decide) k (by omega)
      rw [show ((1 : Nat) : Int) = 1 from rfl] at h5
      have w : wrap64 (- -(b : Int)) = (b : Int) := by unfold wrap64; omega
      have hl : r.size ≤ 100 := by
        have := congrArg List.length h6
        rw [ba_size, digs_length] at this
        have n1 := Lib.nDigits_le20 b (by omega)
        split at this <;> omega
      rw [if_neg hm, w, h5]
      simp only [Option.bind_some]
      rw [if_pos (by omega)]
      congr 1
      refine ba_ext ?_
      have e : Lib.itoa (-(b : Int)) = 45 :: Lib.decDigits b := by
        unfold Lib.itoa
        rw [if_pos (by omega)]
        simp
      rw [e, ByteArray.data_append, Array.toList_append, h6, digs_one]
      simp
theorem itoa_size (a : Int) (h1 : isI64 a) : (⟨(Lib.itoa a).toArray⟩ : ByteArray).size ≤ 100 := by
  show (Lib.itoa a).toArray.size ≤ 100
  have h3 := h1.1
  have h4 := h1.2
  have hn := Lib.nDigits_le20 a.natAbs (by omega)
  have hn2 := Lib.nDigits_le20 a.toNat (by omega)
  rw [List.size_toArray]
  unfold Lib.itoa
  split
  · rw [List.length_cons, Lib.decDigits_length]; omega
  · rw [Lib.decDigits_length]; omega
/-! ### texts -/
def printB (s : ByteArray) (n : Nat) : Bool := (List.range n).all fun i => decide (32 ≤ bt s i ∧ bt s i ≤ 126)
theorem printB_succ (s : ByteArray) (n : Nat) : printB s (n + 1) = (printB s n && decide (32 ≤ bt s n ∧ bt s n ≤ 126)) := by simp [printB, List.range_succ]
theorem printB_bad {s : ByteArray} {i n : Nat} (hi : i < n) (h : ¬ (32 ≤ bt s i ∧ bt s i ≤ 126)) : printB s n = false := by
  unfold printB
  rw [List.all_eq_false]
  exact ⟨i, List.mem_range.2 hi, by simpa using h⟩
theorem text_loops (s : ByteArray) (hs : s.size ≤ 1048576) (c0 c1 : Int) (e : Nat) : ∀ (i k : Nat), i + e = s.size → e < k → printB s i = true →
    QS.sheet_cell.l0 k (s.size : Int) (i : Int) c0 c1 s = some (if printB s s.size = true then (s, 0) else (⟨#[]⟩, 140)) ∧ QS.daybookref17_printable.l0 k s (i : Int) = some (printB s s.size) := by
  induction e with
  | zero =>
    intro i k hi hk hp
    obtain ⟨k, rfl⟩ : ∃ j, k = j + 1 := ⟨k - 1, by omega⟩
    have : i = s.size := by omega
    rw [this] at hp
    simp only [QS.sheet_cell.l0, QS.daybookref17_printable.l0]
    rw [this, if_neg (Int.lt_irrefl _), if_neg (Int.lt_irrefl _), hp]
    simp
  | succ e ih =>
    intro i k hi hk hp
    obtain ⟨k, rfl⟩ : ∃ j, k = j + 1 := ⟨k - 1, by omega⟩
    have wi : wrap64 ((i : Int) + 1) = ((i + 1 : Nat) : Int) := by unfold wrap64; omega
    simp only [QS.sheet_cell.l0, QS.daybookref17_printable.l0]
    have hlt : (i : Int) < (s.size : Int) := by omega
    have h0 : (0 : Int) ≤ (i : Int) := by omega
    simp only [if_pos hlt, if_pos h0]
    by_cases h1 : bt s (i : Int) < 32
    · rw [if_pos h1, if_pos h1, printB_bad (show i < s.size by omega) (by omega)]
      simp
    · rw [if_neg h1, if_neg h1]
      by_cases h2 : bt s (i : Int) > 126
      · rw [if_pos h2, if_pos h2, printB_bad (show i < s.size by omega) (by omega)]
        simp
      · rw [if_neg h2, if_neg h2, wi]
        exact ih (i + 1) k (by omega) (by omega) (by rw [printB_succ, hp]; simp; omega)
theorem cell_both (c : Cel) (d : Int) (hd0 : 0 ≤ d) (hd6 : d ≤ 6) (h1 : isI64 c.f1) (hs : c.f2.size ≤ 1048576) : ∃ r : ByteArray × Int, r.1.size ≤ 1048700 ∧ (∀ k, c.f2.size + 30000 ≤ k → QS.sheet_cell.f k c.f0 c.f1 c.f2 d = some r) ∧
    (∀ k typ, c.f2.size + 30000 ≤ k → 1 ≤ typ → typ ≤ 5 → QS.daybookref17_cell.f k c.f0 c.f1 c.f2 typ d = some (if c.f0 = typ then r else (⟨#[]⟩, 140))) := by
  have h3 := h1.1
  have h4 := h1.2
  obtain ⟨n, rfl⟩ : ∃ n : Nat, d = (n : Int) := ⟨d.toNat, by omega⟩
  have other : ∀ (r : ByteArray × Int), (∀ k, c.f2.size + 30000 ≤ k → 1 ≤ c.f0 → c.f0 ≤ 5 → QS.daybookref17_cell.f k c.f0 c.f1 c.f2 c.f0 (n : Int) = some r) →
      ∀ k typ, c.f2.size + 30000 ≤ k → 1 ≤ typ → typ ≤ 5 → QS.daybookref17_cell.f k c.f0 c.f1 c.f2 typ (n : Int) = some (if c.f0 = typ then r else (⟨#[]⟩, 140)) := by
    intro r hr k typ hk t1 t5
    by_cases e : c.f0 = typ
    · rw [if_pos e, ← e]
      exact hr k hk (by omega) (by omega)
    · rw [if_neg e]
      unfold QS.daybookref17_cell.f
      rw [if_neg e]
  by_cases t1 : c.f0 = 1
  · refine ⟨(⟨(Lib.itoa c.f1).toArray⟩, 0), by have := itoa_size c.f1 h1; show (⟨(Lib.itoa c.f1).toArray⟩ : ByteArray).size ≤ _; omega, fun k hk => ?_, other _ fun k hk _ _ => ?_⟩
    · unfold QS.sheet_cell.f L_FormatInt.f
      rw [if_pos t1, if_pos ⟨rfl, by omega, by omega⟩]
      rfl
    · unfold QS.daybookref17_cell.f
      rw [if_pos rfl, if_pos t1, number_all c.f1 h1 k (by omega)]
      rfl
  · by_cases t5 : c.f0 = 5
    · by_cases hm : c.f1 = -9223372036854775808
      · refine ⟨(⟨#[]⟩, 10), Nat.zero_le _, fun k hk => ?_, other _ fun k hk _ _ => ?_⟩
        · unfold QS.sheet_cell.f QS.money_Check.f
          rw [if_neg t1, if_pos t5, if_pos hm]
          rfl
        · unfold QS.daybookref17_cell.f QS.daybookref01_Check.f QT.daybookref01_Is.f
          rw [if_pos rfl, if_neg t1, if_pos t5, hm]
          rfl
      · refine ⟨(moneyText c.f1 n, 0), by have := moneyText_size (d := n) h1 (by omega); show (moneyText c.f1 n).size ≤ _; omega, fun k hk => ?_, other _ fun k hk _ _ => ?_⟩
        · unfold QS.sheet_cell.f QS.money_Check.f L_Print.f
          rw [if_neg t1, if_pos t5, if_neg hm]
          simp only [Option.bind_some, if_true]
          rw [if_neg (by omega), if_neg (by omega), if_pos h1]
          rfl
        · unfold QS.daybookref17_cell.f QS.daybookref01_Check.f QT.daybookref01_Is.f
          rw [if_pos rfl, if_neg t1, if_pos t5, show (c.f1 != -9223372036854775808) = true by simpa using hm]
          simp only [Option.bind_some, if_true]
          rw [money_all c.f1 n h1 hm (by omega) k (by omega)]
          rfl
    · by_cases t3 : c.f0 = 3
      · by_cases hr : 1 ≤ c.f1 ∧ c.f1 ≤ 3652059
        · obtain ⟨s, hs1, hs2, hs3⟩ := both_prints c.f1 hr.1 hr.2
          refine ⟨(s, 0), by show s.size ≤ _; omega, fun k hk => ?_, other _ fun k hk _ _ => ?_⟩
          · unfold QS.sheet_cell.f QS.sheet_date.f
            rw [if_neg t1, if_neg t5, if_pos t3, if_neg (by omega), if_neg (by omega), hs2 k (by omega)]
            rfl
          · obtain ⟨k, rfl⟩ : ∃ j, k = j + 1 := ⟨k - 1, by omega⟩
            unfold QS.daybookref17_cell.f
            rw [if_pos rfl, if_neg t1, if_neg t5, if_pos t3, if_neg (by omega), show decide (c.f1 > 3652059) = false from decide_eq_false (by omega)]
            simp only [QS.daybookref17_cell.j0]
            unfold QS.daybookref17_date.f
            rw [if_neg (by decide), hs3 k (by omega)]
            rfl
        · refine ⟨(⟨#[]⟩, 20), Nat.zero_le _, fun k hk => ?_, other _ fun k hk _ _ => ?_⟩
          · unfold QS.sheet_cell.f
            rw [if_neg t1, if_neg t5, if_pos t3]
            by_cases ha : c.f1 < 1
            · rw [if_pos ha]
            · rw [if_neg ha, if_pos (by omega)]
          · obtain ⟨k, rfl⟩ : ∃ j, k = j + 1 := ⟨k - 1, by omega⟩
            unfold QS.daybookref17_cell.f
            rw [if_pos rfl, if_neg t1, if_neg t5, if_pos t3]
            by_cases ha : c.f1 < 1
            · rw [if_pos ha]
              simp only [QS.daybookref17_cell.j0]
              rfl
            · rw [if_neg ha, show decide (c.f1 > 3652059) = true from decide_eq_true (by omega)]
              simp only [QS.daybookref17_cell.j0]
              rfl
      · by_cases t4 : c.f0 = 4
        · by_cases b0 : c.f1 = 0
          · refine ⟨(⟨#[102, 97, 108, 115, 101]⟩, 0), by show (5 : Nat) ≤ _; omega, fun k hk => ?_, other _ fun k hk _ _ => ?_⟩
            · unfold QS.sheet_cell.f L_FormatBool.f
              rw [if_neg t1, if_neg t5, if_neg t3, if_pos t4, if_pos b0, b0]
              rfl
            · unfold QS.daybookref17_cell.f
              rw [if_pos rfl, if_neg t1, if_neg t5, if_neg t3, if_pos t4, if_pos b0]
          · by_cases b1 : c.f1 = 1
            · refine ⟨(⟨#[116, 114, 117, 101]⟩, 0), by show (4 : Nat) ≤ _; omega, fun k hk => ?_, other _ fun k hk _ _ => ?_⟩
              · unfold QS.sheet_cell.f L_FormatBool.f
                rw [if_neg t1, if_neg t5, if_neg t3, if_pos t4, if_neg b0, if_pos b1, b1]
                rfl
              · unfold QS.daybookref17_cell.f
                rw [if_pos rfl, if_neg t1, if_neg t5, if_neg t3, if_pos t4, if_neg b0, if_pos b1]
            · refine ⟨(⟨#[]⟩, 140), Nat.zero_le _, fun k hk => ?_, other _ fun k hk _ _ => ?_⟩
              · unfold QS.sheet_cell.f
                rw [if_neg t1, if_neg t5, if_neg t3, if_pos t4, if_neg b0, if_neg b1]
              · unfold QS.daybookref17_cell.f
                rw [if_pos rfl, if_neg t1, if_neg t5, if_neg t3, if_pos t4, if_neg b0, if_neg b1]
        · refine ⟨if printB c.f2 c.f2.size = true then (c.f2, 0) else (⟨#[]⟩, 140), by split <;> (try simp only) <;> first | omega | exact Nat.zero_le _, fun k hk => ?_, other _ fun k hk _ _ => ?_⟩
          · unfold QS.sheet_cell.f
            rw [if_neg t1, if_neg t5, if_neg t3, if_neg t4]
            exact (text_loops c.f2 hs c.f0 c.f1 c.f2.size 0 k (by omega) (by omega) (by simp [printB])).1
          · unfold QS.daybookref17_cell.f QS.daybookref17_printable.f
            rw [if_pos rfl, if_neg t1, if_neg t5, if_neg t3, if_neg t4]
            have := (text_loops c.f2 hs c.f0 c.f1 c.f2.size 0 k (by omega) (by omega) (by simp [printB])).2
            rw [show ((0 : Nat) : Int) = 0 from rfl] at this
            rw [this]
            simp only [Option.bind_some]
            split <;> rfl
theorem cellT_is {c : Cel} {d : Int} {r : ByteArray × Int} (h : ∀ k, c.f2.size + 30000 ≤ k → QS.sheet_cell.f k c.f0 c.f1 c.f2 d = some r) : cellT c d = r := by
  unfold cellT
  rw [h _ (Nat.le_refl _)]
  rfl
end Go.Proofs.YtmimninicegjcaaGreatDoor
/- Plain laws: the document's names are chart.Good's. -/
namespace Go.Proofs.YtmimninicegjcaaGreatDoor
open Go.RowKit Go.Shelf Go.Lib Go.Proofs.YtmimninicegjcaaGreatDoorW.PrintWords Go.Proofs.YtmimninicegjcaaGreatDoorW.PrintLast
set_option linter.unusedVariables false
set_option linter.unusedSimpArgs false
/-! ### split at the colon -/
/-! ### parts -/
def okB (c : UInt8) : Bool := okByte (c.toNat : Int)
theorem bt_nat (s : ByteArray) (i : Nat) (h : i < s.data.toList.length) : bt s (i : Int) = ((s.data.toList[i]'h).toNat : Int) := by
  have h2 : ((i : Int)).toNat < s.size := by simpa using h
  unfold bt
  rw [dif_pos h2]
  rfl
theorem all_range (s : ByteArray) : ((List.range s.size).all fun i => okByte (bt s i)) = s.data.toList.all okB := by
  rw [Bool.eq_iff_iff, List.all_eq_true, List.all_eq_true]
  constructor
  · intro h c hc
    obtain ⟨i, hi, rfl⟩ := List.mem_iff_getElem.1 hc
    have := h i (List.mem_range.2 (by simpa using hi))
    rw [bt_nat s i hi] at this
    exact this
  · intro h i hi
    have hi2 : i < s.data.toList.length := by simpa using List.mem_range.1 hi
    rw [bt_nat s i hi2]
    exact h _ (List.getElem_mem hi2)
/-! ### the document's walk over a name -/
end Go.Proofs.YtmimninicegjcaaGreatDoor
/- Plain laws: the document's grid is gridText. -/
namespace Go.Proofs.YtmimninicegjcaaGreatDoor
open Go.RowKit Go.Shelf Go.Lib Go.Proofs.YtmimninicegjcaaGreatDoorW.PrintWords Go.Proofs.YtmimninicegjcaaGreatDoorW.PrintLast
set_option linter.unusedVariables false
set_option linter.unusedSimpArgs false
theorem rd_rows (l : List (List ByteArray)) (i : Nat) (h : i < l.length) : QT.rd_L4 l (i : Int) = l[i] := by
  simp [QT.rd_L4, List.getD_eq_getElem?_getD, List.getElem?_eq_getElem h]
theorem rd_strs (l : List ByteArray) (i : Nat) (h : i < l.length) : rdOf ByteArray.empty l (i : Int) = l[i] := by
  simp [rdOf, List.getD_eq_getElem?_getD, List.getElem?_eq_getElem h]
theorem wide_loop (l : List (List ByteArray)) (c : Nat) (hl : l.length ≤ 1099511627776) (d : Nat) : ∀ (i k m : Nat), i + d = l.length → d < k →
    QT.daybookref17_wide.l0 k l (c : Int) (m : Int) (i : Int) = some (((l.drop i).foldl (fun m r => max m (sizeAt r c)) m : Nat) : Int) := by
  induction d with
  | zero =>
    intro i k m hi hk
    obtain ⟨k, rfl⟩ : ∃ m, k = m + 1 := ⟨k - 1, by omega⟩
    simp only [QT.daybookref17_wide.l0]
    rw [if_neg (by omega), List.drop_of_length_le (by omega)]
    rfl
  | succ d ih =>
    intro i k m hi hk
    obtain ⟨k, rfl⟩ : ∃ m, k = m + 1 := ⟨k - 1, by omega⟩
    have hlt : i < l.length := by omega
    simp only [QT.daybookref17_wide.l0]
    rw [if_pos (by omega), if_pos (by omega), rd_rows l i hlt, show wrap64 ((i : Int) + 1) = ((i + 1 : Nat) : Int) by unfold wrap64; omega]
    rw [List.drop_eq_getElem_cons hlt, List.foldl_cons]
    by_cases hc : c < l[i].length
    · rw [if_pos (by omega), if_pos (by omega), rd_strs _ _ hc]
      have e2 : sizeAt l[i] c = (l[i][c]).size := by simp [sizeAt, List.getElem?_eq_getElem hc]
      rw [e2]
      by_cases hm : m < (l[i][c]).size
      · rw [if_pos (by omega), show max m (l[i][c]).size = (l[i][c]).size by omega]
        exact ih (i + 1) k _ (by omega) (by omega)
      · rw [if_neg (by omega), show max m (l[i][c]).size = m by omega]
        exact ih (i + 1) k _ (by omega) (by omega)
    · rw [if_neg (by omega)]
      have e2 : sizeAt l[i] c = 0 := by simp [sizeAt, List.getElem?_eq_none (Nat.not_lt.1 hc)]
      rw [e2, Nat.max_zero]
      exact ih (i + 1) k _ (by omega) (by omega)
theorem wide_some (l : List (List ByteArray)) (c : Nat) (hl : l.length ≤ 1099511627776) (k : Nat) (hk : l.length < k) : QT.daybookref17_wide.f k l (c : Int) = some (wid l c : Int) :=
  wide_loop l c hl l.length 0 k 0 (by omega) hk
theorem blanks_loop (n : Nat) (hn : n ≤ 1099511627776) (d : Nat) : ∀ (i k : Nat) (s : ByteArray), i + d = n → s.size = i → d < k →
    ∃ r, QT.daybookref17_blanks.l0 k (n : Int) s (i : Int) = some r ∧ r.data.toList = s.data.toList ++ List.replicate d 32 := by
  induction d with
  | zero =>
    intro i k s hi hs hk
    obtain ⟨k, rfl⟩ : ∃ m, k = m + 1 := ⟨k - 1, by omega⟩
    simp only [QT.daybookref17_blanks.l0]
    rw [if_neg (by omega)]
    exact ⟨s, rfl, by simp⟩
  | succ d ih =>
    intro i k s hi hs hk
    obtain ⟨k, rfl⟩ : ∃ m, k = m + 1 := ⟨k - 1, by omega⟩
    simp only [QT.daybookref17_blanks.l0]
    rw [if_pos (by omega), if_pos (by omega), show wrap64 ((i : Int) + 1) = ((i + 1 : Nat) : Int) by unfold wrap64; omega]
    have e1 : (⟨#[32]⟩ : ByteArray).size = 1 := rfl
    obtain ⟨r, h1, h2⟩ := ih (i + 1) k (s ++ ⟨#[32]⟩) (by omega) (by rw [ByteArray.size_append]; omega) (by omega)
    refine ⟨r, h1, ?_⟩
    rw [h2, ByteArray.data_append, List.replicate_succ]
    simp
theorem blanks_some (n : Nat) (hn : n ≤ 1099511627776) (k : Nat) (hk : n < k) : ∃ r, QT.daybookref17_blanks.f k (n : Int) = some r ∧ r.data.toList = List.replicate n 32 := by
  obtain ⟨r, h1, h2⟩ := blanks_loop n hn n 0 k ⟨#[]⟩ (by omega) rfl hk
  exact ⟨r, h1, by rw [h2]; simp⟩
/-! ### the blanks at a line's end -/
theorem trim_drop (l : List UInt8) (x : UInt8) : Lib.trimRightB (l ++ [x]) 32 = if x = 32 then Lib.trimRightB l 32 else l ++ [x] := by
  unfold Lib.trimRightB
  rw [List.reverse_append, List.reverse_singleton, List.singleton_append, List.dropWhile_cons]
  by_cases h : x = 32
  · rw [if_pos (by simp [h]), if_pos h]
  · rw [if_neg (by simp [h]), if_neg h]
    simp
end Go.Proofs.YtmimninicegjcaaGreatDoor
/- Plain laws: the document's grid is gridText, whatever is set to the right and however many columns there are. -/
namespace Go.Proofs.YtmimninicegjcaaGreatDoor
open Go.RowKit Go.Shelf Go.Lib Go.Proofs.YtmimninicegjcaaGreatDoorW.PrintWords Go.Proofs.YtmimninicegjcaaGreatDoorW.PrintLast
set_option linter.unusedVariables false
set_option linter.unusedSimpArgs false
theorem trim_loopN (right : List Bool) (rows : List (List ByteArray)) (acc : ByteArray) (i : Nat) (hi : i ≤ 1099511627776) (s : ByteArray) (hs : s.size ≤ 1099511627776) (hacc : acc.size ≤ 4611686018427387904) : ∀ (n k : Nat), n ≤ s.size → n < k →
    ∃ k' acc', k - n ≤ k' + 1 ∧ QT.daybookref17_Grid.l2 k rows right acc (i : Int) s (n : Int) = QT.daybookref17_Grid.l0 k' rows right acc' ((i + 1 : Nat) : Int) ∧ acc'.data.toList = acc.data.toList ++ (Lib.trimRightB (s.data.toList.take n) 32 ++ [10]) := by
  have wi : wrap64 ((i : Int) + 1) = ((i + 1 : Nat) : Int) := by unfold wrap64; omega
  have ex : ∀ n : Nat, n ≤ s.size → (s.extract 0 ((n : Int)).toNat).data.toList = s.data.toList.take n := fun n hn => by
    rw [Int.toNat_natCast, ByteArray.data_extract, Array.toList_extract]
    simp
  have exs : ∀ n : Nat, n ≤ s.size → (s.extract 0 ((n : Int)).toNat).size = n := fun n hn => by
    rw [Int.toNat_natCast, ByteArray.size_extract]; omega
  have e1 : (⟨#[10]⟩ : ByteArray).size = 1 := rfl
  intro n
  induction n with
  | zero =>
    intro k hn hk
    obtain ⟨k, rfl⟩ : ∃ m, k = m + 1 := ⟨k - 1, by omega⟩
    simp only [QT.daybookref17_Grid.l2]
    have hx := exs 0 (by omega)
    have hy := ex 0 (by omega)
    rw [if_neg (by omega), if_pos (by omega), if_pos (by omega), if_pos (by omega), if_pos (by rw [ByteArray.size_append]; omega), wi]
    refine ⟨k, _, by omega, rfl, ?_⟩
    rw [ByteArray.data_append, ByteArray.data_append]
    simp only [Array.toList_append, hy, List.append_assoc]
    rfl
  | succ n ih =>
    intro k hn hk
    obtain ⟨k, rfl⟩ : ∃ m, k = m + 1 := ⟨k - 1, by omega⟩
    have hlt : n < s.data.toList.length := by simp; omega
    have wn : wrap64 (((n + 1 : Nat) : Int) - 1) = (n : Int) := by unfold wrap64; omega
    simp only [QT.daybookref17_Grid.l2]
    rw [if_pos (by omega), wn, if_pos (by omega), if_pos (by omega), bt_nat s n hlt, List.take_succ_eq_append_getElem hlt, trim_drop]
    have h32 : ((s.data.toList[n].toNat : Int) = 32) ↔ s.data.toList[n] = 32 := by
      rw [← UInt8.toNat_inj]
      simp
      omega
    by_cases h : s.data.toList[n] = 32
    · rw [if_pos (h32.2 h), if_pos h]
      obtain ⟨k', acc', h1, h2, h3⟩ := ih k (by omega) (by omega)
      exact ⟨k', acc', by omega, h2, h3⟩
    · rw [if_neg (fun e => h (h32.1 e)), if_neg h]
      have hx := exs (n + 1) hn
      have hy := ex (n + 1) hn
      rw [List.take_succ_eq_append_getElem hlt] at hy
      rw [if_pos (by omega), if_pos (by omega), if_pos (by omega), if_pos (by rw [ByteArray.size_append]; omega), wi]
      refine ⟨k, _, by omega, rfl, ?_⟩
      rw [ByteArray.data_append, ByteArray.data_append]
      simp only [Array.toList_append, hy, List.append_assoc]
set_option maxHeartbeats 4000000 in
set_option maxRecDepth 100000 in
theorem line_loopN (R : Nat → Bool) (nn : Nat) (hnn : nn ≤ 1048576) (right : List Bool) (hRt : ∀ c : Nat, c < nn → (c : Int) < (right.length : Int)) (hRv : ∀ c : Nat, c < nn → rdOf false right (c : Int) = R c) (rows : List (List ByteArray)) (B M : Nat) (hB2 : (B : Int) ≤ 1099511627776) (hM2 : (M : Int) ≤ 1099511627776) (hN : rows.length < B) (hW : ∀ c, wid rows c < B) (i : Nat) (hi : i < rows.length) (h3 : rows[i].length = nn) (hS : ∀ c, c ≤ nn → (lineTo R (wid rows) rows[i] c).length ≤ M) (acc : ByteArray) (d : Nat) :
    ∀ (c k kk : Nat) (s : ByteArray), c + d = nn → B ≤ kk → k = kk + 2 * d + 1 → s.data.toList = lineTo R (wid rows) rows[i] c →
    ∃ s', QT.daybookref17_Grid.l1 k rows right acc (i : Int) s (c : Int) = QT.daybookref17_Grid.l2 kk rows right acc (i : Int) s' (s'.size : Int) ∧ s'.data.toList = lineTo R (wid rows) rows[i] nn := by
  have hsz : ∀ c, (h : c < rows[i].length) → rows[i][c].size ≤ wid rows c := fun c hc => by
    have := sizeAt_le rows rows[i] (List.getElem_mem hi) c
    unfold sizeAt at this
    rwa [List.getElem?_eq_getElem hc] at this
  induction d with
  | zero =>
    intro c k kk s hc hk hkk hs
    subst hkk
    rw [show kk + 2 * 0 + 1 = kk + 1 from rfl]
    obtain rfl : c = nn := by omega
    simp only [QT.daybookref17_Grid.l1]
    rw [if_pos (by omega), if_pos (by omega), rd_rows rows i hi, if_neg (by omega)]
    exact ⟨s, by simp, hs⟩
  | succ d ih =>
    intro c k0 kk s hc hk hkk hs
    obtain ⟨k, hkd⟩ : ∃ k, k = kk + 2 * d + 1 := ⟨_, rfl⟩
    obtain rfl : k0 = k + 2 := by omega
    have hc3 : c < nn := Nat.lt_of_lt_of_eq (Nat.lt_of_lt_of_le (Nat.lt_succ_self c) (Nat.le_add_right (c + 1) d)) (by rw [← hc]; omega)
    have hT := eq_true (hRt c hc3)
    have hr3' := hRv c hc3
    have hcl : c < rows[i].length := Nat.lt_of_lt_of_eq hc3 h3.symm
    have hlen : s.size ≤ M := by
      have h1 := hS c (by omega)
      rw [← hs] at h1
      simpa using h1
    have hx := hsz c hcl
    have hwc := hW c
    have step : ∀ t : ByteArray, t.data.toList = s.data.toList ++ (if 0 < c then [32, 32] else []) →
        ∃ s', QT.daybookref17_Grid.j2 (k + 1) rows right acc (i : Int) t (c : Int) = QT.daybookref17_Grid.l2 kk rows right acc (i : Int) s' (s'.size : Int) ∧ s'.data.toList = lineTo R (wid rows) rows[i] nn := by
      intro t ht
      have htl : t.size ≤ M + 2 := by
        have := congrArg List.length ht
        rw [List.length_append] at this
        have h1 : t.data.toList.length = t.size := by simp
        have h2 : s.data.toList.length = s.size := by simp
        have h4 : (if 0 < c then [32, 32] else [] : List UInt8).length ≤ 2 := by split <;> simp
        omega
      simp only [QT.daybookref17_Grid.j2]
      rw [if_pos (by omega), if_pos (by omega), rd_rows rows i hi, if_pos (by omega), if_pos (by omega), wide_some rows c (by omega) k (by omega), rd_strs _ _ hcl]
      simp only [Option.bind_some]
      obtain ⟨n, hn⟩ : ∃ n : Nat, wid rows c = rows[i][c].size + n := ⟨wid rows c - rows[i][c].size, by omega⟩
      have hw : wrap64 ((wid rows c : Int) - (rows[i][c].size : Int)) = (n : Int) := by unfold wrap64; omega
      rw [hw]
      obtain ⟨b, hb1, hb2⟩ := blanks_some n (by omega) k (by omega)
      rw [hb1]
      simp only [Option.bind_some]
      have hbs : b.size = n := by
        have := congrArg List.length hb2
        simpa using this
      have wi : wrap64 ((c : Int) + 1) = ((c + 1 : Nat) : Int) := by unfold wrap64; omega
      simp only [hT, if_true, hr3', wi]
      have hsucc := lineTo_succ R (wid rows) rows[i] c hcl
      have hdn : wid rows c - rows[i][c].size = n := by omega
      have fin : ∀ u : ByteArray, u.data.toList = lineTo R (wid rows) rows[i] (c + 1) → ∃ s', QT.daybookref17_Grid.l1 k rows right acc (i : Int) u ((c + 1 : Nat) : Int) = QT.daybookref17_Grid.l2 kk rows right acc (i : Int) s' (s'.size : Int) ∧ s'.data.toList = lineTo R (wid rows) rows[i] nn := by
        intro u hu
        exact ih (c + 1) k kk u (by omega) hk hkd hu
      by_cases hR : R c = true
      · rw [if_pos hR, if_pos (by omega), if_pos (by rw [ByteArray.size_append]; omega)]
        refine fin _ ?_
        rw [hsucc, piece, if_pos hR, ByteArray.data_append, ByteArray.data_append, hdn]
        simp only [Array.toList_append, ht, hb2, hs, List.append_assoc]
      · rw [if_neg hR, if_pos (by omega), if_pos (by rw [ByteArray.size_append]; omega)]
        refine fin _ ?_
        rw [hsucc, piece, if_neg hR, ByteArray.data_append, ByteArray.data_append, hdn]
        simp only [Array.toList_append, ht, hb2, hs, List.append_assoc]
    simp only [QT.daybookref17_Grid.l1]
    rw [if_pos (by omega), if_pos (by omega), rd_rows rows i hi, if_pos (by omega)]
    by_cases hc0 : 0 < c
    · rw [if_pos (by omega), if_pos (by omega)]
      exact step _ (by rw [ByteArray.data_append, if_pos hc0]; simp)
    · rw [if_neg (by omega)]
      exact step _ (by rw [if_neg hc0]; simp)

theorem lensN (R : Nat → Bool) (n : Nat) (rows : List (List ByteArray)) (hW : ∀ c, wid rows c ≤ 4194304) (i : Nat) (hi : i < rows.length) (h3 : rows[i].length = n) (c : Nat) (hc : c ≤ n) : (lineTo R (wid rows) rows[i] c).length ≤ n * 4194306 := by
  have h1 := lineTo_length R (wid rows) rows[i] hW (fun c hc => by
    have := sizeAt_le rows rows[i] (List.getElem_mem hi) c
    unfold sizeAt at this
    rwa [List.getElem?_eq_getElem hc] at this) c (by omega)
  exact Nat.le_trans h1 (Nat.mul_le_mul_right _ hc)
set_option maxHeartbeats 4000000 in
theorem grid_loopN (R : Nat → Bool) (right : List Bool) (n : Nat) (hn : n ≤ 262143) (hRt : ∀ c : Nat, c < n → (c : Int) < (right.length : Int)) (hRv : ∀ c : Nat, c < n → rdOf false right (c : Int) = R c) (C L : Nat) (hL : L = n * 4194306) (hC : C = L + 2 * n + 100)
    (rows : List (List ByteArray)) (hN : rows.length ≤ 1048578) (hW : ∀ c, wid rows c ≤ 4194304) (h3 : ∀ r ∈ rows, r.length = n) (hT : rows.length * (L + 1) ≤ 70368744177664) (d : Nat) : ∀ (i k : Nat) (acc : ByteArray), i + d = rows.length → d * C + rows.length + 4194400 < k → acc.size ≤ i * (L + 1) →
    ∃ r, QT.daybookref17_Grid.l0 k rows right acc (i : Int) = some r ∧ r.data.toList = acc.data.toList ++ ((rows.drop i).map fun r => lineText R (wid rows) r).flatten := by
  have hL2 : L ≤ 1099511627776 := by rw [hL]; exact Nat.le_trans (Nat.mul_le_mul_right _ hn) (by decide)
  induction d with
  | zero =>
    intro i k acc hi hk ha
    obtain ⟨k, rfl⟩ : ∃ m, k = m + 1 := ⟨k - 1, by omega⟩
    simp only [QT.daybookref17_Grid.l0]
    rw [if_neg (by omega), List.drop_of_length_le (by omega)]
    exact ⟨acc, rfl, by simp⟩
  | succ d ih =>
    intro i k acc hi hk ha
    rw [Nat.succ_mul] at hk
    obtain ⟨k, rfl⟩ : ∃ m, k = m + 1 := ⟨k - 1, by omega⟩
    have hlt : i < rows.length := by omega
    have hmul : (i + 1) * (L + 1) ≤ rows.length * (L + 1) := Nat.mul_le_mul_right _ hlt
    have hsm : (i + 1) * (L + 1) = i * (L + 1) + (L + 1) := Nat.succ_mul ..
    simp only [QT.daybookref17_Grid.l0]
    rw [if_pos (by omega)]
    have hr3 := h3 rows[i] (List.getElem_mem hlt)
    have hlens := lensN R n rows hW i hlt hr3
    rw [← hL] at hlens
    obtain ⟨kk, rfl⟩ : ∃ kk, k = kk + 2 * n + 1 := ⟨k - (2 * n + 1), by omega⟩
    obtain ⟨s, hl1, hl2⟩ := line_loopN R n (by omega) right hRt hRv rows 4194305 L (by decide) (by omega) (by omega) (fun c => by have := hW c; omega) i hlt hr3 hlens acc n 0 (kk + 2 * n + 1) kk ⟨#[]⟩ (by omega) (by omega) rfl (by simp [lineTo])
    rw [show ((0 : Nat) : Int) = 0 from rfl] at hl1
    rw [hl1]
    have hss : s.size ≤ L := by
      have h1 := hlens n (Nat.le_refl _)
      rw [← hl2] at h1
      have h2 : s.data.toList.length = s.size := by simp
      omega
    obtain ⟨k', acc', hk1, hk2, hk3⟩ := trim_loopN right rows acc i (by omega) s (by omega) (by omega) s.size kk (Nat.le_refl _) (by omega)
    rw [hk2]
    have htk : s.data.toList.take s.size = s.data.toList := List.take_of_length_le (by simp)
    rw [htk, hl2] at hk3
    have hline : lineText R (wid rows) rows[i] = Lib.trimRightB (lineTo R (wid rows) rows[i] n) 32 ++ [10] := by unfold lineText; rw [hr3]
    rw [← hline] at hk3
    have hla : acc'.size ≤ (i + 1) * (L + 1) := by
      have h1 := congrArg List.length hk3
      rw [List.length_append, hline, List.length_append, List.length_singleton] at h1
      have h4 := trimRightB_length (lineTo R (wid rows) rows[i] n) 32
      rw [← hl2] at h4
      have h2 : s.data.toList.length = s.size := by simp
      have h5 : acc'.data.toList.length = acc'.size := by simp
      have h6 : acc.data.toList.length = acc.size := by simp
      rw [← hl2] at h1
      omega
    have hf : d * C + rows.length + 4194400 < k' := by omega
    obtain ⟨r, h1, h2⟩ := ih (i + 1) k' acc' (by omega) hf hla
    refine ⟨r, h1, ?_⟩
    rw [h2, hk3, List.drop_eq_getElem_cons hlt, List.map_cons, List.flatten_cons, List.append_assoc]
theorem grid_someN (R : Nat → Bool) (right : List Bool) (n : Nat) (hn : n ≤ 262143) (hRt : ∀ c : Nat, c < n → (c : Int) < (right.length : Int)) (hRv : ∀ c : Nat, c < n → rdOf false right (c : Int) = R c) (rows : List (List ByteArray)) (hN : rows.length ≤ 1048578) (hW : ∀ c, wid rows c ≤ 4194304)
    (h3 : ∀ r ∈ rows, r.length = n) (hT : rows.length * (n * 4194306 + 1) ≤ 70368744177664) (k : Nat) (hk : rows.length * (n * 4194306 + 2 * n + 100) + rows.length + 4194400 < k) :
    QT.daybookref17_Grid.f k rows right = some ⟨(gridText R rows).toArray⟩ := by
  obtain ⟨r, h1, h2⟩ := grid_loopN R right n hn hRt hRv (n * 4194306 + 2 * n + 100) (n * 4194306) rfl rfl rows hN hW h3 hT rows.length 0 k ⟨#[]⟩ (by omega) hk (by rw [Nat.zero_mul]; exact Nat.le_refl 0)
  unfold QT.daybookref17_Grid.f
  rw [show ((0 : Nat) : Int) = 0 from rfl] at h1
  rw [h1]
  congr 1
  refine ba_ext ?_
  rw [h2]
  unfold gridText gridTo
  rw [List.drop_zero, List.take_of_length_le (Nat.le_refl _)]
  simp
end Go.Proofs.YtmimninicegjcaaGreatDoor

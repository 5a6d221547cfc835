-- Written by a program of this session (wip/myprint.py, which drives the kit's print with hand-proved leaves). Not trusted: Lean checks it.
import Derived.Test.YtmimninicegjcaaGreatDoorTbQT0
import Derived.Test.YtmimninicegjcaaGreatDoorTbQT4
namespace Go.Proofs.YtmimninicegjcaaGreatDoor.QT
open Go.RowKit Go.Proofs.YtmimninicegjcaaGreatDoorW.PrintWords Go.Proofs.YtmimninicegjcaaGreatDoorW.PrintLast Go.Proofs.YtmimninicegjcaaGreatDoorW.PrintMore
attribute [local go_sem] max2_int min2_int max_two min_two max_three min_three max_four min_four   -- for this text's walks alone
set_option linter.unusedVariables false
set_option linter.unusedSimpArgs false

/-! ### daybookref17_Grid: function 52 -/
mutual
def daybookref17_Grid.l0 : Nat → List (List ByteArray) → List Bool → ByteArray → Int → Option (ByteArray)
  | 0, _, _, _, _ => none
  | k + 1, x0, x1, x5, x6 => if x6 < (x0.length : Int) then (daybookref17_Grid.l1 k x0 x1 x5 x6 (⟨#[]⟩ : ByteArray) 0) else (some x5)
def daybookref17_Grid.l1 : Nat → List (List ByteArray) → List Bool → ByteArray → Int → ByteArray → Int → Option (ByteArray)
  | 0, _, _, _, _, _, _ => none
  | k + 1, x0, x1, x5, x6, x7, x8 => if 0 ≤ x6 then (if x6 < (x0.length : Int) then (if x8 < ((rd_L4 x0 x6).length : Int) then (if x8 > 0 then (if x7.size + 2 ≤ 9223372036854775807 then (daybookref17_Grid.j2 k x0 x1 x5 x6 (x7 ++ (⟨#[32, 32]⟩ : ByteArray)) x8) else (none)) else (daybookref17_Grid.j2 k x0 x1 x5 x6 x7 x8)) else (daybookref17_Grid.l2 k x0 x1 x5 x6 x7 (x7.size : Int))) else (none)) else (none)
def daybookref17_Grid.j2 : Nat → List (List ByteArray) → List Bool → ByteArray → Int → ByteArray → Int → Option (ByteArray)
  | 0, _, _, _, _, _, _ => none
  | k + 1, x0, x1, x5, x6, x7, x8 => if 0 ≤ x6 then (if x6 < (x0.length : Int) then (if 0 ≤ x8 then (if x8 < ((rd_L4 x0 x6).length : Int) then ((daybookref17_wide.f k x0 x8).bind fun t143 => ((daybookref17_blanks.f k (wrap64 (t143 - ((rdOf ByteArray.empty (rd_L4 x0 x6) x8).size : Int)))).bind fun t144 => (if x8 < (x1.length : Int) then (if rdOf false x1 x8 = true then (if x7.size + t144.size ≤ 9223372036854775807 then (if (x7 ++ t144).size + (rdOf ByteArray.empty (rd_L4 x0 x6) x8).size ≤ 9223372036854775807 then (daybookref17_Grid.l1 k x0 x1 x5 x6 ((x7 ++ t144) ++ (rdOf ByteArray.empty (rd_L4 x0 x6) x8)) (wrap64 (x8 + 1))) else (none)) else (none)) else (if x7.size + (rdOf ByteArray.empty (rd_L4 x0 x6) x8).size ≤ 9223372036854775807 then (if (x7 ++ (rdOf ByteArray.empty (rd_L4 x0 x6) x8)).size + t144.size ≤ 9223372036854775807 then (daybookref17_Grid.l1 k x0 x1 x5 x6 ((x7 ++ (rdOf ByteArray.empty (rd_L4 x0 x6) x8)) ++ t144) (wrap64 (x8 + 1))) else (none)) else (none))) else (if x7.size + (rdOf ByteArray.empty (rd_L4 x0 x6) x8).size ≤ 9223372036854775807 then (if (x7 ++ (rdOf ByteArray.empty (rd_L4 x0 x6) x8)).size + t144.size ≤ 9223372036854775807 then (daybookref17_Grid.l1 k x0 x1 x5 x6 ((x7 ++ (rdOf ByteArray.empty (rd_L4 x0 x6) x8)) ++ t144) (wrap64 (x8 + 1))) else (none)) else (none))))) else (none)) else (none)) else (none)) else (none)
def daybookref17_Grid.l2 : Nat → List (List ByteArray) → List Bool → ByteArray → Int → ByteArray → Int → Option (ByteArray)
  | 0, _, _, _, _, _, _ => none
  | k + 1, x0, x1, x5, x6, x7, x11 => if x11 > 0 then (if 0 ≤ (wrap64 (x11 - 1)) then (if (wrap64 (x11 - 1)) < (x7.size : Int) then (if (bt x7 (wrap64 (x11 - 1))) = 32 then (daybookref17_Grid.l2 k x0 x1 x5 x6 x7 (wrap64 (x11 - 1))) else (if 0 ≤ x11 then (if x11 ≤ (x7.size : Int) then (if x5.size + (x7.extract 0 (x11 : Int).toNat).size ≤ 9223372036854775807 then (if (x5 ++ (x7.extract 0 (x11 : Int).toNat)).size + 1 ≤ 9223372036854775807 then (daybookref17_Grid.l0 k x0 x1 ((x5 ++ (x7.extract 0 (x11 : Int).toNat)) ++ (⟨#[10]⟩ : ByteArray)) (wrap64 (x6 + 1))) else (none)) else (none)) else (none)) else (none))) else (none)) else (none)) else (if 0 ≤ x11 then (if x11 ≤ (x7.size : Int) then (if x5.size + (x7.extract 0 (x11 : Int).toNat).size ≤ 9223372036854775807 then (if (x5 ++ (x7.extract 0 (x11 : Int).toNat)).size + 1 ≤ 9223372036854775807 then (daybookref17_Grid.l0 k x0 x1 ((x5 ++ (x7.extract 0 (x11 : Int).toNat)) ++ (⟨#[10]⟩ : ByteArray)) (wrap64 (x6 + 1))) else (none)) else (none)) else (none)) else (none))
end
def daybookref17_Grid.f (k : Nat) (l0 : List (List ByteArray)) (l1 : List Bool) : Option (ByteArray) := daybookref17_Grid.l0 k l0 l1 (⟨#[]⟩ : ByteArray) 0
set_option maxHeartbeats 8000000 in
set_option maxRecDepth 100000 in
theorem daybookref17_Grid.calls (k : Nat) (A0 : Option Addr) (c0 : Nat) (l0 : List (List ByteArray)) (A1 : Option Addr) (c1 : Nat) (l1 : List Bool) (r : ByteArray) (w : World) (hr0 : Kd.C (Kd.slice 9 Kd.string) w A0 l0.length l0) (hc0 : l0.length ≤ c0) (hr1 : Kd.C Kd.bool w A1 l1.length l1) (hc1 : l1.length ≤ c1) (h : daybookref17_Grid.f k l0 l1 = some r) :
    Calls Tryz.prog 52 #[.slice A0 l0.length c0, .slice A1 l1.length c1] w fun e w' => e = .returned (.string r) ∧ Drawn0 w w' := by
  have HR0 := Aside0.mk hr0
  have HC0 := Aside0.mk hc0
  clear hr0 hc0
  have HR1 := Aside0.mk hr1
  have HC1 := Aside0.mk hc1
  clear hr1 hc1
  have H : (daybookref17_Grid.l0 k l0 l1 (⟨#[]⟩ : ByteArray) 0) = some r := h
  clear h
  have H' := Aside0.mk H
  clear H
  go_enter Tryz.func52, Tryz.ntmps52
  go_wp2
  go_loopg [5, 6] k (fun kq v5 v6 w' => ∃ (x5_1 : ByteArray) (x6_1 : Int), v5 = .string x5_1 ∧ v6 = .int .i64 x6_1 ∧ Aside0 (daybookref17_Grid.l0 kq l0 l1 x5_1 x6_1 = some r) ∧ Aside0 (kq ≤ k) ∧ Drawn0 w w')
  case atStart => exact ⟨((⟨#[]⟩ : ByteArray)), (0), (by first | rfl | (simp; done) | (simp [*]; done)), (by first | rfl | (simp; done) | (simp [*]; done)), H', ⟨Nat.le_refl _⟩, by repeat (first | exact Drawn0.refl _ | apply Drawn0.step)⟩
  case round =>
    clear H'
    try clear c1
    try clear p2
    obtain ⟨x5_1, x6_1, rfl, rfl, HA, HK1, ⟨m1, rfl⟩⟩ := hrel
    cases gk with
    | zero => exact absurd HA.out (by simp [daybookref17_Grid.l0])
    | succ k1 =>
      have H := HA.out
      clear HA
      simp only [daybookref17_Grid.l0] at H
      by_cases c3 : x6_1 < (l0.length : Int)
      · rw [if_pos c3] at H
        have c3b0 : decide (x6_1 < (l0.length : Int)) = true := decide_eq_true c3
        clear c3
        have H' := Aside0.mk H
        clear H
        go_wp2
        go_loopg [7, 8] k1 (fun kq v7 v8 w' => ∃ (x7_2 : ByteArray) (x8_2 : Int), v7 = .string x7_2 ∧ v8 = .int .i64 x8_2 ∧ Aside0 (daybookref17_Grid.l1 kq l0 l1 x5_1 x6_1 x7_2 x8_2 = some r) ∧ Aside0 (kq ≤ k1) ∧ Drawn0 w w')
        case atStart => exact ⟨((⟨#[]⟩ : ByteArray)), (0), (by first | rfl | (simp; done) | (simp [*]; done)), (by first | rfl | (simp; done) | (simp [*]; done)), H', ⟨Nat.le_refl _⟩, by repeat (first | exact Drawn0.refl _ | apply Drawn0.step)⟩
        case round =>
          clear H'
          try clear c1
          try clear p2
          try clear c3
          try clear c3b0
          try clear p2
          obtain ⟨x7_2, x8_2, rfl, rfl, HA, HK2, ⟨m2, rfl⟩⟩ := hrel
          cases gk with
          | zero => exact absurd HA.out (by simp [daybookref17_Grid.l1])
          | succ k2 =>
            have H := HA.out
            clear HA
            simp only [daybookref17_Grid.l1] at H
            by_cases c4 : 0 ≤ x6_1
            · rw [if_pos c4] at H
              have c4b0 : decide (0 ≤ x6_1) = true := decide_eq_true c4
              clear c4
              by_cases c5 : x6_1 < (l0.length : Int)
              · rw [if_pos c5] at H
                have c5b0 : decide (x6_1 < (l0.length : Int)) = true := decide_eq_true c5
                clear c5
                by_cases c6 : x8_2 < ((rd_L4 l0 x6_1).length : Int)
                · rw [if_pos c6] at H
                  have c6b0 : decide (x8_2 < ((rd_L4 l0 x6_1).length : Int)) = true := decide_eq_true c6
                  clear c6
                  have HC7 := Aside0.mk H
                  clear H
                  have p140 : 0 ≤ (x6_1 : Int) := odeN
                  have q140 : x6_1 < (l0.length : Int) := odeN
                  obtain ⟨ad140, A140_0, c140_0, e140, hx140_0, hl140_0, hi140_0⟩ := at_L4 HR0.out x6_1 p140 q140
                  cases e140
                  have HR140_0 := Aside0.mk hi140_0
                  have HC140_0 := Aside0.mk hl140_0
                  clear hi140_0 hl140_0
                  replace p140 := eq_true p140
                  replace q140 := eq_true q140
                  go_upto_if 28 with (fail)
                  go_cut [7] (fun v7 wc => ∃ (kq : Nat) (x7_6 : ByteArray), v7 = .string x7_6 ∧ Aside0 (daybookref17_Grid.j2 kq l0 l1 x5_1 x6_1 x7_6 x8_2 = some r) ∧ Aside0 (kq ≤ k2) ∧ Drawn0 w wc)
                  case first =>
                    have H := HC7.out
                    clear HC7
                    by_cases c8 : x8_2 > 0
                    · rw [if_pos c8] at H
                      have c8b0 : decide (0 < x8_2) = true := decide_eq_true c8
                      clear c8
                      (first | rw [c8b0] | (simp only [i64_w, i32_w]; rw [c8b0]) | skip)
                      by_cases c9 : x7_2.size + 2 ≤ 9223372036854775807
                      · rw [if_pos c9] at H
                        have c9b0 := eq_true c9
                        have c9b1 : decide (x7_2.size + 2 ≤ 9223372036854775807) = true := decide_eq_true c9
                        try have c9b2 : (9223372036854775807 < x7_2.size + 2) = False := eq_false (Nat.not_lt.2 c9)
                        have H' := Aside0.mk H
                        clear H
                        go_wp2
                        go_meet
                        case rel => exact ⟨_, (x7_2 ++ (⟨#[32, 32]⟩ : ByteArray)), (by first | rfl | (simp; done) | (simp [*]; done)), H', ⟨by have := HK1.out; have := HK2.out; first | omega | exact Nat.le_refl _⟩, by repeat (first | exact Drawn0.refl _ | apply Drawn0.step)⟩
                      · rw [if_neg c9] at H
                        exact absurd H (by simp)
                    · rw [if_neg c8] at H
                      have c8b0 : decide (0 < x8_2) = false := decide_eq_false c8
                      clear c8
                      (first | rw [c8b0] | (simp only [i64_w, i32_w]; rw [c8b0]) | skip)
                      have H' := Aside0.mk H
                      clear H
                      go_wp2
                      go_meet
                      case rel => exact ⟨_, (x7_2), (by first | rfl | (simp; done) | (simp [*]; done)), H', ⟨by have := HK1.out; have := HK2.out; first | omega | exact Nat.le_refl _⟩, by repeat (first | exact Drawn0.refl _ | apply Drawn0.step)⟩
                  case rest =>
                    clear HC7
                    try clear c1
                    try clear p1
                    try clear q1
                    try clear hx1
                    try clear p2
                    try clear c3
                    try clear c3b0
                    try clear c4
                    try clear c4b0
                    try clear c5
                    try clear c5b0
                    try clear c6
                    try clear c6b0
                    try clear c8
                    try clear c8b0
                    try clear c9
                    try clear c9b0
                    try clear c9b1
                    try clear c9b2
                    try clear hx140_0
                    try clear p140
                    try clear p2
                    try clear q140
                    obtain ⟨kq, x7_6, rfl, HA, HJ6, ⟨mc6, rfl⟩⟩ := hcut
                    cases kq with
                    | zero => exact absurd HA.out (by simp [daybookref17_Grid.j2])
                    | succ kj6 =>
                      have H := HA.out
                      clear HA
                      simp only [daybookref17_Grid.j2] at H
                      by_cases c10 : 0 ≤ x6_1
                      · rw [if_pos c10] at H
                        have c10b0 : decide (0 ≤ x6_1) = true := decide_eq_true c10
                        clear c10
                        by_cases c11 : x6_1 < (l0.length : Int)
                        · rw [if_pos c11] at H
                          have c11b0 : decide (x6_1 < (l0.length : Int)) = true := decide_eq_true c11
                          clear c11
                          by_cases c12 : 0 ≤ x8_2
                          · rw [if_pos c12] at H
                            have c12b0 : decide (0 ≤ x8_2) = true := decide_eq_true c12
                            clear c12
                            by_cases c13 : x8_2 < ((rd_L4 l0 x6_1).length : Int)
                            · rw [if_pos c13] at H
                              have c13b0 : decide (x8_2 < ((rd_L4 l0 x6_1).length : Int)) = true := decide_eq_true c13
                              clear c13
                              replace H := Option.bind_eq_some_iff.mp H
                              obtain ⟨t143, A140, H⟩ := H
                              replace H : ((daybookref17_blanks.f kj6 (wrap64 (t143 - ((rdOf ByteArray.empty (rd_L4 l0 x6_1) x8_2).size : Int)))).bind fun t144 => (if x8_2 < (l1.length : Int) then (if rdOf false l1 x8_2 = true then (if x7_6.size + t144.size ≤ 9223372036854775807 then (if (x7_6 ++ t144).size + (rdOf ByteArray.empty (rd_L4 l0 x6_1) x8_2).size ≤ 9223372036854775807 then (daybookref17_Grid.l1 kj6 l0 l1 x5_1 x6_1 ((x7_6 ++ t144) ++ (rdOf ByteArray.empty (rd_L4 l0 x6_1) x8_2)) (wrap64 (x8_2 + 1))) else (none)) else (none)) else (if x7_6.size + (rdOf ByteArray.empty (rd_L4 l0 x6_1) x8_2).size ≤ 9223372036854775807 then (if (x7_6 ++ (rdOf ByteArray.empty (rd_L4 l0 x6_1) x8_2)).size + t144.size ≤ 9223372036854775807 then (daybookref17_Grid.l1 kj6 l0 l1 x5_1 x6_1 ((x7_6 ++ (rdOf ByteArray.empty (rd_L4 l0 x6_1) x8_2)) ++ t144) (wrap64 (x8_2 + 1))) else (none)) else (none))) else (if x7_6.size + (rdOf ByteArray.empty (rd_L4 l0 x6_1) x8_2).size ≤ 9223372036854775807 then (if (x7_6 ++ (rdOf ByteArray.empty (rd_L4 l0 x6_1) x8_2)).size + t144.size ≤ 9223372036854775807 then (daybookref17_Grid.l1 kj6 l0 l1 x5_1 x6_1 ((x7_6 ++ (rdOf ByteArray.empty (rd_L4 l0 x6_1) x8_2)) ++ t144) (wrap64 (x8_2 + 1))) else (none)) else (none)))) = some r := H
                              have A14 := Aside0.mk A140
                              clear A140
                              replace H := Option.bind_eq_some_iff.mp H
                              obtain ⟨t144, A150, H⟩ := H
                              replace H : (if x8_2 < (l1.length : Int) then (if rdOf false l1 x8_2 = true then (if x7_6.size + t144.size ≤ 9223372036854775807 then (if (x7_6 ++ t144).size + (rdOf ByteArray.empty (rd_L4 l0 x6_1) x8_2).size ≤ 9223372036854775807 then (daybookref17_Grid.l1 kj6 l0 l1 x5_1 x6_1 ((x7_6 ++ t144) ++ (rdOf ByteArray.empty (rd_L4 l0 x6_1) x8_2)) (wrap64 (x8_2 + 1))) else (none)) else (none)) else (if x7_6.size + (rdOf ByteArray.empty (rd_L4 l0 x6_1) x8_2).size ≤ 9223372036854775807 then (if (x7_6 ++ (rdOf ByteArray.empty (rd_L4 l0 x6_1) x8_2)).size + t144.size ≤ 9223372036854775807 then (daybookref17_Grid.l1 kj6 l0 l1 x5_1 x6_1 ((x7_6 ++ (rdOf ByteArray.empty (rd_L4 l0 x6_1) x8_2)) ++ t144) (wrap64 (x8_2 + 1))) else (none)) else (none))) else (if x7_6.size + (rdOf ByteArray.empty (rd_L4 l0 x6_1) x8_2).size ≤ 9223372036854775807 then (if (x7_6 ++ (rdOf ByteArray.empty (rd_L4 l0 x6_1) x8_2)).size + t144.size ≤ 9223372036854775807 then (daybookref17_Grid.l1 kj6 l0 l1 x5_1 x6_1 ((x7_6 ++ (rdOf ByteArray.empty (rd_L4 l0 x6_1) x8_2)) ++ t144) (wrap64 (x8_2 + 1))) else (none)) else (none))) = some r := H
                              have A15 := Aside0.mk A150
                              clear A150
                              by_cases c16 : x8_2 < (l1.length : Int)
                              · rw [if_pos c16] at H
                                have c16b0 : decide (x8_2 < (l1.length : Int)) = true := decide_eq_true c16
                                clear c16
                                obtain ⟨bq17, hbq17⟩ : ∃ b_ : Bool, b_ = (rdOf false l1 x8_2) := ⟨_, rfl⟩
                                replace H : (if bq17 = true then (if x7_6.size + t144.size ≤ 9223372036854775807 then (if (x7_6 ++ t144).size + (rdOf ByteArray.empty (rd_L4 l0 x6_1) x8_2).size ≤ 9223372036854775807 then (daybookref17_Grid.l1 kj6 l0 l1 x5_1 x6_1 ((x7_6 ++ t144) ++ (rdOf ByteArray.empty (rd_L4 l0 x6_1) x8_2)) (wrap64 (x8_2 + 1))) else (none)) else (none)) else (if x7_6.size + (rdOf ByteArray.empty (rd_L4 l0 x6_1) x8_2).size ≤ 9223372036854775807 then (if (x7_6 ++ (rdOf ByteArray.empty (rd_L4 l0 x6_1) x8_2)).size + t144.size ≤ 9223372036854775807 then (daybookref17_Grid.l1 kj6 l0 l1 x5_1 x6_1 ((x7_6 ++ (rdOf ByteArray.empty (rd_L4 l0 x6_1) x8_2)) ++ t144) (wrap64 (x8_2 + 1))) else (none)) else (none))) = some r := by rw [← hbq17] at H; exact H
                                have Nbq17 := Aside0.mk hbq17
                                clear hbq17
                                by_cases c18 : bq17 = true
                                · subst c18
                                  have H1 : (if x7_6.size + t144.size ≤ 9223372036854775807 then (if (x7_6 ++ t144).size + (rdOf ByteArray.empty (rd_L4 l0 x6_1) x8_2).size ≤ 9223372036854775807 then (daybookref17_Grid.l1 kj6 l0 l1 x5_1 x6_1 ((x7_6 ++ t144) ++ (rdOf ByteArray.empty (rd_L4 l0 x6_1) x8_2)) (wrap64 (x8_2 + 1))) else (none)) else (none)) = some r := by rw [if_pos rfl] at H; exact H
                                  clear H
                                  have H := H1
                                  clear H1
                                  by_cases c19 : x7_6.size + t144.size ≤ 9223372036854775807
                                  · rw [if_pos c19] at H
                                    have c19b0 := eq_true c19
                                    have c19b1 : decide (x7_6.size + t144.size ≤ 9223372036854775807) = true := decide_eq_true c19
                                    try have c19b2 : (9223372036854775807 < x7_6.size + t144.size) = False := eq_false (Nat.not_lt.2 c19)
                                    by_cases c20 : (x7_6 ++ t144).size + (rdOf ByteArray.empty (rd_L4 l0 x6_1) x8_2).size ≤ 9223372036854775807
                                    · rw [if_pos c20] at H
                                      have c20b0 := eq_true c20
                                      have c20b1 : decide ((x7_6 ++ t144).size + (rdOf ByteArray.empty (rd_L4 l0 x6_1) x8_2).size ≤ 9223372036854775807) = true := decide_eq_true c20
                                      try have c20b3 : (9223372036854775807 < x7_6.size + t144.size + (rdOf ByteArray.empty (rd_L4 l0 x6_1) x8_2).size) = False := eq_false (by have h_ := c20; simp only [ByteArray.size_append, mk_size, List.size_toArray, List.length_cons, List.length_nil] at h_; omega)
                                      try have c20b2 : (9223372036854775807 < (x7_6 ++ t144).size + (rdOf ByteArray.empty (rd_L4 l0 x6_1) x8_2).size) = False := eq_false (Nat.not_lt.2 c20)
                                      have H' := Aside0.mk H
                                      clear H
                                      have p141 : 0 ≤ (x6_1 : Int) := odeN
                                      have q141 : x6_1 < (l0.length : Int) := odeN
                                      obtain ⟨ad141, A141_0, c141_0, e141, hx141_0, hl141_0, hi141_0⟩ := at_L4 HR0.out x6_1 p141 q141
                                      obtain rfl : ad140 = ad141 := (by injection e141)
                                      have HR141_0 := Aside0.mk hi141_0
                                      have HC141_0 := Aside0.mk hl141_0
                                      clear hi141_0 hl141_0
                                      replace p141 := eq_true p141
                                      replace q141 := eq_true q141
                                      have p142 : 0 ≤ (x8_2 : Int) := odeN
                                      have q142 : x8_2 < ((rd_L4 l0 x6_1).length : Int) := odeN
                                      obtain ⟨ad142, e142, hx142_0⟩ := Kd.at_string HR141_0.out x8_2 p142 q142
                                      cases e142
                                      replace p142 := eq_true p142
                                      replace q142 := eq_true q142
                                      go_wp2_with (first | ((with_reducible refine gate_callee (f := 117) rfl ?_); refine goesL_ (some 40) rfl rfl Tryz.func117 (by kernel_rfl) rfl #[.slice (some ad140) l0.length c0, .int .i64 x8_2] rfl (by (try simp only [List.map_toArray, List.map_cons, List.map_nil]); first | done | rfl | (simp only [List.length_drop, List.length_take]; rfl)) ?_; (with_reducible refine (daybookref17_wide.calls kj6 _ _ l0 x8_2 t143 _ ?side1 ?side2 A14.out).mono ?_); (case side1 => repeat (first | exact HR0.out | (with_reducible refine Kd.C_alloc ?_ _) | (with_reducible refine Kd.C_drewN ?_ _) | (with_reducible refine Kd.C_drew ?_))); (case side2 => exact HC0.out); rintro e w' ⟨rfl, ⟨nd, rfl⟩⟩; refine ⟨_, rfl, ?_⟩) | ((with_reducible refine gate_callee (f := 116) rfl ?_); refine goesL_ (some 44) rfl rfl Tryz.func116 (by kernel_rfl) rfl #[.int .i64 (wrap64 (t143 - ((rdOf ByteArray.empty (rd_L4 l0 x6_1) x8_2).size : Int)))] rfl (by (try simp only [List.map_toArray, List.map_cons, List.map_nil]); first | done | rfl | (simp only [List.length_drop, List.length_take]; rfl)) ?_; (with_reducible refine (daybookref17_blanks.calls kj6 (wrap64 (t143 - ((rdOf ByteArray.empty (rd_L4 l0 x6_1) x8_2).size : Int))) t144 _ A15.out).mono ?_); rintro e w' ⟨rfl, ⟨nd, rfl⟩⟩; refine ⟨_, rfl, ?_⟩; have p145 : 0 ≤ (x8_2 : Int) := odeN; have q145 : x8_2 < (l1.length : Int) := odeN; obtain ⟨ad145, e145, hx145_0⟩ := Kd.at_bool HR1.out x8_2 p145 q145; (try rw [← Nbq17.out] at hx145_0); cases e145; replace p145 := eq_true p145; replace q145 := eq_true q145))
                                      go_roundg kj6
                                      case measure => have := HK1.out; have := HK2.out; have := HJ6.out; omega
                                      case rel => exact ⟨((x7_6 ++ t144) ++ (rdOf ByteArray.empty (rd_L4 l0 x6_1) x8_2)), (wrap64 (x8_2 + 1)), (by first | rfl | (simp; done) | (simp [*]; done)), (by first | rfl | (simp; done) | (simp [*]; done)), H', ⟨by have := HK1.out; have := HK2.out; have := HJ6.out; omega⟩, by repeat (first | exact Drawn0.refl _ | apply Drawn0.step)⟩
                                    · rw [if_neg c20] at H
                                      exact absurd H (by simp)
                                  · rw [if_neg c19] at H
                                    exact absurd H (by simp)
                                · replace c18 := Bool.eq_false_iff.mpr c18
                                  subst c18
                                  have H1 : (if x7_6.size + (rdOf ByteArray.empty (rd_L4 l0 x6_1) x8_2).size ≤ 9223372036854775807 then (if (x7_6 ++ (rdOf ByteArray.empty (rd_L4 l0 x6_1) x8_2)).size + t144.size ≤ 9223372036854775807 then (daybookref17_Grid.l1 kj6 l0 l1 x5_1 x6_1 ((x7_6 ++ (rdOf ByteArray.empty (rd_L4 l0 x6_1) x8_2)) ++ t144) (wrap64 (x8_2 + 1))) else (none)) else (none)) = some r := by rw [if_neg (show ¬ (false = true) by decide)] at H; exact H
                                  clear H
                                  have H := H1
                                  clear H1
                                  by_cases c21 : x7_6.size + (rdOf ByteArray.empty (rd_L4 l0 x6_1) x8_2).size ≤ 9223372036854775807
                                  · rw [if_pos c21] at H
                                    have c21b0 := eq_true c21
                                    have c21b1 : decide (x7_6.size + (rdOf ByteArray.empty (rd_L4 l0 x6_1) x8_2).size ≤ 9223372036854775807) = true := decide_eq_true c21
                                    try have c21b2 : (9223372036854775807 < x7_6.size + (rdOf ByteArray.empty (rd_L4 l0 x6_1) x8_2).size) = False := eq_false (Nat.not_lt.2 c21)
                                    by_cases c22 : (x7_6 ++ (rdOf ByteArray.empty (rd_L4 l0 x6_1) x8_2)).size + t144.size ≤ 9223372036854775807
                                    · rw [if_pos c22] at H
                                      have c22b0 := eq_true c22
                                      have c22b1 : decide ((x7_6 ++ (rdOf ByteArray.empty (rd_L4 l0 x6_1) x8_2)).size + t144.size ≤ 9223372036854775807) = true := decide_eq_true c22
                                      try have c22b3 : (9223372036854775807 < x7_6.size + (rdOf ByteArray.empty (rd_L4 l0 x6_1) x8_2).size + t144.size) = False := eq_false (by have h_ := c22; simp only [ByteArray.size_append, mk_size, List.size_toArray, List.length_cons, List.length_nil] at h_; omega)
                                      try have c22b2 : (9223372036854775807 < (x7_6 ++ (rdOf ByteArray.empty (rd_L4 l0 x6_1) x8_2)).size + t144.size) = False := eq_false (Nat.not_lt.2 c22)
                                      have H' := Aside0.mk H
                                      clear H
                                      have p141 : 0 ≤ (x6_1 : Int) := odeN
                                      have q141 : x6_1 < (l0.length : Int) := odeN
                                      obtain ⟨ad141, A141_0, c141_0, e141, hx141_0, hl141_0, hi141_0⟩ := at_L4 HR0.out x6_1 p141 q141
                                      obtain rfl : ad140 = ad141 := (by injection e141)
                                      have HR141_0 := Aside0.mk hi141_0
                                      have HC141_0 := Aside0.mk hl141_0
                                      clear hi141_0 hl141_0
                                      replace p141 := eq_true p141
                                      replace q141 := eq_true q141
                                      have p142 : 0 ≤ (x8_2 : Int) := odeN
                                      have q142 : x8_2 < ((rd_L4 l0 x6_1).length : Int) := odeN
                                      obtain ⟨ad142, e142, hx142_0⟩ := Kd.at_string HR141_0.out x8_2 p142 q142
                                      cases e142
                                      replace p142 := eq_true p142
                                      replace q142 := eq_true q142
                                      go_wp2_with (first | ((with_reducible refine gate_callee (f := 117) rfl ?_); refine goesL_ (some 40) rfl rfl Tryz.func117 (by kernel_rfl) rfl #[.slice (some ad140) l0.length c0, .int .i64 x8_2] rfl (by (try simp only [List.map_toArray, List.map_cons, List.map_nil]); first | done | rfl | (simp only [List.length_drop, List.length_take]; rfl)) ?_; (with_reducible refine (daybookref17_wide.calls kj6 _ _ l0 x8_2 t143 _ ?side1 ?side2 A14.out).mono ?_); (case side1 => repeat (first | exact HR0.out | (with_reducible refine Kd.C_alloc ?_ _) | (with_reducible refine Kd.C_drewN ?_ _) | (with_reducible refine Kd.C_drew ?_))); (case side2 => exact HC0.out); rintro e w' ⟨rfl, ⟨nd, rfl⟩⟩; refine ⟨_, rfl, ?_⟩) | ((with_reducible refine gate_callee (f := 116) rfl ?_); refine goesL_ (some 44) rfl rfl Tryz.func116 (by kernel_rfl) rfl #[.int .i64 (wrap64 (t143 - ((rdOf ByteArray.empty (rd_L4 l0 x6_1) x8_2).size : Int)))] rfl (by (try simp only [List.map_toArray, List.map_cons, List.map_nil]); first | done | rfl | (simp only [List.length_drop, List.length_take]; rfl)) ?_; (with_reducible refine (daybookref17_blanks.calls kj6 (wrap64 (t143 - ((rdOf ByteArray.empty (rd_L4 l0 x6_1) x8_2).size : Int))) t144 _ A15.out).mono ?_); rintro e w' ⟨rfl, ⟨nd, rfl⟩⟩; refine ⟨_, rfl, ?_⟩; have p145 : 0 ≤ (x8_2 : Int) := odeN; have q145 : x8_2 < (l1.length : Int) := odeN; obtain ⟨ad145, e145, hx145_0⟩ := Kd.at_bool HR1.out x8_2 p145 q145; (try rw [← Nbq17.out] at hx145_0); cases e145; replace p145 := eq_true p145; replace q145 := eq_true q145))
                                      go_roundg kj6
                                      case measure => have := HK1.out; have := HK2.out; have := HJ6.out; omega
                                      case rel => exact ⟨((x7_6 ++ (rdOf ByteArray.empty (rd_L4 l0 x6_1) x8_2)) ++ t144), (wrap64 (x8_2 + 1)), (by first | rfl | (simp; done) | (simp [*]; done)), (by first | rfl | (simp; done) | (simp [*]; done)), H', ⟨by have := HK1.out; have := HK2.out; have := HJ6.out; omega⟩, by repeat (first | exact Drawn0.refl _ | apply Drawn0.step)⟩
                                    · rw [if_neg c22] at H
                                      exact absurd H (by simp)
                                  · rw [if_neg c21] at H
                                    exact absurd H (by simp)
                              · rw [if_neg c16] at H
                                have c16b0 : decide (x8_2 < (l1.length : Int)) = false := decide_eq_false c16
                                clear c16
                                by_cases c23 : x7_6.size + (rdOf ByteArray.empty (rd_L4 l0 x6_1) x8_2).size ≤ 9223372036854775807
                                · rw [if_pos c23] at H
                                  have c23b0 := eq_true c23
                                  have c23b1 : decide (x7_6.size + (rdOf ByteArray.empty (rd_L4 l0 x6_1) x8_2).size ≤ 9223372036854775807) = true := decide_eq_true c23
                                  try have c23b2 : (9223372036854775807 < x7_6.size + (rdOf ByteArray.empty (rd_L4 l0 x6_1) x8_2).size) = False := eq_false (Nat.not_lt.2 c23)
                                  by_cases c24 : (x7_6 ++ (rdOf ByteArray.empty (rd_L4 l0 x6_1) x8_2)).size + t144.size ≤ 9223372036854775807
                                  · rw [if_pos c24] at H
                                    have c24b0 := eq_true c24
                                    have c24b1 : decide ((x7_6 ++ (rdOf ByteArray.empty (rd_L4 l0 x6_1) x8_2)).size + t144.size ≤ 9223372036854775807) = true := decide_eq_true c24
                                    try have c24b3 : (9223372036854775807 < x7_6.size + (rdOf ByteArray.empty (rd_L4 l0 x6_1) x8_2).size + t144.size) = False := eq_false (by have h_ := c24; simp only [ByteArray.size_append, mk_size, List.size_toArray, List.length_cons, List.length_nil] at h_; omega)
                                    try have c24b2 : (9223372036854775807 < (x7_6 ++ (rdOf ByteArray.empty (rd_L4 l0 x6_1) x8_2)).size + t144.size) = False := eq_false (Nat.not_lt.2 c24)
                                    have H' := Aside0.mk H
                                    clear H
                                    have p141 : 0 ≤ (x6_1 : Int) := odeN
                                    have q141 : x6_1 < (l0.length : Int) := odeN
                                    obtain ⟨ad141, A141_0, c141_0, e141, hx141_0, hl141_0, hi141_0⟩ := at_L4 HR0.out x6_1 p141 q141
                                    obtain rfl : ad140 = ad141 := (by injection e141)
                                    have HR141_0 := Aside0.mk hi141_0
                                    have HC141_0 := Aside0.mk hl141_0
                                    clear hi141_0 hl141_0
                                    replace p141 := eq_true p141
                                    replace q141 := eq_true q141
                                    have p142 : 0 ≤ (x8_2 : Int) := odeN
                                    have q142 : x8_2 < ((rd_L4 l0 x6_1).length : Int) := odeN
                                    obtain ⟨ad142, e142, hx142_0⟩ := Kd.at_string HR141_0.out x8_2 p142 q142
                                    cases e142
                                    replace p142 := eq_true p142
                                    replace q142 := eq_true q142
                                    go_wp2_with (first | ((with_reducible refine gate_callee (f := 117) rfl ?_); refine goesL_ (some 40) rfl rfl Tryz.func117 (by kernel_rfl) rfl #[.slice (some ad140) l0.length c0, .int .i64 x8_2] rfl (by (try simp only [List.map_toArray, List.map_cons, List.map_nil]); first | done | rfl | (simp only [List.length_drop, List.length_take]; rfl)) ?_; (with_reducible refine (daybookref17_wide.calls kj6 _ _ l0 x8_2 t143 _ ?side1 ?side2 A14.out).mono ?_); (case side1 => repeat (first | exact HR0.out | (with_reducible refine Kd.C_alloc ?_ _) | (with_reducible refine Kd.C_drewN ?_ _) | (with_reducible refine Kd.C_drew ?_))); (case side2 => exact HC0.out); rintro e w' ⟨rfl, ⟨nd, rfl⟩⟩; refine ⟨_, rfl, ?_⟩) | ((with_reducible refine gate_callee (f := 116) rfl ?_); refine goesL_ (some 44) rfl rfl Tryz.func116 (by kernel_rfl) rfl #[.int .i64 (wrap64 (t143 - ((rdOf ByteArray.empty (rd_L4 l0 x6_1) x8_2).size : Int)))] rfl (by (try simp only [List.map_toArray, List.map_cons, List.map_nil]); first | done | rfl | (simp only [List.length_drop, List.length_take]; rfl)) ?_; (with_reducible refine (daybookref17_blanks.calls kj6 (wrap64 (t143 - ((rdOf ByteArray.empty (rd_L4 l0 x6_1) x8_2).size : Int))) t144 _ A15.out).mono ?_); rintro e w' ⟨rfl, ⟨nd, rfl⟩⟩; refine ⟨_, rfl, ?_⟩))
                                    go_roundg kj6
                                    case measure => have := HK1.out; have := HK2.out; have := HJ6.out; omega
                                    case rel => exact ⟨((x7_6 ++ (rdOf ByteArray.empty (rd_L4 l0 x6_1) x8_2)) ++ t144), (wrap64 (x8_2 + 1)), (by first | rfl | (simp; done) | (simp [*]; done)), (by first | rfl | (simp; done) | (simp [*]; done)), H', ⟨by have := HK1.out; have := HK2.out; have := HJ6.out; omega⟩, by repeat (first | exact Drawn0.refl _ | apply Drawn0.step)⟩
                                  · rw [if_neg c24] at H
                                    exact absurd H (by simp)
                                · rw [if_neg c23] at H
                                  exact absurd H (by simp)
                            · rw [if_neg c13] at H
                              exact absurd H (by simp)
                          · rw [if_neg c12] at H
                            exact absurd H (by simp)
                        · rw [if_neg c11] at H
                          exact absurd H (by simp)
                      · rw [if_neg c10] at H
                        exact absurd H (by simp)
                · rw [if_neg c6] at H
                  have c6b0 : decide (x8_2 < ((rd_L4 l0 x6_1).length : Int)) = false := decide_eq_false c6
                  clear c6
                  have H' := Aside0.mk H
                  clear H
                  have p140 : 0 ≤ (x6_1 : Int) := odeN
                  have q140 : x6_1 < (l0.length : Int) := odeN
                  obtain ⟨ad140, A140_0, c140_0, e140, hx140_0, hl140_0, hi140_0⟩ := at_L4 HR0.out x6_1 p140 q140
                  cases e140
                  have HR140_0 := Aside0.mk hi140_0
                  have HC140_0 := Aside0.mk hl140_0
                  clear hi140_0 hl140_0
                  replace p140 := eq_true p140
                  replace q140 := eq_true q140
                  go_wp2
                  go_loopg [11] k2 (fun kq v11 w' => ∃ (x11_3 : Int), v11 = .int .i64 x11_3 ∧ Aside0 (daybookref17_Grid.l2 kq l0 l1 x5_1 x6_1 x7_2 x11_3 = some r) ∧ Aside0 (kq ≤ k2) ∧ Drawn0 w w')
                  case atStart => exact ⟨((x7_2.size : Int)), (by first | rfl | (simp; done) | (simp [*]; done)), H', ⟨Nat.le_refl _⟩, by repeat (first | exact Drawn0.refl _ | apply Drawn0.step)⟩
                  case round =>
                    clear H'
                    try clear c1
                    try clear p1
                    try clear q1
                    try clear hx1
                    try clear c2
                    try clear p2
                    try clear c3
                    try clear c3b0
                    try clear c4
                    try clear c4b0
                    try clear c5
                    try clear c5b0
                    try clear c6
                    try clear c6b0
                    try clear p6
                    try clear c8
                    try clear c8b0
                    try clear c9
                    try clear c9b0
                    try clear c9b1
                    try clear c9b2
                    try clear c10
                    try clear c10b0
                    try clear c11
                    try clear c11b0
                    try clear c12
                    try clear c12b0
                    try clear c13
                    try clear c13b0
                    try clear c14
                    try clear p14
                    try clear q14
                    try clear hx14
                    try clear c16
                    try clear c16b0
                    try clear q17
                    try clear c18
                    try clear c19
                    try clear c19b0
                    try clear c19b1
                    try clear c19b2
                    try clear c20
                    try clear c20b0
                    try clear c20b1
                    try clear c20b2
                    try clear c21
                    try clear c21b0
                    try clear c21b1
                    try clear c21b2
                    try clear c22
                    try clear c22b0
                    try clear c22b1
                    try clear c22b2
                    try clear c23
                    try clear c23b0
                    try clear c23b1
                    try clear c23b2
                    try clear c24
                    try clear c24b0
                    try clear c24b1
                    try clear c24b2
                    try clear hx140_0
                    try clear hx141_0
                    try clear hx142_0
                    try clear hx145_0
                    try clear p1
                    try clear p140
                    try clear p141
                    try clear p142
                    try clear p145
                    try clear p2
                    try clear q1
                    try clear q140
                    try clear q141
                    try clear q142
                    try clear q145
                    obtain ⟨x11_3, rfl, HA, HK3, ⟨m3, rfl⟩⟩ := hrel
                    cases gk with
                    | zero => exact absurd HA.out (by simp [daybookref17_Grid.l2])
                    | succ k3 =>
                      have H := HA.out
                      clear HA
                      simp only [daybookref17_Grid.l2] at H
                      by_cases c25 : x11_3 > 0
                      · rw [if_pos c25] at H
                        have c25b0 : decide (0 < x11_3) = true := decide_eq_true c25
                        clear c25
                        obtain ⟨ji26, hji26⟩ : ∃ j_ : Int, (wrap64 (x11_3 - 1)) = j_ := ⟨_, rfl⟩
                        replace H : (if 0 ≤ (ji26) then (if (ji26) < (x7_2.size : Int) then (if (bt x7_2 (ji26)) = 32 then (daybookref17_Grid.l2 k3 l0 l1 x5_1 x6_1 x7_2 ji26) else (if 0 ≤ x11_3 then (if x11_3 ≤ (x7_2.size : Int) then (if x5_1.size + (x7_2.extract 0 (x11_3 : Int).toNat).size ≤ 9223372036854775807 then (if (x5_1 ++ (x7_2.extract 0 (x11_3 : Int).toNat)).size + 1 ≤ 9223372036854775807 then (daybookref17_Grid.l0 k3 l0 l1 ((x5_1 ++ (x7_2.extract 0 (x11_3 : Int).toNat)) ++ (⟨#[10]⟩ : ByteArray)) (wrap64 (x6_1 + 1))) else (none)) else (none)) else (none)) else (none))) else (none)) else (none)) = some r := by first | (rw [hji26] at H; exact H) | (simp only [hji26] at H ⊢; exact H)
                        have hji26w : (IntKind.i64.wrap (x11_3 - 1)) = ji26 := (i64_w _).trans hji26
                        by_cases c27 : 0 ≤ (ji26)
                        · rw [if_pos c27] at H
                          have c27b0 : decide (0 ≤ (ji26)) = true := decide_eq_true c27
                          clear c27
                          by_cases c28 : (ji26) < (x7_2.size : Int)
                          · rw [if_pos c28] at H
                            have c28b0 : decide ((ji26) < (x7_2.size : Int)) = true := decide_eq_true c28
                            clear c28
                            by_cases c30 : (bt x7_2 (ji26)) = 32
                            · rw [if_pos c30] at H
                              have c30b0 : ((bt x7_2 (ji26)) == 32) = true := beq_iff_eq.mpr c30
                              have c30b1 : ((bt x7_2 (ji26)) != 32) = false := bne_eq_false_iff_eq.mpr c30
                              clear c30
                              have H' := Aside0.mk H
                              clear H
                              have p29 : 0 ≤ ((ji26) : Int) := odeN
                              have q29 : (ji26) < (x7_2.size : Int) := odeN
                              have hx29 := bt_at x7_2 (ji26)
                              replace p29 := eq_true p29
                              replace q29 := eq_true q29
                              go_wp2
                              go_roundg k3
                              case measure => have := HK1.out; have := HK2.out; have := HK3.out; omega
                              case rel => exact ⟨(ji26), (by first | rfl | (simp; done) | (simp only [← hji26] <;> (first | rfl | simp)) | (simp [*]; done)), H', ⟨by have := HK1.out; have := HK2.out; have := HK3.out; omega⟩, by repeat (first | exact Drawn0.refl _ | apply Drawn0.step)⟩
                            · rw [if_neg c30] at H
                              have c30b0 : ((bt x7_2 (ji26)) == 32) = false := beq_eq_false_iff_ne.mpr c30
                              have c30b1 : ((bt x7_2 (ji26)) != 32) = true := bne_iff_ne.mpr c30
                              by_cases c31 : 0 ≤ x11_3
                              · rw [if_pos c31] at H
                                have c31b0 := eq_true c31
                                have c31b1 : decide (0 ≤ x11_3) = true := decide_eq_true c31
                                clear c31
                                by_cases c32 : x11_3 ≤ (x7_2.size : Int)
                                · rw [if_pos c32] at H
                                  have c32b0 := eq_true c32
                                  have c32b1 : decide (x11_3 ≤ (x7_2.size : Int)) = true := decide_eq_true c32
                                  clear c32
                                  by_cases c33 : x5_1.size + (x7_2.extract 0 (x11_3 : Int).toNat).size ≤ 9223372036854775807
                                  · rw [if_pos c33] at H
                                    have c33b0 := eq_true c33
                                    have c33b1 : decide (x5_1.size + (x7_2.extract 0 (x11_3 : Int).toNat).size ≤ 9223372036854775807) = true := decide_eq_true c33
                                    try have c33b2 : (9223372036854775807 < x5_1.size + (x7_2.extract 0 (x11_3 : Int).toNat).size) = False := eq_false (Nat.not_lt.2 c33)
                                    by_cases c34 : (x5_1 ++ (x7_2.extract 0 (x11_3 : Int).toNat)).size + 1 ≤ 9223372036854775807
                                    · rw [if_pos c34] at H
                                      have c34b0 := eq_true c34
                                      have c34b1 : decide ((x5_1 ++ (x7_2.extract 0 (x11_3 : Int).toNat)).size + 1 ≤ 9223372036854775807) = true := decide_eq_true c34
                                      try have c34b4 : (9223372036854775807 < x5_1.size + (x11_3 : Int).toNat + 1) = False := eq_false (by have h_ := c34; have e0_ := of_decide_eq_true (show decide (x11_3 ≤ (x7_2.size : Int)) = true by first | (with_reducible assumption) | assumption); simp only [ByteArray.size_append, ByteArray.size_extract, mk_size, List.size_toArray, List.length_cons, List.length_nil] at h_; omega)
                                      try have c34b3 : (9223372036854775807 < x5_1.size + (x7_2.extract 0 (x11_3 : Int).toNat).size + 1) = False := eq_false (by have h_ := c34; simp only [ByteArray.size_append, mk_size, List.size_toArray, List.length_cons, List.length_nil] at h_; omega)
                                      try have c34b2 : (9223372036854775807 < (x5_1 ++ (x7_2.extract 0 (x11_3 : Int).toNat)).size + 1) = False := eq_false (Nat.not_lt.2 c34)
                                      have H' := Aside0.mk H
                                      clear H
                                      have p29 : 0 ≤ ((ji26) : Int) := odeN
                                      have q29 : (ji26) < (x7_2.size : Int) := odeN
                                      have hx29 := bt_at x7_2 (ji26)
                                      replace p29 := eq_true p29
                                      replace q29 := eq_true q29
                                      go_wp2
                                      go_roundg k3
                                      case measure => have := HK1.out; have := HK2.out; have := HK3.out; omega
                                      case rel => exact ⟨((x5_1 ++ (x7_2.extract 0 (x11_3 : Int).toNat)) ++ (⟨#[10]⟩ : ByteArray)), (wrap64 (x6_1 + 1)), (by first | rfl | (simp; done) | (simp [*]; done)), (by first | rfl | (simp; done) | (simp [*]; done)), H', ⟨by have := HK1.out; have := HK2.out; have := HK3.out; omega⟩, by repeat (first | exact Drawn0.refl _ | apply Drawn0.step)⟩
                                    · rw [if_neg c34] at H
                                      exact absurd H (by simp)
                                  · rw [if_neg c33] at H
                                    exact absurd H (by simp)
                                · rw [if_neg c32] at H
                                  exact absurd H (by simp)
                              · rw [if_neg c31] at H
                                exact absurd H (by simp)
                          · rw [if_neg c28] at H
                            exact absurd H (by simp)
                        · rw [if_neg c27] at H
                          exact absurd H (by simp)
                      · rw [if_neg c25] at H
                        have c25b0 : decide (0 < x11_3) = false := decide_eq_false c25
                        clear c25
                        by_cases c35 : 0 ≤ x11_3
                        · rw [if_pos c35] at H
                          have c35b0 := eq_true c35
                          have c35b1 : decide (0 ≤ x11_3) = true := decide_eq_true c35
                          clear c35
                          by_cases c36 : x11_3 ≤ (x7_2.size : Int)
                          · rw [if_pos c36] at H
                            have c36b0 := eq_true c36
                            have c36b1 : decide (x11_3 ≤ (x7_2.size : Int)) = true := decide_eq_true c36
                            clear c36
                            by_cases c37 : x5_1.size + (x7_2.extract 0 (x11_3 : Int).toNat).size ≤ 9223372036854775807
                            · rw [if_pos c37] at H
                              have c37b0 := eq_true c37
                              have c37b1 : decide (x5_1.size + (x7_2.extract 0 (x11_3 : Int).toNat).size ≤ 9223372036854775807) = true := decide_eq_true c37
                              try have c37b2 : (9223372036854775807 < x5_1.size + (x7_2.extract 0 (x11_3 : Int).toNat).size) = False := eq_false (Nat.not_lt.2 c37)
                              by_cases c38 : (x5_1 ++ (x7_2.extract 0 (x11_3 : Int).toNat)).size + 1 ≤ 9223372036854775807
                              · rw [if_pos c38] at H
                                have c38b0 := eq_true c38
                                have c38b1 : decide ((x5_1 ++ (x7_2.extract 0 (x11_3 : Int).toNat)).size + 1 ≤ 9223372036854775807) = true := decide_eq_true c38
                                try have c38b4 : (9223372036854775807 < x5_1.size + (x11_3 : Int).toNat + 1) = False := eq_false (by have h_ := c38; have e0_ := of_decide_eq_true (show decide (x11_3 ≤ (x7_2.size : Int)) = true by first | (with_reducible assumption) | assumption); simp only [ByteArray.size_append, ByteArray.size_extract, mk_size, List.size_toArray, List.length_cons, List.length_nil] at h_; omega)
                                try have c38b3 : (9223372036854775807 < x5_1.size + (x7_2.extract 0 (x11_3 : Int).toNat).size + 1) = False := eq_false (by have h_ := c38; simp only [ByteArray.size_append, mk_size, List.size_toArray, List.length_cons, List.length_nil] at h_; omega)
                                try have c38b2 : (9223372036854775807 < (x5_1 ++ (x7_2.extract 0 (x11_3 : Int).toNat)).size + 1) = False := eq_false (Nat.not_lt.2 c38)
                                have H' := Aside0.mk H
                                clear H
                                go_wp2
                                go_roundg k3
                                case measure => have := HK1.out; have := HK2.out; have := HK3.out; omega
                                case rel => exact ⟨((x5_1 ++ (x7_2.extract 0 (x11_3 : Int).toNat)) ++ (⟨#[10]⟩ : ByteArray)), (wrap64 (x6_1 + 1)), (by first | rfl | (simp; done) | (simp [*]; done)), (by first | rfl | (simp; done) | (simp [*]; done)), H', ⟨by have := HK1.out; have := HK2.out; have := HK3.out; omega⟩, by repeat (first | exact Drawn0.refl _ | apply Drawn0.step)⟩
                              · rw [if_neg c38] at H
                                exact absurd H (by simp)
                            · rw [if_neg c37] at H
                              exact absurd H (by simp)
                          · rw [if_neg c36] at H
                            exact absurd H (by simp)
                        · rw [if_neg c35] at H
                          exact absurd H (by simp)
              · rw [if_neg c5] at H
                exact absurd H (by simp)
            · rw [if_neg c4] at H
              exact absurd H (by simp)
      · rw [if_neg c3] at H
        have c3b0 : decide (x6_1 < (l0.length : Int)) = false := decide_eq_false c3
        clear c3
        obtain rfl := Option.some.inj H
        go_wp2
        go_ret
        exact ⟨by first | rfl | (simp; done) | (simp [*]; done), by repeat (first | exact Drawn0.refl _ | apply Drawn0.step)⟩

end Go.Proofs.YtmimninicegjcaaGreatDoor.QT


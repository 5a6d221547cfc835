-- Written by a program of this session (wip/myprint.py, which drives the kit's print with hand-proved leaves). Not trusted: Lean checks it.
import Derived.Test.YtmimninicegjcaaGreatDoorTbQT0
import Derived.Test.YtmimninicegjcaaGreatDoorTbQT3
namespace Go.Proofs.YtmimninicegjcaaGreatDoor.QT
open Go.RowKit Go.Proofs.YtmimninicegjcaaGreatDoorW.PrintWords Go.Proofs.YtmimninicegjcaaGreatDoorW.PrintLast Go.Proofs.YtmimninicegjcaaGreatDoorW.PrintMore
attribute [local go_sem] max2_int min2_int max_two min_two max_three min_three max_four min_four   -- for this text's walks alone
set_option linter.unusedVariables false
set_option linter.unusedSimpArgs false

/-! ### daybookref01_Print: function 109 -/
mutual
def daybookref01_Print.j0 : Nat → Int → Int → Bool → Option (ByteArray × Int)
  | 0, _, _, _ => none
  | k + 1, x0, x1, x14 => if x14 = true then (some ((⟨#[]⟩ : ByteArray), 1)) else ((daybookref01_Is.f x0).bind fun t128 => (if t128 = true then (if x0 < 0 then (daybookref01_Print.j1 k (wrap64 (-x0)) x1 (⟨#[45]⟩ : ByteArray)) else (daybookref01_Print.j1 k x0 x1 (⟨#[]⟩ : ByteArray))) else (some ((⟨#[]⟩ : ByteArray), 10))))
def daybookref01_Print.j1 : Nat → Int → Int → ByteArray → Option (ByteArray × Int)
  | 0, _, _, _ => none
  | k + 1, x0, x1, x7 => (daybookref01_ten.f k x1).bind fun t129 => (if t129 = 0 then (none) else ((daybookref01_Digits.f k (wrap64 (Int.tdiv x0 t129)) 1).bind fun t130 => (if x7.size + t130.size ≤ 9223372036854775807 then (if x1 > 0 then (if (x7 ++ t130).size + 1 ≤ 9223372036854775807 then ((daybookref01_ten.f k x1).bind fun t131 => (if t131 = 0 then (none) else ((daybookref01_Digits.f k (Int.tmod x0 t131) x1).bind fun t132 => (if ((x7 ++ t130) ++ (⟨#[46]⟩ : ByteArray)).size + t132.size ≤ 9223372036854775807 then (some (((x7 ++ t130) ++ (⟨#[46]⟩ : ByteArray)) ++ t132, 0)) else (none))))) else (none)) else (some (x7 ++ t130, 0))) else (none))))
end
def daybookref01_Print.f (k : Nat) (a0 : Int) (a1 : Int) : Option (ByteArray × Int) := if a1 < 0 then (daybookref01_Print.j0 k a0 a1 true) else (daybookref01_Print.j0 k a0 a1 (decide (a1 > 6)))
set_option maxHeartbeats 8000000 in
set_option maxRecDepth 100000 in
theorem daybookref01_Print.calls (k : Nat) (a0 : Int) (a1 : Int) (r1 : ByteArray) (r2 : Int) (w : World) (h : daybookref01_Print.f k a0 a1 = some (r1, r2)) :
    Calls Tryz.prog 109 #[.int .i64 a0, .int .i64 a1] w fun e w' => e = .returned (.tuple #[.string r1, .int .i64 r2]) ∧ Below w.heap.size w w' := by
  have HB := Aside0.mk (Below.refl w.heap.size w)
  have H : (if a1 < 0 then (daybookref01_Print.j0 k a0 a1 true) else (daybookref01_Print.j0 k a0 a1 (decide (a1 > 6)))) = some (r1, r2) := h
  clear h
  have HC3 := Aside0.mk H
  clear H
  go_enter Tryz.func109, Tryz.ntmps109
  go_upto_region 1 with (fail)
  go_cut [14] (fun v14 wc => ∃ (kq : Nat) (x14_2 : Bool), v14 = .bool x14_2 ∧ Aside0 (daybookref01_Print.j0 kq a0 a1 x14_2 = some (r1, r2)) ∧ Aside0 (kq ≤ k) ∧ Aside0 (Below w.heap.size w wc))
  case first =>
    have H := HC3.out
    clear HC3
    by_cases c4 : a1 < 0
    · rw [if_pos c4] at H
      have c4b0 : decide (a1 < 0) = true := decide_eq_true c4
      clear c4
      (first | rw [c4b0] | (simp only [i64_w, i32_w]; rw [c4b0]) | skip)
      have H' := Aside0.mk H
      clear H
      go_wp2
      go_meet
      case rel => exact ⟨_, (true), (by first | rfl | (simp; done) | (simp [*]; done)), H', ⟨by first | omega | exact Nat.le_refl _⟩, ⟨by repeat (first | (with_reducible first | exact HB.out | apply below_alloc | apply pw_below_drewN | apply below_drew1) | exact HB.out)⟩⟩
    · rw [if_neg c4] at H
      have c4b0 : decide (a1 < 0) = false := decide_eq_false c4
      clear c4
      (first | rw [c4b0] | (simp only [i64_w, i32_w]; rw [c4b0]) | skip)
      have H' := Aside0.mk H
      clear H
      go_wp2
      go_meet
      case rel => exact ⟨_, (decide (a1 > 6)), (by first | rfl | (simp; done) | (simp [*]; done)), H', ⟨by first | omega | exact Nat.le_refl _⟩, ⟨by repeat (first | (with_reducible first | exact HB.out | apply below_alloc | apply pw_below_drewN | apply below_drew1) | exact HB.out)⟩⟩
  case rest =>
    clear HC3
    try clear c1
    try clear p2
    try clear c4
    try clear c4b0
    obtain ⟨kq, x14_2, rfl, HA, HJ2, HB⟩ := hcut
    cases kq with
    | zero => exact absurd HA.out (by simp [daybookref01_Print.j0])
    | succ kj2 =>
      have H := HA.out
      clear HA
      simp only [daybookref01_Print.j0] at H
      by_cases c5 : x14_2 = true
      · subst c5
        have H1 : (some ((⟨#[]⟩ : ByteArray), 1)) = some (r1, r2) := by rw [if_pos rfl] at H; exact H
        clear H
        have H := H1
        clear H1
        simp only [Option.some.injEq, Prod.mk.injEq] at H
        obtain ⟨rfl, rfl⟩ := H
        go_wp2
        go_ret2
        exact ⟨by first | rfl | (simp [errW_none, errW_some] <;> rfl) | (simp [*, errW_none, errW_some] <;> rfl), by repeat (first | (with_reducible first | exact HB.out | apply below_alloc | apply pw_below_drewN | apply below_drew1) | exact HB.out)⟩
      · replace c5 := Bool.eq_false_iff.mpr c5
        subst c5
        have H1 : ((daybookref01_Is.f a0).bind fun t128 => (if t128 = true then (if a0 < 0 then (daybookref01_Print.j1 kj2 (wrap64 (-a0)) a1 (⟨#[45]⟩ : ByteArray)) else (daybookref01_Print.j1 kj2 a0 a1 (⟨#[]⟩ : ByteArray))) else (some ((⟨#[]⟩ : ByteArray), 10)))) = some (r1, r2) := by rw [if_neg (show ¬ (false = true) by decide)] at H; exact H
        clear H
        have H := H1
        clear H1
        replace H := Option.bind_eq_some_iff.mp H
        obtain ⟨t128, A60, H⟩ := H
        replace H : (if t128 = true then (if a0 < 0 then (daybookref01_Print.j1 kj2 (wrap64 (-a0)) a1 (⟨#[45]⟩ : ByteArray)) else (daybookref01_Print.j1 kj2 a0 a1 (⟨#[]⟩ : ByteArray))) else (some ((⟨#[]⟩ : ByteArray), 10))) = some (r1, r2) := H
        have A6 := Aside0.mk A60
        clear A60
        by_cases c7 : t128 = true
        · subst c7
          have H1 : (if a0 < 0 then (daybookref01_Print.j1 kj2 (wrap64 (-a0)) a1 (⟨#[45]⟩ : ByteArray)) else (daybookref01_Print.j1 kj2 a0 a1 (⟨#[]⟩ : ByteArray))) = some (r1, r2) := by rw [if_pos rfl] at H; exact H
          clear H
          have H := H1
          clear H1
          have HC8 := Aside0.mk H
          clear H
          go_upto_if 20 with (first | ((with_reducible refine gate_callee (f := 110) rfl ?_); refine goesL_ (some 16) rfl rfl Tryz.func110 (by kernel_rfl) rfl #[.int .i64 a0] rfl (by (try simp only [List.map_toArray, List.map_cons, List.map_nil]); first | done | rfl | (simp only [List.length_drop, List.length_take]; rfl)) ?_; (with_reducible refine (daybookref01_Is.calls a0 true _ A6.out).mono ?_); rintro e w' ⟨rfl, ⟨nd, rfl⟩⟩; refine ⟨_, rfl, ?_⟩))
          (try simp only [Act.put, List.setIfInBounds_toArray, List.set_cons_zero, List.set_cons_succ])
          go_cut [0, 7] (fun v0 v7 wc => ∃ (kq : Nat) (x0_7 : Int) (x7_7 : ByteArray), v0 = .int .i64 x0_7 ∧ v7 = .string x7_7 ∧ Aside0 (daybookref01_Print.j1 kq x0_7 a1 x7_7 = some (r1, r2)) ∧ Aside0 (kq ≤ kj2) ∧ Aside0 (Below w.heap.size w wc))
          case first =>
            have H := HC8.out
            clear HC8
            by_cases c9 : a0 < 0
            · rw [if_pos c9] at H
              have c9b0 : decide (a0 < 0) = true := decide_eq_true c9
              clear c9
              (first | rw [c9b0] | (simp only [i64_w, i32_w]; rw [c9b0]) | skip)
              have H' := Aside0.mk H
              clear H
              go_wp2
              go_meet
              case rel => exact ⟨_, (wrap64 (-a0)), ((⟨#[45]⟩ : ByteArray)), (by first | rfl | (simp; done) | (simp [*]; done)), (by first | rfl | (simp; done) | (simp [*]; done)), H', ⟨by have := HJ2.out; first | omega | exact Nat.le_refl _⟩, ⟨by repeat (first | (with_reducible first | exact HB.out | apply below_alloc | apply pw_below_drewN | apply below_drew1) | exact HB.out)⟩⟩
            · rw [if_neg c9] at H
              have c9b0 : decide (a0 < 0) = false := decide_eq_false c9
              clear c9
              (first | rw [c9b0] | (simp only [i64_w, i32_w]; rw [c9b0]) | skip)
              have H' := Aside0.mk H
              clear H
              go_wp2
              go_meet
              case rel => exact ⟨_, (a0), ((⟨#[]⟩ : ByteArray)), (by first | rfl | (simp; done) | (simp [*]; done)), (by first | rfl | (simp; done) | (simp [*]; done)), H', ⟨by have := HJ2.out; first | omega | exact Nat.le_refl _⟩, ⟨by repeat (first | (with_reducible first | exact HB.out | apply below_alloc | apply pw_below_drewN | apply below_drew1) | exact HB.out)⟩⟩
          case rest =>
            clear HC8
            try clear c1
            try clear p2
            try clear c4
            try clear c4b0
            try clear c5
            try clear p6
            try clear c7
            try clear c9
            try clear c9b0
            try clear p2
            obtain ⟨kq, x0_7, x7_7, rfl, rfl, HA, HJ7, HB⟩ := hcut
            cases kq with
            | zero => exact absurd HA.out (by simp [daybookref01_Print.j1])
            | succ kj7 =>
              have H := HA.out
              clear HA
              simp only [daybookref01_Print.j1] at H
              replace H := Option.bind_eq_some_iff.mp H
              obtain ⟨t129, A100, H⟩ := H
              replace H : (if t129 = 0 then (none) else ((daybookref01_Digits.f kj7 (wrap64 (Int.tdiv x0_7 t129)) 1).bind fun t130 => (if x7_7.size + t130.size ≤ 9223372036854775807 then (if a1 > 0 then (if (x7_7 ++ t130).size + 1 ≤ 9223372036854775807 then ((daybookref01_ten.f kj7 a1).bind fun t131 => (if t131 = 0 then (none) else ((daybookref01_Digits.f kj7 (Int.tmod x0_7 t131) a1).bind fun t132 => (if ((x7_7 ++ t130) ++ (⟨#[46]⟩ : ByteArray)).size + t132.size ≤ 9223372036854775807 then (some (((x7_7 ++ t130) ++ (⟨#[46]⟩ : ByteArray)) ++ t132, 0)) else (none))))) else (none)) else (some (x7_7 ++ t130, 0))) else (none)))) = some (r1, r2) := H
              have A10 := Aside0.mk A100
              clear A100
              by_cases c11 : t129 = 0
              · rw [if_pos c11] at H
                exact absurd H (by simp)
              · rw [if_neg c11] at H
                have c11b0 : (t129 == 0) = false := beq_eq_false_iff_ne.mpr c11
                have c11b1 : (t129 != 0) = true := bne_iff_ne.mpr c11
                replace H := Option.bind_eq_some_iff.mp H
                obtain ⟨t130, A120, H⟩ := H
                replace H : (if x7_7.size + t130.size ≤ 9223372036854775807 then (if a1 > 0 then (if (x7_7 ++ t130).size + 1 ≤ 9223372036854775807 then ((daybookref01_ten.f kj7 a1).bind fun t131 => (if t131 = 0 then (none) else ((daybookref01_Digits.f kj7 (Int.tmod x0_7 t131) a1).bind fun t132 => (if ((x7_7 ++ t130) ++ (⟨#[46]⟩ : ByteArray)).size + t132.size ≤ 9223372036854775807 then (some (((x7_7 ++ t130) ++ (⟨#[46]⟩ : ByteArray)) ++ t132, 0)) else (none))))) else (none)) else (some (x7_7 ++ t130, 0))) else (none)) = some (r1, r2) := H
                have A12 := Aside0.mk A120
                clear A120
                by_cases c13 : x7_7.size + t130.size ≤ 9223372036854775807
                · rw [if_pos c13] at H
                  have c13b0 := eq_true c13
                  have c13b1 : decide (x7_7.size + t130.size ≤ 9223372036854775807) = true := decide_eq_true c13
                  try have c13b2 : (9223372036854775807 < x7_7.size + t130.size) = False := eq_false (Nat.not_lt.2 c13)
                  by_cases c14 : a1 > 0
                  · rw [if_pos c14] at H
                    have c14b0 : decide (0 < a1) = true := decide_eq_true c14
                    clear c14
                    by_cases c15 : (x7_7 ++ t130).size + 1 ≤ 9223372036854775807
                    · rw [if_pos c15] at H
                      have c15b0 := eq_true c15
                      have c15b1 : decide ((x7_7 ++ t130).size + 1 ≤ 9223372036854775807) = true := decide_eq_true c15
                      try have c15b3 : (9223372036854775807 < x7_7.size + t130.size + 1) = False := eq_false (by have h_ := c15; simp only [ByteArray.size_append, mk_size, List.size_toArray, List.length_cons, List.length_nil] at h_; omega)
                      try have c15b2 : (9223372036854775807 < (x7_7 ++ t130).size + 1) = False := eq_false (Nat.not_lt.2 c15)
                      replace H := Option.bind_eq_some_iff.mp H
                      obtain ⟨t131, A160, H⟩ := H
                      replace H : (if t131 = 0 then (none) else ((daybookref01_Digits.f kj7 (Int.tmod x0_7 t131) a1).bind fun t132 => (if ((x7_7 ++ t130) ++ (⟨#[46]⟩ : ByteArray)).size + t132.size ≤ 9223372036854775807 then (some (((x7_7 ++ t130) ++ (⟨#[46]⟩ : ByteArray)) ++ t132, 0)) else (none)))) = some (r1, r2) := H
                      have A16 := Aside0.mk A160
                      clear A160
                      by_cases c17 : t131 = 0
                      · rw [if_pos c17] at H
                        exact absurd H (by simp)
                      · rw [if_neg c17] at H
                        have c17b0 : (t131 == 0) = false := beq_eq_false_iff_ne.mpr c17
                        have c17b1 : (t131 != 0) = true := bne_iff_ne.mpr c17
                        replace H := Option.bind_eq_some_iff.mp H
                        obtain ⟨t132, A180, H⟩ := H
                        replace H : (if ((x7_7 ++ t130) ++ (⟨#[46]⟩ : ByteArray)).size + t132.size ≤ 9223372036854775807 then (some (((x7_7 ++ t130) ++ (⟨#[46]⟩ : ByteArray)) ++ t132, 0)) else (none)) = some (r1, r2) := H
                        have A18 := Aside0.mk A180
                        clear A180
                        by_cases c19 : ((x7_7 ++ t130) ++ (⟨#[46]⟩ : ByteArray)).size + t132.size ≤ 9223372036854775807
                        · rw [if_pos c19] at H
                          have c19b0 := eq_true c19
                          have c19b1 : decide (((x7_7 ++ t130) ++ (⟨#[46]⟩ : ByteArray)).size + t132.size ≤ 9223372036854775807) = true := decide_eq_true c19
                          try have c19b3 : (9223372036854775807 < x7_7.size + t130.size + 1 + t132.size) = False := eq_false (by have h_ := c19; simp only [ByteArray.size_append, mk_size, List.size_toArray, List.length_cons, List.length_nil] at h_; omega)
                          try have c19b2 : (9223372036854775807 < ((x7_7 ++ t130) ++ (⟨#[46]⟩ : ByteArray)).size + t132.size) = False := eq_false (Nat.not_lt.2 c19)
                          simp only [Option.some.injEq, Prod.mk.injEq] at H
                          obtain ⟨rfl, rfl⟩ := H
                          go_wp2_with (first | ((with_reducible refine gate_callee (f := 159) rfl ?_); refine goesL_ (some 26) rfl rfl Tryz.func159 (by kernel_rfl) rfl #[.int .i64 a1] rfl (by (try simp only [List.map_toArray, List.map_cons, List.map_nil]); first | done | rfl | (simp only [List.length_drop, List.length_take]; rfl)) ?_; (with_reducible refine (daybookref01_ten.calls kj7 a1 t129 _ A10.out).mono ?_); rintro e w' ⟨rfl, ⟨nd, rfl⟩⟩; refine ⟨_, rfl, ?_⟩) | ((with_reducible refine gate_callee (f := 132) rfl ?_); refine goesL_ (some 28) rfl rfl Tryz.func132 (by kernel_rfl) rfl #[.int .i64 (wrap64 (Int.tdiv x0_7 t129)), .int .i64 1] rfl (by (try simp only [List.map_toArray, List.map_cons, List.map_nil]); first | done | rfl | (simp only [List.length_drop, List.length_take]; rfl)) ?_; (with_reducible refine (daybookref01_Digits.calls kj7 (wrap64 (Int.tdiv x0_7 t129)) 1 t130 _ A12.out).mono ?_); rintro e w20 ⟨rfl, hb⟩; refine ⟨_, rfl, ?_⟩; have n0_ := Aside0.mk (below_step (by repeat (first | (with_reducible first | exact HB.out | apply below_alloc | apply pw_below_drewN | apply below_drew1) | exact HB.out)) hb); clear HB; have HB := n0_; clear n0_; (try clear hb); (try clear hb2); (try clear hk); (try clear hi)) | ((with_reducible refine gate_callee (f := 159) rfl ?_); refine goesL_ (some 36) rfl rfl Tryz.func159 (by kernel_rfl) rfl #[.int .i64 a1] rfl (by (try simp only [List.map_toArray, List.map_cons, List.map_nil]); first | done | rfl | (simp only [List.length_drop, List.length_take]; rfl)) ?_; (with_reducible refine (daybookref01_ten.calls kj7 a1 t131 _ A16.out).mono ?_); rintro e w' ⟨rfl, ⟨nd, rfl⟩⟩; refine ⟨_, rfl, ?_⟩) | ((with_reducible refine gate_callee (f := 132) rfl ?_); refine goesL_ (some 39) rfl rfl Tryz.func132 (by kernel_rfl) rfl #[.int .i64 (Int.tmod x0_7 t131), .int .i64 a1] rfl (by (try simp only [List.map_toArray, List.map_cons, List.map_nil]); first | done | rfl | (simp only [List.length_drop, List.length_take]; rfl)) ?_; (with_reducible refine (daybookref01_Digits.calls kj7 (Int.tmod x0_7 t131) a1 t132 _ A18.out).mono ?_); rintro e w21 ⟨rfl, hb⟩; refine ⟨_, rfl, ?_⟩; have n0_ := Aside0.mk (below_step (by repeat (first | (with_reducible first | exact HB.out | apply below_alloc | apply pw_below_drewN | apply below_drew1) | exact HB.out)) hb); clear HB; have HB := n0_; clear n0_; (try clear hb); (try clear hb2); (try clear hk); (try clear hi)))
                          go_ret2
                          exact ⟨by first | rfl | (simp [errW_none, errW_some] <;> rfl) | (simp [*, errW_none, errW_some] <;> rfl), by repeat (first | (with_reducible first | exact HB.out | apply below_alloc | apply pw_below_drewN | apply below_drew1) | exact HB.out)⟩
                        · rw [if_neg c19] at H
                          exact absurd H (by simp)
                    · rw [if_neg c15] at H
                      exact absurd H (by simp)
                  · rw [if_neg c14] at H
                    have c14b0 : decide (0 < a1) = false := decide_eq_false c14
                    clear c14
                    simp only [Option.some.injEq, Prod.mk.injEq] at H
                    obtain ⟨rfl, rfl⟩ := H
                    go_wp2_with (first | ((with_reducible refine gate_callee (f := 159) rfl ?_); refine goesL_ (some 26) rfl rfl Tryz.func159 (by kernel_rfl) rfl #[.int .i64 a1] rfl (by (try simp only [List.map_toArray, List.map_cons, List.map_nil]); first | done | rfl | (simp only [List.length_drop, List.length_take]; rfl)) ?_; (with_reducible refine (daybookref01_ten.calls kj7 a1 t129 _ A10.out).mono ?_); rintro e w' ⟨rfl, ⟨nd, rfl⟩⟩; refine ⟨_, rfl, ?_⟩) | ((with_reducible refine gate_callee (f := 132) rfl ?_); refine goesL_ (some 28) rfl rfl Tryz.func132 (by kernel_rfl) rfl #[.int .i64 (wrap64 (Int.tdiv x0_7 t129)), .int .i64 1] rfl (by (try simp only [List.map_toArray, List.map_cons, List.map_nil]); first | done | rfl | (simp only [List.length_drop, List.length_take]; rfl)) ?_; (with_reducible refine (daybookref01_Digits.calls kj7 (wrap64 (Int.tdiv x0_7 t129)) 1 t130 _ A12.out).mono ?_); rintro e w22 ⟨rfl, hb⟩; refine ⟨_, rfl, ?_⟩; have n0_ := Aside0.mk (below_step (by repeat (first | (with_reducible first | exact HB.out | apply below_alloc | apply pw_below_drewN | apply below_drew1) | exact HB.out)) hb); clear HB; have HB := n0_; clear n0_; (try clear hb); (try clear hb2); (try clear hk); (try clear hi)))
                    go_ret2
                    exact ⟨by first | rfl | (simp [errW_none, errW_some] <;> rfl) | (simp [*, errW_none, errW_some] <;> rfl), by repeat (first | (with_reducible first | exact HB.out | apply below_alloc | apply pw_below_drewN | apply below_drew1) | exact HB.out)⟩
                · rw [if_neg c13] at H
                  exact absurd H (by simp)
        · replace c7 := Bool.eq_false_iff.mpr c7
          subst c7
          have H1 : (some ((⟨#[]⟩ : ByteArray), 10)) = some (r1, r2) := by rw [if_neg (show ¬ (false = true) by decide)] at H; exact H
          clear H
          have H := H1
          clear H1
          simp only [Option.some.injEq, Prod.mk.injEq] at H
          obtain ⟨rfl, rfl⟩ := H
          go_wp2_with (first | ((with_reducible refine gate_callee (f := 110) rfl ?_); refine goesL_ (some 16) rfl rfl Tryz.func110 (by kernel_rfl) rfl #[.int .i64 a0] rfl (by (try simp only [List.map_toArray, List.map_cons, List.map_nil]); first | done | rfl | (simp only [List.length_drop, List.length_take]; rfl)) ?_; (with_reducible refine (daybookref01_Is.calls a0 false _ A6.out).mono ?_); rintro e w' ⟨rfl, ⟨nd, rfl⟩⟩; refine ⟨_, rfl, ?_⟩))
          go_ret2
          exact ⟨by first | rfl | (simp [errW_none, errW_some] <;> rfl) | (simp [*, errW_none, errW_some] <;> rfl), by repeat (first | (with_reducible first | exact HB.out | apply below_alloc | apply pw_below_drewN | apply below_drew1) | exact HB.out)⟩

/-! ### daybookref17_money: function 50 -/
def daybookref17_money.f (k : Nat) (a0 : Int) (a1 : Int) : Option (ByteArray) := (daybookref01_Print.f k a0 a1).bind fun bt133 => (some bt133.1)
set_option maxHeartbeats 8000000 in
set_option maxRecDepth 100000 in
theorem daybookref17_money.calls (k : Nat) (a0 : Int) (a1 : Int) (r : ByteArray) (w : World) (h : daybookref17_money.f k a0 a1 = some r) :
    Calls Tryz.prog 50 #[.int .i64 a0, .int .i64 a1] w fun e w' => e = .returned (.string r) ∧ Below w.heap.size w w' := by
  have HB := Aside0.mk (Below.refl w.heap.size w)
  have H : ((daybookref01_Print.f k a0 a1).bind fun bt133 => (some bt133.1)) = some r := h
  clear h
  replace H := Option.bind_eq_some_iff.mp H
  obtain ⟨⟨t133, t134⟩, A30, H⟩ := H
  replace H : (some t133) = some r := H
  have A3 := Aside0.mk A30
  clear A30
  obtain rfl := Option.some.inj H
  go_enter Tryz.func50, Tryz.ntmps50
  go_wp2_with (first | ((with_reducible refine gate_callee (f := 109) rfl ?_); refine goesL_ (some 10) rfl rfl Tryz.func109 (by kernel_rfl) rfl #[.int .i64 a0, .int .i64 a1] rfl (by (try simp only [List.map_toArray, List.map_cons, List.map_nil]); first | done | rfl | (simp only [List.length_drop, List.length_take]; rfl)) ?_; (with_reducible refine (daybookref01_Print.calls k a0 a1 t133 t134 _ A3.out).mono ?_); rintro e w4 ⟨rfl, hb⟩; refine ⟨_, rfl, ?_⟩; have n0_ := Aside0.mk (below_step (by repeat (first | (with_reducible first | exact HB.out | apply below_alloc | apply pw_below_drewN | apply below_drew1) | exact HB.out)) hb); clear HB; have HB := n0_; clear n0_; (try clear hb); (try clear hb2); (try clear hk); (try clear hi)))
  go_ret
  exact ⟨by first | rfl | (simp [errW_none, errW_some] <;> rfl) | (simp [*, errW_none, errW_some] <;> rfl), by repeat (first | (with_reducible first | exact HB.out | apply below_alloc | apply pw_below_drewN | apply below_drew1) | exact HB.out)⟩

/-! ### daybookref17_blanks: function 116 -/
def daybookref17_blanks.l0 : Nat → Int → ByteArray → Int → Option (ByteArray)
  | 0, _, _, _ => none
  | k + 1, x0, x3, x4 => if x4 < x0 then (if x3.size + 1 ≤ 9223372036854775807 then (daybookref17_blanks.l0 k x0 (x3 ++ (⟨#[32]⟩ : ByteArray)) (wrap64 (x4 + 1))) else (none)) else (some x3)
def daybookref17_blanks.f (k : Nat) (a0 : Int) : Option (ByteArray) := daybookref17_blanks.l0 k a0 (⟨#[]⟩ : ByteArray) 0
set_option maxHeartbeats 8000000 in
set_option maxRecDepth 100000 in
theorem daybookref17_blanks.calls (k : Nat) (a0 : Int) (r : ByteArray) (w : World) (h : daybookref17_blanks.f k a0 = some r) :
    Calls Tryz.prog 116 #[.int .i64 a0] w fun e w' => e = .returned (.string r) ∧ Drawn0 w w' := by
  have H : (daybookref17_blanks.l0 k a0 (⟨#[]⟩ : ByteArray) 0) = some r := h
  clear h
  have H' := Aside0.mk H
  clear H
  go_enter Tryz.func116, Tryz.ntmps116
  go_wp2
  go_loopg [3, 4] k (fun kq v3 v4 w' => ∃ (x3_1 : ByteArray) (x4_1 : Int), v3 = .string x3_1 ∧ v4 = .int .i64 x4_1 ∧ Aside0 (daybookref17_blanks.l0 kq a0 x3_1 x4_1 = some r) ∧ Aside0 (kq ≤ k) ∧ Drawn0 w w')
  case atStart => exact ⟨((⟨#[]⟩ : ByteArray)), (0), (by first | rfl | (simp; done) | (simp [*]; done)), (by first | rfl | (simp; done) | (simp [*]; done)), H', ⟨Nat.le_refl _⟩, by repeat (first | exact Drawn0.refl _ | apply Drawn0.step)⟩
  case round =>
    clear H'
    try clear c1
    obtain ⟨x3_1, x4_1, rfl, rfl, HA, HK1, ⟨m1, rfl⟩⟩ := hrel
    cases gk with
    | zero => exact absurd HA.out (by simp [daybookref17_blanks.l0])
    | succ k1 =>
      have H := HA.out
      clear HA
      simp only [daybookref17_blanks.l0] at H
      by_cases c2 : x4_1 < a0
      · rw [if_pos c2] at H
        have c2b0 : decide (x4_1 < a0) = true := decide_eq_true c2
        clear c2
        by_cases c3 : x3_1.size + 1 ≤ 9223372036854775807
        · rw [if_pos c3] at H
          have c3b0 := eq_true c3
          have c3b1 : decide (x3_1.size + 1 ≤ 9223372036854775807) = true := decide_eq_true c3
          try have c3b2 : (9223372036854775807 < x3_1.size + 1) = False := eq_false (Nat.not_lt.2 c3)
          have H' := Aside0.mk H
          clear H
          go_wp2
          go_roundg k1
          case measure => have := HK1.out; omega
          case rel => exact ⟨(x3_1 ++ (⟨#[32]⟩ : ByteArray)), (wrap64 (x4_1 + 1)), (by first | rfl | (simp; done) | (simp [*]; done)), (by first | rfl | (simp; done) | (simp [*]; done)), H', ⟨by have := HK1.out; omega⟩, by repeat (first | exact Drawn0.refl _ | apply Drawn0.step)⟩
        · rw [if_neg c3] at H
          exact absurd H (by simp)
      · rw [if_neg c2] at H
        have c2b0 : decide (x4_1 < a0) = false := decide_eq_false c2
        clear c2
        obtain rfl := Option.some.inj H
        go_wp2
        go_ret
        exact ⟨by first | rfl | (simp; done) | (simp [*]; done), by repeat (first | exact Drawn0.refl _ | apply Drawn0.step)⟩

/-! ### daybookref17_wide: function 117 -/
def daybookref17_wide.l0 : Nat → List (List ByteArray) → Int → Int → Int → Option (Int)
  | 0, _, _, _, _ => none
  | k + 1, x0, x1, x5, x6 => if x6 < (x0.length : Int) then (if 0 ≤ x6 then (if x1 < ((rd_L4 x0 x6).length : Int) then (if 0 ≤ x1 then (if ((rdOf ByteArray.empty (rd_L4 x0 x6) x1).size : Int) > x5 then (daybookref17_wide.l0 k x0 x1 ((rdOf ByteArray.empty (rd_L4 x0 x6) x1).size : Int) (wrap64 (x6 + 1))) else (daybookref17_wide.l0 k x0 x1 x5 (wrap64 (x6 + 1)))) else (none)) else (daybookref17_wide.l0 k x0 x1 x5 (wrap64 (x6 + 1)))) else (none)) else (some x5)
def daybookref17_wide.f (k : Nat) (l0 : List (List ByteArray)) (a1 : Int) : Option (Int) := daybookref17_wide.l0 k l0 a1 0 0
set_option maxHeartbeats 8000000 in
set_option maxRecDepth 100000 in
theorem daybookref17_wide.calls (k : Nat) (A0 : Option Addr) (c0 : Nat) (l0 : List (List ByteArray)) (a1 : Int) (r : Int) (w : World) (hr0 : Kd.C (Kd.slice 9 Kd.string) w A0 l0.length l0) (hc0 : l0.length ≤ c0) (h : daybookref17_wide.f k l0 a1 = some r) :
    Calls Tryz.prog 117 #[.slice A0 l0.length c0, .int .i64 a1] w fun e w' => e = .returned (.int .i64 r) ∧ Drawn0 w w' := by
  have HR0 := Aside0.mk hr0
  have HC0 := Aside0.mk hc0
  clear hr0 hc0
  have H : (daybookref17_wide.l0 k l0 a1 0 0) = some r := h
  clear h
  have H' := Aside0.mk H
  clear H
  go_enter Tryz.func117, Tryz.ntmps117
  go_wp2
  go_loopg [5, 6] k (fun kq v5 v6 w' => ∃ (x5_1 : Int) (x6_1 : Int), v5 = .int .i64 x5_1 ∧ v6 = .int .i64 x6_1 ∧ Aside0 (daybookref17_wide.l0 kq l0 a1 x5_1 x6_1 = some r) ∧ Aside0 (kq ≤ k) ∧ Drawn0 w w')
  case atStart => exact ⟨(0), (0), (by first | rfl | (simp; done) | (simp [*]; done)), (by first | rfl | (simp; done) | (simp [*]; done)), H', ⟨Nat.le_refl _⟩, by repeat (first | exact Drawn0.refl _ | apply Drawn0.step)⟩
  case round =>
    clear H'
    try clear c1
    try clear p2
    obtain ⟨x5_1, x6_1, rfl, rfl, HA, HK1, ⟨m1, rfl⟩⟩ := hrel
    cases gk with
    | zero => exact absurd HA.out (by simp [daybookref17_wide.l0])
    | succ k1 =>
      have H := HA.out
      clear HA
      simp only [daybookref17_wide.l0] at H
      by_cases c3 : x6_1 < (l0.length : Int)
      · rw [if_pos c3] at H
        have c3b0 : decide (x6_1 < (l0.length : Int)) = true := decide_eq_true c3
        clear c3
        by_cases c4 : 0 ≤ x6_1
        · rw [if_pos c4] at H
          have c4b0 : decide (0 ≤ x6_1) = true := decide_eq_true c4
          clear c4
          by_cases c5 : a1 < ((rd_L4 l0 x6_1).length : Int)
          · rw [if_pos c5] at H
            have c5b0 : decide (a1 < ((rd_L4 l0 x6_1).length : Int)) = true := decide_eq_true c5
            clear c5
            by_cases c6 : 0 ≤ a1
            · rw [if_pos c6] at H
              have c6b0 : decide (0 ≤ a1) = true := decide_eq_true c6
              clear c6
              by_cases c7 : ((rdOf ByteArray.empty (rd_L4 l0 x6_1) a1).size : Int) > x5_1
              · rw [if_pos c7] at H
                have c7b0 : decide (x5_1 < ((rdOf ByteArray.empty (rd_L4 l0 x6_1) a1).size : Int)) = true := decide_eq_true c7
                clear c7
                have H' := Aside0.mk H
                clear H
                have p135 : 0 ≤ (x6_1 : Int) := odeN
                have q135 : x6_1 < (l0.length : Int) := odeN
                obtain ⟨ad135, A135_0, c135_0, e135, hx135_0, hl135_0, hi135_0⟩ := at_L4 HR0.out x6_1 p135 q135
                cases e135
                have HR135_0 := Aside0.mk hi135_0
                have HC135_0 := Aside0.mk hl135_0
                clear hi135_0 hl135_0
                replace p135 := eq_true p135
                replace q135 := eq_true q135
                have p136 : 0 ≤ (x6_1 : Int) := odeN
                have q136 : x6_1 < (l0.length : Int) := odeN
                obtain ⟨ad136, A136_0, c136_0, e136, hx136_0, hl136_0, hi136_0⟩ := at_L4 HR0.out x6_1 p136 q136
                obtain rfl : ad135 = ad136 := (by injection e136)
                have HR136_0 := Aside0.mk hi136_0
                have HC136_0 := Aside0.mk hl136_0
                clear hi136_0 hl136_0
                replace p136 := eq_true p136
                replace q136 := eq_true q136
                have ea_ := Option.some.inj (hx135_0.symm.trans hx136_0)
                injection ea_ with ea_ en_ ec_
                subst ea_
                subst ec_
                clear en_
                have p137 : 0 ≤ (a1 : Int) := odeN
                have q137 : a1 < ((rd_L4 l0 x6_1).length : Int) := odeN
                obtain ⟨ad137, e137, hx137_0⟩ := Kd.at_string HR136_0.out a1 p137 q137
                cases e137
                replace p137 := eq_true p137
                replace q137 := eq_true q137
                have p138 : 0 ≤ (x6_1 : Int) := odeN
                have q138 : x6_1 < (l0.length : Int) := odeN
                obtain ⟨ad138, A138_0, c138_0, e138, hx138_0, hl138_0, hi138_0⟩ := at_L4 HR0.out x6_1 p138 q138
                obtain rfl : ad135 = ad138 := (by injection e138)
                have HR138_0 := Aside0.mk hi138_0
                have HC138_0 := Aside0.mk hl138_0
                clear hi138_0 hl138_0
                replace p138 := eq_true p138
                replace q138 := eq_true q138
                have ea_ := Option.some.inj (hx135_0.symm.trans hx138_0)
                injection ea_ with ea_ en_ ec_
                subst ea_
                subst ec_
                clear en_
                have p139 : 0 ≤ (a1 : Int) := odeN
                have q139 : a1 < ((rd_L4 l0 x6_1).length : Int) := odeN
                obtain ⟨ad139, e139, hx139_0⟩ := Kd.at_string HR138_0.out a1 p139 q139
                cases e139
                replace p139 := eq_true p139
                replace q139 := eq_true q139
                go_wp2
                go_roundg k1
                case measure => have := HK1.out; omega
                case rel => exact ⟨(((rdOf ByteArray.empty (rd_L4 l0 x6_1) a1).size : Int)), (wrap64 (x6_1 + 1)), (by first | rfl | (simp; done) | (simp [*]; done)), (by first | rfl | (simp; done) | (simp [*]; done)), H', ⟨by have := HK1.out; omega⟩, by repeat (first | exact Drawn0.refl _ | apply Drawn0.step)⟩
              · rw [if_neg c7] at H
                have c7b0 : decide (x5_1 < ((rdOf ByteArray.empty (rd_L4 l0 x6_1) a1).size : Int)) = false := decide_eq_false c7
                clear c7
                have H' := Aside0.mk H
                clear H
                have p135 : 0 ≤ (x6_1 : Int) := odeN
                have q135 : x6_1 < (l0.length : Int) := odeN
                obtain ⟨ad135, A135_0, c135_0, e135, hx135_0, hl135_0, hi135_0⟩ := at_L4 HR0.out x6_1 p135 q135
                cases e135
                have HR135_0 := Aside0.mk hi135_0
                have HC135_0 := Aside0.mk hl135_0
                clear hi135_0 hl135_0
                replace p135 := eq_true p135
                replace q135 := eq_true q135
                have p136 : 0 ≤ (x6_1 : Int) := odeN
                have q136 : x6_1 < (l0.length : Int) := odeN
                obtain ⟨ad136, A136_0, c136_0, e136, hx136_0, hl136_0, hi136_0⟩ := at_L4 HR0.out x6_1 p136 q136
                obtain rfl : ad135 = ad136 := (by injection e136)
                have HR136_0 := Aside0.mk hi136_0
                have HC136_0 := Aside0.mk hl136_0
                clear hi136_0 hl136_0
                replace p136 := eq_true p136
                replace q136 := eq_true q136
                have ea_ := Option.some.inj (hx135_0.symm.trans hx136_0)
                injection ea_ with ea_ en_ ec_
                subst ea_
                subst ec_
                clear en_
                have p137 : 0 ≤ (a1 : Int) := odeN
                have q137 : a1 < ((rd_L4 l0 x6_1).length : Int) := odeN
                obtain ⟨ad137, e137, hx137_0⟩ := Kd.at_string HR136_0.out a1 p137 q137
                cases e137
                replace p137 := eq_true p137
                replace q137 := eq_true q137
                go_wp2
                go_roundg k1
                case measure => have := HK1.out; omega
                case rel => exact ⟨(x5_1), (wrap64 (x6_1 + 1)), (by first | rfl | (simp; done) | (simp [*]; done)), (by first | rfl | (simp; done) | (simp [*]; done)), H', ⟨by have := HK1.out; omega⟩, by repeat (first | exact Drawn0.refl _ | apply Drawn0.step)⟩
            · rw [if_neg c6] at H
              exact absurd H (by simp)
          · rw [if_neg c5] at H
            have c5b0 : decide (a1 < ((rd_L4 l0 x6_1).length : Int)) = false := decide_eq_false c5
            clear c5
            have H' := Aside0.mk H
            clear H
            have p135 : 0 ≤ (x6_1 : Int) := odeN
            have q135 : x6_1 < (l0.length : Int) := odeN
            obtain ⟨ad135, A135_0, c135_0, e135, hx135_0, hl135_0, hi135_0⟩ := at_L4 HR0.out x6_1 p135 q135
            cases e135
            have HR135_0 := Aside0.mk hi135_0
            have HC135_0 := Aside0.mk hl135_0
            clear hi135_0 hl135_0
            replace p135 := eq_true p135
            replace q135 := eq_true q135
            go_wp2
            go_roundg k1
            case measure => have := HK1.out; omega
            case rel => exact ⟨(x5_1), (wrap64 (x6_1 + 1)), (by first | rfl | (simp; done) | (simp [*]; done)), (by first | rfl | (simp; done) | (simp [*]; done)), H', ⟨by have := HK1.out; omega⟩, by repeat (first | exact Drawn0.refl _ | apply Drawn0.step)⟩
        · rw [if_neg c4] at H
          exact absurd H (by simp)
      · rw [if_neg c3] at H
        have c3b0 : decide (x6_1 < (l0.length : Int)) = false := decide_eq_false c3
        clear c3
        obtain rfl := Option.some.inj H
        go_wp2
        go_ret
        exact ⟨by first | rfl | (simp; done) | (simp [*]; done), by repeat (first | exact Drawn0.refl _ | apply Drawn0.step)⟩

end Go.Proofs.YtmimninicegjcaaGreatDoor.QT


/- money.Print, in the form that the printed texts take. -/
import Derived.Outline
import Derived.Deep.QuietTactic
import Derived.BigQuiet
import Derived.Lib.ItoaLen
import Derived.Test.YtmimninicegjcaaGreatDoorTbLeafA
namespace Go.Proofs.YtmimninicegjcaaGreatDoor
open Go.RowKit Go.Shelf Go.Lib Go.Proofs.YtmimninicegjcaaGreatDoorW.PrintWords
set_option linter.unusedVariables false
set_option linter.unusedSimpArgs false

theorem ret_int {k : IntKind} {a b : Int} (h : a = b) : Ending.returned (.int k a) = Ending.returned (.int k b) := by rw [h]
theorem size_calls (a : Int) (h0 : -9223372036854775808 < a) (h1 : a ≤ 9223372036854775807) (w : World) :
    Calls Tryz.prog 149 #[.int .i64 a] w fun e w' => e = .returned (.int .u64 (a.natAbs : Int)) ∧ w = w' := by
  by_cases h : a < 0
  · go_enter Tryz.func149, Tryz.ntmps149
    go_wp2
    go_ret
    exact ⟨ret_int (by omega), rfl⟩
  · go_enter Tryz.func149, Tryz.ntmps149
    go_wp2
    go_ret
    exact ⟨ret_int (by omega), rfl⟩
theorem badDigits_calls (d : Int) (w : World) :
    Calls Tryz.prog 147 #[.int .i64 d] w fun e w' => e = .returned (.bool (decide (d < 0 ∨ 6 < d))) ∧ w = w' := by
  by_cases h : d < 0
  · have hd : decide (d < 0) = true := decide_eq_true h
    go_enter Tryz.func147, Tryz.ntmps147
    go_wp2
    go_ret
    exact ⟨by simp [h], rfl⟩
  · have hd : decide (d < 0) = false := decide_eq_false h
    go_enter Tryz.func147, Tryz.ntmps147
    go_wp2
    go_ret
    exact ⟨by simp [h], rfl⟩

def zerosB (n : Nat) : ByteArray := ⟨(Lib.repeatL [48] n).toArray⟩
/-- The digits with enough zeros ahead. -/
def padded (s : ByteArray) (d : Nat) : ByteArray := if s.size < d + 1 then zerosB (d + 1 - s.size) ++ s else s
def pointed (s : ByteArray) (d : Nat) : ByteArray := if 0 < d then s.extract 0 (s.size - d) ++ ⟨#[46]⟩ ++ s.extract (s.size - d) s.size else s
def moneyText (a : Int) (d : Nat) : ByteArray :=
  let s := pointed (padded ⟨(Lib.decDigits a.natAbs).toArray⟩ d) d
  if a < 0 then ⟨#[45]⟩ ++ s else s
theorem decDigits_size (u : Nat) (hu : u < 18446744073709551616) : 1 ≤ (⟨(Lib.decDigits u).toArray⟩ : ByteArray).size ∧ (⟨(Lib.decDigits u).toArray⟩ : ByteArray).size ≤ 20 := by
  show 1 ≤ (Lib.decDigits u).toArray.size ∧ (Lib.decDigits u).toArray.size ≤ 20
  simp only [List.size_toArray, Lib.decDigits_length]
  exact ⟨Lib.nDigits_pos u, Lib.nDigits_le20 u hu⟩

theorem Repeat_zero (k : Nat) (hk : k ≤ 100) : L_Repeat.f ⟨#[48]⟩ (k : Int) = some (zerosB k) := by
  unfold L_Repeat.f zerosB
  have h1 : (⟨#[48]⟩ : ByteArray).size ≤ 64 := by decide
  have h2 : (k : Int) ≤ 1099511627776 := by omega
  rw [if_pos ⟨Int.natCast_nonneg k, h2, h1⟩, Int.toNat_natCast]
theorem zerosB_size (k : Nat) : (zerosB k).size = k := by simp [zerosB, mk_size, Lib.repeatL_length]

theorem pointed_eq {x : ByteArray} {j n : Nat} (hj : x.size = j + n) (hn : 0 < n) : pointed x n = x.extract 0 j ++ ⟨#[46]⟩ ++ x.extract j x.size := by
  unfold pointed
  rw [if_pos hn, show x.size - n = j by omega]
theorem extract_le (x : ByteArray) (i j : Nat) : (x.extract i j).size ≤ x.size := by rw [ByteArray.size_extract]; omega
set_option maxHeartbeats 4000000 in
set_option maxRecDepth 100000 in
/-- The walk; s0: the digits; k: how many zeros go ahead of them. -/
theorem Print_walkA (a : Int) (n k : Nat) (s0 z0 T : ByteArray) (h0 : -9223372036854775808 < a) (h1 : a ≤ 9223372036854775807) (w : World) (hL : Laid w)
    (hf : L_FormatUint.f (a.natAbs : Int) 10 = some s0) (hz : L_Repeat.f ⟨#[48]⟩ (k : Int) = some z0) (hk : k = n + 1 - s0.size ∧ 0 < k) (hn : n ≤ 6) (hs1 : 1 ≤ s0.size) (hs2 : s0.size ≤ 20) (hz0 : z0.size = k)
    (hT : T = if a < 0 then ⟨#[45]⟩ ++ pointed (z0 ++ s0) n else pointed (z0 ++ s0) n) :
    Calls Tryz.prog 98 #[.int .i64 a, .int .i64 (n : Int)] w fun e w' => e = .returned (.tuple #[.string T, .int .i64 0]) ∧ Below w.heap.size w w' := by
  have i3 : 0 ≤ (n : Int) := by omega
  have i2 : (n : Int) ≤ 6 := by omega
  have i4 : 1 ≤ (s0.size : Int) := by omega
  have i5 : (s0.size : Int) ≤ 20 := by omega
  have HF := Aside0.mk hf
  have HL := Aside0.mk hL
  have hb : decide ((n : Int) < 0 ∨ 6 < (n : Int)) = false := decide_eq_false (by omega)
  have hne : (a == -9223372036854775808) = false := beq_eq_false_iff_ne.2 (by omega)
  clear hf hL
  obtain ⟨hk, hp⟩ := hk
  have i6 : (s0.size : Int) ≤ n := by omega
  have ek : (n : Int) + 1 - (s0.size : Int) = (k : Int) := by omega
  have i7 : (z0.size : Int) = (k : Int) := by omega
  have HZ := Aside0.mk hz
  have HE := Aside0.mk ek
  clear hz ek
  have i8 : 1 ≤ (z0.size : Int) := by omega
  have i10 : (n : Int) + 1 ≤ (z0.size : Int) + (s0.size : Int) := by omega
  have i9 : (z0.size : Int) ≤ 7 := by omega
  have b1 : (9223372036854775807 < z0.size + s0.size) = False := eq_false (by omega)
  have b3 : (9223372036854775807 < 1 + (z0.size + s0.size)) = False := eq_false (by omega)
  clear i7 hp hk hs1 hs2 hz0 hn
  have HT := Aside0.mk hT
  clear hT
  go_enter Tryz.func98, Tryz.ntmps98
  go_wp2_with fail
  refine (badDigits_calls n _).mono ?_
  rintro e w1 ⟨rfl, rfl⟩
  rw [hb]
  go_wp2_with fail
  refine (size_calls a h0 h1 _).mono ?_
  rintro e w1 ⟨rfl, rfl⟩
  clear h0 h1
  go_wp2_with fail
  refine (L_FormatUint.calls _ _ _ _ HL.out HF.out).mono ?_
  rintro e w1 ⟨rfl, hb1⟩
  have HB := Aside0.mk hb1
  clear hb1
  go_wp2_with fail
  rw [HE.out]
  refine (L_Repeat.calls _ _ _ _ HZ.out).mono ?_
  rintro e w2 ⟨rfl, hb2⟩
  have HB2 := Aside0.mk hb2
  clear hb2
  by_cases hd : 0 < (n : Int)
  · go_wp2_with fail
    generalize hx : z0 ++ s0 = x
    have hxs : x.size = z0.size + s0.size := by rw [← hx, ByteArray.size_append]
    have HX := Aside0.mk hx
    clear hx
    obtain ⟨j, hj⟩ : ∃ j : Nat, x.size = j + n := ⟨x.size - n, by omega⟩
    have e1 : IntKind.i64.wrap ((x.size : Int) - (n : Int)) = (j : Int) := by rw [IntKind.wrap_i64]; omega
    have e2 : (j : Int) ≤ (x.size : Int) := by omega
    have e3 : j ≤ x.size := by omega
    have e4 : (9223372036854775807 < j + 1) = False := eq_false (by omega)
    have e5 : (9223372036854775807 < j + 1 + (x.size - j)) = False := eq_false (by omega)
    have HP := Aside0.mk (pointed_eq hj (by omega))
    have hys : (x.extract 0 j ++ ⟨#[46]⟩ ++ x.extract j x.size).size ≤ 100 := by
      have := extract_le x 0 j
      have := extract_le x j x.size
      have e46 : (⟨#[46]⟩ : ByteArray).size = 1 := rfl
      rw [ByteArray.size_append, ByteArray.size_append, e46]
      omega
    clear hj hxs
    have HYS := Aside0.mk hys
    clear hys
    go_quiet (fail)
    have hys := HYS.out
    clear HYS e1 e2 e3 e4 e5
    generalize hy : x.extract 0 j ++ ⟨#[46]⟩ ++ x.extract j x.size = y at hys ⊢
    have HY := Aside0.mk hy
    clear hy
    have b2 : (9223372036854775807 < 1 + y.size) = False := eq_false (by omega)
    clear hys
    by_cases ha : a < 0
    all_goals go_wp2_with fail
    all_goals go_ret2
    · exact ⟨by rw [HT.out, if_pos ha, HX.out, HP.out, HY.out]; rfl, by repeat (first | exact below_step HB.out HB2.out | apply pw_below_drewN)⟩
    · exact ⟨by rw [HT.out, if_neg (Int.not_lt.2 ha), HX.out, HP.out, HY.out]; rfl, by repeat (first | exact below_step HB.out HB2.out | apply pw_below_drewN)⟩
  · exact absurd hd (by omega)
set_option maxHeartbeats 4000000 in
set_option maxRecDepth 100000 in
/-- The walk; s0: the digits; k: how many zeros go ahead of them. -/
theorem Print_walkB (a : Int) (n k : Nat) (s0 z0 T : ByteArray) (h0 : -9223372036854775808 < a) (h1 : a ≤ 9223372036854775807) (w : World) (hL : Laid w)
    (hf : L_FormatUint.f (a.natAbs : Int) 10 = some s0) (hk : n + 1 ≤ s0.size) (hn : n ≤ 6) (hs1 : 1 ≤ s0.size) (hs2 : s0.size ≤ 20) 
    (hT : T = if a < 0 then ⟨#[45]⟩ ++ pointed (s0) n else pointed (s0) n) :
    Calls Tryz.prog 98 #[.int .i64 a, .int .i64 (n : Int)] w fun e w' => e = .returned (.tuple #[.string T, .int .i64 0]) ∧ Below w.heap.size w w' := by
  have i3 : 0 ≤ (n : Int) := by omega
  have i2 : (n : Int) ≤ 6 := by omega
  have i4 : 1 ≤ (s0.size : Int) := by omega
  have i5 : (s0.size : Int) ≤ 20 := by omega
  have HF := Aside0.mk hf
  have HL := Aside0.mk hL
  have hb : decide ((n : Int) < 0 ∨ 6 < (n : Int)) = false := decide_eq_false (by omega)
  have hne : (a == -9223372036854775808) = false := beq_eq_false_iff_ne.2 (by omega)
  clear hf hL
  have i6 : (n : Int) + 1 ≤ (s0.size : Int) := by omega
  have b3 : (9223372036854775807 < 1 + s0.size) = False := eq_false (by omega)
  clear hk hs1 hs2 hn
  have HT := Aside0.mk hT
  clear hT
  go_enter Tryz.func98, Tryz.ntmps98
  go_wp2_with fail
  refine (badDigits_calls n _).mono ?_
  rintro e w1 ⟨rfl, rfl⟩
  rw [hb]
  go_wp2_with fail
  refine (size_calls a h0 h1 _).mono ?_
  rintro e w1 ⟨rfl, rfl⟩
  clear h0 h1
  go_wp2_with fail
  refine (L_FormatUint.calls _ _ _ _ HL.out HF.out).mono ?_
  rintro e w1 ⟨rfl, hb1⟩
  have HB := Aside0.mk hb1
  clear hb1
  by_cases hd : 0 < (n : Int)
  · go_wp2_with fail
    obtain ⟨x, hx⟩ : ∃ x, x = s0 := ⟨_, rfl⟩
    subst hx
    have hxs : True := trivial
    obtain ⟨j, hj⟩ : ∃ j : Nat, x.size = j + n := ⟨x.size - n, by omega⟩
    have e1 : IntKind.i64.wrap ((x.size : Int) - (n : Int)) = (j : Int) := by rw [IntKind.wrap_i64]; omega
    have e2 : (j : Int) ≤ (x.size : Int) := by omega
    have e3 : j ≤ x.size := by omega
    have e4 : (9223372036854775807 < j + 1) = False := eq_false (by omega)
    have e5 : (9223372036854775807 < j + 1 + (x.size - j)) = False := eq_false (by omega)
    have HP := Aside0.mk (pointed_eq hj (by omega))
    have hys : (x.extract 0 j ++ ⟨#[46]⟩ ++ x.extract j x.size).size ≤ 100 := by
      have := extract_le x 0 j
      have := extract_le x j x.size
      have e46 : (⟨#[46]⟩ : ByteArray).size = 1 := rfl
      rw [ByteArray.size_append, ByteArray.size_append, e46]
      omega
    clear hj hxs
    have HYS := Aside0.mk hys
    clear hys
    go_quiet (fail)
    have hys := HYS.out
    clear HYS e1 e2 e3 e4 e5
    generalize hy : x.extract 0 j ++ ⟨#[46]⟩ ++ x.extract j x.size = y at hys ⊢
    have HY := Aside0.mk hy
    clear hy
    have b2 : (9223372036854775807 < 1 + y.size) = False := eq_false (by omega)
    clear hys
    by_cases ha : a < 0
    all_goals go_wp2_with fail
    all_goals go_ret2
    · exact ⟨by rw [HT.out, if_pos ha, HP.out, HY.out]; rfl, by repeat (first | exact HB.out | apply pw_below_drewN)⟩
    · exact ⟨by rw [HT.out, if_neg (Int.not_lt.2 ha), HP.out, HY.out]; rfl, by repeat (first | exact HB.out | apply pw_below_drewN)⟩
  · have hp0 : ∀ z, pointed z n = z := fun z => by unfold pointed; rw [if_neg (by omega)]
    have HP0 := Aside0.mk hp0
    clear hp0
    by_cases ha : a < 0
    all_goals go_wp2_with fail
    all_goals go_ret2
    · exact ⟨by rw [HT.out, if_pos ha, HP0.out]; rfl, HB.out⟩
    · exact ⟨by rw [HT.out, if_neg (Int.not_lt.2 ha), HP0.out]; rfl, HB.out⟩

theorem Print_good (a d : Int) (h0 : -9223372036854775808 < a) (h1 : a ≤ 9223372036854775807) (hd0 : 0 ≤ d) (hd1 : d ≤ 6) (w : World) (hL : Laid w) :
    Calls Tryz.prog 98 #[.int .i64 a, .int .i64 d] w fun e w' => e = .returned (.tuple #[.string (moneyText a d.toNat), .int .i64 0]) ∧ Below w.heap.size w w' := by
  obtain ⟨n, rfl⟩ := Int.eq_ofNat_of_zero_le hd0
  rw [Int.toNat_natCast]
  have hu : a.natAbs < 18446744073709551616 := by omega
  have hf : L_FormatUint.f (a.natAbs : Int) 10 = some ⟨(Lib.decDigits a.natAbs).toArray⟩ := by
    unfold L_FormatUint.f
    rw [if_pos (by omega), Int.toNat_natCast]
  obtain ⟨hs1, hs2⟩ := decDigits_size a.natAbs hu
  have hm : moneyText a n = if a < 0 then ⟨#[45]⟩ ++ pointed (padded ⟨(Lib.decDigits a.natAbs).toArray⟩ n) n else pointed (padded ⟨(Lib.decDigits a.natAbs).toArray⟩ n) n := rfl
  unfold padded at hm
  by_cases hp : (⟨(Lib.decDigits a.natAbs).toArray⟩ : ByteArray).size < n + 1
  · rw [if_pos hp] at hm
    exact Print_walkA a n (n + 1 - (⟨(Lib.decDigits a.natAbs).toArray⟩ : ByteArray).size) _ (zerosB (n + 1 - (⟨(Lib.decDigits a.natAbs).toArray⟩ : ByteArray).size)) _ h0 h1 w hL hf (Repeat_zero _ (by omega)) ⟨rfl, by omega⟩ (by omega) hs1 hs2 (zerosB_size _) hm
  · rw [if_neg hp] at hm
    exact Print_walkB a n 0 _ ⟨#[]⟩ _ h0 h1 w hL hf (by omega) (by omega) hs1 hs2 hm
theorem Print_badDigits (a d : Int) (hd : d < 0 ∨ 6 < d) (w : World) :
    Calls Tryz.prog 98 #[.int .i64 a, .int .i64 d] w fun e w' => e = .returned (.tuple #[.string ⟨#[]⟩, .int .i64 1]) ∧ w = w' := by
  have hb : decide (d < 0 ∨ 6 < d) = true := decide_eq_true hd
  go_enter Tryz.func98, Tryz.ntmps98
  go_wp2_with fail
  refine (badDigits_calls d _).mono ?_
  rintro e w1 ⟨rfl, rfl⟩
  rw [hb]
  go_wp2_with fail
  go_ret2
  exact ⟨rfl, rfl⟩
theorem Print_none (d : Int) (hd0 : 0 ≤ d) (hd1 : d ≤ 6) (w : World) :
    Calls Tryz.prog 98 #[.int .i64 (-9223372036854775808), .int .i64 d] w fun e w' => e = .returned (.tuple #[.string ⟨#[]⟩, .int .i64 10]) ∧ w = w' := by
  have hb : decide (d < 0 ∨ 6 < d) = false := decide_eq_false (by omega)
  go_enter Tryz.func98, Tryz.ntmps98
  go_wp2_with fail
  refine (badDigits_calls d _).mono ?_
  rintro e w1 ⟨rfl, rfl⟩
  rw [hb]
  go_wp2_with fail
  go_ret2
  exact ⟨rfl, rfl⟩
def isI64 (a : Int) : Prop := -9223372036854775808 ≤ a ∧ a ≤ 9223372036854775807
instance (a : Int) : Decidable (isI64 a) := by unfold isI64; infer_instance
def L_Print.f (a0 a1 : Int) : Option (ByteArray × Int) :=
  if a1 < 0 ∨ 6 < a1 then some (⟨#[]⟩, 1) else if a0 = -9223372036854775808 then some (⟨#[]⟩, 10) else if isI64 a0 then some (moneyText a0 a1.toNat, 0) else none
theorem L_Print.calls (a0 a1 : Int) (r1 : ByteArray) (r2 : Int) (w : World) (hL : Laid w) (h : L_Print.f a0 a1 = some (r1, r2)) :
    Calls Tryz.prog 98 #[.int .i64 a0, .int .i64 a1] w fun e w' => e = .returned (.tuple #[.string r1, .int .i64 r2]) ∧ Below w.heap.size w w' := by
  unfold L_Print.f at h
  split at h
  · rename_i hd
    simp only [Option.some.injEq, Prod.mk.injEq] at h
    obtain ⟨rfl, rfl⟩ := h
    exact (Print_badDigits a0 a1 hd w).mono fun e w' ⟨he, hw⟩ => ⟨he, hw ▸ Below.refl _ _⟩
  · rename_i hd
    split at h
    · rename_i ha
      subst ha
      simp only [Option.some.injEq, Prod.mk.injEq] at h
      obtain ⟨rfl, rfl⟩ := h
      exact (Print_none a1 (by omega) (by omega) w).mono fun e w' ⟨he, hw⟩ => ⟨he, hw ▸ Below.refl _ _⟩
    · rename_i ha
      split at h
      · rename_i hi
        simp only [Option.some.injEq, Prod.mk.injEq] at h
        obtain ⟨rfl, rfl⟩ := h
        exact Print_good a0 a1 (by have := hi.1; omega) hi.2 (by omega) (by omega) w hL
      · exact absurd h (by simp)
end Go.Proofs.YtmimninicegjcaaGreatDoor

